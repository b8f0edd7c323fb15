/- How Go's values read as the plain data of XSpec: slices of structs, whatever their elements. No condition. -/
import Derived.Test.YtmokmmpomgjemaaDoorSpec
import Derived.Test.YtmokmmpomgjemaaDoorMono
import Derived.WalkKit
import Derived.WalkLawsBesides
import Derived.WalkSpells
import Derived.Lib.Hide
import Derived.MapKept
namespace Go.Proofs.YtmokmmpomgjemaaDoor
open Go.RowKit
open Go.MapKept (IsKey)

theorem ret_int {k : IntKind} {a b : Int} (h : a = b) : Ending.returned (.int k a) = .returned (.int k b) := by rw [h]
theorem ret_bool {a b : Bool} (h : a = b) : Ending.returned (.bool a) = .returned (.bool b) := by rw [h]
theorem bel_alloc {w wr : World} (h : Below w.heap.size w wr) (o : Obj) : Below w.heap.size w (wr.alloc o) := h.alloc h.size o
theorem bel_call {w wr w1 : World} (h : Below w.heap.size w wr) (h1 : Below wr.heap.size wr w1) : Below w.heap.size w w1 := h.trans (h1.mono h.size)
theorem bel_alloc_call {w wr w1 : World} {o : Obj} (h : Below w.heap.size w wr) (h1 : Below (wr.alloc o).heap.size (wr.alloc o) w1) : Below w.heap.size w w1 :=
  (bel_alloc h o).trans (h1.mono (by have := h.size; simp; omega))
/-- a block that the call laid first keeps its cells. -/
theorem box_cells {w w1 : World} {cs : Array Value} {T : TypeId} (hb : Below (w.heap.size + 1) (w.alloc (.cells cs T)) w1) (j : Nat) : w1.cell? ⟨w.heap.size, j, none⟩ = cs[j]? := by
  rw [hb.cell (p := ⟨w.heap.size, j, none⟩) (by simp)]
  exact World.cell?_alloc_at _ _ _ _ rfl
theorem bel_box {w w1 : World} {o : Obj} (hb : Below (w.heap.size + 1) (w.alloc o) w1) : Below w.heap.size w w1 := (bel_alloc (Below.refl _ _) o).trans (hb.mono (by omega))
theorem size_box {w w1 : World} {o : Obj} (hb : Below (w.heap.size + 1) (w.alloc o) w1) : w.heap.size + 1 ≤ w1.heap.size := by have := hb.size; simp at this; omega
/-- two blocks that the call laid first. -/
theorem box2_cells {w w1 : World} {cs cs' : Array Value} {T T' : TypeId} (hb : Below (w.heap.size + 2) ((w.alloc (.cells cs T)).alloc (.cells cs' T')) w1) :
    (∀ j, w1.cell? ⟨w.heap.size, j, none⟩ = cs[j]?) ∧ (∀ j, w1.cell? ⟨w.heap.size + 1, j, none⟩ = cs'[j]?) := by
  constructor
  · intro j
    rw [hb.cell (p := ⟨w.heap.size, j, none⟩) (by simp), World.cell?_alloc_lt _ _ _ (by simp)]
    exact World.cell?_alloc_at _ _ _ _ rfl
  · intro j
    rw [hb.cell (p := ⟨w.heap.size + 1, j, none⟩) (by simp)]
    exact World.cell?_alloc_at _ _ _ _ (by simp)
theorem bel_box2 {w w1 : World} {o o' : Obj} (hb : Below (w.heap.size + 2) ((w.alloc o).alloc o') w1) : Below w.heap.size w w1 := (bel_alloc (bel_alloc (Below.refl _ _) o) o').trans (hb.mono (by omega))
theorem size_box2 {w w1 : World} {o o' : Obj} (hb : Below (w.heap.size + 2) ((w.alloc o).alloc o') w1) : w.heap.size + 2 ≤ w1.heap.size := by have := hb.size; simp at this; omega
theorem bel_drew {w wr : World} (h : Below w.heap.size w wr) : Below w.heap.size w wr.drew := h.drew

/-- A slice value that reads as a list, each element of sz cells, in blocks that D lets. -/
def Sl {α : Type} (w : World) (D : Nat → Prop) (sz : Nat) (R : α → List Value → Prop) (v : Value) (xs : List α) : Prop :=
  ∃ a c, v = .slice a xs.length c ∧ xs.length ≤ c ∧ c ≤ maxLen ∧ (a = none → c = 0) ∧ (0 < xs.length → ∃ b o, a = some ⟨b, o, none⟩ ∧ D b ∧ b < w.heap.size ∧
    ∀ i x, xs[i]? = some x → ∃ cs : List Value, cs.length = sz ∧ R x cs ∧ ∀ j u, cs[j]? = some u → w.cell? ⟨b, o + (i * sz + j), none⟩ = some u)

section
variable {α : Type} {w w' : World} {D D' : Nat → Prop} {sz : Nat} {R R' : α → List Value → Prop} {v : Value} {xs : List α}
theorem Sl.mono (h : Sl w D sz R v xs) (hD : ∀ b, D b → b < w.heap.size → D' b) (hw : ∀ b, D b → b < w.heap.size → w'.heap[b]? = w.heap[b]?) (hs : w.heap.size ≤ w'.heap.size)
    (hR : ∀ x ∈ xs, ∀ cs, R x cs → R' x cs) : Sl w' D' sz R' v xs := by
  obtain ⟨a, c, hv, hl, hm, hn, h⟩ := h
  refine ⟨a, c, hv, hl, hm, hn, fun h0 => ?_⟩
  obtain ⟨b, o, ha, hDb, hb, hc⟩ := h h0
  refine ⟨b, o, ha, hD b hDb hb, by omega, fun i x hx => ?_⟩
  obtain ⟨cs, hcs, hr, hcell⟩ := hc i x hx
  exact ⟨cs, hcs, hR x (List.mem_of_getElem? hx) cs hr, fun j u hu => (World.cell?_of_block (w := w) (hw b hDb hb)).trans (hcell j u hu)⟩
/-- The slice's form; its length is a length. -/
theorem Sl.form (h : Sl w D sz R v xs) : ∃ a c, v = .slice a xs.length c ∧ xs.length ≤ c ∧ c ≤ 9223372036854775807 ∧ (0 < xs.length → ∃ b o, a = some ⟨b, o, none⟩ ∧ D b ∧ b < w.heap.size) := by
  obtain ⟨a, c, hv, hl, hm, _, h⟩ := h
  refine ⟨a, c, hv, hl, by unfold maxLen at hm; omega, fun h0 => ?_⟩
  obtain ⟨b, o, ha, hDb, hb, hc⟩ := h h0
  exact ⟨b, o, ha, hDb, hb⟩
theorem Sl.get {b o n c : Nat} {s : Option Nat} (h : Sl w D sz R (.slice (some ⟨b, o, s⟩) n c) xs) {i : Nat} (hi : i < xs.length) :
    ∃ cs : List Value, cs.length = sz ∧ R xs[i] cs ∧ ∀ j u, cs[j]? = some u → w.cell? ⟨b, o + (i * sz + j), none⟩ = some u := by
  obtain ⟨a, c', hv, hl, hm, _, h⟩ := h
  obtain ⟨b', o', ha, hDb, hb, hc⟩ := h (by omega)
  injection hv with h1 h2 h3
  subst h1
  injection ha with h4
  injection h4 with h5 h6 h7
  subst h5 h6
  exact hc i _ (List.getElem?_eq_getElem hi)
end

/-! ### maps that a text lays, known whole -/
theorem heap_last (w : World) (o : Obj) : (w.alloc o).heap[w.heap.size]? = some o := by
  show (w.heap.push o)[w.heap.size]? = _
  simp
theorem set_last (w : World) (o o' : Obj) : ({ w.alloc o with heap := (w.alloc o).heap.setIfInBounds w.heap.size o' } : World) = w.alloc o' := by
  have : (w.alloc o).heap.setIfInBounds w.heap.size o' = (w.alloc o').heap := by
    show (w.heap.push o).setIfInBounds w.heap.size o' = w.heap.push o'
    apply Array.ext_getElem?
    intro i
    rw [Array.getElem?_setIfInBounds]
    simp only [Array.getElem?_push, Array.size_push]
    split <;> split <;> simp_all
  simp only [this]
  rfl
theorem run_insert_new {P : Program} {w : World} {t kt et : TypeId} {kd : TypeDesc} {es : Array MapEntry} {c : Nat} {key v : Value} (ht : P.underlying t = some (.map kt et)) (hk : P.underlying kt = some kd)
    (hp : IsKey kd key) (hf : Instr.findNow kd key es.toList 0 = some none) :
    (Instr.mapUpdate t (.map (some w.heap.size)) key v).run P (w.alloc (.map es c)) = .ok () (w.alloc (.map (es.push ⟨key, v, c⟩) (c + 1))) := by
  have hb := heap_last w (.map es c)
  simp [Instr.mapUpdate, run_underlying ht, MapKept.run_getObj_map hb, MapKept.run_checkKey hk hp, MapKept.run_findKey hk hf, MapKept.run_setObj_map _ hb, Result.andThen]
  exact set_last w _ _
theorem run_insert_at {P : Program} {w : World} {b : Nat} {t kt et : TypeId} {kd : TypeDesc} {es : Array MapEntry} {c : Nat} {key v : Value} (hb : b = w.heap.size) (ht : P.underlying t = some (.map kt et)) (hk : P.underlying kt = some kd)
    (hp : IsKey kd key) (hf : Instr.findNow kd key es.toList 0 = some none) :
    (Instr.mapUpdate t (.map (some b)) key v).run P (w.alloc (.map es c)) = .ok () (w.alloc (.map (es.push ⟨key, v, c⟩) (c + 1))) := by subst hb; exact run_insert_new ht hk hp hf
/-- a map that is known whole. -/
theorem run_lookup_ok {P : Program} {w : World} {r : Nat} {t kt et : TypeId} {kd : TypeDesc} {es : Array MapEntry} {c : Nat} {key z : Value} {f : Option (Nat × Value)} (ht : P.underlying t = some (.map kt et)) (hk : P.underlying kt = some kd)
    (hb : w.heap[r]? = some (.map es c)) (hz : (zeroValue et).run P w = .ok z w) (hp : IsKey kd key) (hf : Instr.findNow kd key es.toList 0 = some f) :
    (Instr.lookup t (.map (some r)) key true).run P w = .ok (.tuple #[(f.map (·.2)).getD z, .bool f.isSome]) w := by
  cases f with
  | none => simp [Instr.lookup, run_underlying ht, MapKept.run_getObj_map hb, MapKept.run_checkKey hk hp, MapKept.run_findKey hk hf, Result.andThen, hz]
  | some x => simp [Instr.lookup, run_underlying ht, MapKept.run_getObj_map hb, MapKept.run_checkKey hk hp, MapKept.run_findKey hk hf, Result.andThen]
theorem run_lookup_bare {P : Program} {w : World} {r : Nat} {t kt et : TypeId} {kd : TypeDesc} {es : Array MapEntry} {c : Nat} {key z : Value} {f : Option (Nat × Value)} (ht : P.underlying t = some (.map kt et)) (hk : P.underlying kt = some kd)
    (hb : w.heap[r]? = some (.map es c)) (hz : (zeroValue et).run P w = .ok z w) (hp : IsKey kd key) (hf : Instr.findNow kd key es.toList 0 = some f) :
    (Instr.lookup t (.map (some r)) key false).run P w = .ok ((f.map (·.2)).getD z) w := by
  cases f with
  | none => simp [Instr.lookup, run_underlying ht, MapKept.run_getObj_map hb, MapKept.run_checkKey hk hp, MapKept.run_findKey hk hf, Result.andThen, hz]
  | some x => simp [Instr.lookup, run_underlying ht, MapKept.run_getObj_map hb, MapKept.run_checkKey hk hp, MapKept.run_findKey hk hf, Result.andThen]


def insR (x : TIns) (cs : List Value) : Prop := cs = [.int .i64 x.k, .int .i64 x.a, .int .i64 x.b, .int .i64 x.c]
def RdCode (w : World) (D : Nat → Prop) (v : Value) (l : List TIns) : Prop := Sl w D 4 insR v l
theorem RdCode.keep {w w' : World} {D D' : Nat → Prop} {v : Value} {l : List TIns} (h : RdCode w D v l) (hD : ∀ b, D b → b < w.heap.size → D' b)
    (hw : ∀ b, D b → b < w.heap.size → w'.heap[b]? = w.heap[b]?) (hs : w.heap.size ≤ w'.heap.size) : RdCode w' D' v l := Sl.mono h hD hw hs (fun _ _ _ h => h)
theorem RdCode.below {w w' : World} {D : Nat → Prop} {v : Value} {l : List TIns} (h : RdCode w D v l) (hb : Below w.heap.size w w') : RdCode w' D v l :=
  h.keep (fun _ h _ => h) (fun b _ hlt => hb.block b hlt) hb.size
theorem RdCode.cells {w : World} {D : Nat → Prop} {b o n c : Nat} {s : Option Nat} {l : List TIns} (h : RdCode w D (.slice (some ⟨b, o, s⟩) n c) l) {i : Nat} (hi : i < l.length) :
    w.cell? ⟨b, o + i * 4, none⟩ = some (.int .i64 l[i].k) ∧ w.cell? ⟨b, o + i * 4 + 1, none⟩ = some (.int .i64 l[i].a) ∧ w.cell? ⟨b, o + i * 4 + 2, none⟩ = some (.int .i64 l[i].b) ∧ w.cell? ⟨b, o + i * 4 + 3, none⟩ = some (.int .i64 l[i].c) := by
  obtain ⟨cs, hcs, hr, hcell⟩ := Sl.get h hi
  unfold insR at hr
  subst hr
  exact ⟨hcell 0 _ rfl, hcell 1 _ rfl, hcell 2 _ rfl, hcell 3 _ rfl⟩

def intR (x : Int) (cs : List Value) : Prop := cs = [.int .i64 x]
def RdInts (w : World) (D : Nat → Prop) (v : Value) (l : List Int) : Prop := Sl w D 1 intR v l
theorem RdInts.keep {w w' : World} {D D' : Nat → Prop} {v : Value} {l : List Int} (h : RdInts w D v l) (hD : ∀ b, D b → b < w.heap.size → D' b)
    (hw : ∀ b, D b → b < w.heap.size → w'.heap[b]? = w.heap[b]?) (hs : w.heap.size ≤ w'.heap.size) : RdInts w' D' v l := Sl.mono h hD hw hs (fun _ _ _ h => h)
theorem RdInts.below {w w' : World} {D : Nat → Prop} {v : Value} {l : List Int} (h : RdInts w D v l) (hb : Below w.heap.size w w') : RdInts w' D v l :=
  h.keep (fun _ h _ => h) (fun b _ hlt => hb.block b hlt) hb.size
theorem RdInts.cell {w : World} {D : Nat → Prop} {b o n c : Nat} {s : Option Nat} {l : List Int} (h : RdInts w D (.slice (some ⟨b, o, s⟩) n c) l) {i : Nat} (hi : i < l.length) :
    w.cell? ⟨b, o + i, none⟩ = some (.int .i64 l[i]) := by
  obtain ⟨cs, hcs, hr, hcell⟩ := Sl.get h hi
  unfold intR at hr
  subst hr
  have := hcell 0 _ rfl
  rwa [Nat.mul_one] at this
theorem blk_at {w : World} {o : Obj} {b : Nat} (hb : b = w.heap.size) : (w.alloc o).heap[b]? = some o := by subst hb; exact heap_last w o
theorem blk_old {w : World} {o x : Obj} {b : Nat} (h : w.heap[b]? = some x) : (w.alloc o).heap[b]? = some x :=
  (Below.heap_alloc w o b (Array.getElem?_eq_some_iff.1 h).1).trans h
theorem blk_below {w w' : World} {x : Obj} {b : Nat} (h : w.heap[b]? = some x) (hb : Below w.heap.size w w') : w'.heap[b]? = some x :=
  (hb.block b (Array.getElem?_eq_some_iff.1 h).1).trans h
/-- a row that was just laid. -/
theorem rd_row {α : Type} {w : World} {D : Nat → Prop} {sz : Nat} {R : α → List Value → Prop} {xs : List α} {b : Nat} {cells : Array Value} {T : TypeId} {fr : Nat × Nat} (hb : w.heap[b]? = some (.cells cells T fr)) (hD : D b)
    (rows : List (List Value)) (hc : cells.toList = rows.flatten) (hl : rows.length = xs.length) (hsz : ∀ r ∈ rows, r.length = sz) (hR : ∀ (i : Nat) (x : α) (r : List Value), xs[i]? = some x → rows[i]? = some r → R x r) (hm : xs.length ≤ maxLen) :
    Sl w D sz R (.slice (some ⟨b, 0, none⟩) xs.length xs.length) xs := by
  refine ⟨_, _, rfl, Nat.le_refl _, hm, (fun h => by cases h), fun _ => ⟨b, 0, rfl, hD, (Array.getElem?_eq_some_iff.1 hb).1, fun i x hx => ?_⟩⟩
  have hi : i < rows.length := by rw [hl]; exact (List.getElem?_eq_some_iff.1 hx).1
  have hri : rows[i]? = some rows[i] := List.getElem?_eq_getElem hi
  refine ⟨rows[i], hsz _ (List.getElem_mem hi), hR i x _ hx hri, fun j u hu => ?_⟩
  have hj : j < rows[i].length := (List.getElem?_eq_some_iff.1 hu).1
  have hfl : ∀ (rows : List (List Value)) (i : Nat) (r : List Value), (∀ r ∈ rows, r.length = sz) → rows[i]? = some r → ∀ j, j < r.length → rows.flatten[i * sz + j]? = r[j]? := by
    intro rows
    induction rows with
    | nil => intro i r _ h; simp at h
    | cons r0 rows ih =>
      intro i r hs h j hj
      have h0 := hs r0 (List.mem_cons_self ..)
      cases i with
      | zero =>
        simp at h; subst h
        rw [List.flatten_cons, List.getElem?_append_left (by omega)]; simp
      | succ i =>
        have e : (i + 1) * sz + j = r0.length + (i * sz + j) := by rw [h0, Nat.add_mul]; omega
        rw [List.flatten_cons, e, List.getElem?_append_right (by omega), Nat.add_sub_cancel_left]
        exact ih i r (fun r hr => hs r (List.mem_cons_of_mem _ hr)) (by simpa using h) j hj
  have := hfl rows i _ hsz hri j hj
  rw [hu, ← hc] at this
  simp only [World.cell?, hb, Nat.zero_add]
  simpa using this

/-- A slice cut at its end. -/
theorem Sl.take {α : Type} {w : World} {D : Nat → Prop} {sz : Nat} {R : α → List Value → Prop} {a : Option Addr} {n c k : Nat} {xs : List α} (h : Sl w D sz R (.slice a n c) xs) (hk : k ≤ n) : Sl w D sz R (.slice a k c) (xs.take k) := by
  obtain ⟨a', c', hv, hl, hm, hn, h⟩ := h
  injection hv with h1 h2 h3
  subst h1 h2 h3
  have hlk : (xs.take k).length = k := by rw [List.length_take]; omega
  refine ⟨a, c, by rw [hlk], by omega, hm, hn, fun h0 => ?_⟩
  obtain ⟨b, o, ha, hDb, hb, hc⟩ := h (by omega)
  refine ⟨b, o, ha, hDb, hb, fun i x hx => hc i x ?_⟩
  have hi : i < k := by have := (List.getElem?_eq_some_iff.1 hx).1; omega
  rwa [List.getElem?_take_of_lt hi] at hx
def insCells (x : TIns) : List Value := [.int .i64 x.k, .int .i64 x.a, .int .i64 x.b, .int .i64 x.c]
theorem rd_code {w : World} {D : Nat → Prop} {b : Nat} {l : List TIns} {cells : Array Value} {T : TypeId} {fr : Nat × Nat} (hb : w.heap[b]? = some (.cells cells T fr)) (hD : D b) (hc : cells.toList = (l.map insCells).flatten) (hm : l.length ≤ maxLen) :
    RdCode w D (.slice (some ⟨b, 0, none⟩) l.length l.length) l :=
  rd_row hb hD (l.map insCells) hc (by simp) (by intro r hr; obtain ⟨x, _, rfl⟩ := List.mem_map.1 hr; rfl)
    (fun i x r hx hr => by rw [List.getElem?_map, hx] at hr; simp at hr; exact hr.symm) hm
@[reducible] def callV (x : TCall) : Value := .agg #[.int .i64 x.a0, .int .i64 x.a1, .int .i64 x.a2, .int .i64 x.a3, .int .i64 x.a4]
end Go.Proofs.YtmokmmpomgjemaaDoor
