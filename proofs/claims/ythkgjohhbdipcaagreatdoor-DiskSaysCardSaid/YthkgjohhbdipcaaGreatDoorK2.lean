/- Texts laid one behind the other: Base, Laid, PolSpec, ReadSpec, ReadLib, ShelfMore, Own, Blk, ShelfText, Text. No condition beyond theirs. -/
import Derived.Test.YthkgjohhbdipcaaGreatDoorK1
import Derived.WalkKit
import Derived.WalkLawsBesides
import Derived.WalkSpells
import Derived.Lib.Hide
import Derived.MapKept
import Derived.Lib.SmallJoins
import Derived.Lib.QuietBelow
import Derived.KernelRfl
import Derived.Lib.Split
import Derived.Lib.SplitLaws
import Derived.Shelf.Strings.Builder1
import Derived.Shelf.Small.Utf8
import Derived.Shelf.Small.Bits
import Derived.Shelf.Small.Strs
import Derived.Shelf.Small.Wraps
import Derived.Shelf.Utf8.RuneCount
import Derived.Shelf.Strconv.Atoi
import Derived.Shelf.Strconv.Itoa0
import Derived.Shelf.Strconv.Itoa1
import Derived.Shelf.LaysM
import Derived.Shelf.Strconv.Itoa2
import Derived.Shelf.Strconv.Itoa3
import Derived.Shelf.Strconv.Itoa4
import Derived.Shelf.Strconv.AtoiErrFast
import Derived.Shelf.Strconv.ParseIntEmpty
import Derived.Shelf.Strconv.AtoiFail
import Derived.Shelf.Strconv.Clone
import Derived.Shelf.Strconv.SyntaxError
import Derived.Shelf.LaysC
import Derived.Shelf.Strconv.ToError
import Derived.Shelf.Strconv.Lower
import Derived.Shelf.Strconv.ParseUint10
import Derived.Shelf.Strconv.ParseUint10Empty
import Derived.Shelf.Strconv.ParseUint10Any
import Derived.Shelf.Strconv.ParseInt10
import Derived.Shelf.Strconv.AtoiLong
import Derived.Shelf.Strconv.AtoiInnerAll
import Derived.Shelf.Strconv.RangeError
import Derived.Shelf.Strconv.ToErrorRange
import Derived.Shelf.Strconv.AtoiAll
import Derived.Shelf.Strconv.ParseUintEmpty
import Derived.Shelf.Strconv.ParseUint10b64
import Derived.Shelf.Strconv.ParseUint10b32
import Derived.Shelf.Strconv.ParseUint10b16
import Derived.Shelf.Strconv.ParseUint10b8
import Derived.Shelf.Strconv.ParseUint10At
import Derived.Shelf.Strconv.ParseInt10At64
import Derived.Shelf.Strconv.ParseInt10At32
import Derived.Shelf.Strconv.ParseInt10At16
import Derived.Shelf.Strconv.ParseInt10At8
import Derived.Shelf.Strconv.ParseInt10All
import Derived.Shelf.Strconv.ParseIntPublic10
import Derived.Shelf.Strconv.ErrVarParseInt
import Derived.Shelf.Strings.Search1
import Derived.Shelf.Strings.Search2
import Derived.Shelf.Strings.Search3
import Derived.Shelf.Strings.Cut
import Derived.Shelf.Strings.Count
import Derived.Shelf.Strings.Shaped
import Derived.Shelf.Sort.Plain
import Derived.Shelf.Strings.Prefix
import Derived.Shelf.Strings.Split
import Derived.Shelf.Strings.Fields
import Derived.Shelf.Strings.SplitShaped
import Derived.Shelf.Unicode.Latin
import Derived.Shelf.Unicode.Decode
import Derived.Shelf.Strings.Runes
import Derived.Shelf.Strings.RuneCount
import Derived.Shelf.Strings.IndexAny
import Derived.Shelf.Strings.AsciiSet
import Derived.Shelf.Strings.IndexAnyAll
import Derived.Shelf.Strings.Explode
import Derived.Shelf.Unicode.DecodeSlow
import Derived.Shelf.Unicode.DecodeAny
import Derived.Shelf.Unicode.Is16White
import Derived.Shelf.Unicode.IsSpaceAny
import Derived.Shelf.Unicode.Is16Any
import Derived.Shelf.Unicode.Is32Any
import Derived.Shelf.Unicode.ExclAny
import Derived.Shelf.Slices.Turned
import Derived.Ground.Names2Prog
import Derived.Shelf.Slices.CompactI
import Derived.Shelf.Slices.SearchI
import Derived.Shelf.Slices.Cells
import Derived.Shelf.Slices.In.SortNone
import Derived.Test.YthkgjohhbdipcaaGreatDoorProg
import Derived.Laws.AppendOwnNone
import Derived.Lib.AppendZeros
import Derived.Laws.IdiomCopy
set_option linter.all false
namespace Go.Proofs.YthkgjohhbdipcaaGreatDoor
open Go.RowKit
open Go.MapKept (IsKey)

theorem ret_int {k : IntKind} {a b : Int} (h : a = b) : Ending.returned (.int k a) = .returned (.int k b) := by rw [h]
theorem ret_bool {a b : Bool} (h : a = b) : Ending.returned (.bool a) = .returned (.bool b) := by rw [h]
theorem bel_alloc {w wr : World} (h : Below w.heap.size w wr) (o : Obj) : Below w.heap.size w (wr.alloc o) := h.alloc h.size o
theorem bel_call {w wr w1 : World} (h : Below w.heap.size w wr) (h1 : Below wr.heap.size wr w1) : Below w.heap.size w w1 := h.trans (h1.mono h.size)
theorem bel_alloc_call {w wr w1 : World} {o : Obj} (h : Below w.heap.size w wr) (h1 : Below (wr.alloc o).heap.size (wr.alloc o) w1) : Below w.heap.size w w1 :=
  (bel_alloc h o).trans (h1.mono (by have := h.size; simp; omega))
/-- a block that the call laid first keeps its cells. -/
theorem box_cells {w w1 : World} {cs : Array Value} {T : TypeId} (hb : Below (w.heap.size + 1) (w.alloc (.cells cs T)) w1) (j : Nat) : w1.cell? ⟨w.heap.size, j, none⟩ = cs[j]? := by
  rw [hb.cell (p := ⟨w.heap.size, j, none⟩) (by simp)]
  exact World.cell?_alloc_at _ _ _ _ rfl
theorem bel_box {w w1 : World} {o : Obj} (hb : Below (w.heap.size + 1) (w.alloc o) w1) : Below w.heap.size w w1 := (bel_alloc (Below.refl _ _) o).trans (hb.mono (by omega))
theorem size_box {w w1 : World} {o : Obj} (hb : Below (w.heap.size + 1) (w.alloc o) w1) : w.heap.size + 1 ≤ w1.heap.size := by have := hb.size; simp at this; omega
/-- two blocks that the call laid first. -/
theorem box2_cells {w w1 : World} {cs cs' : Array Value} {T T' : TypeId} (hb : Below (w.heap.size + 2) ((w.alloc (.cells cs T)).alloc (.cells cs' T')) w1) :
    (∀ j, w1.cell? ⟨w.heap.size, j, none⟩ = cs[j]?) ∧ (∀ j, w1.cell? ⟨w.heap.size + 1, j, none⟩ = cs'[j]?) := by
  constructor
  · intro j
    rw [hb.cell (p := ⟨w.heap.size, j, none⟩) (by simp), World.cell?_alloc_lt _ _ _ (by simp)]
    exact World.cell?_alloc_at _ _ _ _ rfl
  · intro j
    rw [hb.cell (p := ⟨w.heap.size + 1, j, none⟩) (by simp)]
    exact World.cell?_alloc_at _ _ _ _ (by simp)
theorem bel_box2 {w w1 : World} {o o' : Obj} (hb : Below (w.heap.size + 2) ((w.alloc o).alloc o') w1) : Below w.heap.size w w1 := (bel_alloc (bel_alloc (Below.refl _ _) o) o').trans (hb.mono (by omega))
theorem size_box2 {w w1 : World} {o o' : Obj} (hb : Below (w.heap.size + 2) ((w.alloc o).alloc o') w1) : w.heap.size + 2 ≤ w1.heap.size := by have := hb.size; simp at this; omega
theorem bel_drew {w wr : World} (h : Below w.heap.size w wr) : Below w.heap.size w wr.drew := h.drew

/-- A slice value that reads as a list, each element of sz cells, in blocks that D lets. -/
def Sl {α : Type} (w : World) (D : Nat → Prop) (sz : Nat) (R : α → List Value → Prop) (v : Value) (xs : List α) : Prop :=
  ∃ a c, v = .slice a xs.length c ∧ xs.length ≤ c ∧ c ≤ maxLen ∧ (a = none → c = 0) ∧ (0 < xs.length → ∃ b o, a = some ⟨b, o, none⟩ ∧ D b ∧ b < w.heap.size ∧
    ∀ i x, xs[i]? = some x → ∃ cs : List Value, cs.length = sz ∧ R x cs ∧ ∀ j u, cs[j]? = some u → w.cell? ⟨b, o + (i * sz + j), none⟩ = some u)

section
variable {α : Type} {w w' : World} {D D' : Nat → Prop} {sz : Nat} {R R' : α → List Value → Prop} {v : Value} {xs : List α}
theorem Sl.mono (h : Sl w D sz R v xs) (hD : ∀ b, D b → b < w.heap.size → D' b) (hw : ∀ b, D b → b < w.heap.size → w'.heap[b]? = w.heap[b]?) (hs : w.heap.size ≤ w'.heap.size)
    (hR : ∀ x ∈ xs, ∀ cs, R x cs → R' x cs) : Sl w' D' sz R' v xs := by
  obtain ⟨a, c, hv, hl, hm, hn, h⟩ := h
  refine ⟨a, c, hv, hl, hm, hn, fun h0 => ?_⟩
  obtain ⟨b, o, ha, hDb, hb, hc⟩ := h h0
  refine ⟨b, o, ha, hD b hDb hb, by omega, fun i x hx => ?_⟩
  obtain ⟨cs, hcs, hr, hcell⟩ := hc i x hx
  exact ⟨cs, hcs, hR x (List.mem_of_getElem? hx) cs hr, fun j u hu => (World.cell?_of_block (w := w) (hw b hDb hb)).trans (hcell j u hu)⟩
/-- The slice's form; its length is a length. -/
theorem Sl.form (h : Sl w D sz R v xs) : ∃ a c, v = .slice a xs.length c ∧ xs.length ≤ c ∧ c ≤ 9223372036854775807 ∧ (0 < xs.length → ∃ b o, a = some ⟨b, o, none⟩ ∧ D b ∧ b < w.heap.size) := by
  obtain ⟨a, c, hv, hl, hm, _, h⟩ := h
  refine ⟨a, c, hv, hl, by unfold maxLen at hm; omega, fun h0 => ?_⟩
  obtain ⟨b, o, ha, hDb, hb, hc⟩ := h h0
  exact ⟨b, o, ha, hDb, hb⟩
theorem Sl.get {b o n c : Nat} {s : Option Nat} (h : Sl w D sz R (.slice (some ⟨b, o, s⟩) n c) xs) {i : Nat} (hi : i < xs.length) :
    ∃ cs : List Value, cs.length = sz ∧ R xs[i] cs ∧ ∀ j u, cs[j]? = some u → w.cell? ⟨b, o + (i * sz + j), none⟩ = some u := by
  obtain ⟨a, c', hv, hl, hm, _, h⟩ := h
  obtain ⟨b', o', ha, hDb, hb, hc⟩ := h (by omega)
  injection hv with h1 h2 h3
  subst h1
  injection ha with h4
  injection h4 with h5 h6 h7
  subst h5 h6
  exact hc i _ (List.getElem?_eq_getElem hi)
end

/-! ### maps that a text lays, known whole -/
theorem heap_last (w : World) (o : Obj) : (w.alloc o).heap[w.heap.size]? = some o := by
  show (w.heap.push o)[w.heap.size]? = _
  simp
theorem set_last (w : World) (o o' : Obj) : ({ w.alloc o with heap := (w.alloc o).heap.setIfInBounds w.heap.size o' } : World) = w.alloc o' := by
  have : (w.alloc o).heap.setIfInBounds w.heap.size o' = (w.alloc o').heap := by
    show (w.heap.push o).setIfInBounds w.heap.size o' = w.heap.push o'
    apply Array.ext_getElem?
    intro i
    rw [Array.getElem?_setIfInBounds]
    simp only [Array.getElem?_push, Array.size_push]
    split <;> split <;> simp_all
  simp only [this]
  rfl
theorem run_insert_new {P : Program} {w : World} {t kt et : TypeId} {kd : TypeDesc} {es : Array MapEntry} {c : Nat} {key v : Value} (ht : P.underlying t = some (.map kt et)) (hk : P.underlying kt = some kd)
    (hp : IsKey kd key) (hf : Instr.findNow kd key es.toList 0 = some none) :
    (Instr.mapUpdate t (.map (some w.heap.size)) key v).run P (w.alloc (.map es c)) = .ok () (w.alloc (.map (es.push ⟨key, v, c⟩) (c + 1))) := by
  have hb := heap_last w (.map es c)
  simp [Instr.mapUpdate, run_underlying ht, MapKept.run_getObj_map hb, MapKept.run_checkKey hk hp, MapKept.run_findKey hk hf, MapKept.run_setObj_map _ hb, Result.andThen]
  exact set_last w _ _
theorem run_insert_at {P : Program} {w : World} {b : Nat} {t kt et : TypeId} {kd : TypeDesc} {es : Array MapEntry} {c : Nat} {key v : Value} (hb : b = w.heap.size) (ht : P.underlying t = some (.map kt et)) (hk : P.underlying kt = some kd)
    (hp : IsKey kd key) (hf : Instr.findNow kd key es.toList 0 = some none) :
    (Instr.mapUpdate t (.map (some b)) key v).run P (w.alloc (.map es c)) = .ok () (w.alloc (.map (es.push ⟨key, v, c⟩) (c + 1))) := by subst hb; exact run_insert_new ht hk hp hf
/-- a map that is known whole. -/
theorem run_lookup_ok {P : Program} {w : World} {r : Nat} {t kt et : TypeId} {kd : TypeDesc} {es : Array MapEntry} {c : Nat} {key z : Value} {f : Option (Nat × Value)} (ht : P.underlying t = some (.map kt et)) (hk : P.underlying kt = some kd)
    (hb : w.heap[r]? = some (.map es c)) (hz : (zeroValue et).run P w = .ok z w) (hp : IsKey kd key) (hf : Instr.findNow kd key es.toList 0 = some f) :
    (Instr.lookup t (.map (some r)) key true).run P w = .ok (.tuple #[(f.map (·.2)).getD z, .bool f.isSome]) w := by
  cases f with
  | none => simp [Instr.lookup, run_underlying ht, MapKept.run_getObj_map hb, MapKept.run_checkKey hk hp, MapKept.run_findKey hk hf, Result.andThen, hz]
  | some x => simp [Instr.lookup, run_underlying ht, MapKept.run_getObj_map hb, MapKept.run_checkKey hk hp, MapKept.run_findKey hk hf, Result.andThen]
theorem run_lookup_bare {P : Program} {w : World} {r : Nat} {t kt et : TypeId} {kd : TypeDesc} {es : Array MapEntry} {c : Nat} {key z : Value} {f : Option (Nat × Value)} (ht : P.underlying t = some (.map kt et)) (hk : P.underlying kt = some kd)
    (hb : w.heap[r]? = some (.map es c)) (hz : (zeroValue et).run P w = .ok z w) (hp : IsKey kd key) (hf : Instr.findNow kd key es.toList 0 = some f) :
    (Instr.lookup t (.map (some r)) key false).run P w = .ok ((f.map (·.2)).getD z) w := by
  cases f with
  | none => simp [Instr.lookup, run_underlying ht, MapKept.run_getObj_map hb, MapKept.run_checkKey hk hp, MapKept.run_findKey hk hf, Result.andThen, hz]
  | some x => simp [Instr.lookup, run_underlying ht, MapKept.run_getObj_map hb, MapKept.run_checkKey hk hp, MapKept.run_findKey hk hf, Result.andThen]


def insR (x : TIns) (cs : List Value) : Prop := cs = [.int .i64 x.k, .int .i64 x.a, .int .i64 x.b, .int .i64 x.c]
def RdCode (w : World) (D : Nat → Prop) (v : Value) (l : List TIns) : Prop := Sl w D 4 insR v l
theorem RdCode.keep {w w' : World} {D D' : Nat → Prop} {v : Value} {l : List TIns} (h : RdCode w D v l) (hD : ∀ b, D b → b < w.heap.size → D' b)
    (hw : ∀ b, D b → b < w.heap.size → w'.heap[b]? = w.heap[b]?) (hs : w.heap.size ≤ w'.heap.size) : RdCode w' D' v l := Sl.mono h hD hw hs (fun _ _ _ h => h)
theorem RdCode.below {w w' : World} {D : Nat → Prop} {v : Value} {l : List TIns} (h : RdCode w D v l) (hb : Below w.heap.size w w') : RdCode w' D v l :=
  h.keep (fun _ h _ => h) (fun b _ hlt => hb.block b hlt) hb.size
theorem RdCode.cells {w : World} {D : Nat → Prop} {b o n c : Nat} {s : Option Nat} {l : List TIns} (h : RdCode w D (.slice (some ⟨b, o, s⟩) n c) l) {i : Nat} (hi : i < l.length) :
    w.cell? ⟨b, o + i * 4, none⟩ = some (.int .i64 l[i].k) ∧ w.cell? ⟨b, o + i * 4 + 1, none⟩ = some (.int .i64 l[i].a) ∧ w.cell? ⟨b, o + i * 4 + 2, none⟩ = some (.int .i64 l[i].b) ∧ w.cell? ⟨b, o + i * 4 + 3, none⟩ = some (.int .i64 l[i].c) := by
  obtain ⟨cs, hcs, hr, hcell⟩ := Sl.get h hi
  unfold insR at hr
  subst hr
  exact ⟨hcell 0 _ rfl, hcell 1 _ rfl, hcell 2 _ rfl, hcell 3 _ rfl⟩

def intR (x : Int) (cs : List Value) : Prop := cs = [.int .i64 x]
def RdInts (w : World) (D : Nat → Prop) (v : Value) (l : List Int) : Prop := Sl w D 1 intR v l
theorem RdInts.keep {w w' : World} {D D' : Nat → Prop} {v : Value} {l : List Int} (h : RdInts w D v l) (hD : ∀ b, D b → b < w.heap.size → D' b)
    (hw : ∀ b, D b → b < w.heap.size → w'.heap[b]? = w.heap[b]?) (hs : w.heap.size ≤ w'.heap.size) : RdInts w' D' v l := Sl.mono h hD hw hs (fun _ _ _ h => h)
theorem RdInts.below {w w' : World} {D : Nat → Prop} {v : Value} {l : List Int} (h : RdInts w D v l) (hb : Below w.heap.size w w') : RdInts w' D v l :=
  h.keep (fun _ h _ => h) (fun b _ hlt => hb.block b hlt) hb.size
theorem RdInts.cell {w : World} {D : Nat → Prop} {b o n c : Nat} {s : Option Nat} {l : List Int} (h : RdInts w D (.slice (some ⟨b, o, s⟩) n c) l) {i : Nat} (hi : i < l.length) :
    w.cell? ⟨b, o + i, none⟩ = some (.int .i64 l[i]) := by
  obtain ⟨cs, hcs, hr, hcell⟩ := Sl.get h hi
  unfold intR at hr
  subst hr
  have := hcell 0 _ rfl
  rwa [Nat.mul_one] at this
theorem blk_at {w : World} {o : Obj} {b : Nat} (hb : b = w.heap.size) : (w.alloc o).heap[b]? = some o := by subst hb; exact heap_last w o
theorem blk_old {w : World} {o x : Obj} {b : Nat} (h : w.heap[b]? = some x) : (w.alloc o).heap[b]? = some x :=
  (Below.heap_alloc w o b (Array.getElem?_eq_some_iff.1 h).1).trans h
theorem blk_below {w w' : World} {x : Obj} {b : Nat} (h : w.heap[b]? = some x) (hb : Below w.heap.size w w') : w'.heap[b]? = some x :=
  (hb.block b (Array.getElem?_eq_some_iff.1 h).1).trans h
/-- a row that was just laid. -/
theorem rd_row {α : Type} {w : World} {D : Nat → Prop} {sz : Nat} {R : α → List Value → Prop} {xs : List α} {b : Nat} {cells : Array Value} {T : TypeId} {fr : Nat × Nat} (hb : w.heap[b]? = some (.cells cells T fr)) (hD : D b)
    (rows : List (List Value)) (hc : cells.toList = rows.flatten) (hl : rows.length = xs.length) (hsz : ∀ r ∈ rows, r.length = sz) (hR : ∀ (i : Nat) (x : α) (r : List Value), xs[i]? = some x → rows[i]? = some r → R x r) (hm : xs.length ≤ maxLen) :
    Sl w D sz R (.slice (some ⟨b, 0, none⟩) xs.length xs.length) xs := by
  refine ⟨_, _, rfl, Nat.le_refl _, hm, (fun h => by cases h), fun _ => ⟨b, 0, rfl, hD, (Array.getElem?_eq_some_iff.1 hb).1, fun i x hx => ?_⟩⟩
  have hi : i < rows.length := by rw [hl]; exact (List.getElem?_eq_some_iff.1 hx).1
  have hri : rows[i]? = some rows[i] := List.getElem?_eq_getElem hi
  refine ⟨rows[i], hsz _ (List.getElem_mem hi), hR i x _ hx hri, fun j u hu => ?_⟩
  have hj : j < rows[i].length := (List.getElem?_eq_some_iff.1 hu).1
  have hfl : ∀ (rows : List (List Value)) (i : Nat) (r : List Value), (∀ r ∈ rows, r.length = sz) → rows[i]? = some r → ∀ j, j < r.length → rows.flatten[i * sz + j]? = r[j]? := by
    intro rows
    induction rows with
    | nil => intro i r _ h; simp at h
    | cons r0 rows ih =>
      intro i r hs h j hj
      have h0 := hs r0 (List.mem_cons_self ..)
      cases i with
      | zero =>
        simp at h; subst h
        rw [List.flatten_cons, List.getElem?_append_left (by omega)]; simp
      | succ i =>
        have e : (i + 1) * sz + j = r0.length + (i * sz + j) := by rw [h0, Nat.add_mul]; omega
        rw [List.flatten_cons, e, List.getElem?_append_right (by omega), Nat.add_sub_cancel_left]
        exact ih i r (fun r hr => hs r (List.mem_cons_of_mem _ hr)) (by simpa using h) j hj
  have := hfl rows i _ hsz hri j hj
  rw [hu, ← hc] at this
  simp only [World.cell?, hb, Nat.zero_add]
  simpa using this

/-- A slice cut at its end. -/
theorem Sl.take {α : Type} {w : World} {D : Nat → Prop} {sz : Nat} {R : α → List Value → Prop} {a : Option Addr} {n c k : Nat} {xs : List α} (h : Sl w D sz R (.slice a n c) xs) (hk : k ≤ n) : Sl w D sz R (.slice a k c) (xs.take k) := by
  obtain ⟨a', c', hv, hl, hm, hn, h⟩ := h
  injection hv with h1 h2 h3
  subst h1 h2 h3
  have hlk : (xs.take k).length = k := by rw [List.length_take]; omega
  refine ⟨a, c, by rw [hlk], by omega, hm, hn, fun h0 => ?_⟩
  obtain ⟨b, o, ha, hDb, hb, hc⟩ := h (by omega)
  refine ⟨b, o, ha, hDb, hb, fun i x hx => hc i x ?_⟩
  have hi : i < k := by have := (List.getElem?_eq_some_iff.1 hx).1; omega
  rwa [List.getElem?_take_of_lt hi] at hx
def insCells (x : TIns) : List Value := [.int .i64 x.k, .int .i64 x.a, .int .i64 x.b, .int .i64 x.c]
theorem rd_code {w : World} {D : Nat → Prop} {b : Nat} {l : List TIns} {cells : Array Value} {T : TypeId} {fr : Nat × Nat} (hb : w.heap[b]? = some (.cells cells T fr)) (hD : D b) (hc : cells.toList = (l.map insCells).flatten) (hm : l.length ≤ maxLen) :
    RdCode w D (.slice (some ⟨b, 0, none⟩) l.length l.length) l :=
  rd_row hb hD (l.map insCells) hc (by simp) (by intro r hr; obtain ⟨x, _, rfl⟩ := List.mem_map.1 hr; rfl)
    (fun i x r hx hr => by rw [List.getElem?_map, hx] at hr; simp at hr; exact hr.symm) hm
@[reducible] def callV (x : TCall) : Value := .agg #[.int .i64 x.a0, .int .i64 x.a1, .int .i64 x.a2, .int .i64 x.a3, .int .i64 x.a4]
end Go.Proofs.YthkgjohhbdipcaaGreatDoor
namespace Go.Proofs.YthkgjohhbdipcaaGreatDoor
open Go.RowKit Go.Shelf
attribute [local go_sem] gives givesUpon

structure Laid (w : World) : Prop where
  ml : ∃ m : Int, w.cell? ⟨1, 0, none⟩ = some (.int .i64 m)
  pow : Lib.TabIs Tryz.prog w "internal/strconv.uint64pow10" .u64 Lib.pow10Tab
  syn : ∃ te pe, w.cell? ⟨4, 0, none⟩ = some (.iface te pe)
  rng : ∃ te pe, w.cell? ⟨5, 0, none⟩ = some (.iface te pe)
theorem Laid.below {w w' : World} (h : Laid w) (hb : Below w.heap.size w w') : Laid w' := by
  obtain ⟨⟨m, h1⟩, h2, ⟨te, pe, h3⟩, ⟨te', pe', h4⟩⟩ := h
  have st : ∀ (p : Addr) v, w.cell? p = some v → w'.cell? p = some v := fun p v hv => (hb.cell (World.block_lt_of_cell? _ _ hv)).trans hv
  exact ⟨⟨m, st _ _ h1⟩, Go.Joins.tab_stays (g := 3) (by kernel_rfl) h2 hb (Nat.le_refl _), ⟨te, pe, st _ _ h3⟩, ⟨te', pe', st _ _ h4⟩⟩

theorem below_world {w w' : World} {k : Nat} {os : Array Obj} (h : w' = Go.Sort.grow (w.drewN k) os) : Below w.heap.size w w' := by
  subst h
  exact ⟨rfl, rfl, rfl, by simp [Go.Sort.grow], fun i hi => by
    show ((w.drewN k).heap ++ os)[i]? = _
    rw [Array.getElem?_append_left (by show i < w.heap.size; omega)]
    rfl⟩

/-- strconv.ParseInt at what is no numeral. -/
theorem parse_bad (s : ByteArray) (hlim : s.size ≤ 281474976710656) (h : ∀ v, Lib.parseIntB 64 s.data.toList ≠ .ok v) (h' : Lib.parseIntB 64 s.data.toList ≠ .range) (ev : Value) (w : World) (hv : w.cell? ⟨4, 0, none⟩ = some ev) (hev : ev = .nilIface ∨ ∃ te pe, ev = .iface te pe) :
    Calls Tryz.prog 119 #[.string s, .int .i64 10, .int .i64 64] w fun e w' => ∃ t p, e = .returned (.tuple #[.int .i64 0, .iface t p]) ∧ Below w.heap.size w w' := by
  cases hp : Lib.parseIntB 64 s.data.toList
  · exact absurd hp (h _)
  · have c : Calls Tryz.prog 119 #[.string s, .int .i64 10, .int .i64 64] w _ := Any.strconv_ParseInt_10_at64_syntax Tryz.laysC174 s hlim hp ev w hv hev
    exact c.mono fun e w' ⟨N, h1, _, _, h4⟩ => ⟨_, _, h1, h4⟩
  · exact absurd hp h'
set_option maxHeartbeats 1000000 in
theorem whole_any (s : ByteArray) (w : World) (hL : Laid w) (hs : s.size ≤ 281474976710656) :
    Calls Tryz.prog 78 #[.string s] w fun e w' => e = .returned (.tuple #[.int .i64 (wholeS s.data.toList).1, .bool (wholeS s.data.toList).2]) ∧ Below w.heap.size w w' := by
  have HL := Lib.hid hL
  clear hL
  cases hp : Lib.parseIntB 64 s.data.toList
  · rename_i v
    have he : wholeS s.data.toList = (v, Lib.itoa v == s.data.toList) := by unfold wholeS; rw [hp]
    rw [he]
    have Hp := Lib.hid hp
    obtain ⟨h0, h1⟩ := parse_in hp
    clear hp he
    go_enter Tryz.func78, Tryz.ntmps78
    go_wp2_with fail
    refine (Tryz.strconv_ParseInt_10_at64_ok s (by omega) v Hp.out _).mono ?_
    rintro e w1 ⟨rfl, hw1⟩
    have hb1 : Below w.heap.size w w1 := by
      rcases hw1 with rfl | ⟨t, rfl⟩
      · exact Below.refl _ _
      · exact Go.Joins.below_bytesWorld _ _ _ _ (Nat.le_refl _)
    clear hw1
    go_wp2_with fail
    refine (Tryz.strconv_FormatInt_10 v h0 h1 w1 (HL.out.below hb1).pow).mono ?_
    rintro e w2 ⟨rfl, k, os, hw2⟩
    have hb2 := below_world hw2
    clear hw2
    go_wp2
    go_ret2
    exact ⟨by rw [← ByteArray.toList_eq]; rfl, bel_call hb1 hb2⟩
  · have he : wholeS s.data.toList = (0, false) := by unfold wholeS; rw [hp]
    rw [he]
    have h1 : Hid (∀ v, Lib.parseIntB 64 s.data.toList ≠ .ok v) := fun v => by rw [hp]; intro e; cases e
    have h2 : Hid (Lib.parseIntB 64 s.data.toList ≠ .range) := by show _ ≠ _; rw [hp]; intro e; cases e
    clear hp he
    obtain ⟨te, pe, hv⟩ := HL.out.syn
    have Hv := Lib.hid hv
    clear hv
    go_enter Tryz.func78, Tryz.ntmps78
    go_wp2_with fail
    refine (parse_bad s hs h1.out h2.out _ _ Hv.out (.inr ⟨te, pe, rfl⟩)).mono ?_
    rintro e w1 ⟨t1, p1, rfl, hb1⟩
    go_wp2
    go_ret2
    exact ⟨rfl, hb1⟩
  · have he : wholeS s.data.toList = (Lib.intSat 64 s.data.toList, false) := by unfold wholeS; rw [hp]
    rw [he]
    have Hp := Lib.hid hp
    clear hp he
    obtain ⟨te, pe, hv⟩ := HL.out.rng
    have Hv := Lib.hid hv
    clear hv
    go_enter Tryz.func78, Tryz.ntmps78
    go_wp2_with fail
    refine (Tryz.strconv_ParseInt_10_at64_range s hs Hp.out _ _ Hv.out (.inr ⟨te, pe, rfl⟩)).mono ?_
    rintro e w1 ⟨N, rfl, _, _, hb1⟩
    go_wp2
    go_ret2
    exact ⟨rfl, hb1⟩
end Go.Proofs.YthkgjohhbdipcaaGreatDoor
namespace Go.Proofs.YthkgjohhbdipcaaGreatDoor

def condE (c : TCond) : Int :=
  if c.f < 0 ∨ 5 ≤ c.f then 5 else if c.op < 1 ∨ 4 < c.op then 4 else if c.v < 0 ∨ mostOf c.f < c.v then 3 else 0
def condsGo : List TCond → Int
  | [] => 0
  | c :: r => if condE c = 0 then condsGo r else condE c
def ruleE (r : TRule) : Int := if 10 < r.conds.length then 2 else if r.verdict < 0 ∨ 4 < r.verdict then 3 else condsGo r.conds
def rulesGo : List TRule → Int
  | [] => 0
  | x :: r => if ruleE x = 0 then rulesGo r else ruleE x
/-- chapter 2's Check. -/
def polE (p : TPol) : Int := if 120 < p.rules.length then 2 else if p.dflt < 0 ∨ 4 < p.dflt then 3 else rulesGo p.rules
theorem condsGo_drop (l : List TCond) (k : Nat) (h : k < l.length) : condsGo (l.drop k) = if condE l[k] = 0 then condsGo (l.drop (k+1)) else condE l[k] := by
  rw [List.drop_eq_getElem_cons h]; rfl
theorem rulesGo_drop (l : List TRule) (k : Nat) (h : k < l.length) : rulesGo (l.drop k) = if ruleE l[k] = 0 then rulesGo (l.drop (k+1)) else ruleE l[k] := by
  rw [List.drop_eq_getElem_cons h]; rfl

structure OkCond (c : TCond) : Prop where
  f0 : 0 ≤ c.f
  f1 : c.f < 5
  o0 : 1 ≤ c.op
  o1 : c.op ≤ 4
  v0 : 0 ≤ c.v
  v1 : c.v ≤ mostOf c.f
structure OkRule (r : TRule) : Prop where
  len : r.conds.length ≤ 10
  v0 : 0 ≤ r.verdict
  v1 : r.verdict ≤ 4
  conds : ∀ c ∈ r.conds, OkCond c
structure OkPol (p : TPol) : Prop where
  len : p.rules.length ≤ 120
  d0 : 0 ≤ p.dflt
  d1 : p.dflt ≤ 4
  rules : ∀ r ∈ p.rules, OkRule r
theorem okCond_iff (c : TCond) : condE c = 0 ↔ OkCond c := by
  unfold condE
  constructor
  · intro h
    split at h
    · simp at h
    · split at h
      · simp at h
      · split at h
        · simp at h
        · constructor <;> omega
  · rintro ⟨h1, h2, h3, h4, h5, h6⟩
    rw [if_neg (by omega), if_neg (by omega), if_neg (by omega)]
theorem okConds_iff : ∀ l : List TCond, condsGo l = 0 ↔ ∀ c ∈ l, OkCond c
  | [] => by simp [condsGo]
  | c :: r => by
    simp only [condsGo, List.mem_cons, forall_eq_or_imp]
    rw [← okConds_iff r, ← okCond_iff c]
    split
    · rename_i h; simp [h]
    · rename_i h; simp [h]
theorem okRule_iff (r : TRule) : ruleE r = 0 ↔ OkRule r := by
  unfold ruleE
  constructor
  · intro h
    split at h
    · simp at h
    · split at h
      · simp at h
      · exact ⟨by omega, by omega, by omega, (okConds_iff _).1 h⟩
  · rintro ⟨h1, h2, h3, h4⟩
    rw [if_neg (by omega), if_neg (by omega)]
    exact (okConds_iff _).2 h4
theorem okRules_iff : ∀ l : List TRule, rulesGo l = 0 ↔ ∀ c ∈ l, OkRule c
  | [] => by simp [rulesGo]
  | c :: r => by
    simp only [rulesGo, List.mem_cons, forall_eq_or_imp]
    rw [← okRules_iff r, ← okRule_iff c]
    split
    · rename_i h; simp [h]
    · rename_i h; simp [h]
theorem okPol_iff (p : TPol) : polE p = 0 ↔ OkPol p := by
  unfold polE
  constructor
  · intro h
    split at h
    · simp at h
    · split at h
      · simp at h
      · exact ⟨by omega, by omega, by omega, (okRules_iff _).1 h⟩
  · rintro ⟨h1, h2, h3, h4⟩
    rw [if_neg (by omega), if_neg (by omega)]
    exact (okRules_iff _).2 h4

/-- chapter 2: does a condition hold of a call? -/
def holdsB (c : TCond) (x : TCall) : Bool :=
  if c.op = 1 then x.get c.f == c.v else if c.op = 2 then x.get c.f != c.v else if c.op = 3 then decide (x.get c.f < c.v) else decide (c.v ≤ x.get c.f)
def allHold (x : TCall) (l : List TCond) : Bool := l.all fun c => holdsB c x
/-- the number of the first rule whose conditions all hold. -/
def which (x : TCall) : List TRule → Nat
  | [] => 0
  | r :: l => if allHold x r.conds then 0 else which x l + 1
def verdictAt (p : TPol) (k : Nat) : Int := match p.rules[k]? with
  | some r => r.verdict
  | none => p.dflt
def judged (p : TPol) (x : TCall) : Int × Nat := (verdictAt p (which x p.rules), which x p.rules)
/-- chapter 2's Judge, errors too. -/
def judgeE (p : TPol) (x : TCall) : Int × Int × Int := if polE p ≠ 0 then (0, 0, polE p) else if x.ok then ((judged p x).1, (judged p x).2, 0) else (0, 0, 3)
theorem which_le (x : TCall) : ∀ l : List TRule, which x l ≤ l.length
  | [] => Nat.le_refl _
  | r :: l => by
    have := which_le x l
    unfold which
    split
    · omega
    · simp; exact this
theorem which_drop (x : TCall) (l : List TRule) (k : Nat) (h : k < l.length) : which x (l.drop k) = if allHold x l[k].conds then 0 else which x (l.drop (k + 1)) + 1 := by
  rw [List.drop_eq_getElem_cons h]; rfl
end Go.Proofs.YthkgjohhbdipcaaGreatDoor
namespace Go.Proofs.YthkgjohhbdipcaaGreatDoor

def opOf (b : UInt8) : Int := if b = 61 then 1 else if b = 33 then 2 else if b = 60 then 3 else if b = 62 then 4 else 0
/-- the place of the first operation's sign; how long the word is: there is none. -/
def opAt : List UInt8 → Nat
  | [] => 0
  | b :: l => if opOf b = 0 then opAt l + 1 else 0
def verdictOf (l : List UInt8) : Option Int :=
  if l = [107, 105, 108, 108] then some 0 else if l = [116, 114, 97, 112] then some 1 else if l = [102, 97, 105, 108] then some 2 else if l = [108, 111, 103] then some 3 else if l = [97, 108, 108, 111, 119] then some 4 else none
def fieldOf (l : List UInt8) : Option Int :=
  if l = [110, 114] then some 0 else if l = [107, 105, 110, 100] then some 1 else if l = [97] then some 2 else if l = [98] then some 3 else if l = [99] then some 4 else none
def condOf (u : List UInt8) : Option TCond :=
  if opAt u = u.length then none else
  match fieldOf (u.take (opAt u)) with
  | none => none
  | some f => if (wholeS (u.drop (opAt u + 1))).2 then some ⟨f, opOf (u.getD (opAt u) 0), (wholeS (u.drop (opAt u + 1))).1⟩ else none
def condsOf : List (List UInt8) → Option (List TCond)
  | [] => some []
  | u :: r => match condOf u with
    | none => none
    | some c => (condsOf r).map (c :: ·)
def words (t : List UInt8) : List (List UInt8) := Lib.split t [32]
def pread : Nat → List UInt8 → Option TPol
  | 0, _ => none
  | n + 1, s => match verdictOf ((words (Lib.cut s [59]).1).headD []) with
    | none => none
    | some v =>
      if (Lib.cut s [59]).2.2 then
        match condsOf (words (Lib.cut s [59]).1).tail with
        | none => none
        | some cs => (pread n (Lib.cut s [59]).2.1).map fun p => ⟨⟨cs, v⟩ :: p.rules, p.dflt⟩
      else if 1 < (words (Lib.cut s [59]).1).length then none else some ⟨[], v⟩
/-- what is read, and the error. -/
def readP (s : List UInt8) : TPol × Int := match pread (s.length + 1) s with
  | none => (⟨[], 0⟩, 1)
  | some p => if polE p = 0 then (p, 0) else (⟨[], 0⟩, polE p)

def writtenL : List UInt8 := [107, 105, 108, 108, 32, 110, 114, 61, 51, 32, 97, 60, 53, 59, 108, 111, 103, 32, 107, 105, 110, 100, 33, 48, 59, 97, 108, 108, 111, 119]
def madeP : TPol := ⟨[⟨[⟨0, 1, 3⟩, ⟨2, 3, 5⟩], 0⟩, ⟨[⟨1, 2, 0⟩], 3⟩], 4⟩
theorem read_made : readP writtenL = (madeP, 0) := by decide +kernel

/-! ### laws for the loops -/
theorem opAt_le : ∀ u : List UInt8, opAt u ≤ u.length
  | [] => Nat.le_refl _
  | b :: l => by
    have := opAt_le l
    unfold opAt
    split <;> simp <;> omega
theorem opAt_spec : ∀ (u : List UInt8) (k : Nat), (∀ j, j < k → ∀ b, u[j]? = some b → opOf b = 0) → k ≤ u.length → (∀ b, u[k]? = some b → opOf b ≠ 0) → opAt u = k
  | [], k, _, hk, _ => by simp at hk; subst hk; rfl
  | b :: l, 0, _, _, h => by unfold opAt; rw [if_neg (h b rfl)]
  | b :: l, k + 1, h, hk, h' => by
    unfold opAt
    rw [if_pos (h 0 (by omega) b rfl), opAt_spec l k (fun j hj c hc => h (j + 1) (by omega) c (by simpa using hc)) (by simpa using hk) (fun c hc => h' c (by simpa using hc))]
theorem condsOf_drop {ws : List (List UInt8)} {j : Nat} (h : j < ws.length) : condsOf (ws.drop j) = match condOf ws[j] with
    | none => none
    | some c => (condsOf (ws.drop (j + 1))).map (c :: ·) := by
  rw [List.drop_eq_getElem_cons h]; rfl
theorem pread_step {n : Nat} {t : List UInt8} {u0 : List UInt8} {us : List (List UInt8)} (h : words (Lib.cut t [59]).1 = u0 :: us) : pread (n + 1) t = match verdictOf u0 with
    | none => none
    | some v =>
      if (Lib.cut t [59]).2.2 then
        match condsOf us with
        | none => none
        | some cs => (pread n (Lib.cut t [59]).2.1).map fun p => ⟨⟨cs, v⟩ :: p.rules, p.dflt⟩
      else if 1 < us.length + 1 then none else some ⟨[], v⟩ := by
  conv => lhs; unfold pread
  rw [h]; rfl
theorem readP_none {s : List UInt8} (h : pread (s.length + 1) s = none) : readP s = (⟨[], 0⟩, 1) := by unfold readP; rw [h]
theorem readP_some {s : List UInt8} {p : TPol} (h : pread (s.length + 1) s = some p) : readP s = if polE p = 0 then (p, 0) else (⟨[], 0⟩, polE p) := by unfold readP; rw [h]
end Go.Proofs.YthkgjohhbdipcaaGreatDoor
namespace Go.Proofs.YthkgjohhbdipcaaGreatDoor
open Go.RowKit

theorem splitB_words (t : ByteArray) : (Lib.splitB ⟨#[32]⟩ 0 (Lib.countB t ⟨#[32]⟩) t).map (·.data.toList) = words t.data.toList := by
  rw [Lib.splitB_data]; rfl
theorem splitB_sizes (sep : ByteArray) : ∀ (k : Nat) (t : ByteArray), ∀ u ∈ Lib.splitB sep 0 k t, u.size ≤ t.size
  | 0, t, u, h => by simp [Lib.splitB_zero] at h; subst h; exact Nat.le_refl _
  | k + 1, t, u, h => by
    unfold Lib.splitB at h
    split at h
    · simp at h; subst h; exact Nat.le_refl _
    · rcases List.mem_cons.1 h with h | h
      · subst h; simp [ByteArray.size_extract]; omega
      · have := splitB_sizes sep k _ u h
        simp [ByteArray.size_extract] at this; omega

theorem split_any (t : ByteArray) (w : World) (hL : Laid w) (hs : t.size < 4294967281) : Calls Tryz.prog 109 #[.string t, .string ⟨#[32]⟩] w fun e w' =>
    ∃ ws : List ByteArray, e = .returned (.slice (some ⟨w.heap.size, 0, none⟩) ws.length ws.length) ∧ w' = w.alloc (.cells (ws.map Value.string).toArray 9) ∧ ws.map (·.data.toList) = words t.data.toList ∧ 0 < ws.length ∧ ws.length ≤ t.size + 1 ∧ ∀ u ∈ ws, u.size ≤ t.size := by
  obtain ⟨m, hm⟩ := hL.ml
  refine (Tryz.strings_Split t ⟨#[32]⟩ m w hs hm (by decide)).mono ?_
  rintro e w1 ⟨rfl, rfl⟩
  have hl := Lib.splitB_all ⟨#[32]⟩ (by decide) 0 _ t rfl
  have hc := Lib.countB_le ⟨#[32]⟩ (by decide) _ t (Nat.le_refl _)
  exact ⟨_, by rw [hl], rfl, splitB_words t, by omega, by omega, splitB_sizes _ _ t⟩

theorem cut_any (t : ByteArray) (w : World) (hL : Laid w) (hs : t.size < 4294967281) : Calls Tryz.prog 67 #[.string t, .string ⟨#[59]⟩] w fun e w' =>
    ∃ (a r : ByteArray) (more : Bool), e = .returned (.tuple #[.string a, .string r, .bool more]) ∧ a.data.toList = (Lib.cut t.data.toList [59]).1 ∧ r.data.toList = (Lib.cut t.data.toList [59]).2.1 ∧ more = (Lib.cut t.data.toList [59]).2.2 ∧ a.size ≤ t.size ∧ (more = true → r.size < t.size) ∧ Below w.heap.size w w' := by
  obtain ⟨m, hm⟩ := hL.ml
  refine (Tryz.strings_Cut t ⟨#[59]⟩ m w hs hm).mono ?_
  rintro e w1 ⟨rfl, n, rfl⟩
  refine ⟨_, _, _, rfl, by simp, by simp, rfl, ?_, ?_, Go.Joins.below_draws _ _ _⟩
  · show ((Lib.cut t.data.toList [59]).1.toArray).size ≤ t.data.size
    unfold Lib.cut
    split
    · simp; omega
    · simp
  · intro h
    show ((Lib.cut t.data.toList [59]).2.1.toArray).size < t.data.size
    revert h
    show (Lib.cut t.data.toList [59]).2.2 = true → _
    unfold Lib.cut
    split
    · rename_i h0
      intro _
      have hne : t.data.toList ≠ [] := fun e => by rw [e] at h0; simp [Lib.index] at h0
      have : 0 < t.data.toList.length := List.length_pos_iff.2 hne
      simp at this ⊢
      omega
    · intro h; cases h
end Go.Proofs.YthkgjohhbdipcaaGreatDoor
namespace Go.Proofs
open Go.Shelf
def Tryz.lays119_ren : Go.Shelf.Ren := ⟨fun | 119 => 206 | n => n, fun | 21 => 21 | 4 => 4 | n => n, fun | n => n⟩
theorem Tryz.lays119 : Go.Proofs.Lays.n119 Tryz.prog Tryz.lays119_ren := {
  mixed := by kernel_rfl
  f119 := Tryz.func206.trans (congrArg some (by kernel_rfl))
  t4 := Tryz.underlying4
  a4 := Tryz.isAgg4
  z4 := Tryz.sizeOf4
  v4 := Tryz.zeroValue4
  t21 := Tryz.underlying21
  a21 := Tryz.isAgg21
  z21 := Tryz.sizeOf21
  v21 := Tryz.zeroValue21 }
theorem Tryz.utf8_ValidRune (r : Int) (w : World) :
    Calls Tryz.prog 206 #[.int .i32 r] w fun e w' => e = .returned (.bool (Lib.validRune r)) ∧ w' = w := Any.utf8_ValidRune Tryz.lays119 r w
def Tryz.lays137_ren : Go.Shelf.Ren := ⟨fun | 137 => 205 | 217 => 169 | 266 => 201 | n => n, fun | 9 => 9 | 5 => 5 | 3 => 3 | n => n, fun | n => n⟩
theorem Tryz.lays137 : Go.Proofs.Lays.n137 Tryz.prog Tryz.lays137_ren := {
  mixed := by kernel_rfl
  f137 := Tryz.func205.trans (congrArg some (by kernel_rfl))
  f217 := Tryz.func169.trans (congrArg some (by kernel_rfl))
  f266 := Tryz.func201.trans (congrArg some (by kernel_rfl))
  t3 := Tryz.underlying3
  a3 := Tryz.isAgg3
  z3 := Tryz.sizeOf3
  v3 := Tryz.zeroValue3
  t5 := Tryz.underlying5
  a5 := Tryz.isAgg5
  z5 := Tryz.sizeOf5
  v5 := Tryz.zeroValue5
  t9 := Tryz.underlying9
  a9 := Tryz.isAgg9
  z9 := Tryz.sizeOf9
  v9 := Tryz.zeroValue9 }
open Go.RowKit in
theorem Tryz.strings_IndexByte (s : ByteArray) (c : Int) (w : World) :
    Calls Tryz.prog 205 #[.string s, .int .u8 c] w fun e w' => e = .returned (.int .i64 (Lib.indexByte s.data.toList c.toNat.toUInt8)) ∧ w' = w := Any.strings_IndexByte Tryz.lays137 s c w
def Tryz.laysC172_ren : Go.Shelf.Ren := ⟨fun | 172 => 108 | 244 => 143 | 245 => 144 | 247 => 151 | 279 => 173 | 280 => 174 | 281 => 175 | 282 => 176 | 287 => 185 | 316 => 203 | 171 => 65 | 205 => 204 | 321 => 210 | 322 => 211 | 243 => 101 | 246 => 140 | 283 => 164 | 284 => 165 | 285 => 166 | 286 => 167 | 129 => 197 | 317 => 196 | 318 => 198 | 319 => 199 | 320 => 200 | 337 => 220 | 338 => 221 | n => n, fun | 9 => 9 | 3 => 3 | 75 => 149 | 76 => 150 | 4 => 4 | 5 => 5 | 167 => 209 | 37 => 23 | 0 => 0 | 85 => 165 | 2 => 2 | 168 => 210 | 53 => 200 | 175 => 229 | 46 => 208 | 210 => 249 | 127 => 184 | 145 => 277 | 143 => 275 | 21 => 21 | 171 => 199 | 173 => 203 | 212 => 242 | 51 => 223 | 20 => 20 | 213 => 243 | 232 => 290 | 233 => 291 | 80 => 154 | n => n, fun | 15 => 4 | 16 => 5 | 17 => 3 | 18 => 8 | 19 => 9 | n => n⟩
theorem Tryz.laysC172 : Go.Proofs.LaysC.n172 Tryz.prog Tryz.laysC172_ren := {
  mixed := by kernel_rfl
  f129 := Tryz.func197.trans (congrArg some (by kernel_rfl))
  f171 := Tryz.func65.trans (congrArg some (by kernel_rfl))
  f172 := Tryz.func108.trans (congrArg some (by kernel_rfl))
  f205 := Tryz.func204.trans (congrArg some (by kernel_rfl))
  f243 := Tryz.func101.trans (congrArg some (by kernel_rfl))
  f244 := Tryz.func143.trans (congrArg some (by kernel_rfl))
  f245 := Tryz.func144.trans (congrArg some (by kernel_rfl))
  f246 := Tryz.func140.trans (congrArg some (by kernel_rfl))
  f247 := Tryz.func151.trans (congrArg some (by kernel_rfl))
  f279 := Tryz.func173.trans (congrArg some (by kernel_rfl))
  f280 := Tryz.func174.trans (congrArg some (by kernel_rfl))
  f281 := Tryz.func175.trans (congrArg some (by kernel_rfl))
  f282 := Tryz.func176.trans (congrArg some (by kernel_rfl))
  f283 := Tryz.func164.trans (congrArg some (by kernel_rfl))
  f284 := Tryz.func165.trans (congrArg some (by kernel_rfl))
  f285 := Tryz.func166.trans (congrArg some (by kernel_rfl))
  f286 := Tryz.func167.trans (congrArg some (by kernel_rfl))
  f287 := Tryz.func185.trans (congrArg some (by kernel_rfl))
  f316 := Tryz.func203.trans (congrArg some (by kernel_rfl))
  f317 := Tryz.func196.trans (congrArg some (by kernel_rfl))
  f318 := Tryz.func198.trans (congrArg some (by kernel_rfl))
  f319 := Tryz.func199.trans (congrArg some (by kernel_rfl))
  f320 := Tryz.func200.trans (congrArg some (by kernel_rfl))
  f321 := Tryz.func210.trans (congrArg some (by kernel_rfl))
  f322 := Tryz.func211.trans (congrArg some (by kernel_rfl))
  f337 := Tryz.func220.trans (congrArg some (by kernel_rfl))
  f338 := Tryz.func221.trans (congrArg some (by kernel_rfl))
  t0 := Tryz.underlying0
  a0 := Tryz.isAgg0
  z0 := Tryz.sizeOf0
  v0 := Tryz.zeroValue0
  t2 := Tryz.underlying2
  a2 := Tryz.isAgg2
  z2 := Tryz.sizeOf2
  v2 := Tryz.zeroValue2
  t3 := Tryz.underlying3
  a3 := Tryz.isAgg3
  z3 := Tryz.sizeOf3
  v3 := Tryz.zeroValue3
  t4 := Tryz.underlying4
  a4 := Tryz.isAgg4
  z4 := Tryz.sizeOf4
  v4 := Tryz.zeroValue4
  t5 := Tryz.underlying5
  a5 := Tryz.isAgg5
  z5 := Tryz.sizeOf5
  v5 := Tryz.zeroValue5
  t9 := Tryz.underlying9
  a9 := Tryz.isAgg9
  z9 := Tryz.sizeOf9
  v9 := Tryz.zeroValue9
  t20 := Tryz.underlying20
  a20 := Tryz.isAgg20
  z20 := Tryz.sizeOf20
  v20 := Tryz.zeroValue20
  t21 := Tryz.underlying21
  a21 := Tryz.isAgg21
  z21 := Tryz.sizeOf21
  v21 := Tryz.zeroValue21
  t37 := Tryz.underlying23
  a37 := Tryz.isAgg23
  z37 := Tryz.sizeOf23
  v37 := Tryz.zeroValue23
  t46 := Tryz.underlying208
  a46 := Tryz.isAgg208
  z46 := Tryz.sizeOf208
  v46 := Tryz.zeroValue208
  t51 := Tryz.underlying223
  a51 := Tryz.isAgg223
  z51 := Tryz.sizeOf223
  v51 := Tryz.zeroValue223
  t53 := Tryz.underlying200
  a53 := Tryz.isAgg200
  z53 := Tryz.sizeOf200
  v53 := Tryz.zeroValue200
  t75 := Tryz.underlying149
  a75 := Tryz.isAgg149
  z75 := Tryz.sizeOf149
  v75 := Tryz.zeroValue149
  t76 := Tryz.underlying150
  a76 := Tryz.isAgg150
  z76 := Tryz.sizeOf150
  v76 := Tryz.zeroValue150
  t85 := Tryz.underlying165
  a85 := Tryz.isAgg165
  z85 := Tryz.sizeOf165
  v85 := Tryz.zeroValue165
  t127 := Tryz.underlying184
  a127 := Tryz.isAgg184
  z127 := Tryz.sizeOf184
  v127 := Tryz.zeroValue184
  t143 := Tryz.underlying275
  a143 := Tryz.isAgg275
  z143 := Tryz.sizeOf275
  v143 := Tryz.zeroValue275
  t145 := Tryz.underlying277
  a145 := Tryz.isAgg277
  z145 := Tryz.sizeOf277
  v145 := Tryz.zeroValue277
  t167 := Tryz.underlying209
  a167 := Tryz.isAgg209
  z167 := Tryz.sizeOf209
  v167 := Tryz.zeroValue209
  t168 := Tryz.underlying210
  a168 := Tryz.isAgg210
  z168 := Tryz.sizeOf210
  v168 := Tryz.zeroValue210
  t171 := Tryz.underlying199
  a171 := Tryz.isAgg199
  z171 := Tryz.sizeOf199
  v171 := Tryz.zeroValue199
  t173 := Tryz.underlying203
  a173 := Tryz.isAgg203
  z173 := Tryz.sizeOf203
  v173 := Tryz.zeroValue203
  t175 := Tryz.underlying229
  a175 := Tryz.isAgg229
  z175 := Tryz.sizeOf229
  v175 := Tryz.zeroValue229
  t210 := Tryz.underlying249
  a210 := Tryz.isAgg249
  z210 := Tryz.sizeOf249
  v210 := Tryz.zeroValue249
  t212 := Tryz.underlying242
  a212 := Tryz.isAgg242
  z212 := Tryz.sizeOf242
  v212 := Tryz.zeroValue242
  t213 := Tryz.underlying243
  a213 := Tryz.isAgg243
  z213 := Tryz.sizeOf243
  t232 := Tryz.underlying290
  a232 := Tryz.isAgg290
  z232 := Tryz.sizeOf290
  v232 := Tryz.zeroValue290
  t233 := Tryz.underlying291
  a233 := Tryz.isAgg291
  z233 := Tryz.sizeOf291
  v233 := Tryz.zeroValue291
  g15 := by kernel_rfl
  g16 := by kernel_rfl
  g17 := by kernel_rfl
  g18 := by kernel_rfl
  g19 := by kernel_rfl
  t80 := Tryz.underlying154
  a80 := Tryz.isAgg154
  z80 := Tryz.sizeOf154
  v80 := Tryz.zeroValue154
  i0 := by kernel_rfl
  i2 := by kernel_rfl
  i3 := by kernel_rfl
  i4 := by kernel_rfl
  i5 := by kernel_rfl
  i9 := by kernel_rfl
  i20 := by kernel_rfl
  i21 := by kernel_rfl
  i37 := by kernel_rfl
  i46 := by kernel_rfl
  i51 := by kernel_rfl
  i53 := by kernel_rfl
  i75 := by kernel_rfl
  i76 := by kernel_rfl
  i80 := by kernel_rfl
  i85 := by kernel_rfl
  i127 := by kernel_rfl
  i143 := by kernel_rfl
  i145 := by kernel_rfl
  i167 := by kernel_rfl
  i168 := by kernel_rfl
  i171 := by kernel_rfl
  i173 := by kernel_rfl
  i175 := by kernel_rfl
  i210 := by kernel_rfl
  i212 := by kernel_rfl
  i232 := by kernel_rfl
  i233 := by kernel_rfl
  m15 := by kernel_rfl
  m16 := by kernel_rfl
  m17 := by kernel_rfl
  m18 := by kernel_rfl
  m19 := by kernel_rfl
  c0 := by kernel_rfl
  c2 := by kernel_rfl
  c3 := by kernel_rfl
  c4 := by kernel_rfl
  c5 := by kernel_rfl
  c9 := by kernel_rfl
  c20 := by kernel_rfl
  c21 := by kernel_rfl
  c37 := by kernel_rfl
  c46 := by kernel_rfl
  c51 := by kernel_rfl
  c53 := by kernel_rfl
  c75 := by kernel_rfl
  c76 := by kernel_rfl
  c80 := by kernel_rfl
  c85 := by kernel_rfl
  c127 := by kernel_rfl
  c143 := by kernel_rfl
  c145 := by kernel_rfl
  c167 := by kernel_rfl
  c168 := by kernel_rfl
  c171 := by kernel_rfl
  c173 := by kernel_rfl
  c175 := by kernel_rfl
  c210 := by kernel_rfl
  c212 := by kernel_rfl
  c213 := by kernel_rfl
  c232 := by kernel_rfl
  c233 := by kernel_rfl }
open Go.RowKit in
theorem Tryz.strconv_Atoi_ok (s : ByteArray) (hmax : s.size ≤ 9223372036854775806) (v : Int) (h : Lib.atoiAll s.data.toList = .ok v) (w : World) :
    Calls Tryz.prog 108 #[.string s] w fun e w' => e = .returned (.tuple #[.int .i64 v, .nilIface]) ∧ (w' = w ∨ ∃ t, w' = Lib.bytesWorld w 5 t) := Any.strconv_Atoi_ok Tryz.laysC172 s hmax v h w
open Go.RowKit in
theorem Tryz.strconv_Atoi_range (s : ByteArray) (hlim : s.size ≤ 281474976710656) (h : Lib.atoiAll s.data.toList = .range) (ev : Value) (w : World) (hv : w.cell? ⟨5, 0, none⟩ = some ev) (hev : ev = .nilIface ∨ ∃ te pe, ev = .iface te pe) :
    Calls Tryz.prog 108 #[.string s] w fun e w' => ∃ N, e = .returned (.tuple #[.int .i64 (Lib.atoiSat s.data.toList), .iface 210 (.pointer (some ⟨N, 0, none⟩))]) ∧ w.heap.size ≤ N ∧ w'.heap[N]? = some (.cells #[.string ⟨#[65, 116, 111, 105]⟩, .string s, ev] 249 (0, 0)) ∧ Below w.heap.size w w' := Any.strconv_Atoi_range Tryz.laysC172 s hlim h ev w hv hev
def Tryz.lays100_ren : Go.Shelf.Ren := ⟨fun | 100 => 124 | 207 => 152 | n => n, fun | 9 => 9 | 4 => 4 | 3 => 3 | n => n, fun | n => n⟩
theorem Tryz.lays100 : Go.Proofs.Lays.n100 Tryz.prog Tryz.lays100_ren := {
  mixed := by kernel_rfl
  f100 := Tryz.func124.trans (congrArg some (by kernel_rfl))
  f207 := Tryz.func152.trans (congrArg some (by kernel_rfl))
  t3 := Tryz.underlying3
  a3 := Tryz.isAgg3
  z3 := Tryz.sizeOf3
  v3 := Tryz.zeroValue3
  t4 := Tryz.underlying4
  a4 := Tryz.isAgg4
  z4 := Tryz.sizeOf4
  v4 := Tryz.zeroValue4
  t9 := Tryz.underlying9
  a9 := Tryz.isAgg9
  z9 := Tryz.sizeOf9
  v9 := Tryz.zeroValue9 }
open Go.RowKit Go.Lib in
theorem Tryz.strings_HasSuffix (s p : ByteArray) (w : World) (hs : s.size ≤ 9223372036854775807) :
    Calls Tryz.prog 124 #[.string s, .string p] w fun e w' => e = .returned (.bool (Lib.hasSuffix s.data.toList p.data.toList)) ∧ w' = w := Any.strings_HasSuffix Tryz.lays100 s p w hs
def Tryz.lays221_ren : Go.Shelf.Ren := ⟨fun | 221 => 118 | 268 => 148 | 138 => 149 | 143 => 150 | 195 => 182 | 197 => 183 | 218 => 184 | 219 => 142 | 260 => 209 | 217 => 169 | 225 => 170 | 224 => 171 | 267 => 172 | 266 => 201 | 314 => 202 | n => n, fun | 9 => 9 | 3 => 3 | 31 => 101 | 4 => 4 | 0 => 0 | 105 => 227 | 21 => 21 | 5 => 5 | 46 => 208 | 119 => 187 | 139 => 282 | 138 => 281 | 146 => 245 | 51 => 223 | n => n, fun | 1 => 1 | 3 => 6 | 4 => 7 | n => n⟩
theorem Tryz.lays221 : Go.Proofs.Lays.n221 Tryz.prog Tryz.lays221_ren := {
  mixed := by kernel_rfl
  f138 := Tryz.func149.trans (congrArg some (by kernel_rfl))
  f143 := Tryz.func150.trans (congrArg some (by kernel_rfl))
  f195 := Tryz.func182.trans (congrArg some (by kernel_rfl))
  f197 := Tryz.func183.trans (congrArg some (by kernel_rfl))
  f217 := Tryz.func169.trans (congrArg some (by kernel_rfl))
  f218 := Tryz.func184.trans (congrArg some (by kernel_rfl))
  f219 := Tryz.func142.trans (congrArg some (by kernel_rfl))
  f221 := Tryz.func118.trans (congrArg some (by kernel_rfl))
  f224 := Tryz.func171.trans (congrArg some (by kernel_rfl))
  f225 := Tryz.func170.trans (congrArg some (by kernel_rfl))
  f260 := Tryz.func209.trans (congrArg some (by kernel_rfl))
  f266 := Tryz.func201.trans (congrArg some (by kernel_rfl))
  f267 := Tryz.func172.trans (congrArg some (by kernel_rfl))
  f268 := Tryz.func148.trans (congrArg some (by kernel_rfl))
  f314 := Tryz.func202.trans (congrArg some (by kernel_rfl))
  t0 := Tryz.underlying0
  a0 := Tryz.isAgg0
  z0 := Tryz.sizeOf0
  v0 := Tryz.zeroValue0
  t3 := Tryz.underlying3
  a3 := Tryz.isAgg3
  z3 := Tryz.sizeOf3
  v3 := Tryz.zeroValue3
  t4 := Tryz.underlying4
  a4 := Tryz.isAgg4
  z4 := Tryz.sizeOf4
  v4 := Tryz.zeroValue4
  t5 := Tryz.underlying5
  a5 := Tryz.isAgg5
  z5 := Tryz.sizeOf5
  v5 := Tryz.zeroValue5
  t9 := Tryz.underlying9
  a9 := Tryz.isAgg9
  z9 := Tryz.sizeOf9
  v9 := Tryz.zeroValue9
  t21 := Tryz.underlying21
  a21 := Tryz.isAgg21
  z21 := Tryz.sizeOf21
  v21 := Tryz.zeroValue21
  t31 := Tryz.underlying101
  a31 := Tryz.isAgg101
  z31 := Tryz.sizeOf101
  v31 := Tryz.zeroValue101
  t46 := Tryz.underlying208
  a46 := Tryz.isAgg208
  z46 := Tryz.sizeOf208
  v46 := Tryz.zeroValue208
  t51 := Tryz.underlying223
  a51 := Tryz.isAgg223
  z51 := Tryz.sizeOf223
  v51 := Tryz.zeroValue223
  t105 := Tryz.underlying227
  a105 := Tryz.isAgg227
  z105 := Tryz.sizeOf227
  v105 := Tryz.zeroValue227
  t119 := Tryz.underlying187
  a119 := Tryz.isAgg187
  z119 := Tryz.sizeOf187
  t138 := Tryz.underlying281
  a138 := Tryz.isAgg281
  z138 := Tryz.sizeOf281
  v138 := Tryz.zeroValue281
  t139 := Tryz.underlying282
  a139 := Tryz.isAgg282
  z139 := Tryz.sizeOf282
  v139 := Tryz.zeroValue282
  t146 := Tryz.underlying245
  a146 := Tryz.isAgg245
  z146 := Tryz.sizeOf245
  v146 := Tryz.zeroValue245
  g1 := by kernel_rfl
  g3 := by kernel_rfl
  g4 := by kernel_rfl }
open Go.RowKit Go.Lib in
theorem Tryz.strings_genSplit (s sep : ByteArray) (sv : Nat) (n : Int) (N : Nat) (m : Int) (w : World) (hs : s.size < 4294967281) (hm : w.cell? ⟨1, 0, none⟩ = some (.int .i64 m)) (h1 : 1 ≤ sep.size) (hsv : sv ≤ sep.size) (hn0 : n ≠ 0) (hn63 : n ≤ 9223372036854775807) (hN : (N : Int) = min (if n < 0 then (Lib.countB s sep : Int) + 1 else n) ((s.size : Int) + 1)) :
    Calls Tryz.prog 118 #[.string s, .string sep, .int .i64 sv, .int .i64 n] w fun e w' =>
      e = .returned (.slice (some ⟨w.heap.size, 0, none⟩) (Lib.splitB sep sv (N - 1) s).length N) ∧ w' = w.alloc (.cells (Lib.cellsOf (Lib.splitB sep sv (N - 1) s) N) 9) := Any.strings_genSplit Tryz.lays221 (by kernel_rfl) s sep sv n N m w hs hm h1 hsv hn0 hn63 hN
def Tryz.laysM147_ren : Go.Shelf.Ren := ⟨fun | 147 => 77 | 221 => 118 | 268 => 148 | 138 => 149 | 143 => 150 | 195 => 182 | 197 => 183 | 218 => 184 | 219 => 142 | 260 => 209 | 217 => 169 | 225 => 170 | 224 => 171 | 267 => 172 | 266 => 201 | 314 => 202 | n => n, fun | 9 => 9 | 3 => 3 | 31 => 101 | 4 => 4 | 0 => 0 | 105 => 227 | 21 => 21 | 5 => 5 | 46 => 208 | 119 => 187 | 139 => 282 | 138 => 281 | 146 => 245 | 51 => 223 | n => n, fun | 1 => 1 | 3 => 6 | 4 => 7 | n => n⟩
theorem Tryz.laysM147 : Go.Proofs.LaysM.n147 Tryz.prog Tryz.laysM147_ren := {
  mixed := by kernel_rfl
  f138 := Tryz.func149.trans (congrArg some (by kernel_rfl))
  f143 := Tryz.func150.trans (congrArg some (by kernel_rfl))
  f147 := Tryz.func77.trans (congrArg some (by kernel_rfl))
  f195 := Tryz.func182.trans (congrArg some (by kernel_rfl))
  f197 := Tryz.func183.trans (congrArg some (by kernel_rfl))
  f217 := Tryz.func169.trans (congrArg some (by kernel_rfl))
  f218 := Tryz.func184.trans (congrArg some (by kernel_rfl))
  f219 := Tryz.func142.trans (congrArg some (by kernel_rfl))
  f221 := Tryz.func118.trans (congrArg some (by kernel_rfl))
  f224 := Tryz.func171.trans (congrArg some (by kernel_rfl))
  f225 := Tryz.func170.trans (congrArg some (by kernel_rfl))
  f260 := Tryz.func209.trans (congrArg some (by kernel_rfl))
  f266 := Tryz.func201.trans (congrArg some (by kernel_rfl))
  f267 := Tryz.func172.trans (congrArg some (by kernel_rfl))
  f268 := Tryz.func148.trans (congrArg some (by kernel_rfl))
  f314 := Tryz.func202.trans (congrArg some (by kernel_rfl))
  t0 := Tryz.underlying0
  a0 := Tryz.isAgg0
  z0 := Tryz.sizeOf0
  v0 := Tryz.zeroValue0
  t3 := Tryz.underlying3
  a3 := Tryz.isAgg3
  z3 := Tryz.sizeOf3
  v3 := Tryz.zeroValue3
  t4 := Tryz.underlying4
  a4 := Tryz.isAgg4
  z4 := Tryz.sizeOf4
  v4 := Tryz.zeroValue4
  t5 := Tryz.underlying5
  a5 := Tryz.isAgg5
  z5 := Tryz.sizeOf5
  v5 := Tryz.zeroValue5
  t9 := Tryz.underlying9
  a9 := Tryz.isAgg9
  z9 := Tryz.sizeOf9
  v9 := Tryz.zeroValue9
  t21 := Tryz.underlying21
  a21 := Tryz.isAgg21
  z21 := Tryz.sizeOf21
  v21 := Tryz.zeroValue21
  t31 := Tryz.underlying101
  a31 := Tryz.isAgg101
  z31 := Tryz.sizeOf101
  v31 := Tryz.zeroValue101
  t46 := Tryz.underlying208
  a46 := Tryz.isAgg208
  z46 := Tryz.sizeOf208
  v46 := Tryz.zeroValue208
  t51 := Tryz.underlying223
  a51 := Tryz.isAgg223
  z51 := Tryz.sizeOf223
  v51 := Tryz.zeroValue223
  t105 := Tryz.underlying227
  a105 := Tryz.isAgg227
  z105 := Tryz.sizeOf227
  v105 := Tryz.zeroValue227
  t119 := Tryz.underlying187
  a119 := Tryz.isAgg187
  z119 := Tryz.sizeOf187
  t138 := Tryz.underlying281
  a138 := Tryz.isAgg281
  z138 := Tryz.sizeOf281
  v138 := Tryz.zeroValue281
  t139 := Tryz.underlying282
  a139 := Tryz.isAgg282
  z139 := Tryz.sizeOf282
  v139 := Tryz.zeroValue282
  t146 := Tryz.underlying245
  a146 := Tryz.isAgg245
  z146 := Tryz.sizeOf245
  v146 := Tryz.zeroValue245
  g1 := by kernel_rfl
  g3 := by kernel_rfl
  g4 := by kernel_rfl
  i0 := by kernel_rfl
  i3 := by kernel_rfl
  i4 := by kernel_rfl
  i5 := by kernel_rfl
  i9 := by kernel_rfl
  i21 := by kernel_rfl
  i31 := by kernel_rfl
  i46 := by kernel_rfl
  i51 := by kernel_rfl
  i105 := by kernel_rfl
  i138 := by kernel_rfl
  i139 := by kernel_rfl
  i146 := by kernel_rfl
  m1 := by kernel_rfl
  s1_3 := fun w h => Go.Proofs.cell_of_shapedOpen_int (zero := #[.int .i64 0]) (t := 3) h (of_decide_eq_true (by kernel_rfl)) (by kernel_rfl) rfl (by kernel_rfl) (by kernel_rfl) Tryz.underlying3
  m3 := by kernel_rfl
  m4 := by kernel_rfl }
open Go.RowKit Go.Lib in
theorem Tryz.strings_SplitN_shaped (s sep : ByteArray) (n : Nat) (w : World) (h : w.ShapedOpen Tryz.prog) (hs : s.size < 4294967281) (h1 : 1 ≤ sep.size) (hn : 1 ≤ n) (hn63 : n ≤ 9223372036854775807) :
    Calls Tryz.prog 77 #[.string s, .string sep, .int .i64 n] w fun e w' =>
      e = .returned (.slice (some ⟨w.heap.size, 0, none⟩) (Lib.splitB sep 0 (min n (s.size + 1) - 1) s).length (min n (s.size + 1))) ∧ w' = w.alloc (.cells (Lib.cellsOf (Lib.splitB sep 0 (min n (s.size + 1) - 1) s) (min n (s.size + 1))) 9) := Any.strings_SplitN_shaped Tryz.laysM147 s sep n w h hs h1 hn hn63
def Tryz.lays197_ren : Go.Shelf.Ren := ⟨fun | 197 => 183 | 260 => 209 | n => n, fun | 9 => 9 | 21 => 21 | 3 => 3 | 4 => 4 | 5 => 5 | 105 => 227 | 119 => 187 | 0 => 0 | 46 => 208 | 139 => 282 | 138 => 281 | n => n, fun | 3 => 6 | 4 => 7 | n => n⟩
theorem Tryz.lays197 : Go.Proofs.Lays.n197 Tryz.prog Tryz.lays197_ren := {
  mixed := by kernel_rfl
  f197 := Tryz.func183.trans (congrArg some (by kernel_rfl))
  f260 := Tryz.func209.trans (congrArg some (by kernel_rfl))
  t0 := Tryz.underlying0
  a0 := Tryz.isAgg0
  z0 := Tryz.sizeOf0
  v0 := Tryz.zeroValue0
  t3 := Tryz.underlying3
  a3 := Tryz.isAgg3
  z3 := Tryz.sizeOf3
  v3 := Tryz.zeroValue3
  t4 := Tryz.underlying4
  a4 := Tryz.isAgg4
  z4 := Tryz.sizeOf4
  v4 := Tryz.zeroValue4
  t5 := Tryz.underlying5
  a5 := Tryz.isAgg5
  z5 := Tryz.sizeOf5
  v5 := Tryz.zeroValue5
  t9 := Tryz.underlying9
  a9 := Tryz.isAgg9
  z9 := Tryz.sizeOf9
  v9 := Tryz.zeroValue9
  t21 := Tryz.underlying21
  a21 := Tryz.isAgg21
  z21 := Tryz.sizeOf21
  v21 := Tryz.zeroValue21
  t46 := Tryz.underlying208
  a46 := Tryz.isAgg208
  z46 := Tryz.sizeOf208
  v46 := Tryz.zeroValue208
  t105 := Tryz.underlying227
  a105 := Tryz.isAgg227
  z105 := Tryz.sizeOf227
  v105 := Tryz.zeroValue227
  t119 := Tryz.underlying187
  a119 := Tryz.isAgg187
  z119 := Tryz.sizeOf187
  t138 := Tryz.underlying281
  a138 := Tryz.isAgg281
  z138 := Tryz.sizeOf281
  v138 := Tryz.zeroValue281
  t139 := Tryz.underlying282
  a139 := Tryz.isAgg282
  z139 := Tryz.sizeOf282
  v139 := Tryz.zeroValue282
  g3 := by kernel_rfl
  g4 := by kernel_rfl }
def Tryz.lays152_ren : Go.Shelf.Ren := ⟨fun | 152 => 177 | 137 => 205 | 119 => 206 | 224 => 171 | 225 => 170 | 217 => 169 | 266 => 201 | n => n, fun | 9 => 9 | 21 => 21 | 3 => 3 | 4 => 4 | 5 => 5 | 0 => 0 | 46 => 208 | n => n, fun | n => n⟩
theorem Tryz.lays152 : Go.Proofs.Lays.n152 Tryz.prog Tryz.lays152_ren := {
  mixed := by kernel_rfl
  f119 := Tryz.func206.trans (congrArg some (by kernel_rfl))
  f137 := Tryz.func205.trans (congrArg some (by kernel_rfl))
  f152 := Tryz.func177.trans (congrArg some (by kernel_rfl))
  f217 := Tryz.func169.trans (congrArg some (by kernel_rfl))
  f224 := Tryz.func171.trans (congrArg some (by kernel_rfl))
  f225 := Tryz.func170.trans (congrArg some (by kernel_rfl))
  f266 := Tryz.func201.trans (congrArg some (by kernel_rfl))
  t0 := Tryz.underlying0
  a0 := Tryz.isAgg0
  z0 := Tryz.sizeOf0
  v0 := Tryz.zeroValue0
  t3 := Tryz.underlying3
  a3 := Tryz.isAgg3
  z3 := Tryz.sizeOf3
  v3 := Tryz.zeroValue3
  t4 := Tryz.underlying4
  a4 := Tryz.isAgg4
  z4 := Tryz.sizeOf4
  v4 := Tryz.zeroValue4
  t5 := Tryz.underlying5
  a5 := Tryz.isAgg5
  z5 := Tryz.sizeOf5
  v5 := Tryz.zeroValue5
  t9 := Tryz.underlying9
  a9 := Tryz.isAgg9
  z9 := Tryz.sizeOf9
  v9 := Tryz.zeroValue9
  t21 := Tryz.underlying21
  a21 := Tryz.isAgg21
  z21 := Tryz.sizeOf21
  v21 := Tryz.zeroValue21
  t46 := Tryz.underlying208
  a46 := Tryz.isAgg208
  z46 := Tryz.sizeOf208
  v46 := Tryz.zeroValue208 }
open Go.RowKit Go.Lib in
theorem Tryz.strings_IndexRune_ascii (s : ByteArray) (r : Int) (w : World) (h0 : 0 ≤ r) (h1 : r < 128) :
    Calls Tryz.prog 177 #[.string s, .int .i32 r] w fun e w' => e = .returned (.int .i64 (Lib.indexByte s.data.toList r.toNat.toUInt8)) ∧ w' = w := Any.strings_IndexRune_ascii Tryz.lays152 s r w h0 h1
def Tryz.lays226_ren : Go.Shelf.Ren := ⟨fun | 226 => 178 | n => n, fun | 3 => 3 | 4 => 4 | n => n, fun | n => n⟩
theorem Tryz.lays226 : Go.Proofs.Lays.n226 Tryz.prog Tryz.lays226_ren := {
  mixed := by kernel_rfl
  f226 := Tryz.func178.trans (congrArg some (by kernel_rfl))
  t3 := Tryz.underlying3
  a3 := Tryz.isAgg3
  z3 := Tryz.sizeOf3
  v3 := Tryz.zeroValue3
  t4 := Tryz.underlying4
  a4 := Tryz.isAgg4
  z4 := Tryz.sizeOf4
  v4 := Tryz.zeroValue4 }
open Go.RowKit Go.Lib in
theorem Tryz.strings_shouldUseASCIISet (n : Int) (w : World) :
    Calls Tryz.prog 178 #[.int .i64 n] w fun e w' => e = .returned (.bool (decide (8 < n))) ∧ w' = w := Any.strings_shouldUseASCIISet Tryz.lays226 n w
def Tryz.lays153_ren : Go.Shelf.Ren := ⟨fun | 153 => 145 | 152 => 177 | 226 => 178 | 227 => 179 | 228 => 180 | 137 => 205 | 119 => 206 | 224 => 171 | 225 => 170 | 217 => 169 | 266 => 201 | n => n, fun | 9 => 9 | 3 => 3 | 4 => 4 | 5 => 5 | 21 => 21 | 117 => 217 | 116 => 216 | 0 => 0 | 46 => 208 | 124 => 251 | n => n, fun | n => n⟩
theorem Tryz.lays153 : Go.Proofs.Lays.n153 Tryz.prog Tryz.lays153_ren := {
  mixed := by kernel_rfl
  f119 := Tryz.func206.trans (congrArg some (by kernel_rfl))
  f137 := Tryz.func205.trans (congrArg some (by kernel_rfl))
  f152 := Tryz.func177.trans (congrArg some (by kernel_rfl))
  f153 := Tryz.func145.trans (congrArg some (by kernel_rfl))
  f217 := Tryz.func169.trans (congrArg some (by kernel_rfl))
  f224 := Tryz.func171.trans (congrArg some (by kernel_rfl))
  f225 := Tryz.func170.trans (congrArg some (by kernel_rfl))
  f226 := Tryz.func178.trans (congrArg some (by kernel_rfl))
  f227 := Tryz.func179.trans (congrArg some (by kernel_rfl))
  f228 := Tryz.func180.trans (congrArg some (by kernel_rfl))
  f266 := Tryz.func201.trans (congrArg some (by kernel_rfl))
  t0 := Tryz.underlying0
  a0 := Tryz.isAgg0
  z0 := Tryz.sizeOf0
  v0 := Tryz.zeroValue0
  t3 := Tryz.underlying3
  a3 := Tryz.isAgg3
  z3 := Tryz.sizeOf3
  v3 := Tryz.zeroValue3
  t4 := Tryz.underlying4
  a4 := Tryz.isAgg4
  z4 := Tryz.sizeOf4
  v4 := Tryz.zeroValue4
  t5 := Tryz.underlying5
  a5 := Tryz.isAgg5
  z5 := Tryz.sizeOf5
  v5 := Tryz.zeroValue5
  t9 := Tryz.underlying9
  a9 := Tryz.isAgg9
  z9 := Tryz.sizeOf9
  v9 := Tryz.zeroValue9
  t21 := Tryz.underlying21
  a21 := Tryz.isAgg21
  z21 := Tryz.sizeOf21
  v21 := Tryz.zeroValue21
  t46 := Tryz.underlying208
  a46 := Tryz.isAgg208
  z46 := Tryz.sizeOf208
  v46 := Tryz.zeroValue208
  t116 := Tryz.underlying216
  a116 := Tryz.isAgg216
  z116 := Tryz.sizeOf216
  t117 := Tryz.underlying217
  a117 := Tryz.isAgg217
  z117 := Tryz.sizeOf217
  v117 := Tryz.zeroValue217
  t124 := Tryz.underlying251
  a124 := Tryz.isAgg251
  z124 := Tryz.sizeOf251
  v124 := Tryz.zeroValue251 }
open Go.RowKit Go.Lib in
theorem Tryz.strings_IndexAny_long (hv116 : ∀ w, (zeroValue 216).run Tryz.prog w = .ok (.agg (Array.replicate 256 (.bool false))) w) (s chars : ByteArray) (w : World) (h2 : 2 ≤ chars.size) (h8 : 8 < s.size) (hs : s.size < 4294967281) (hcs : chars.size < 4294967281) (hascii : ∀ (j : Nat) b, chars.data.toList[j]? = some b → b.toNat < 128) :
    Calls Tryz.prog 145 #[.string s, .string chars] w fun e w' => e = .returned (.int .i64 (Lib.indexAny s.data.toList chars.data.toList)) ∧ w' = ((w.alloc (.cells (Lib.setCells chars.data.toList) 216)).alloc (.cells (Lib.setCells chars.data.toList) 216)) := Any.strings_IndexAny_long Tryz.lays153 hv116 (by kernel_rfl) s chars w h2 h8 hs hcs hascii
open Go.RowKit Go.Lib in
theorem Tryz.utf8_DecodeRuneInString (s : ByteArray) (w : World) (hT : Lib.Utf8Tabs 6 7 w) :
    Calls Tryz.prog 183 #[.string s] w fun e w' => e = .returned (.tuple #[.int .i32 (Lib.decodeGo s).1, .int .i64 (Lib.decodeGo s).2]) ∧ Below w.heap.size w w' := Any.utf8_DecodeRuneInString Tryz.lays197 s w hT
def Tryz.lays109_ren : Go.Shelf.Ren := ⟨fun | 109 => 69 | n => n, fun | 31 => 101 | 9 => 9 | 3 => 3 | 0 => 0 | 4 => 4 | n => n, fun | n => n⟩
theorem Tryz.lays109 : Go.Proofs.Lays.n109 Tryz.prog Tryz.lays109_ren := {
  mixed := by kernel_rfl
  f109 := Tryz.func69.trans (congrArg some (by kernel_rfl))
  t0 := Tryz.underlying0
  a0 := Tryz.isAgg0
  z0 := Tryz.sizeOf0
  v0 := Tryz.zeroValue0
  t3 := Tryz.underlying3
  a3 := Tryz.isAgg3
  z3 := Tryz.sizeOf3
  v3 := Tryz.zeroValue3
  t4 := Tryz.underlying4
  a4 := Tryz.isAgg4
  z4 := Tryz.sizeOf4
  v4 := Tryz.zeroValue4
  t9 := Tryz.underlying9
  a9 := Tryz.isAgg9
  z9 := Tryz.sizeOf9
  v9 := Tryz.zeroValue9
  t31 := Tryz.underlying101
  a31 := Tryz.isAgg101
  z31 := Tryz.sizeOf101
  v31 := Tryz.zeroValue101 }
open Go.Lib in
theorem Tryz.slices_Index_string (b off n c : Nat) (zs : List ByteArray) (x : ByteArray) (w : World) (hz : n ≤ zs.length) (hbig : n ≤ 9223372036854775807) (hc : ∀ j, j < zs.length → w.cell? ⟨b, off + j, none⟩ = some (.string (zs.getD j ByteArray.empty))) :
    Calls Tryz.prog 69 #[.slice (some ⟨b, off, none⟩) n c, .string x] w fun e w' => e = .returned (.int .i64 (Lib.idxOfS (zs.take n) x)) ∧ w' = w := Any.slices_Index_string Tryz.lays109 b off n c zs x w hz hbig hc
end Go.Proofs
namespace Go.Proofs.YthkgjohhbdipcaaGreatDoor
open Go.RowKit

/-- Rows of a list: each its sz cells. -/
structure RowsOf {α : Type} (sz : Nat) (R : α → List Value → Prop) (xs : List α) (rows : List (List Value)) : Prop where
  len : rows.length = xs.length
  size : ∀ r ∈ rows, r.length = sz
  rel : ∀ (i : Nat) (x : α) (r : List Value), xs[i]? = some x → rows[i]? = some r → R x r
theorem RowsOf.nil {α : Type} {sz : Nat} {R : α → List Value → Prop} : RowsOf sz R ([] : List α) [] := ⟨rfl, (fun _ h => by cases h), (fun i x r h => by simp at h)⟩
theorem RowsOf.app {α : Type} {sz : Nat} {R : α → List Value → Prop} {xs ys : List α} {r s : List (List Value)} (h : RowsOf sz R xs r) (k : RowsOf sz R ys s) : RowsOf sz R (xs ++ ys) (r ++ s) := by
  refine ⟨by simp [h.len, k.len], fun t ht => ?_, fun i x t hx ht => ?_⟩
  · rcases List.mem_append.1 ht with ht | ht
    · exact h.size t ht
    · exact k.size t ht
  · rw [List.getElem?_append] at hx ht
    rw [h.len] at ht
    split at hx
    · rename_i hl; rw [if_pos hl] at ht; exact h.rel i x t hx ht
    · rename_i hl; rw [if_neg hl] at ht; exact k.rel _ x t hx ht
theorem RowsOf.mono {α : Type} {sz : Nat} {R R' : α → List Value → Prop} {xs : List α} {r : List (List Value)} (h : RowsOf sz R xs r) (hR : ∀ x ∈ xs, ∀ cs, R x cs → R' x cs) : RowsOf sz R' xs r :=
  ⟨h.len, h.size, fun i x t hx ht => hR x (List.mem_of_getElem? hx) t (h.rel i x t hx ht)⟩
theorem flat_len {sz : Nat} : ∀ (rows : List (List Value)), (∀ r ∈ rows, r.length = sz) → rows.flatten.length = rows.length * sz
  | [], _ => by simp
  | r :: rows, h => by
    rw [List.flatten_cons, List.length_append, flat_len rows (fun r hr => h r (List.mem_cons_of_mem _ hr)), h r (List.mem_cons_self ..), List.length_cons, Nat.add_mul]; omega
theorem flat_get {sz : Nat} : ∀ (rows : List (List Value)) (i : Nat) (r : List Value), (∀ r ∈ rows, r.length = sz) → rows[i]? = some r → ∀ j, j < sz → rows.flatten[i * sz + j]? = r[j]?
  | [], _, _, _, h => by simp at h
  | r0 :: rows, i, r, hs, h => fun j hj => by
    have h0 := hs r0 (List.mem_cons_self ..)
    cases i with
    | zero =>
      simp at h; subst h
      rw [List.flatten_cons, List.getElem?_append_left (by omega)]; simp
    | succ i =>
      have e : (i + 1) * sz + j = r0.length + (i * sz + j) := by rw [h0, Nat.add_mul]; omega
      rw [List.flatten_cons, e, List.getElem?_append_right (by omega), Nat.add_sub_cancel_left]
      exact flat_get rows i r (fun r hr => hs r (List.mem_cons_of_mem _ hr)) (by simpa using h) j hj

/-- The rows of what a slice reads as, and where they lie. -/
theorem Sl.rows {α : Type} {w : World} {D : Nat → Prop} {sz : Nat} {R : α → List Value → Prop} {v : Value} {xs : List α} (h : Sl w D sz R v xs) :
    ∃ (a : Option Addr) (c : Nat) (rows : List (List Value)), v = .slice a xs.length c ∧ RowsOf sz R xs rows ∧ c ≤ maxLen ∧ (a = none → c = 0 ∧ xs = []) ∧ ∀ ad, a = some ad → ∀ j u, rows.flatten[j]? = some u → w.cell? (ad.add j) = some u := by
  obtain ⟨a, c, hv, hl, hm, hn, h⟩ := h
  by_cases h0 : 0 < xs.length
  · obtain ⟨b, o, ha, hDb, hb, hc⟩ := h h0
    have hex : ∀ (n : Nat), n ≤ xs.length → ∃ rows : List (List Value), RowsOf sz R (xs.take n) rows ∧ ∀ j u, rows.flatten[j]? = some u → w.cell? ⟨b, o + j, none⟩ = some u := by
      intro n
      induction n with
      | zero => intro _; exact ⟨[], by simpa using RowsOf.nil, fun j u hu => by simp at hu⟩
      | succ n ih =>
        intro hn'
        obtain ⟨rows, hr, hcell⟩ := ih (by omega)
        have hlt : n < xs.length := by omega
        obtain ⟨cs, hcs, hR, hcc⟩ := hc n xs[n] (List.getElem?_eq_getElem hlt)
        refine ⟨rows ++ [cs], ?_, fun j u hu => ?_⟩
        · rw [List.take_succ_eq_append_getElem hlt]
          exact hr.app ⟨rfl, fun r hr => by simp at hr; rw [hr]; exact hcs, fun i x r hx hr => by
            cases i with
            | zero => simp at hx hr; subst hx hr; exact hR
            | succ i => simp at hx⟩
        · rw [List.flatten_append, List.flatten_singleton, List.getElem?_append] at hu
          have hfl : rows.flatten.length = n * sz := by rw [flat_len rows hr.size, hr.len, List.length_take, Nat.min_eq_left (by omega)]
          split at hu
          · exact hcell j u hu
          · rename_i hge
            have := hcc _ u hu
            rw [hfl] at this
            rwa [show o + (n * sz + (j - n * sz)) = o + j by omega] at this
    obtain ⟨rows, hr, hcell⟩ := hex xs.length (Nat.le_refl _)
    rw [List.take_length] at hr
    refine ⟨a, c, rows, hv, hr, hm, (fun e => by rw [e] at ha; cases ha), fun ad had j u hu => ?_⟩
    rw [ha] at had
    injection had with had
    subst had
    have : ((⟨b, o, none⟩ : Addr).add j) = ⟨b, o + j, none⟩ := by unfold Addr.add; split <;> simp_all
    rw [this]; exact hcell j u hu
  · have hx : xs = [] := List.length_eq_zero_iff.1 (by omega)
    subst hx
    exact ⟨a, c, [], hv, RowsOf.nil, hm, (fun e => ⟨hn e, rfl⟩), (fun ad _ j u hu => by simp at hu)⟩

/-- A slice value with a row of the call's own, from block base on, that reads as a list. -/
def OwnSl {α : Type} (w : World) (base : Nat) (e : TypeId) (sz : Nat) (R : α → List Value → Prop) (v : Value) (xs : List α) : Prop :=
  ∃ rows, RowsOf sz R xs rows ∧ w.ownsRow base e sz v xs.length rows.flatten
section
variable {α : Type} {w w' : World} {base : Nat} {e : TypeId} {sz : Nat} {R R' : α → List Value → Prop} {v : Value} {xs : List α}
theorem OwnSl.nil : OwnSl w base e sz R (.slice none 0 0) ([] : List α) := ⟨[], RowsOf.nil, by simp, .inl ⟨rfl, rfl⟩⟩
theorem OwnSl.monoR (h : OwnSl w base e sz R v xs) (hR : ∀ x ∈ xs, ∀ cs, R x cs → R' x cs) : OwnSl w base e sz R' v xs := by
  obtain ⟨rows, hr, ho⟩ := h
  exact ⟨rows, hr.mono hR, ho⟩
theorem ownsRow_keep {n : Nat} {cells : List Value} (h : w.ownsRow base e sz v n cells) (hb : ∀ b, base ≤ b → b < w.heap.size → w'.heap[b]? = w.heap[b]?) : w'.ownsRow base e sz v n cells := by
  obtain ⟨h1, h2⟩ := h
  refine ⟨h1, ?_⟩
  rcases h2 with h2 | ⟨g, cap, cur, hv, hg, hh, r⟩
  · exact .inl h2
  · exact .inr ⟨g, cap, cur, hv, hg, by rw [hb g hg (Array.getElem?_eq_some_iff.1 hh).1]; exact hh, r⟩
theorem OwnSl.block (h : OwnSl w base e sz R v xs) : ∀ g, v.ownBlock = some g → base ≤ g := by
  obtain ⟨rows, _, _, h2⟩ := h
  intro g hg
  rcases h2 with ⟨hv, _⟩ | ⟨g', cap, cur, hv, hg', _⟩
  · subst hv; simp [Value.ownBlock] at hg
  · subst hv; simp [Value.ownBlock] at hg; omega
theorem OwnSl.grown {B : Nat} {w0 : World} (h : OwnSl w base e sz R v xs) (hb : Below B w0 w) (hg : w.grownBy w' v.ownBlock) (hB : B ≤ w.heap.size) (hbase : B ≤ base) : Below B w0 w' :=
  hb.grown hg hB fun g hk => Nat.le_trans hbase (h.block g hk)
theorem OwnSl.below (h : OwnSl w base e sz R v xs) (hb : Below w.heap.size w w') : OwnSl w' base e sz R v xs := by
  obtain ⟨rows, hr, ho⟩ := h
  exact ⟨rows, hr, ownsRow_keep ho (fun b _ hlt => hb.block b hlt)⟩
theorem OwnSl.sl {D : Nat → Prop} (h : OwnSl w base e sz R v xs) (hD : ∀ b, base ≤ b → D b) : Sl w D sz R v xs := by
  obtain ⟨rows, hr, ho1, ho2⟩ := h
  rcases ho2 with ⟨hv, hn⟩ | ⟨g, cap, cur, hv, hg, hh, hnc, hcm, hcs, htk⟩
  · have hx : xs = [] := List.length_eq_zero_iff.1 hn
    subst hx
    exact ⟨none, 0, hv, by simp, by unfold maxLen; omega, fun _ => rfl, fun h => absurd h (by simp)⟩
  · refine ⟨some ⟨g, 0, none⟩, cap, hv, hnc, hcm, (fun h => by cases h), fun h0 => ⟨g, 0, rfl, hD g hg, (Array.getElem?_eq_some_iff.1 hh).1, fun i x hx => ?_⟩⟩
    have hi : i < rows.length := by rw [hr.len]; exact (List.getElem?_eq_some_iff.1 hx).1
    have hri : rows[i]? = some rows[i] := List.getElem?_eq_getElem hi
    have hsz := hr.size _ (List.getElem_mem hi)
    refine ⟨rows[i], hsz, hr.rel i x _ hx hri, fun j u hu => ?_⟩
    have hj : j < sz := by rw [← hsz]; exact (List.getElem?_eq_some_iff.1 hu).1
    have h1 := flat_get rows i _ hr.size hri j hj
    rw [hu, ← htk] at h1
    have hlt : i * sz + j < xs.length * sz := by
      have := (List.getElem?_eq_some_iff.1 hx).1
      calc i * sz + j < i * sz + sz := by omega
        _ = (i + 1) * sz := by rw [Nat.add_mul]; omega
        _ ≤ xs.length * sz := Nat.mul_le_mul_right _ this
    rw [List.getElem?_take_of_lt hlt] at h1
    simp only [World.cell?, hh, Nat.zero_add]
    simpa using h1
end

/-- append onto an own row, from whatever slice reads. -/
theorem wpList_app {α : Type} {P : Program} {w : World} {ops : Array Oper} {rest : List Oper} {o : Oper} {a : Act} {Q : Exit → Act → World → Prop} {R : α → List Value → Prop} {D : Nat → Prop} (hgd : o.guard = none) (s x : Operand) (t : TypeId)
    (ho : o.op = .call { callee := .builtin .append, args := #[s, x], argTypes := #[t, t] })
    (base : Nat) (e : TypeId) (i : TypeInfo) (z : Value) (size bytes : Nat) (ht : P.underlying t = some (.slice e)) (hi : P.info? e = some i) (hz : i.zero = some z)
    (hsize : i.size = size) (hby : i.bytes = bytes) (hzs : z.cells.size = size) (hsz : 0 < size)
    (v : Value) (xs : List α) (hs : a.eval s = v) (hown : OwnSl w base e size R v xs)
    (u : Value) (ys : List α) (hx : a.eval x = u) (hu : Sl w D size R u ys) (h1 : ∀ y ∈ ys, ∀ cs, R y cs → ∀ c ∈ cs, c.oneCell' = true)
    (h63 : xs.length + ys.length ≤ maxLen) (hbytes : (xs.length + ys.length) * bytes ≤ 140737488355328) (hbase : base ≤ w.heap.size)
    (h : ∀ v' w', OwnSl w' base e size R v' (xs ++ ys) → w.grownBy w' v.ownBlock → wpList P ops Q rest (a.put o.dst v') w') : wpList P ops Q (o :: rest) a w := by
  obtain ⟨au, cu, rows, hv, hr, hcm, hnone, hcell⟩ := hu.rows
  obtain ⟨rows0, hr0, ho0⟩ := hown
  cases au with
  | none =>
    obtain ⟨hc0, hy⟩ := hnone rfl
    subst hc0 hy
    refine wpList_append_own_none hgd s x t ho base e i size ht hi v xs.length rows0.flatten hs ho0 (by rw [hx, hv]; rfl) (h v w ⟨rows0, by simpa using hr0, by simpa using ho0⟩ ⟨rfl, rfl, rfl, Nat.le_refl _, fun _ _ _ => rfl⟩)
  | some ad =>
    refine wpList_append_own w hgd s x t ho base e i z size bytes ht hi hz hsize hby hzs hsz v xs.length rows0.flatten hs ho0 ad ys.length cu rows.flatten (by rw [hx, hv]) (by rw [flat_len rows hr.size, hr.len]) (hcell ad rfl) ?_ h63 hbytes hbase
      fun v' w' hown' hg _ => h v' w' ⟨rows0 ++ rows, hr0.app hr, by simpa using hown'⟩ hg
    intro c hc
    obtain ⟨r, hrm, hcr⟩ := List.mem_flatten.1 hc
    obtain ⟨k, hk⟩ := List.getElem?_of_mem hrm
    have hkl : k < ys.length := by rw [← hr.len]; exact (List.getElem?_eq_some_iff.1 hk).1
    exact h1 ys[k] (List.getElem_mem hkl) r (hr.rel k _ r (List.getElem?_eq_getElem hkl) hk) c hcr

/-- how long the first k are together. -/
def lenTo {α : Type} (ls : List (List α)) (k : Nat) : Nat := (ls.take k).flatten.length
theorem flat_take_succ {α : Type} (ls : List (List α)) (k : Nat) (h : k < ls.length) : (ls.take k).flatten ++ ls[k] = (ls.take (k + 1)).flatten := by
  rw [List.take_succ_eq_append_getElem h, List.flatten_append, List.flatten_singleton]
theorem lenTo_succ {α : Type} (ls : List (List α)) (k : Nat) (h : k < ls.length) : lenTo ls (k + 1) = lenTo ls k + ls[k].length := by
  unfold lenTo; rw [← flat_take_succ ls k h, List.length_append]
theorem lenTo_le {α : Type} (ls : List (List α)) (k : Nat) (_h : k ≤ ls.length) : lenTo ls k ≤ lenTo ls ls.length := by
  unfold lenTo
  have := congrArg (fun l => l.flatten.length) (List.take_append_drop k ls)
  rw [List.take_length]
  simp only [List.flatten_append, List.length_append] at this
  omega
end Go.Proofs.YthkgjohhbdipcaaGreatDoor
namespace Go.Proofs.YthkgjohhbdipcaaGreatDoor
open Go.RowKit

theorem RowsOf.cons {α : Type} {sz : Nat} {R : α → List Value → Prop} {x : α} {xs : List α} {r : List Value} {rows : List (List Value)} (h : RowsOf sz R xs rows) (hx : R x r) (hl : r.length = sz) : RowsOf sz R (x :: xs) (r :: rows) := by
  refine ⟨by simp [h.len], fun t ht => ?_, fun i y t hy ht => ?_⟩
  · rcases List.mem_cons.1 ht with rfl | ht
    · exact hl
    · exact h.size t ht
  · cases i with
    | zero => simp at hy ht; subst hy ht; exact hx
    | succ i => exact h.rel i y t (by simpa using hy) (by simpa using ht)
theorem sl_block {α : Type} {w : World} {D : Nat → Prop} {sz b : Nat} {R : α → List Value → Prop} {xs : List α} {rows : List (List Value)} {cs : List Value} {T : TypeId} {fr : Nat × Nat} (hr : RowsOf sz R xs rows)
    (hb : w.heap[b]? = some (.cells cs.toArray T fr)) (hcs : cs = rows.flatten) (hD : D b) (hm : xs.length ≤ maxLen) : Sl w D sz R (.slice (some ⟨b, 0, none⟩) xs.length xs.length) xs := by
  refine ⟨some ⟨b, 0, none⟩, xs.length, rfl, Nat.le_refl _, hm, (fun h => by cases h), fun _ => ⟨b, 0, rfl, hD, (Array.getElem?_eq_some_iff.1 hb).1, fun i x hx => ?_⟩⟩
  have hi : i < rows.length := by rw [hr.len]; exact (List.getElem?_eq_some_iff.1 hx).1
  have hri : rows[i]? = some rows[i] := List.getElem?_eq_getElem hi
  have hsz := hr.size _ (List.getElem_mem hi)
  refine ⟨rows[i], hsz, hr.rel i x _ hx hri, fun j u hu => ?_⟩
  have hj : j < sz := by rw [← hsz]; exact (List.getElem?_eq_some_iff.1 hu).1
  have h1 := flat_get rows i _ hr.size hri j hj
  rw [hu, ← hcs] at h1
  simp only [World.cell?, hb, Nat.zero_add]
  simpa using h1
theorem Sl.at_ {α : Type} {w : World} {D : Nat → Prop} {sz n c : Nat} {a : Option Addr} {R : α → List Value → Prop} {xs : List α} (h : Sl w D sz R (.slice a n c) xs) (h0 : 0 < xs.length) : ∃ b o, a = some ⟨b, o, none⟩ ∧ D b ∧ b < w.heap.size := by
  obtain ⟨a', c', hv, _, _, _, hat⟩ := h
  injection hv with h1 _ _
  subst h1
  obtain ⟨b, o, ha, hD, hb, _⟩ := hat h0
  exact ⟨b, o, ha, hD, hb⟩
theorem Sl.monoD {α : Type} {w : World} {D D' : Nat → Prop} {sz : Nat} {R : α → List Value → Prop} {v : Value} {xs : List α} (h : Sl w D sz R v xs) (hD : ∀ b, D b → D' b) : Sl w D' sz R v xs :=
  Sl.mono h (fun b hb _ => hD b hb) (fun _ _ _ => rfl) (Nat.le_refl _) (fun _ _ _ h => h)
theorem Sl.belowR {α : Type} {w w' : World} {D : Nat → Prop} {sz : Nat} {R R' : α → List Value → Prop} {v : Value} {xs : List α} (h : Sl w D sz R v xs) (hb : Below w.heap.size w w') (hR : ∀ x ∈ xs, ∀ cs, R x cs → R' x cs) : Sl w' D sz R' v xs :=
  Sl.mono h (fun _ h _ => h) (fun b _ hlt => hb.block b hlt) hb.size hR
/-! ### stores into a block that is known whole -/
theorem set_at {W : World} {b o : Nat} {cs : Array Value} {T : TypeId} {fr : Nat × Nat} {v : Value} (h : W.heap[b]? = some (.cells cs T fr)) : (W.setCell ⟨b, o, none⟩ v).heap[b]? = some (.cells (cs.setIfInBounds o v) T fr) := by
  show (W.heap.modify b _)[b]? = _
  rw [Array.getElem?_modify, if_pos rfl, h]
  rfl
theorem set_other {W : World} {a : Addr} {v : Value} {k : Nat} (h : k ≠ a.block) : (W.setCell a v).heap[k]? = W.heap[k]? := by
  show (W.heap.modify a.block _)[k]? = _
  rw [Array.getElem?_modify, if_neg (fun e => h e.symm)]
theorem set_size (W : World) (a : Addr) (v : Value) : (W.setCell a v).heap.size = W.heap.size := by
  show (W.heap.modify a.block _).size = _
  rw [Array.size_modify]
theorem set_below {B : Nat} {w W : World} {a : Addr} {v : Value} (h : Below B w W) (hb : B ≤ a.block) : Below B w (W.setCell a v) :=
  h.trans ⟨rfl, rfl, rfl, by rw [set_size]; exact Nat.le_refl _, fun k hk => set_other (by omega)⟩
theorem not_frozen {W : World} {b : Nat} {cs : Array Value} {T : TypeId} (h : W.heap[b]? = some (.cells cs T)) (j : Nat) : W.frozen? ⟨b, j, none⟩ = false := by
  simp only [World.frozen?, h]; simp
theorem cells_of {W : World} {b : Nat} {cs : Array Value} {T : TypeId} {fr : Nat × Nat} (h : W.heap[b]? = some (.cells cs T fr)) (j : Nat) : W.cell? ⟨b, j, none⟩ = cs[j]? := by simp [World.cell?, h]

theorem heap_setCells (g : Nat) : ∀ (vs : List Value) (o : Nat) (w : World), (w.setCells g o vs).os = w.os ∧ (w.setCells g o vs).tape = w.tape ∧ (w.setCells g o vs).output = w.output ∧ (w.setCells g o vs).heap.size = w.heap.size ∧ ∀ b, b ≠ g → (w.setCells g o vs).heap[b]? = w.heap[b]?
  | [], _, _ => ⟨rfl, rfl, rfl, rfl, fun _ _ => rfl⟩
  | v :: vs, o, w => by
    obtain ⟨h1, h2, h3, h4, h5⟩ := heap_setCells g vs (o + 1) (w.setCell ⟨g, o, none⟩ v)
    exact ⟨h1, h2, h3, h4.trans (set_size _ _ _), fun b hb => (h5 b hb).trans (set_other hb)⟩
theorem below_setCells {B g o : Nat} {vs : List Value} {w W : World} (h : Below B w W) (hb : B ≤ g) : Below B w (W.setCells g o vs) := by
  obtain ⟨h1, h2, h3, h4, h5⟩ := heap_setCells g vs o W
  exact h.trans ⟨h1, h2, h3, by rw [h4]; exact Nat.le_refl _, fun b hlt => h5 b (by omega)⟩
theorem blk_setCells {g : Nat} {T : TypeId} {fr : Nat × Nat} : ∀ (vs : List Value) (o : Nat) (w : World) (cur : Array Value), w.heap[g]? = some (.cells cur T fr) → ∃ cur' : Array Value, cur'.size = cur.size ∧ (w.setCells g o vs).heap[g]? = some (.cells cur' T fr)
  | [], _, _, cur, h => ⟨cur, rfl, h⟩
  | v :: vs, o, w, cur, h => by
    obtain ⟨cur', h1, h2⟩ := blk_setCells vs (o + 1) (w.setCell ⟨g, o, none⟩ v) _ (set_at h)
    exact ⟨cur', by simpa using h1, h2⟩
end Go.Proofs.YthkgjohhbdipcaaGreatDoor
namespace Go.Proofs
open Go.Shelf
def Tryz.laysM171_ren : Go.Shelf.Ren := ⟨fun | 171 => 65 | 243 => 101 | 246 => 140 | 283 => 164 | 284 => 165 | 285 => 166 | 286 => 167 | 129 => 197 | 317 => 196 | 318 => 198 | 319 => 199 | 320 => 200 | 337 => 220 | 338 => 221 | n => n, fun | 3 => 3 | 9 => 9 | 2 => 2 | 4 => 4 | 171 => 199 | 0 => 0 | 53 => 200 | 37 => 23 | 5 => 5 | 173 => 203 | 212 => 242 | 51 => 223 | 20 => 20 | 213 => 243 | 46 => 208 | 232 => 290 | 233 => 291 | n => n, fun | 17 => 3 | 18 => 8 | 19 => 9 | n => n⟩
theorem Tryz.laysM171 : Go.Proofs.LaysM.n171 Tryz.prog Tryz.laysM171_ren := {
  mixed := by kernel_rfl
  f129 := Tryz.func197.trans (congrArg some (by kernel_rfl))
  f171 := Tryz.func65.trans (congrArg some (by kernel_rfl))
  f243 := Tryz.func101.trans (congrArg some (by kernel_rfl))
  f246 := Tryz.func140.trans (congrArg some (by kernel_rfl))
  f283 := Tryz.func164.trans (congrArg some (by kernel_rfl))
  f284 := Tryz.func165.trans (congrArg some (by kernel_rfl))
  f285 := Tryz.func166.trans (congrArg some (by kernel_rfl))
  f286 := Tryz.func167.trans (congrArg some (by kernel_rfl))
  f317 := Tryz.func196.trans (congrArg some (by kernel_rfl))
  f318 := Tryz.func198.trans (congrArg some (by kernel_rfl))
  f319 := Tryz.func199.trans (congrArg some (by kernel_rfl))
  f320 := Tryz.func200.trans (congrArg some (by kernel_rfl))
  f337 := Tryz.func220.trans (congrArg some (by kernel_rfl))
  f338 := Tryz.func221.trans (congrArg some (by kernel_rfl))
  t0 := Tryz.underlying0
  a0 := Tryz.isAgg0
  z0 := Tryz.sizeOf0
  v0 := Tryz.zeroValue0
  t2 := Tryz.underlying2
  a2 := Tryz.isAgg2
  z2 := Tryz.sizeOf2
  v2 := Tryz.zeroValue2
  t3 := Tryz.underlying3
  a3 := Tryz.isAgg3
  z3 := Tryz.sizeOf3
  v3 := Tryz.zeroValue3
  t4 := Tryz.underlying4
  a4 := Tryz.isAgg4
  z4 := Tryz.sizeOf4
  v4 := Tryz.zeroValue4
  t5 := Tryz.underlying5
  a5 := Tryz.isAgg5
  z5 := Tryz.sizeOf5
  v5 := Tryz.zeroValue5
  t9 := Tryz.underlying9
  a9 := Tryz.isAgg9
  z9 := Tryz.sizeOf9
  v9 := Tryz.zeroValue9
  t20 := Tryz.underlying20
  a20 := Tryz.isAgg20
  z20 := Tryz.sizeOf20
  v20 := Tryz.zeroValue20
  t37 := Tryz.underlying23
  a37 := Tryz.isAgg23
  z37 := Tryz.sizeOf23
  v37 := Tryz.zeroValue23
  t46 := Tryz.underlying208
  a46 := Tryz.isAgg208
  z46 := Tryz.sizeOf208
  v46 := Tryz.zeroValue208
  t51 := Tryz.underlying223
  a51 := Tryz.isAgg223
  z51 := Tryz.sizeOf223
  v51 := Tryz.zeroValue223
  t53 := Tryz.underlying200
  a53 := Tryz.isAgg200
  z53 := Tryz.sizeOf200
  v53 := Tryz.zeroValue200
  t171 := Tryz.underlying199
  a171 := Tryz.isAgg199
  z171 := Tryz.sizeOf199
  v171 := Tryz.zeroValue199
  t173 := Tryz.underlying203
  a173 := Tryz.isAgg203
  z173 := Tryz.sizeOf203
  v173 := Tryz.zeroValue203
  t212 := Tryz.underlying242
  a212 := Tryz.isAgg242
  z212 := Tryz.sizeOf242
  v212 := Tryz.zeroValue242
  t213 := Tryz.underlying243
  a213 := Tryz.isAgg243
  z213 := Tryz.sizeOf243
  t232 := Tryz.underlying290
  a232 := Tryz.isAgg290
  z232 := Tryz.sizeOf290
  v232 := Tryz.zeroValue290
  t233 := Tryz.underlying291
  a233 := Tryz.isAgg291
  z233 := Tryz.sizeOf291
  v233 := Tryz.zeroValue291
  g17 := by kernel_rfl
  g18 := by kernel_rfl
  g19 := by kernel_rfl
  i0 := by kernel_rfl
  i2 := by kernel_rfl
  i3 := by kernel_rfl
  i4 := by kernel_rfl
  i5 := by kernel_rfl
  i9 := by kernel_rfl
  i20 := by kernel_rfl
  i37 := by kernel_rfl
  i46 := by kernel_rfl
  i51 := by kernel_rfl
  i53 := by kernel_rfl
  i171 := by kernel_rfl
  i173 := by kernel_rfl
  i212 := by kernel_rfl
  i232 := by kernel_rfl
  i233 := by kernel_rfl
  m17 := by kernel_rfl
  m18 := by kernel_rfl
  m19 := by kernel_rfl }
open Go.RowKit Go.Sort Go.Lib in
theorem Tryz.strconv_Itoa (n : Int) (h0 : -9223372036854775808 ≤ n) (h1 : n ≤ 9223372036854775807) (w : World) (htab : Lib.TabIs Tryz.prog w "internal/strconv.uint64pow10" .u64 Lib.pow10Tab) :
    Calls Tryz.prog 65 #[.int .i64 n] w fun e w' => e = .returned (.string ⟨(Lib.itoa n).toArray⟩) ∧ ∃ k os, w' = grow (w.drewN k) os := Any.strconv_Itoa Tryz.laysM171 n h0 h1 w htab
def Tryz.lays157_ren : Go.Shelf.Ren := ⟨fun | 157 => 113 | 229 => 146 | 199 => 147 | 261 => 181 | 311 => 207 | 312 => 208 | n => n, fun | 9 => 9 | 31 => 101 | 3 => 3 | 5 => 5 | 4 => 4 | 119 => 187 | 0 => 0 | 40 => 189 | 152 => 220 | 21 => 21 | 154 => 222 | 51 => 223 | 141 => 225 | 196 => 255 | 193 => 252 | 198 => 258 | 49 => 256 | 194 => 253 | 201 => 261 | 226 => 278 | 46 => 208 | 227 => 279 | n => n, fun | 0 => 0 | 6 => 2 | n => n⟩
theorem Tryz.lays157 : Go.Proofs.Lays.n157 Tryz.prog Tryz.lays157_ren := {
  mixed := by kernel_rfl
  f157 := Tryz.func113.trans (congrArg some (by kernel_rfl))
  f199 := Tryz.func147.trans (congrArg some (by kernel_rfl))
  f229 := Tryz.func146.trans (congrArg some (by kernel_rfl))
  f261 := Tryz.func181.trans (congrArg some (by kernel_rfl))
  f311 := Tryz.func207.trans (congrArg some (by kernel_rfl))
  f312 := Tryz.func208.trans (congrArg some (by kernel_rfl))
  t0 := Tryz.underlying0
  a0 := Tryz.isAgg0
  z0 := Tryz.sizeOf0
  v0 := Tryz.zeroValue0
  t3 := Tryz.underlying3
  a3 := Tryz.isAgg3
  z3 := Tryz.sizeOf3
  v3 := Tryz.zeroValue3
  t4 := Tryz.underlying4
  a4 := Tryz.isAgg4
  z4 := Tryz.sizeOf4
  v4 := Tryz.zeroValue4
  t5 := Tryz.underlying5
  a5 := Tryz.isAgg5
  z5 := Tryz.sizeOf5
  v5 := Tryz.zeroValue5
  t9 := Tryz.underlying9
  a9 := Tryz.isAgg9
  z9 := Tryz.sizeOf9
  v9 := Tryz.zeroValue9
  t21 := Tryz.underlying21
  a21 := Tryz.isAgg21
  z21 := Tryz.sizeOf21
  v21 := Tryz.zeroValue21
  t31 := Tryz.underlying101
  a31 := Tryz.isAgg101
  z31 := Tryz.sizeOf101
  v31 := Tryz.zeroValue101
  t40 := Tryz.underlying189
  a40 := Tryz.isAgg189
  z40 := Tryz.sizeOf189
  v40 := Tryz.zeroValue189
  t46 := Tryz.underlying208
  a46 := Tryz.isAgg208
  z46 := Tryz.sizeOf208
  v46 := Tryz.zeroValue208
  t49 := Tryz.underlying256
  a49 := Tryz.isAgg256
  z49 := Tryz.sizeOf256
  v49 := Tryz.zeroValue256
  t51 := Tryz.underlying223
  a51 := Tryz.isAgg223
  z51 := Tryz.sizeOf223
  v51 := Tryz.zeroValue223
  t119 := Tryz.underlying187
  a119 := Tryz.isAgg187
  z119 := Tryz.sizeOf187
  t141 := Tryz.underlying225
  a141 := Tryz.isAgg225
  z141 := Tryz.sizeOf225
  v141 := Tryz.zeroValue225
  t152 := Tryz.underlying220
  a152 := Tryz.isAgg220
  z152 := Tryz.sizeOf220
  v152 := Tryz.zeroValue220
  t154 := Tryz.underlying222
  a154 := Tryz.isAgg222
  z154 := Tryz.sizeOf222
  v154 := Tryz.zeroValue222
  t193 := Tryz.underlying252
  a193 := Tryz.isAgg252
  z193 := Tryz.sizeOf252
  v193 := Tryz.zeroValue252
  t194 := Tryz.underlying253
  a194 := Tryz.isAgg253
  z194 := Tryz.sizeOf253
  v194 := Tryz.zeroValue253
  t196 := Tryz.underlying255
  a196 := Tryz.isAgg255
  z196 := Tryz.sizeOf255
  v196 := Tryz.zeroValue255
  t198 := Tryz.underlying258
  a198 := Tryz.isAgg258
  z198 := Tryz.sizeOf258
  v198 := Tryz.zeroValue258
  t201 := Tryz.underlying261
  a201 := Tryz.isAgg261
  z201 := Tryz.sizeOf261
  v201 := Tryz.zeroValue261
  t226 := Tryz.underlying278
  a226 := Tryz.isAgg278
  z226 := Tryz.sizeOf278
  v226 := Tryz.zeroValue278
  t227 := Tryz.underlying279
  a227 := Tryz.isAgg279
  z227 := Tryz.sizeOf279
  v227 := Tryz.zeroValue279
  g0 := by kernel_rfl
  g6 := by kernel_rfl }
open Go.RowKit Go.Lib in
theorem Tryz.strings_Fields (s : ByteArray) (w : World) (hs : s.size < 4294967281) (hascii : ∀ (j : Nat) b, s.data.toList[j]? = some b → b.toNat < 128) (htab : Lib.TabIs Tryz.prog w "strings.asciiSpace" .u8 Lib.asciiSpaceTab) :
    Calls Tryz.prog 113 #[.string s] w fun e w' =>
      e = .returned (.slice (some ⟨w.heap.size, 0, none⟩) (Lib.fields s.data.toList).length (Lib.fields s.data.toList).length) ∧ w' = w.alloc (.cells ((Lib.fields s.data.toList).map fun l => Value.string ⟨l.toArray⟩).toArray 9) := Any.strings_Fields Tryz.lays157 (by kernel_rfl) (by kernel_rfl) s w hs hascii htab
end Go.Proofs
namespace Go.Proofs.YthkgjohhbdipcaaGreatDoor

def verdictW (v : Int) : List UInt8 :=
  if v = 0 then [107, 105, 108, 108] else if v = 1 then [116, 114, 97, 112] else if v = 2 then [102, 97, 105, 108] else if v = 3 then [108, 111, 103] else [97, 108, 108, 111, 119]
def fieldW (f : Int) : List UInt8 := if f = 0 then [110, 114] else if f = 1 then [107, 105, 110, 100] else if f = 2 then [97] else if f = 3 then [98] else [99]
def opW (o : Int) : UInt8 := if o = 1 then 61 else if o = 2 then 33 else if o = 3 then 60 else 62
def condW (c : TCond) : List UInt8 := fieldW c.f ++ opW c.op :: Lib.itoa c.v
def ruleW (r : TRule) : List UInt8 := verdictW r.verdict ++ r.conds.flatMap (fun c => 32 :: condW c)
/-- chapter 3's Print. -/
def textP (p : TPol) : List UInt8 := p.rules.flatMap (fun r => ruleW r ++ [59]) ++ verdictW p.dflt

/-! ### cut and split at one byte -/
theorem idx_ne {b c : UInt8} {l : List UInt8} (h : b ≠ c) : Lib.index (b :: l) [c] = if Lib.index l [c] == -1 then -1 else Lib.index l [c] + 1 := by
  conv => lhs; unfold Lib.index
  rw [if_neg (by simp [List.isPrefixOf, Ne.symm h])]
theorem idx_eq {c : UInt8} {l : List UInt8} : Lib.index (c :: l) [c] = 0 := by
  unfold Lib.index
  rw [if_pos (by simp [List.isPrefixOf])]
theorem idx_none : ∀ {l : List UInt8} {c : UInt8}, c ∉ l → Lib.index l [c] = -1
  | [], _, _ => rfl
  | b :: l, c, h => by
    rw [idx_ne (fun e => h (by rw [e]; exact List.mem_cons_self ..)), idx_none (fun e => h (List.mem_cons_of_mem _ e))]
    rfl
theorem idx_app : ∀ {a l : List UInt8} {c : UInt8}, c ∉ a → Lib.index (a ++ c :: l) [c] = a.length
  | [], _, _, _ => idx_eq
  | b :: a, l, c, h => by
    rw [List.cons_append, idx_ne (fun e => h (by rw [e]; exact List.mem_cons_self ..)), idx_app (fun e => h (List.mem_cons_of_mem _ e))]
    rw [if_neg (by rw [beq_iff_eq]; omega)]
    simp
theorem cut_none {l : List UInt8} {c : UInt8} (h : c ∉ l) : Lib.cut l [c] = (l, [], false) := by
  unfold Lib.cut
  rw [idx_none h, if_neg (by omega)]
theorem cut_app {a l : List UInt8} {c : UInt8} (h : c ∉ a) : Lib.cut (a ++ c :: l) [c] = (a, l, true) := by
  unfold Lib.cut
  rw [idx_app h, if_pos (by omega)]
  simp
theorem split_none {l : List UInt8} {c : UInt8} (h : c ∉ l) : Lib.split l [c] = [l] := by
  unfold Lib.split
  rw [Lib.count_one, List.count_eq_zero.2 h]
  rfl
theorem split_app {a l : List UInt8} {c : UInt8} (h : c ∉ a) : Lib.split (a ++ c :: l) [c] = a :: Lib.split l [c] := by
  unfold Lib.split
  rw [Lib.count_one, List.count_append, List.count_eq_zero.2 h, List.count_cons_self, Nat.zero_add, Lib.count_one]
  conv => lhs; unfold Lib.splitK
  rw [idx_app h, if_neg (by rw [beq_iff_eq]; omega)]
  simp
theorem words_text : ∀ (ws : List (List UInt8)) (w0 : List UInt8), 32 ∉ w0 → (∀ u ∈ ws, 32 ∉ u) → words (w0 ++ ws.flatMap (fun u => 32 :: u)) = w0 :: ws
  | [], w0, h, _ => by
    simp only [List.flatMap_nil, List.append_nil]
    exact split_none h
  | u :: ws, w0, h, hw => by
    simp only [List.flatMap_cons, List.cons_append]
    unfold words
    rw [split_app h]
    congr 1
    exact words_text ws u (hw u (List.mem_cons_self ..)) (fun x hx => hw x (List.mem_cons_of_mem _ hx))
theorem text_words : ∀ (n : Nat) (t : List UInt8), t.length ≤ n → ∃ w0 ws, words t = w0 :: ws ∧ t = w0 ++ ws.flatMap (fun u => 32 :: u)
  | n, t, hn => by
    by_cases h : (32 : UInt8) ∈ t
    · obtain ⟨a, r, rfl, ha⟩ := List.eq_append_cons_of_mem h
      cases n with
      | zero => simp at hn
      | succ n =>
        obtain ⟨w0, ws, h1, h2⟩ := text_words n r (by simp at hn; omega)
        refine ⟨a, w0 :: ws, ?_, ?_⟩
        · unfold words at h1 ⊢
          rw [split_app ha, h1]
        · simp only [List.flatMap_cons, List.cons_append]
          rw [← h2]
    · exact ⟨t, [], split_none h, by simp⟩

/-! ### words -/
theorem verdictOf_W {v : Int} (h0 : 0 ≤ v) (h1 : v ≤ 4) : verdictOf (verdictW v) = some v := by
  rcases (by omega : v = 0 ∨ v = 1 ∨ v = 2 ∨ v = 3 ∨ v = 4) with rfl | rfl | rfl | rfl | rfl <;> decide
theorem verdictOf_some {l : List UInt8} {v : Int} (h : verdictOf l = some v) : l = verdictW v := by
  unfold verdictOf at h
  repeat (split at h; · (rename_i e; injection h with h; subst h; rw [e]; decide))
  cases h
theorem fieldOf_W {v : Int} (h0 : 0 ≤ v) (h1 : v < 5) : fieldOf (fieldW v) = some v := by
  rcases (by omega : v = 0 ∨ v = 1 ∨ v = 2 ∨ v = 3 ∨ v = 4) with rfl | rfl | rfl | rfl | rfl <;> decide
theorem fieldOf_some {l : List UInt8} {v : Int} (h : fieldOf l = some v) : l = fieldW v := by
  unfold fieldOf at h
  repeat (split at h; · (rename_i e; injection h with h; subst h; rw [e]; decide))
  cases h
theorem opOf_W {o : Int} (h0 : 1 ≤ o) (h1 : o ≤ 4) : opOf (opW o) = o := by
  rcases (by omega : o = 1 ∨ o = 2 ∨ o = 3 ∨ o = 4) with rfl | rfl | rfl | rfl <;> decide
theorem opW_of {b : UInt8} (h : opOf b ≠ 0) : opW (opOf b) = b := by
  unfold opOf at h ⊢
  repeat (split; · (rename_i e; rw [e]; decide))
  rename_i h1 h2 h3 h4
  exact absurd rfl (by rw [if_neg h1, if_neg h2, if_neg h3, if_neg h4] at h; exact h)
/-- letters alone: nothing that parts words. -/
def plainB (b : UInt8) : Bool := 97 ≤ b && b ≤ 122
theorem verdictW_plain (v : Int) : ∀ b ∈ verdictW v, plainB b = true := by
  unfold verdictW
  repeat (split; · decide)
  decide
theorem fieldW_plain (v : Int) : ∀ b ∈ fieldW v, plainB b = true := by
  unfold fieldW
  repeat (split; · decide)
  decide
theorem plain_ne {l : List UInt8} {c : UInt8} (h : ∀ b ∈ l, plainB b = true) (hc : plainB c = false) : c ∉ l := fun hm => by
  rw [h c hm] at hc; cases hc
theorem plain_op {b : UInt8} (h : plainB b = true) : opOf b = 0 := by
  have h1 : b ≠ 61 := fun e => by subst e; cases h
  have h2 : b ≠ 33 := fun e => by subst e; cases h
  have h3 : b ≠ 60 := fun e => by subst e; cases h
  have h4 : b ≠ 62 := fun e => by subst e; cases h
  unfold opOf
  rw [if_neg h1, if_neg h2, if_neg h3, if_neg h4]
theorem opW_cases (o : Int) : opW o = 61 ∨ opW o = 33 ∨ opW o = 60 ∨ opW o = 62 := by
  unfold opW
  repeat (split; · simp)
  simp
theorem opAt_app : ∀ {a r : List UInt8} {b : UInt8}, (∀ x ∈ a, opOf x = 0) → opOf b ≠ 0 → opAt (a ++ b :: r) = a.length
  | [], _, _, _, hb => by
    rw [List.nil_append]; unfold opAt; rw [if_neg hb]; rfl
  | x :: a, r, b, ha, hb => by
    rw [List.cons_append]; unfold opAt
    rw [if_pos (ha x (List.mem_cons_self ..)), opAt_app (fun y hy => ha y (List.mem_cons_of_mem _ hy)) hb]
    rfl
theorem condW_no {c : TCond} (h0 : 0 ≤ c.v) {b : UInt8} (hb : plainB b = false) (hb1 : b ≠ 61) (hb2 : b ≠ 33) (hb3 : b ≠ 60) (hb4 : b ≠ 62) (hb5 : b.toNat < 48 ∨ 57 < b.toNat) : b ∉ condW c := by
  unfold condW
  intro hm
  rcases List.mem_append.1 hm with hm | hm
  · exact plain_ne (fieldW_plain _) hb hm
  · rcases List.mem_cons.1 hm with hm | hm
    · rcases opW_cases c.op with e | e | e | e <;> rw [e] at hm <;> first | exact hb1 hm | exact hb2 hm | exact hb3 hm | exact hb4 hm
    · have := (itoa_digits h0).1 b hm; omega
theorem most_le (f : Int) : mostOf f ≤ 65535 := by unfold mostOf; split <;> (try split) <;> omega
theorem condOf_W {c : TCond} (h : OkCond c) : condOf (condW c) = some c := by
  have h0 := h.v0
  have h1 := h.v1
  have h2 := most_le c.f
  have ho : opOf (opW c.op) = c.op := opOf_W h.o0 h.o1
  have hat : opAt (condW c) = (fieldW c.f).length := opAt_app (fun x hx => plain_op (fieldW_plain _ x hx)) (by rw [ho]; have := h.o0; omega)
  have hd : (condW c).drop ((fieldW c.f).length + 1) = Lib.itoa c.v := by unfold condW; rw [List.drop_append]; simp
  have ht : (condW c).take (fieldW c.f).length = fieldW c.f := by unfold condW; simp
  have hg : (condW c).getD (fieldW c.f).length 0 = opW c.op := by
    unfold condW
    rw [List.getD_eq_getElem?_getD, List.getElem?_append_right (Nat.le_refl _)]
    simp
  unfold condOf
  rw [hat, if_neg (by unfold condW; simp), ht, fieldOf_W h.f0 h.f1]
  dsimp only
  rw [hd, hg, whole_itoa h0 (by omega), ho]
  simp
theorem opAt_lt : ∀ (u : List UInt8), opAt u ≠ u.length → ∃ b, u[opAt u]? = some b ∧ opOf b ≠ 0
  | [], h => absurd rfl h
  | b :: l, h => by
    unfold opAt at h ⊢
    by_cases hb : opOf b = 0
    · rw [if_pos hb] at h ⊢
      obtain ⟨c, h1, h2⟩ := opAt_lt l (by simpa using h)
      exact ⟨c, by simpa using h1, h2⟩
    · rw [if_neg hb]
      exact ⟨b, rfl, hb⟩
theorem condOf_some {u : List UInt8} {c : TCond} (h : condOf u = some c) : u = condW c := by
  unfold condOf at h
  split at h
  · cases h
  · rename_i hne
    obtain ⟨b, hb, hop⟩ := opAt_lt u hne
    split at h
    · cases h
    · rename_i f hf
      split at h
      · rename_i hw
        injection h with h
        subst h
        have hg : u.getD (opAt u) 0 = b := by rw [List.getD_eq_getElem?_getD, hb]; rfl
        unfold condW
        dsimp only
        rw [hg, opW_of hop, ← fieldOf_some hf, ← whole_some hw]
        have hlt := (List.getElem?_eq_some_iff.1 hb).1
        have he := (List.getElem?_eq_some_iff.1 hb).2
        rw [← he, ← List.drop_eq_getElem_cons hlt, List.take_append_drop]
      · cases h
theorem condsOf_W : ∀ {cs : List TCond}, (∀ c ∈ cs, OkCond c) → condsOf (cs.map condW) = some cs
  | [], _ => rfl
  | c :: cs, h => by
    simp only [List.map_cons, condsOf]
    rw [condOf_W (h c (List.mem_cons_self ..)), condsOf_W (fun x hx => h x (List.mem_cons_of_mem _ hx))]
    rfl
theorem condsOf_some : ∀ {ws : List (List UInt8)} {cs : List TCond}, condsOf ws = some cs → ws = cs.map condW
  | [], cs, h => by simp only [condsOf, Option.some.injEq] at h; subst h; rfl
  | u :: ws, cs, h => by
    unfold condsOf at h
    split at h
    · cases h
    · rename_i c hc
      cases hr : condsOf ws with
      | none => rw [hr] at h; cases h
      | some cs' =>
        rw [hr] at h
        simp only [Option.map_some, Option.some.injEq] at h
        subst h
        rw [condOf_some hc, condsOf_some hr]
        rfl

/-! ### whole texts -/
theorem rule_text (r : TRule) : ruleW r = verdictW r.verdict ++ (r.conds.map condW).flatMap (fun u => 32 :: u) := by
  unfold ruleW
  congr 1
  induction r.conds with
  | nil => rfl
  | cons c cs ih => simp only [List.flatMap_cons, List.map_cons, ih]
theorem ruleW_no {r : TRule} (h : OkRule r) : (59 : UInt8) ∉ ruleW r := by
  unfold ruleW
  intro hm
  rcases List.mem_append.1 hm with hm | hm
  · exact plain_ne (verdictW_plain _) (by decide) hm
  · obtain ⟨c, hc, hm⟩ := List.mem_flatMap.1 hm
    rcases List.mem_cons.1 hm with hm | hm
    · exact absurd hm (by decide)
    · exact condW_no (h.conds c hc).v0 (by decide) (by decide) (by decide) (by decide) (by decide) (by decide) hm
theorem words_rule {r : TRule} (h : OkRule r) : words (ruleW r) = verdictW r.verdict :: r.conds.map condW := by
  rw [rule_text]
  refine words_text _ _ (plain_ne (verdictW_plain _) (by decide)) fun u hu => ?_
  obtain ⟨c, hc, rfl⟩ := List.mem_map.1 hu
  exact condW_no (h.conds c hc).v0 (by decide) (by decide) (by decide) (by decide) (by decide) (by decide)
theorem read_text : ∀ (rs : List TRule) (d : Int) (n : Nat), (∀ r ∈ rs, OkRule r) → 0 ≤ d → d ≤ 4 → rs.length < n → pread n (textP ⟨rs, d⟩) = some ⟨rs, d⟩
  | [], d, 0, _, _, _, hn => by simp at hn
  | [], d, n + 1, _, h0, h1, _ => by
    have ht : textP ⟨[], d⟩ = verdictW d := by simp [textP]
    have hc : Lib.cut (verdictW d) [59] = (verdictW d, [], false) := cut_none (plain_ne (verdictW_plain _) (by decide))
    have hw : words (verdictW d) = [verdictW d] := split_none (plain_ne (verdictW_plain _) (by decide))
    rw [ht, pread_step (u0 := verdictW d) (us := []) (by rw [hc]; exact hw), verdictOf_W h0 h1, hc]
    simp
  | r :: rs, d, 0, _, _, _, hn => by simp at hn
  | r :: rs, d, n + 1, hr, h0, h1, hn => by
    have hk := hr r (List.mem_cons_self ..)
    have ht : textP ⟨r :: rs, d⟩ = ruleW r ++ 59 :: textP ⟨rs, d⟩ := by simp [textP]
    have hc : Lib.cut (ruleW r ++ 59 :: textP ⟨rs, d⟩) [59] = (ruleW r, textP ⟨rs, d⟩, true) := cut_app (ruleW_no hk)
    rw [ht, pread_step (u0 := verdictW r.verdict) (us := r.conds.map condW) (by rw [hc]; exact words_rule hk), verdictOf_W hk.v0 hk.v1, hc]
    dsimp only
    rw [if_pos rfl, condsOf_W hk.conds]
    dsimp only
    rw [read_text rs d n (fun x hx => hr x (List.mem_cons_of_mem _ hx)) h0 h1 (by simpa using hn)]
    rfl
theorem text_len : ∀ (rs : List TRule) (d : Int), rs.length ≤ (textP ⟨rs, d⟩).length
  | [], d => by simp
  | r :: rs, d => by
    have ht : textP ⟨r :: rs, d⟩ = ruleW r ++ 59 :: textP ⟨rs, d⟩ := by simp [textP]
    have := text_len rs d
    rw [ht]
    simp only [List.length_append, List.length_cons]
    omega
/-- what is printed is read. -/
theorem print_read {p : TPol} (h : OkPol p) : readP (textP p) = (p, 0) := by
  have hr : pread ((textP p).length + 1) (textP p) = some p := read_text p.rules p.dflt _ h.rules h.d0 h.d1 (by have := text_len p.rules p.dflt; show p.rules.length < (textP ⟨p.rules, p.dflt⟩).length + 1; omega)
  rw [readP_some hr, if_pos ((okPol_iff p).2 h)]
theorem pread_text : ∀ (n : Nat) (s : List UInt8) (p : TPol), pread n s = some p → textP p = s
  | 0, _, _, h => by cases h
  | n + 1, s, p, h => by
    obtain ⟨w0, ws, h1, h2⟩ := text_words _ (Lib.cut s [59]).1 (Nat.le_refl _)
    rw [pread_step h1] at h
    cases hv : verdictOf w0 with
    | none => rw [hv] at h; cases h
    | some v =>
      rw [hv] at h
      dsimp only at h
      have hw0 := verdictOf_some hv
      by_cases hm : (59 : UInt8) ∈ s
      · obtain ⟨a, r, rfl, ha⟩ := List.eq_append_cons_of_mem hm
        rw [cut_app ha] at h h2
        dsimp only at h h2
        rw [if_pos rfl] at h
        cases hc : condsOf ws with
        | none => rw [hc] at h; cases h
        | some cs =>
          rw [hc] at h
          dsimp only at h
          cases hp : pread n r with
          | none => rw [hp] at h; cases h
          | some q =>
            rw [hp] at h
            simp only [Option.map_some, Option.some.injEq] at h
            subst h
            have := pread_text n r q hp
            have ht : textP ⟨⟨cs, v⟩ :: q.rules, q.dflt⟩ = ruleW ⟨cs, v⟩ ++ 59 :: textP q := by simp [textP]
            rw [ht, this, rule_text, ← condsOf_some hc, ← hw0, ← h2]
      · rw [cut_none hm] at h h2
        dsimp only at h h2
        rw [if_neg (by simp)] at h
        split at h
        · cases h
        · rename_i hl
          injection h with h
          subst h
          have : ws = [] := List.length_eq_zero_iff.1 (by omega)
          subst this
          simp only [List.flatMap_nil, List.append_nil] at h2
          simp [textP, h2, hw0]
/-- what is read is printed as it was. -/
theorem read_print {s : List UInt8} {p : TPol} (h : readP s = (p, 0)) : OkPol p ∧ textP p = s := by
  unfold readP at h
  split at h
  · simp at h
  · rename_i q hq
    split at h
    · rename_i h0
      simp only [Prod.mk.injEq, and_true] at h
      subst h
      exact ⟨(okPol_iff q).1 h0, pread_text _ _ _ hq⟩
    · rename_i h0
      simp only [Prod.mk.injEq] at h
      exact absurd h.2 h0
/-- unlike policies have unlike texts. -/
theorem text_inj {p q : TPol} (h : OkPol p) (h' : OkPol q) : textP p = textP q ↔ p = q := by
  constructor
  · intro e
    have h1 := print_read h
    rw [e, print_read h'] at h1
    simp only [Prod.mk.injEq, and_true] at h1
    exact h1.symm
  · rintro rfl; rfl
end Go.Proofs.YthkgjohhbdipcaaGreatDoor
