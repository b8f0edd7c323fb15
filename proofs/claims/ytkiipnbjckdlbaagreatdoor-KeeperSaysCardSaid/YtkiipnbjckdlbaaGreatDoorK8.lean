/- Texts laid one behind the other: Open, OpenPol, KeepRd, OpenKeep, Frame, Same. No condition beyond theirs. -/
import Derived.Test.YtkiipnbjckdlbaaGreatDoorK1
import Derived.OpenShut
import Derived.Deep.Slices
import Derived.ProofKit
import Derived.ChangeOld
import Derived.ChangeSame
import Derived.Carry
import Derived.Test.YtkiipnbjckdlbaaGreatDoorK4
import Derived.Test.YtkiipnbjckdlbaaGreatDoorProg
import Derived.SizedLaws
import Derived.Test.YtkiipnbjckdlbaaGreatDoorK3
import Derived.Test.YtkiipnbjckdlbaaGreatDoorK2
import Derived.Test.YtkiipnbjckdlbaaGreatDoorK6
import Derived.Test.YtkiipnbjckdlbaaGreatDoorRows
import Derived.LaidMore
import Derived.Lay
import Derived.Lib.LaidU8
import Derived.Shelf.Vars
import Derived.Stop.Joined
import Derived.Test.YtkiipnbjckdlbaaGreatDoorK5
import Derived.Laws.StructEq
import Derived.KernelRfl
namespace Go.Proofs.YtkiipnbjckdlbaaGreatDoor
open Go.RowKit Go.ChangeShapes Go.WideShapes Go.Deep

theorem list_of_forall {α : Type} {Q : Nat → α → Prop} : ∀ (n : Nat), (∀ i, i < n → ∃ a, Q i a) → ∃ xs : List α, xs.length = n ∧ ∀ i x, xs[i]? = some x → Q i x
  | 0, _ => ⟨[], rfl, fun i x h => by simp at h⟩
  | n + 1, h => by
    obtain ⟨xs, hl, hx⟩ := list_of_forall n (fun i hi => h i (by omega))
    obtain ⟨a, ha⟩ := h n (by omega)
    refine ⟨xs ++ [a], by simp [hl], fun i x hi => ?_⟩
    rw [List.getElem?_append] at hi
    split at hi
    · exact hx i x hi
    · rename_i hge
      have : i - xs.length = 0 := by
        have := (List.getElem?_eq_some_iff.1 hi).1
        simp at this; exact this
      rw [this] at hi
      simp at hi
      have : i = n := by omega
      subst this; subst hi; exact ha

theorem add_form {b o i j : Nat} : ((⟨b, o, none⟩ : Addr).add i).add j = ⟨b, o + (i + j), none⟩ := by
  unfold Addr.add
  by_cases hi : i = 0 <;> by_cases hj : j = 0 <;> simp [hi, hj, Nat.add_assoc]

section
variable {H : Type} {enc : TypeId × Value → H} {P : Program} {w : World} {base : Nat} {spare : Nat → Bool} {held : Bool}
theorem sl_of_trod {α : Type} {t e : TypeId} {sz fuel : Nat} {R : α → List Value → Prop} {cs : List Value} {x : DataW H × List MemPlace} (ht : P.underlying t = some (.slice e)) (hC : P.cellsOf e = sz) (hsz : 0 < sz)
    (hR : ∀ n cs x, cs.length = sz → DataW.trod enc P w base spare held n e cs = some x → ∃ a : α, R a cs) (h : DataW.trod enc P w base spare held fuel t cs = some x) :
    ∃ (v : Value) (xs : List α), cs = [v] ∧ Sl w (fun _ => True) sz R v xs := by
  rcases open_slice ht h with ⟨h0, _⟩ | ⟨a, len, cap, m, n, D, Pl, hcs, hb, hl, hm, hmm, _, hi⟩
  · exact ⟨_, [], h0, none, 0, rfl, by simp, by unfold maxLen; omega, fun _ => rfl, fun h => absurd h (by simp)⟩
  · have hlm : len ≤ m := by rw [hmm]; split <;> omega
    have hel : ∀ i, i < len → ∃ a' : α, ∃ cs' : List Value, cs'.length = sz ∧ R a' cs' ∧ ∀ j, j < sz → w.cell? ((a.add (i * sz)).add j) = cs'[j]? := fun i hlt => by
      obtain ⟨cs', hc, ht'⟩ := hi i (by omega)
      rw [hC] at hc
      obtain ⟨_, hlen, hcell⟩ := World.cells?_some hc
      obtain ⟨a', ha'⟩ := hR _ _ _ hlen ht'
      exact ⟨a', cs', hlen, ha', hcell⟩
    obtain ⟨xs, hxl, hx⟩ := list_of_forall len hel
    refine ⟨_, xs, hcs, some a, cap, by rw [hxl], by omega, hm, (fun h => by cases h), fun h0 => ?_⟩
    have h00 : xs[0]? = some xs[0] := List.getElem?_eq_getElem h0
    obtain ⟨cs0, hl0, _, hc0⟩ := hx 0 _ h00
    have hc00 := hc0 0 hsz
    rw [List.getElem?_eq_getElem (by omega)] at hc00
    have hspot := World.cell?_spot hc00
    simp [Addr.add] at hspot
    obtain ⟨b, o, s⟩ := a
    dsimp only at hspot
    subst hspot
    refine ⟨b, o, rfl, trivial, ?_, fun i y hy => ?_⟩
    · have := World.block_lt_of_cell? _ _ hc00
      simpa [Addr.add] using this
    · obtain ⟨cs', hl', hr', hc'⟩ := hx i y hy
      refine ⟨cs', hl', hr', fun j u hu => ?_⟩
      have hj : j < sz := by rw [← hl']; exact (List.getElem?_eq_some_iff.1 hu).1
      rw [← hu, ← hc' j hj, add_form]

theorem trod_ints5 {t e : TypeId} {fuel : Nat} {cs : List Value} {x : DataW H × List MemPlace} (ht : P.underlying t = some (.array 5 e)) (he : P.underlying e = some (.int .i64)) (hC : P.cellsOf t = 5) (hCe : P.cellsOf e = 1)
    (h : DataW.trod enc P w base spare held fuel t cs = some x) : ∃ y : TCall, cs = [.int .i64 y.a0, .int .i64 y.a1, .int .i64 y.a2, .int .i64 y.a3, .int .i64 y.a4] := by
  obtain ⟨xs, m, _, _, hlen, hxl, hf⟩ := DataW.trod_array ht h
  rw [hC] at hlen
  match cs, hlen with
  | [c0, c1, c2, c3, c4], _ =>
    match xs, hxl with
    | [x0, x1, x2, x3, x4], _ =>
      have g := fun i (hi : i < 5) => by have := hf i hi; rw [hCe] at this; exact this
      obtain ⟨n0, e0, _⟩ := DataW.trod_int he (g 0 (by omega))
      obtain ⟨n1, e1, _⟩ := DataW.trod_int he (g 1 (by omega))
      obtain ⟨n2, e2, _⟩ := DataW.trod_int he (g 2 (by omega))
      obtain ⟨n3, e3, _⟩ := DataW.trod_int he (g 3 (by omega))
      obtain ⟨n4, e4, _⟩ := DataW.trod_int he (g 4 (by omega))
      simp at e0 e1 e2 e3 e4
      exact ⟨⟨n0, n1, n2, n3, n4⟩, by simp [e0, e1, e2, e3, e4]⟩
theorem open_call {r : Reach} {b0 : Nat} {t e : TypeId} {v : Value} {d : DataW H} {ps : List MemPlace} (ht : P.underlying t = some (.array 5 e)) (he : P.underlying e = some (.int .i64)) (hC : P.cellsOf t = 5) (hCe : P.cellsOf e = 1)
    (hv : Value.okWide P w r b0 t v) (h : DataW.Trod enc P w base spare held t v d ps) : ∃ y : TCall, v = callV y := by
  simp only [Value.okWide, ht] at hv
  obtain ⟨cs, rfl, _, _⟩ := hv
  obtain ⟨fuel, hf⟩ := h
  obtain ⟨y, hy⟩ := trod_ints5 ht he hC hCe hf
  obtain ⟨l⟩ := cs
  exact ⟨y, by simp only [Value.cells] at hy; subst hy; rfl⟩

theorem open_code {t e ei : TypeId} {fs : Array Field} {r : Reach} {b0 : Nat} {v : Value} {d : DataW H} {ps : List MemPlace} (ht : P.underlying t = some (.slice e)) (he : P.underlying e = some (.struct fs)) (hC : P.cellsOf e = 4) (hi : P.underlying ei = some (.int .i64)) (hCi : P.cellsOf ei = 1)
    (hfs : fs.map (fun f => (f.type, f.offset)) = #[(ei, 0), (ei, 1), (ei, 2), (ei, 3)])
    (hv : Value.okWide P w r b0 t v) (h : DataW.Trod enc P w base spare held t v d ps) : ∃ l, RdCode w (fun _ => True) v l := by
  obtain ⟨a, len, cap, rfl⟩ := okWide_slice ht hv
  obtain ⟨fuel, hf⟩ := h
  have hR : ∀ n cs x, cs.length = 4 → DataW.trod enc P w base spare held n e cs = some x → ∃ a : TIns, insR a cs := fun n cs x hl hx => by
    obtain ⟨xs, m, _, _, _, hxl, hg⟩ := DataW.trod_struct he hx
    have hsz : fs.size = 4 := by have := congrArg Array.size hfs; simpa using this
    match cs, hl with
    | [c0, c1, c2, c3], _ =>
      have g : ∀ (i : Nat), i < 4 → ∃ n, ([c0, c1, c2, c3].drop i).take 1 = [.int .i64 n] := fun i hi4 => by
        have hfi : fs[i]? = some fs[i] := Array.getElem?_eq_getElem (by omega)
        have h1 := congrArg (fun a => a[i]?) hfs
        simp only [Array.getElem?_map, hfi, Option.map_some] at h1
        have h2 : fs[i].type = ei ∧ fs[i].offset = i := by
          have : i = 0 ∨ i = 1 ∨ i = 2 ∨ i = 3 := by omega
          rcases this with rfl | rfl | rfl | rfl <;> simpa using h1
        have := hg i _ hfi
        rw [h2.1, h2.2, hCi] at this
        rw [List.getElem?_eq_getElem (by omega)] at this
        obtain ⟨n, e, _⟩ := DataW.trod_int hi this
        exact ⟨n, e⟩
      obtain ⟨n0, e0⟩ := g 0 (by omega)
      obtain ⟨n1, e1⟩ := g 1 (by omega)
      obtain ⟨n2, e2⟩ := g 2 (by omega)
      obtain ⟨n3, e3⟩ := g 3 (by omega)
      simp at e0 e1 e2 e3
      exact ⟨⟨n0, n1, n2, n3⟩, by simp [insR, e0, e1, e2, e3]⟩
  obtain ⟨v', xs, hcs, hsl⟩ := sl_of_trod ht hC (by omega) hR hf
  simp [Value.cells] at hcs
  rw [hcs]
  exact ⟨xs, hsl⟩
end
end Go.Proofs.YtkiipnbjckdlbaaGreatDoor
namespace Go.Proofs.YtkiipnbjckdlbaaGreatDoor
open Go.RowKit Go.ChangeShapes Go.WideShapes Go.Deep
set_option maxRecDepth 100000

theorem field_at {fs : Array Field} {l : Array (TypeId × Nat)} (hfs : fs.map (fun f => (f.type, f.offset)) = l) {i : Nat} {ty : TypeId} {off : Nat} (h : l[i]? = some (ty, off)) : ∃ f, fs[i]? = some f ∧ f.type = ty ∧ f.offset = off := by
  subst hfs
  rw [Array.getElem?_map] at h
  cases hf : fs[i]? with
  | none => rw [hf] at h; cases h
  | some f => rw [hf] at h; simp only [Option.map_some, Option.some.injEq, Prod.mk.injEq] at h; exact ⟨f, rfl, h.1, h.2⟩
section
variable {H : Type} {enc : TypeId × Value → H} {w : World} {base : Nat} {spare : Nat → Bool} {held : Bool}
theorem trod_field {P : Program} {e : TypeId} {fs : Array Field} {l : Array (TypeId × Nat)} {fuel : Nat} {cs : List Value} {x : DataW H × List MemPlace} (he : P.underlying e = some (.struct fs)) (hfs : fs.map (fun f => (f.type, f.offset)) = l)
    (h : DataW.trod enc P w base spare held fuel e cs = some x) {i : Nat} {ty : TypeId} {off : Nat} (hi : l[i]? = some (ty, off)) : ∃ n y, DataW.trod enc P w base spare held n ty ((cs.drop off).take (P.cellsOf ty)) = some y := by
  obtain ⟨f, hf, rfl, rfl⟩ := field_at hfs hi
  obtain ⟨xs, m, _, _, _, hxl, hg⟩ := DataW.trod_struct he h
  have hlt : i < xs.length := by rw [hxl]; exact (Array.getElem?_eq_some_iff.1 hf).1
  have := hg i f hf
  rw [List.getElem?_eq_getElem hlt] at this
  exact ⟨_, _, this⟩
theorem trod_field_int {P : Program} {e ei : TypeId} {fs : Array Field} {l : Array (TypeId × Nat)} {fuel : Nat} {cs : List Value} {x : DataW H × List MemPlace} (he : P.underlying e = some (.struct fs)) (hfs : fs.map (fun f => (f.type, f.offset)) = l)
    (h : DataW.trod enc P w base spare held fuel e cs = some x) {i : Nat} {off : Nat} (hi : l[i]? = some (ei, off)) (hu : P.underlying ei = some (.int .i64)) (hc : P.cellsOf ei = 1) : ∃ n, (cs.drop off).take 1 = [.int .i64 n] := by
  obtain ⟨n, y, hy⟩ := trod_field he hfs h hi
  rw [hc] at hy
  obtain ⟨z, e, _⟩ := DataW.trod_int hu hy
  exact ⟨z, e⟩

theorem trod_cond {fuel : Nat} {cs : List Value} {x : DataW H × List MemPlace} (hl : cs.length = 3) (h : DataW.trod enc Tryz.prog w base spare held fuel 89 cs = some x) : ∃ a : TCond, condR a cs := by
  have hfs : (Tryz.prog.underlying 89).map (fun d => match d with | .struct fs => fs.map (fun f => (f.type, f.offset)) | _ => #[]) = some #[(3, 0), (3, 1), (3, 2)] := by kernel_rfl
  obtain ⟨fs, he⟩ : ∃ fs, Tryz.prog.underlying 89 = some (.struct fs) := ⟨_, Tryz.underlying89⟩
  rw [he] at hfs
  simp only [Option.map_some, Option.some.injEq] at hfs
  have hc : Tryz.prog.cellsOf 3 = 1 := by kernel_rfl
  obtain ⟨n0, e0⟩ := trod_field_int (i := 0) he hfs h rfl Tryz.underlying3 hc
  obtain ⟨n1, e1⟩ := trod_field_int (i := 1) he hfs h rfl Tryz.underlying3 hc
  obtain ⟨n2, e2⟩ := trod_field_int (i := 2) he hfs h rfl Tryz.underlying3 hc
  match cs, hl with
  | [c0, c1, c2], _ =>
    simp at e0 e1 e2
    exact ⟨⟨n0, n1, n2⟩, by simp [condR, e0, e1, e2]⟩
theorem trod_rule {fuel : Nat} {cs : List Value} {x : DataW H × List MemPlace} (hl : cs.length = 2) (h : DataW.trod enc Tryz.prog w base spare held fuel 80 cs = some x) : ∃ a : TRule, ruleR w (fun _ => True) a cs := by
  have hfs : (Tryz.prog.underlying 80).map (fun d => match d with | .struct fs => fs.map (fun f => (f.type, f.offset)) | _ => #[]) = some #[(78, 0), (3, 1)] := by kernel_rfl
  obtain ⟨fs, he⟩ : ∃ fs, Tryz.prog.underlying 80 = some (.struct fs) := ⟨_, Tryz.underlying80⟩
  rw [he] at hfs
  simp only [Option.map_some, Option.some.injEq] at hfs
  obtain ⟨n1, e1⟩ := trod_field_int (i := 1) he hfs h rfl Tryz.underlying3 (by kernel_rfl)
  obtain ⟨n, y, hy⟩ := trod_field (i := 0) he hfs h rfl
  have hc : Tryz.prog.cellsOf 78 = 1 := by kernel_rfl
  rw [hc] at hy
  obtain ⟨v, xs, hcs, hsl⟩ := sl_of_trod (sz := 3) Tryz.underlying78 (by kernel_rfl) (by omega) (fun _ _ _ hl hx => trod_cond hl hx) hy
  match cs, hl with
  | [c0, c1], _ =>
    simp at e1 hcs
    exact ⟨⟨xs, n1⟩, v, by rw [hcs, e1], hsl⟩
theorem trod_pol {fuel : Nat} {cs : List Value} {x : DataW H × List MemPlace} (hl : cs.length = 2) (h : DataW.trod enc Tryz.prog w base spare held fuel 37 cs = some x) : ∃ a : TPol, polR w (fun _ => True) a cs := by
  have hfs : (Tryz.prog.underlying 37).map (fun d => match d with | .struct fs => fs.map (fun f => (f.type, f.offset)) | _ => #[]) = some #[(35, 0), (3, 1)] := by kernel_rfl
  obtain ⟨fs, he⟩ : ∃ fs, Tryz.prog.underlying 37 = some (.struct fs) := ⟨_, Tryz.underlying37⟩
  rw [he] at hfs
  simp only [Option.map_some, Option.some.injEq] at hfs
  obtain ⟨n1, e1⟩ := trod_field_int (i := 1) he hfs h rfl Tryz.underlying3 (by kernel_rfl)
  obtain ⟨n, y, hy⟩ := trod_field (i := 0) he hfs h rfl
  have hc : Tryz.prog.cellsOf 35 = 1 := by kernel_rfl
  rw [hc] at hy
  obtain ⟨v, xs, hcs, hsl⟩ := sl_of_trod (sz := 2) Tryz.underlying35 (by kernel_rfl) (by omega) (fun _ _ _ hl hx => trod_rule hl hx) hy
  match cs, hl with
  | [c0, c1], _ =>
    simp at e1 hcs
    exact ⟨⟨xs, n1⟩, v, by rw [hcs, e1], hsl⟩

theorem open_pol {r : Reach} {b0 : Nat} {v : Value} {d : DataW H} {ps : List MemPlace}
    (hv : Value.okWide Tryz.prog w r b0 37 v) (h : DataW.Trod enc Tryz.prog w base spare held 37 v d ps) : ∃ (u : Value) (t : TPol), v = polV u t.dflt ∧ RdRules w (fun _ => True) u t.rules := by
  simp only [Value.okWide, Tryz.underlying37] at hv
  obtain ⟨cs, rfl, _⟩ := hv
  obtain ⟨fuel, hf⟩ := h
  obtain ⟨xs, m, _, _, hlen, _, _⟩ := DataW.trod_struct Tryz.underlying37 hf
  have hc : Tryz.prog.cellsOf 37 = 2 := by kernel_rfl
  rw [hc] at hlen
  obtain ⟨t, u, hcs, hr⟩ := trod_pol hlen hf
  obtain ⟨l⟩ := cs
  simp only [Value.cells] at hcs
  subst hcs
  exact ⟨u, t, rfl, hr⟩
theorem open_rules {r : Reach} {b0 : Nat} {v : Value} {d : DataW H} {ps : List MemPlace}
    (hv : Value.okWide Tryz.prog w r b0 35 v) (h : DataW.Trod enc Tryz.prog w base spare held 35 v d ps) : ∃ l, RdRules w (fun _ => True) v l := by
  obtain ⟨a, len, cap, rfl⟩ := okWide_slice Tryz.underlying35 hv
  obtain ⟨fuel, hf⟩ := h
  obtain ⟨v', xs, hcs, hsl⟩ := sl_of_trod (sz := 2) Tryz.underlying35 (by kernel_rfl) (by omega) (fun _ _ _ hl hx => trod_rule hl hx) hf
  simp [Value.cells] at hcs
  rw [hcs]
  exact ⟨xs, hsl⟩
theorem reach_slice {P : Program} {ts : List TypeId} {ds : List (DataW H)} {j bytes : Nat} {t e : TypeId} {d : DataW H} {a : Option Addr} {n c : Nat} {ps : List MemPlace} (hwt : (DataW.weightsEach P ts ds).all (· ≤ reachBytes) = true)
    (ht : ts[j]? = some t) (hd : ds[j]? = some d) (hu : P.underlying t = some (.slice e)) (hb : P.bytesOf e = bytes) (h : DataW.Trod enc P w base spare held t (.slice a n c) d ps) : n * bytes ≤ 140737488351232 := by
  obtain ⟨fuel, hf⟩ := h
  rcases open_slice hu hf with ⟨h0, _⟩ | ⟨a', len, cap, m, k, D, Pl, hcs, _, hl, _, _, hx, _⟩
  · simp [Value.cells] at h0
    obtain ⟨_, rfl, _⟩ := h0
    simp
  · simp [Value.cells] at hcs
    obtain ⟨_, rfl, _⟩ := hcs
    injection hx with hx _
    have := sized_slice hwt ht (hd.trans (congrArg some hx)) hu
    rw [hb] at this
    simp only [List.length_map, List.length_range] at this
    have h1 : n * bytes ≤ (n + (m - n)) * bytes := Nat.mul_le_mul_right _ (by omega)
    unfold reachBytes at this
    omega
end
end Go.Proofs.YtkiipnbjckdlbaaGreatDoor
namespace Go.Proofs.YtkiipnbjckdlbaaGreatDoor
open Go.RowKit

def cellR (w : World) (D : Nat → Prop) (c : TCell) (cs : List Value) : Prop := ∃ u v, cs = [.bool c.open_, u, v, .int .i64 c.p.dflt] ∧ RdChain w D u c.chain ∧ RdRules w D v c.p.rules
def RdCells (w : World) (D : Nat → Prop) (v : Value) (l : List TCell) : Prop := Sl w D 4 (cellR w D) v l
theorem cellR.keep {w w' : World} {D D' : Nat → Prop} {c : TCell} {cs : List Value} (h : cellR w D c cs) (hD : ∀ b, D b → b < w.heap.size → D' b) (hw : ∀ b, D b → b < w.heap.size → w'.heap[b]? = w.heap[b]?) (hs : w.heap.size ≤ w'.heap.size) : cellR w' D' c cs := by
  obtain ⟨u, v, h1, h2, h3⟩ := h
  exact ⟨u, v, h1, h2.keep hD hw hs, h3.keep hD hw hs⟩
theorem RdCells.keep {w w' : World} {D D' : Nat → Prop} {v : Value} {l : List TCell} (h : RdCells w D v l) (hD : ∀ b, D b → b < w.heap.size → D' b)
    (hw : ∀ b, D b → b < w.heap.size → w'.heap[b]? = w.heap[b]?) (hs : w.heap.size ≤ w'.heap.size) : RdCells w' D' v l := Sl.mono h hD hw hs (fun _ _ _ h => h.keep hD hw hs)
theorem RdCells.below {w w' : World} {D : Nat → Prop} {v : Value} {l : List TCell} (h : RdCells w D v l) (hb : Below w.heap.size w w') : RdCells w' D v l :=
  h.keep (fun _ h _ => h) (fun b _ hlt => hb.block b hlt) hb.size
theorem RdCells.cells {w : World} {D : Nat → Prop} {b o n c : Nat} {s : Option Nat} {l : List TCell} (h : RdCells w D (.slice (some ⟨b, o, s⟩) n c) l) {i : Nat} (hi : i < l.length) :
    ∃ (a1 a2 : Option Addr) (c1 c2 : Nat), w.cell? ⟨b, o + i * 4, none⟩ = some (.bool l[i].open_) ∧ w.cell? ⟨b, o + i * 4 + 1, none⟩ = some (.slice a1 l[i].chain.length c1) ∧ w.cell? ⟨b, o + i * 4 + 2, none⟩ = some (.slice a2 l[i].p.rules.length c2) ∧ w.cell? ⟨b, o + i * 4 + 3, none⟩ = some (.int .i64 l[i].p.dflt) ∧
      RdChain w D (.slice a1 l[i].chain.length c1) l[i].chain ∧ RdRules w D (.slice a2 l[i].p.rules.length c2) l[i].p.rules := by
  obtain ⟨cs, _, ⟨u, v, hu, hr, hp⟩, hcell⟩ := Sl.get h hi
  obtain ⟨a1, c1, hv, _⟩ := Sl.form hr
  obtain ⟨a2, c2, hv2, _⟩ := Sl.form hp
  subst hv hv2 hu
  exact ⟨a1, a2, c1, c2, by have := hcell 0 _ rfl; simpa using this, by have := hcell 1 _ rfl; simpa [Nat.add_assoc] using this, by have := hcell 2 _ rfl; simpa [Nat.add_assoc] using this, by have := hcell 3 _ rfl; simpa [Nat.add_assoc] using this, hr, hp⟩
theorem cellR_one {w : World} {D : Nat → Prop} (y : TCell) (cs : List Value) (h : cellR w D y cs) : ∀ c ∈ cs, c.oneCell' = true := by
  obtain ⟨u, v, rfl, h1, h2⟩ := h
  obtain ⟨a, c, rfl, _⟩ := Sl.form h1
  obtain ⟨a2, c2, rfl, _⟩ := Sl.form h2
  simp [Value.oneCell']
/-- a record, as an argument: its cells. -/
@[reducible] def recV (r : TRec) (v : Value) : Value := .agg #[.int .i64 r.kind, .int .i64 r.cell, .int .i64 r.from_, v, .int .i64 r.p.dflt]
def recR (w : World) (D : Nat → Prop) (r : TRec) (cs : List Value) : Prop := ∃ v, cs = [.int .i64 r.kind, .int .i64 r.cell, .int .i64 r.from_, v, .int .i64 r.p.dflt] ∧ RdRules w D v r.p.rules
def RdRecs (w : World) (D : Nat → Prop) (v : Value) (l : List TRec) : Prop := Sl w D 5 (recR w D) v l
theorem RdRecs.keep {w w' : World} {D D' : Nat → Prop} {v : Value} {l : List TRec} (h : RdRecs w D v l) (hD : ∀ b, D b → b < w.heap.size → D' b)
    (hw : ∀ b, D b → b < w.heap.size → w'.heap[b]? = w.heap[b]?) (hs : w.heap.size ≤ w'.heap.size) : RdRecs w' D' v l := Sl.mono h hD hw hs (fun _ _ _ ⟨u, h1, h2⟩ => ⟨u, h1, h2.keep hD hw hs⟩)
theorem RdRecs.below {w w' : World} {D : Nat → Prop} {v : Value} {l : List TRec} (h : RdRecs w D v l) (hb : Below w.heap.size w w') : RdRecs w' D v l :=
  h.keep (fun _ h _ => h) (fun b _ hlt => hb.block b hlt) hb.size
theorem RdRecs.cells {w : World} {D : Nat → Prop} {b o n c : Nat} {s : Option Nat} {l : List TRec} (h : RdRecs w D (.slice (some ⟨b, o, s⟩) n c) l) {i : Nat} (hi : i < l.length) :
    ∃ (a : Option Addr) (c : Nat), w.cell? ⟨b, o + i * 5, none⟩ = some (.int .i64 l[i].kind) ∧ w.cell? ⟨b, o + i * 5 + 1, none⟩ = some (.int .i64 l[i].cell) ∧ w.cell? ⟨b, o + i * 5 + 2, none⟩ = some (.int .i64 l[i].from_) ∧ w.cell? ⟨b, o + i * 5 + 3, none⟩ = some (.slice a l[i].p.rules.length c) ∧ w.cell? ⟨b, o + i * 5 + 4, none⟩ = some (.int .i64 l[i].p.dflt) ∧
      RdRules w D (.slice a l[i].p.rules.length c) l[i].p.rules := by
  obtain ⟨cs, _, ⟨v, hu, hp⟩, hcell⟩ := Sl.get h hi
  obtain ⟨a1, c1, hv, _⟩ := Sl.form hp
  subst hv hu
  exact ⟨a1, c1, by have := hcell 0 _ rfl; simpa using this, by have := hcell 1 _ rfl; simpa [Nat.add_assoc] using this, by have := hcell 2 _ rfl; simpa [Nat.add_assoc] using this, by have := hcell 3 _ rfl; simpa [Nat.add_assoc] using this, by have := hcell 4 _ rfl; simpa [Nat.add_assoc] using this, hp⟩
end Go.Proofs.YtkiipnbjckdlbaaGreatDoor
namespace Go.Proofs.YtkiipnbjckdlbaaGreatDoor
open Go.RowKit Go.ChangeShapes Go.WideShapes Go.Deep
set_option maxRecDepth 100000

section
variable {H : Type} {enc : TypeId × Value → H} {w : World} {base : Nat} {spare : Nat → Bool} {held : Bool}
theorem trod_ins {fuel : Nat} {cs : List Value} {x : DataW H × List MemPlace} (hl : cs.length = 4) (h : DataW.trod enc Tryz.prog w base spare held fuel 73 cs = some x) : ∃ a : TIns, insR a cs := by
  have hfs : (Tryz.prog.underlying 73).map (fun d => match d with | .struct fs => fs.map (fun f => (f.type, f.offset)) | _ => #[]) = some #[(3, 0), (3, 1), (3, 2), (3, 3)] := by kernel_rfl
  obtain ⟨fs, he⟩ : ∃ fs, Tryz.prog.underlying 73 = some (.struct fs) := ⟨_, Tryz.underlying73⟩
  rw [he] at hfs
  simp only [Option.map_some, Option.some.injEq] at hfs
  have hc : Tryz.prog.cellsOf 3 = 1 := by kernel_rfl
  obtain ⟨n0, e0⟩ := trod_field_int (i := 0) he hfs h rfl Tryz.underlying3 hc
  obtain ⟨n1, e1⟩ := trod_field_int (i := 1) he hfs h rfl Tryz.underlying3 hc
  obtain ⟨n2, e2⟩ := trod_field_int (i := 2) he hfs h rfl Tryz.underlying3 hc
  obtain ⟨n3, e3⟩ := trod_field_int (i := 3) he hfs h rfl Tryz.underlying3 hc
  match cs, hl with
  | [c0, c1, c2, c3], _ =>
    simp at e0 e1 e2 e3
    exact ⟨⟨n0, n1, n2, n3⟩, by simp [insR, e0, e1, e2, e3]⟩
theorem trod_filter {fuel : Nat} {cs : List Value} {x : DataW H × List MemPlace} (_hl : cs.length = 1) (h : DataW.trod enc Tryz.prog w base spare held fuel 31 cs = some x) : ∃ f, chainR w (fun _ => True) f cs := by
  obtain ⟨v, xs, hcs, hsl⟩ := sl_of_trod (sz := 4) Tryz.underlying31 (by kernel_rfl) (by omega) (fun _ _ _ hl hx => trod_ins hl hx) h
  exact ⟨xs, v, hcs, hsl⟩
theorem open_chain {r : Reach} {b0 : Nat} {v : Value} {d : DataW H} {ps : List MemPlace}
    (hv : Value.okWide Tryz.prog w r b0 22 v) (h : DataW.Trod enc Tryz.prog w base spare held 22 v d ps) : ∃ l, RdChain w (fun _ => True) v l := by
  obtain ⟨a, len, cap, rfl⟩ := okWide_slice Tryz.underlying22 hv
  obtain ⟨fuel, hf⟩ := h
  obtain ⟨v', xs, hcs, hsl⟩ := sl_of_trod (sz := 1) Tryz.underlying22 (by kernel_rfl) (by omega) (fun _ _ _ hl hx => trod_filter hl hx) hf
  simp [Value.cells] at hcs
  rw [hcs]
  exact ⟨xs, hsl⟩
theorem trod_rec {fuel : Nat} {cs : List Value} {x : DataW H × List MemPlace} (hl : cs.length = 5) (h : DataW.trod enc Tryz.prog w base spare held fuel 55 cs = some x) : ∃ a : TRec, recR w (fun _ => True) a cs := by
  have hfs : (Tryz.prog.underlying 55).map (fun d => match d with | .struct fs => fs.map (fun f => (f.type, f.offset)) | _ => #[]) = some #[(3, 0), (3, 1), (3, 2), (37, 3)] := by kernel_rfl
  obtain ⟨fs, he⟩ : ∃ fs, Tryz.prog.underlying 55 = some (.struct fs) := ⟨_, Tryz.underlying55⟩
  rw [he] at hfs
  simp only [Option.map_some, Option.some.injEq] at hfs
  have hc : Tryz.prog.cellsOf 3 = 1 := by kernel_rfl
  obtain ⟨n0, e0⟩ := trod_field_int (i := 0) he hfs h rfl Tryz.underlying3 hc
  obtain ⟨n1, e1⟩ := trod_field_int (i := 1) he hfs h rfl Tryz.underlying3 hc
  obtain ⟨n2, e2⟩ := trod_field_int (i := 2) he hfs h rfl Tryz.underlying3 hc
  obtain ⟨n, y, hy⟩ := trod_field (i := 3) he hfs h rfl
  have hc2 : Tryz.prog.cellsOf 37 = 2 := by kernel_rfl
  rw [hc2] at hy
  match cs, hl with
  | [c0, c1, c2, c3, c4], _ =>
    obtain ⟨p, v, hcs, hr⟩ := trod_pol (by simp) hy
    simp at e0 e1 e2 hcs
    exact ⟨⟨n0, n1, n2, p⟩, v, by simp [e0, e1, e2, hcs], hr⟩
theorem open_recs {r : Reach} {b0 : Nat} {v : Value} {d : DataW H} {ps : List MemPlace}
    (hv : Value.okWide Tryz.prog w r b0 62 v) (h : DataW.Trod enc Tryz.prog w base spare held 62 v d ps) : ∃ l, RdRecs w (fun _ => True) v l := by
  obtain ⟨a, len, cap, rfl⟩ := okWide_slice Tryz.underlying62 hv
  obtain ⟨fuel, hf⟩ := h
  obtain ⟨v', xs, hcs, hsl⟩ := sl_of_trod (sz := 5) Tryz.underlying62 (by kernel_rfl) (by omega) (fun _ _ _ hl hx => trod_rec hl hx) hf
  simp [Value.cells] at hcs
  rw [hcs]
  exact ⟨xs, hsl⟩
end
end Go.Proofs.YtkiipnbjckdlbaaGreatDoor
namespace Go.Proofs.YtkiipnbjckdlbaaGreatDoor
open Go.ChangeShapes Go.WideShapes Go.ChangeAt Go.RowKit
variable {H : Type} {enc : TypeId × Value → H}

theorem law_wrap {a : Assume} {C : Checked} {os : Os} {f : FuncId} {fn : Func} {s : ChangeSpec} {conds : List PathCond} {apart fresh handsOn again : Bool} {X : World → Array Value → Prop}
    (hX : ∀ (w w' : World) (args : Array Value), w.heap = w'.heap → X w args → X w' args)
    (own : ownKnob C.prog.godebug = none) (started : os.Started) (noInit : C.prog.inits.idxOf? f = none) (hfn : C.prog.funcs[f]? = some fn)
    (witness : ∃ (w : World) (tape : Tape) (i : Input), w.os = os ∧ (w.forCall tape i).Shaped C.prog ∧ i.vars = [] ∧ Input.okWide C.prog (w.forCall tape i) .any w.heap.size f i ∧
      ((s.pre enc C.prog fn conds apart (w.forCall tape i).memory i.args ∧ X (w.forCall tape i).memory i.args) ∧ sizedMet enc C.prog fn (OpenSpec.ofChange s) apart (w.forCall tape i).memory i.args) ∧ a.holds C.prog (lone (Frame.enter C.prog f i.args .normal) [] (w.forCall tape i)))
    (contract : ∀ (W : World) (base : Nat) (args : Array Value) (ds gs : List (DataW H)) (before : List MemPlace),
      (∀ (j : Nat) t v, fn.params[j]? = some t → args[j]? = some v → Value.okWide C.prog W .any base t v) →
      DataW.Whole enc C.prog fn.params.toList s.vars apart W args.toList ds gs before →
      (DataW.weightsEach C.prog (fn.params.toList ++ s.plain.varTypes C.prog) (ds ++ gs)).all (· ≤ reachBytes) = true → X W args → W.ShapedOpen C.prog →
      Calls C.prog f args W fun e W' => ∃ v, e = .returned v ∧ s.post enc C.prog fn apart fresh handsOn again W args v W') :
    ReturnsInHanded a C os f .any (fun w args => (s.pre enc C.prog fn conds apart w args ∧ X w args) ∧ sizedMet enc C.prog fn (OpenSpec.ofChange s) apart w args) (s.post enc C.prog fn apart fresh handsOn again) := by
  refine returnsInHanded_of_calls own started noInit witness ?_
  intro w tape i _ hsh _ hok hpre _
  obtain ⟨_, _, _, fn', hfn', _, _, _, _, hval⟩ := hok
  have e : fn' = fn := Option.some.inj (hfn'.symm.trans hfn)
  subst e
  obtain ⟨⟨⟨ds, gs, before, hw, _⟩, hx⟩, hz⟩ := hpre
  have hw' := DataW.Whole.of_heap (w' := w.forCall tape i) (by rfl) hw
  refine (contract (w.forCall tape i) w.heap.size i.args ds gs before hval hw' (hz.weights hw) (hX _ _ _ (by rfl) hx) hsh).mono fun e W' ⟨v, he, hp⟩ => ?_
  subst he
  exact ChangeSpec.post_blind hp

theorem tabIs_of_reads {P : Program} {W : World} {name : String} {k : IntKind} {zs : List Int} {g : Nat} {t e : TypeId} {n : Nat}
    (hg : P.globalNamed name = some g) (hty : (P.globals[g]?).map (·.type) = some t) (ht : P.underlying t = some (.array n e)) (he : P.underlying e = some (.int k)) (hce : P.cellsOf e = 1) (hct : P.cellsOf t = n)
    (h : Lib.VarReads P W name (Lib.tabData k zs)) : Lib.TabIs P W name k zs := by
  obtain ⟨g', t', cs, fuel, p, hg', ht', hvar, hd⟩ := h
  obtain rfl := Option.some.inj (hg.symm.trans hg')
  obtain rfl := Option.some.inj (hty.symm.trans ht')
  unfold Lib.TabIs
  rw [hvar, ← Lib.cells_of_tab ht he hce hct hd]
theorem iface_of_reads {P : Program} {W : World} {name nm : String} {d : DataW Unit} {g : Nat} {t : TypeId} {ms : Array (String × TypeId)}
    (hg : P.globalNamed name = some g) (hty : (P.globals[g]?).map (·.type) = some t) (ht : P.underlying t = some (.interface ms))
    (h : Lib.VarReads P W name (.iface nm d)) : ∃ te pe, W.cell? ⟨g, 0, none⟩ = some (.iface te pe) := by
  obtain ⟨g', t', cs, fuel, p, hg', ht', hvar, hd⟩ := h
  obtain rfl := Option.some.inj (hg.symm.trans hg')
  obtain rfl := Option.some.inj (hty.symm.trans ht')
  cases fuel with
  | zero => simp [DataW.trod] at hd
  | succ fuel =>
    have : ∃ u v, cs.toList = [.iface u v] := by
      cases hcs : cs.toList with
      | nil => rw [hcs] at hd; simp [DataW.trod, ht] at hd
      | cons c r =>
        rw [hcs] at hd
        cases r with
        | cons _ _ => simp [DataW.trod, ht] at hd
        | nil => cases c <;> first | exact ⟨_, _, rfl⟩ | simp [DataW.trod, ht] at hd
    obtain ⟨u, v, hcs⟩ := this
    refine ⟨u, v, ?_⟩
    rw [World.var?_cell hg hvar 0, Array.eq_one_of_toList hcs]
    rfl

/-- what the listed variables hold, as the walks want it. -/
theorem laid_of {l : List (String × DataW Unit)} (hl : (l.all fun x => x.2.handleName?.isNone) = true) (h1 : ("internal/strconv.uint64pow10", Rows.laid_internal_strconv_uint64pow10) ∈ l)
    (h2 : ("strconv.ErrRange", Rows.laid_strconv_ErrRange) ∈ l) (h3 : ("strconv.ErrSyntax", Rows.laid_strconv_ErrSyntax) ∈ l)
    {W : World} (hL : laidMetH Tryz.prog l W) (hsh : W.ShapedOpen Tryz.prog) : Laid W := by
  rw [MakeChecks.laidMetH_plain _ _ _ hl] at hL
  exact {
    ml := cell_of_shapedOpen_int (zero := #[.int .i64 0]) hsh (by decide +kernel) (by kernel_rfl) (by kernel_rfl) (by kernel_rfl) (by kernel_rfl) Tryz.underlying3
    pow := tabIs_of_reads (g := 3) (t := 203) (n := 20) (by kernel_rfl) (by kernel_rfl) Tryz.underlying203 Tryz.underlying171 (by kernel_rfl) (by kernel_rfl) (Lib.laidMet.reads hL h1)
    syn := iface_of_reads (g := 1) (t := 151) (by kernel_rfl) (by kernel_rfl) Tryz.underlying151 (Lib.laidMet.reads hL h3)
    rng := iface_of_reads (g := 2) (t := 151) (by kernel_rfl) (by kernel_rfl) Tryz.underlying151 (Lib.laidMet.reads hL h2) }
end Go.Proofs.YtkiipnbjckdlbaaGreatDoor
namespace Go.Proofs.YtkiipnbjckdlbaaGreatDoor
open Go.RowKit
attribute [local go_sem] gives givesUpon

theorem take_eq_step' {α : Type} {xs ys : List α} {k : Nat} (hx : k < xs.length) (hy : k < ys.length) (h : xs.take k = ys.take k) (e : xs[k] = ys[k]) : xs.take (k + 1) = ys.take (k + 1) := by
  rw [List.take_succ_eq_append_getElem hx, List.take_succ_eq_append_getElem hy, h, e]
theorem ne_of_get' {α : Type} {xs ys : List α} {k : Nat} (hx : k < xs.length) (hy : k < ys.length) (e : xs[k] ≠ ys[k]) : xs ≠ ys := fun h => e (by subst h; rfl)

theorem run_neq_cond (c d : TCond) (w : World) : (binOp .neq 89 (.agg #[.int .i64 c.f, .int .i64 c.op, .int .i64 c.v]) (.agg #[.int .i64 d.f, .int .i64 d.op, .int .i64 d.v])).run Tryz.prog w = .ok (.bool (!decide (c = d))) w := by
  obtain ⟨f, o, v⟩ := c
  obtain ⟨f', o', v'⟩ := d
  dsimp only
  have hd : decide ((⟨f, o, v⟩ : TCond) = ⟨f', o', v'⟩) = (decide (f = f') && decide (o = o') && decide (v = v')) := by
    rw [Bool.eq_iff_iff]; simp [and_assoc]
  rw [hd]
  clear hd
  by_cases h1 : f = f'
  · have b1 : (f == f') = true := beq_iff_eq.2 h1
    by_cases h2 : o = o'
    · have b2 : (o == o') = true := beq_iff_eq.2 h2
      by_cases h3 : v = v'
      · have b3 : (v == v') = true := beq_iff_eq.2 h3
        rw [decide_eq_true h1, decide_eq_true h2, decide_eq_true h3]
        clear h1 h2 h3
        go_simp
      · have b3 : (v == v') = false := beq_eq_false_iff_ne.2 h3
        rw [decide_eq_true h1, decide_eq_true h2, decide_eq_false h3]
        clear h1 h2 h3
        go_simp
    · have b2 : (o == o') = false := beq_eq_false_iff_ne.2 h2
      rw [decide_eq_true h1, decide_eq_false h2]
      clear h1 h2
      go_simp
  · have b1 : (f == f') = false := beq_eq_false_iff_ne.2 h1
    rw [decide_eq_false h1]
    clear h1
    go_simp

attribute [-go_sem] run_neq_struct
set_option maxHeartbeats 1000000 in
theorem eqconds_any (v u : Value) (xs ys : List TCond) (D : Nat → Prop) (w : World) (h : RdConds w D v xs) (h' : RdConds w D u ys) :
    Calls Tryz.prog 61 #[v, u] w fun e w' => e = .returned (.bool (decide (xs = ys))) ∧ Below w.heap.size w w' := by
  obtain ⟨a, c, rfl, hlc, hcm, hat⟩ := Sl.form h
  obtain ⟨a', c', rfl, hlc', hcm', hat'⟩ := Sl.form h'
  have H := Lib.hid h
  have H' := Lib.hid h'
  clear h h'
  by_cases hl : xs.length = ys.length
  · have b0 : ((xs.length : Int) != (ys.length : Int)) = false := bne_eq_false_iff_eq.2 (by omega)
    have hl' := Lib.hid hl
    have hl1 : xs.length ≤ ys.length := by omega
    have hl2 : ys.length ≤ xs.length := by omega
    clear hl
    go_enter Tryz.func61, Tryz.ntmps61
    go_wp2_with fail
    go_loopw [13] (fun i wr => ∃ k : Nat, k ≤ xs.length ∧ i = .int .i64 k ∧ xs.take k = ys.take k ∧ Below w.heap.size w wr) (fun i _ => xs.length - (intOf i).toNat)
    case atStart => exact ⟨0, by omega, rfl, rfl, Below.refl _ _⟩
    case round =>
      obtain ⟨k, hk, rfl, htk, hbw⟩ := hrel
      have Ht := Lib.hid htk
      have hsz := hbw.size
      clear htk
      by_cases hlt : k < xs.length
      · obtain ⟨b, o, rfl, hDb, hb⟩ := hat (by omega)
        obtain ⟨b', o', rfl, hDb', hb'⟩ := hat' (by omega)
        have hlt' : k < ys.length := by omega
        have hc : ∀ W, Cls w.heap.size wr W → (W.cell? ⟨b, o + k * 3, none⟩ = some (.int .i64 xs[k].f) ∧ W.cell? ⟨b, o + k * 3 + 1, none⟩ = some (.int .i64 xs[k].op) ∧ W.cell? ⟨b, o + k * 3 + 2, none⟩ = some (.int .i64 xs[k].v)) ∧
            (W.cell? ⟨b', o' + k * 3, none⟩ = some (.int .i64 ys[k].f) ∧ W.cell? ⟨b', o' + k * 3 + 1, none⟩ = some (.int .i64 ys[k].op) ∧ W.cell? ⟨b', o' + k * 3 + 2, none⟩ = some (.int .i64 ys[k].v)) := fun W hW =>
          ⟨RdConds.cells (H.out.below (hbw.trans hW.2)) hlt, RdConds.cells (H'.out.below (hbw.trans hW.2)) hlt'⟩
        have Hc := Lib.hid hc
        have hne := run_neq_cond xs[k] ys[k]
        clear hc
        go_wp2_with fail
        refine wp_region_exact3 w.heap.size hsz (by kernel_rfl) (by kernel_rfl) ?_
        repeat (refine monoE_step (fun K hK => ?_); apply Exists.intro; refine ⟨fun W hC R hR => ?_, ?_⟩; (first
          | (have hne' := hne W; clear hne; go_simp; exact hR _ _ (Below.refl _ _) rfl)
          | (have hcc := Hc.out W hC; go_simp; exact hR _ _ (Below.refl _ _) rfl)); (go_simp; refine hK _ ?_; clear hK K))
        intro w2 hC2
        clear hne
        by_cases he : xs[k] = ys[k]
        · have Hn := Lib.hid (take_eq_step' hlt hlt' Ht.out he)
          have d : decide (xs[k] = ys[k]) = true := decide_eq_true he
          clear he
          simp only [d]
          go_wp2
          go_roundw
          case rel => exact ⟨k + 1, by omega, by go_num, Hn.out, hbw.trans hC2.2⟩
          case measure => simp [intOf]; omega
        · have Hn := Lib.hid (ne_of_get' hlt hlt' he)
          have d : decide (xs[k] = ys[k]) = false := decide_eq_false he
          clear he
          simp only [d]
          go_wp2
          go_ret
          exact ⟨ret_bool (decide_eq_false Hn.out).symm, hbw.trans hC2.2⟩
      · obtain rfl : k = xs.length := by omega
        have Hn : Hid (xs = ys) := by
          have := Ht.out
          rw [List.take_length, hl'.out, List.take_length] at this
          exact this
        go_wp2
        go_ret
        exact ⟨ret_bool (decide_eq_true Hn.out).symm, hbw⟩
  · have b0 : ((xs.length : Int) != (ys.length : Int)) = true := bne_iff_ne.2 (by omega)
    have hn : decide (xs = ys) = false := decide_eq_false fun e => hl (by rw [e])
    rw [hn]
    clear hn hl
    go_enter Tryz.func61, Tryz.ntmps61
    go_wp2
    go_ret
    exact ⟨rfl, Below.refl _ _⟩

set_option maxHeartbeats 1000000 in
theorem same1_any (v u : Value) (r q : TRule) (D : Nat → Prop) (w : World) (h : RdConds w D v r.conds) (h' : RdConds w D u q.conds) :
    Calls Tryz.prog 100 #[.agg #[v, .int .i64 r.verdict], .agg #[u, .int .i64 q.verdict]] w fun e w' => e = .returned (.bool (decide (r = q))) ∧ Below w.heap.size w w' := by
  obtain ⟨rc, rv⟩ := r
  obtain ⟨qc, qv⟩ := q
  dsimp only at h h' ⊢
  have H := Lib.hid h
  have H' := Lib.hid h'
  clear h h'
  by_cases hv : rv = qv
  · have b0 : (rv == qv) = true := beq_iff_eq.2 hv
    have hd : decide ((⟨rc, rv⟩ : TRule) = ⟨qc, qv⟩) = decide (rc = qc) := by rw [decide_eq_decide]; simp [hv]
    rw [hd]
    clear hd hv
    go_enter Tryz.func100, Tryz.ntmps100
    go_wp2_with fail
    refine (eqconds_any v u rc qc D _ (RdConds.below H.out (bel_alloc (bel_alloc (Below.refl _ _) _) _)) (RdConds.below H'.out (bel_alloc (bel_alloc (Below.refl _ _) _) _))).mono ?_
    rintro e w1 ⟨rfl, hb1⟩
    have hb1' : Below (w.heap.size + 2) _ w1 := hb1.mono (by simp)
    go_wp2
    go_ret
    exact ⟨rfl, bel_box2 hb1'⟩
  · have b0 : (rv == qv) = false := beq_eq_false_iff_ne.2 hv
    have hd : decide ((⟨rc, rv⟩ : TRule) = ⟨qc, qv⟩) = false := decide_eq_false fun e => hv (by injection e)
    rw [hd]
    clear hd hv
    go_enter Tryz.func100, Tryz.ntmps100
    go_wp2
    go_ret
    exact ⟨rfl, bel_alloc (bel_alloc (Below.refl _ _) _) _⟩

set_option maxHeartbeats 1000000 in
theorem eqrules_any (v u : Value) (xs ys : List TRule) (D : Nat → Prop) (w : World) (h : RdRules w D v xs) (h' : RdRules w D u ys) :
    Calls Tryz.prog 99 #[v, u, .func (.func 100) #[] #[]] w fun e w' => e = .returned (.bool (decide (xs = ys))) ∧ Below w.heap.size w w' := by
  obtain ⟨a, c, rfl, hlc, hcm, hat⟩ := Sl.form h
  obtain ⟨a', c', rfl, hlc', hcm', hat'⟩ := Sl.form h'
  have H := Lib.hid h
  have H' := Lib.hid h'
  clear h h'
  by_cases hl : xs.length = ys.length
  · have b0 : ((xs.length : Int) != (ys.length : Int)) = false := bne_eq_false_iff_eq.2 (by omega)
    have hl' := Lib.hid hl
    have hl1 : xs.length ≤ ys.length := by omega
    have hl2 : ys.length ≤ xs.length := by omega
    clear hl
    go_enter Tryz.func99, Tryz.ntmps99
    go_wp2_with fail
    go_loopw [17] (fun i wr => ∃ k : Nat, k ≤ xs.length ∧ i = .int .i64 k ∧ xs.take k = ys.take k ∧ Below w.heap.size w wr) (fun i _ => xs.length - (intOf i).toNat)
    case atStart => exact ⟨0, by omega, rfl, rfl, Below.refl _ _⟩
    case round =>
      obtain ⟨k, hk, rfl, htk, hbw⟩ := hrel
      have Ht := Lib.hid htk
      have hsz := hbw.size
      clear htk
      by_cases hlt : k < xs.length
      · obtain ⟨b, o, rfl, hDb, hb⟩ := hat (by omega)
        obtain ⟨b', o', rfl, hDb', hb'⟩ := hat' (by omega)
        have hlt' : k < ys.length := by omega
        obtain ⟨ra, rc, k0, k1, hr, hlr, hcr, _⟩ := RdRules.cells (RdRules.below H.out hbw) hlt
        obtain ⟨qa, qc, q0, q1, hq, hlq, hcq, _⟩ := RdRules.cells (RdRules.below H'.out hbw) hlt'
        have Hr := Lib.hid hr
        have Hq := Lib.hid hq
        have hbr : b' < wr.heap.size := by omega
        have q0' : ∀ O, (wr.alloc O).cell? ⟨b', o' + k * 2, none⟩ = some (.slice qa ys[k].conds.length qc) := fun O => (World.cell?_alloc_lt _ _ _ hbr).trans q0
        have q1' : ∀ O, (wr.alloc O).cell? ⟨b', o' + k * 2 + 1, none⟩ = some (.int .i64 ys[k].verdict) := fun O => (World.cell?_alloc_lt _ _ _ hbr).trans q1
        clear hr hq q0 q1
        go_wp2_with fail
        refine (same1_any _ _ xs[k] ys[k] D _ (RdConds.below Hr.out (bel_alloc (bel_alloc (Below.refl _ _) _) _)) (RdConds.below Hq.out (bel_alloc (bel_alloc (Below.refl _ _) _) _))).mono ?_
        rintro e w1 ⟨rfl, hb1⟩
        have hb2 : Below (wr.heap.size + 2) _ w1 := hb1.mono (by simp)
        have Hb := Lib.hid (hbw.trans ((bel_box2 hb2).mono hbw.size))
        clear hb1 hb2 k0 k1 q0' q1'
        by_cases he : xs[k] = ys[k]
        · have Hn := Lib.hid (take_eq_step' hlt hlt' Ht.out he)
          rw [decide_eq_true he]
          clear he
          go_wp2
          go_roundw
          case rel => exact ⟨k + 1, by omega, by go_num, Hn.out, Hb.out⟩
          case measure => simp [intOf]; omega
        · have Hn := Lib.hid (ne_of_get' hlt hlt' he)
          rw [decide_eq_false he]
          clear he
          go_wp2
          go_ret
          exact ⟨ret_bool (decide_eq_false Hn.out).symm, Hb.out⟩
      · obtain rfl : k = xs.length := by omega
        have Hn : Hid (xs = ys) := by
          have := Ht.out
          rw [List.take_length, hl'.out, List.take_length] at this
          exact this
        go_wp2
        go_ret
        exact ⟨ret_bool (decide_eq_true Hn.out).symm, hbw⟩
  · have b0 : ((xs.length : Int) != (ys.length : Int)) = true := bne_iff_ne.2 (by omega)
    have hn : decide (xs = ys) = false := decide_eq_false fun e => hl (by rw [e])
    rw [hn]
    clear hn hl
    go_enter Tryz.func99, Tryz.ntmps99
    go_wp2
    go_ret
    exact ⟨rfl, Below.refl _ _⟩

set_option maxHeartbeats 1000000 in
theorem same_any (v u : Value) (p q : TPol) (D : Nat → Prop) (w : World) (h : RdRules w D v p.rules) (h' : RdRules w D u q.rules) :
    Calls Tryz.prog 72 #[polV v p.dflt, polV u q.dflt] w fun e w' => e = .returned (.bool (decide (p = q))) ∧ Below w.heap.size w w' := by
  obtain ⟨pr, pd⟩ := p
  obtain ⟨qr, qd⟩ := q
  dsimp only at h h' ⊢
  have H := Lib.hid h
  have H' := Lib.hid h'
  have hmk : ∀ (fn : Fn) (first cap : Array Value) (w : World), (Instr.makeFunc fn first cap).run Tryz.prog w = .ok (.func fn first cap) w := fun _ _ _ _ => rfl
  clear h h'
  by_cases hv : pd = qd
  · have b0 : (pd == qd) = true := beq_iff_eq.2 hv
    have hd : decide ((⟨pr, pd⟩ : TPol) = ⟨qr, qd⟩) = decide (pr = qr) := by rw [decide_eq_decide]; simp [hv]
    rw [hd]
    clear hd hv
    go_enter Tryz.func72, Tryz.ntmps72
    go_wp2_with fail
    refine (eqrules_any v u pr qr D _ (RdRules.below H.out (bel_alloc (bel_alloc (Below.refl _ _) _) _)) (RdRules.below H'.out (bel_alloc (bel_alloc (Below.refl _ _) _) _))).mono ?_
    rintro e w1 ⟨rfl, hb1⟩
    have hb1' : Below (w.heap.size + 2) _ w1 := hb1.mono (by simp)
    go_wp2
    go_ret
    exact ⟨rfl, bel_box2 hb1'⟩
  · have b0 : (pd == qd) = false := beq_eq_false_iff_ne.2 hv
    have hd : decide ((⟨pr, pd⟩ : TPol) = ⟨qr, qd⟩) = false := decide_eq_false fun e => hv (by injection e)
    rw [hd]
    clear hd hv
    go_enter Tryz.func72, Tryz.ntmps72
    go_wp2
    go_ret
    exact ⟨rfl, bel_alloc (bel_alloc (Below.refl _ _) _) _⟩
end Go.Proofs.YtkiipnbjckdlbaaGreatDoor
