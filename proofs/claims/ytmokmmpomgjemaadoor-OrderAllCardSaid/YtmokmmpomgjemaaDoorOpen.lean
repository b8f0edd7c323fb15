/- What comes in, opened: calls, filters. No condition. -/
import Derived.Test.YtmokmmpomgjemaaDoorBase
import Derived.OpenShut
import Derived.Deep.Slices
import Derived.ProofKit
import Derived.ChangeOld
import Derived.ChangeSame
import Derived.Carry
namespace Go.Proofs.YtmokmmpomgjemaaDoor
open Go.RowKit Go.ChangeShapes Go.WideShapes Go.Deep

theorem list_of_forall {α : Type} {Q : Nat → α → Prop} : ∀ (n : Nat), (∀ i, i < n → ∃ a, Q i a) → ∃ xs : List α, xs.length = n ∧ ∀ i x, xs[i]? = some x → Q i x
  | 0, _ => ⟨[], rfl, fun i x h => by simp at h⟩
  | n + 1, h => by
    obtain ⟨xs, hl, hx⟩ := list_of_forall n (fun i hi => h i (by omega))
    obtain ⟨a, ha⟩ := h n (by omega)
    refine ⟨xs ++ [a], by simp [hl], fun i x hi => ?_⟩
    rw [List.getElem?_append] at hi
    split at hi
    · exact hx i x hi
    · rename_i hge
      have : i - xs.length = 0 := by
        have := (List.getElem?_eq_some_iff.1 hi).1
        simp at this; exact this
      rw [this] at hi
      simp at hi
      have : i = n := by omega
      subst this; subst hi; exact ha

theorem add_form {b o i j : Nat} : ((⟨b, o, none⟩ : Addr).add i).add j = ⟨b, o + (i + j), none⟩ := by
  unfold Addr.add
  by_cases hi : i = 0 <;> by_cases hj : j = 0 <;> simp [hi, hj, Nat.add_assoc]

section
variable {H : Type} {enc : TypeId × Value → H} {P : Program} {w : World} {base : Nat} {spare : Nat → Bool} {held : Bool}
theorem sl_of_trod {α : Type} {t e : TypeId} {sz fuel : Nat} {R : α → List Value → Prop} {cs : List Value} {x : DataW H × List MemPlace} (ht : P.underlying t = some (.slice e)) (hC : P.cellsOf e = sz) (hsz : 0 < sz)
    (hR : ∀ n cs x, cs.length = sz → DataW.trod enc P w base spare held n e cs = some x → ∃ a : α, R a cs) (h : DataW.trod enc P w base spare held fuel t cs = some x) :
    ∃ (v : Value) (xs : List α), cs = [v] ∧ Sl w (fun _ => True) sz R v xs := by
  rcases open_slice ht h with ⟨h0, _⟩ | ⟨a, len, cap, m, n, D, Pl, hcs, hb, hl, hm, hmm, _, hi⟩
  · exact ⟨_, [], h0, none, 0, rfl, by simp, by unfold maxLen; omega, fun _ => rfl, fun h => absurd h (by simp)⟩
  · have hlm : len ≤ m := by rw [hmm]; split <;> omega
    have hel : ∀ i, i < len → ∃ a' : α, ∃ cs' : List Value, cs'.length = sz ∧ R a' cs' ∧ ∀ j, j < sz → w.cell? ((a.add (i * sz)).add j) = cs'[j]? := fun i hlt => by
      obtain ⟨cs', hc, ht'⟩ := hi i (by omega)
      rw [hC] at hc
      obtain ⟨_, hlen, hcell⟩ := World.cells?_some hc
      obtain ⟨a', ha'⟩ := hR _ _ _ hlen ht'
      exact ⟨a', cs', hlen, ha', hcell⟩
    obtain ⟨xs, hxl, hx⟩ := list_of_forall len hel
    refine ⟨_, xs, hcs, some a, cap, by rw [hxl], by omega, hm, (fun h => by cases h), fun h0 => ?_⟩
    have h00 : xs[0]? = some xs[0] := List.getElem?_eq_getElem h0
    obtain ⟨cs0, hl0, _, hc0⟩ := hx 0 _ h00
    have hc00 := hc0 0 hsz
    rw [List.getElem?_eq_getElem (by omega)] at hc00
    have hspot := World.cell?_spot hc00
    simp [Addr.add] at hspot
    obtain ⟨b, o, s⟩ := a
    dsimp only at hspot
    subst hspot
    refine ⟨b, o, rfl, trivial, ?_, fun i y hy => ?_⟩
    · have := World.block_lt_of_cell? _ _ hc00
      simpa [Addr.add] using this
    · obtain ⟨cs', hl', hr', hc'⟩ := hx i y hy
      refine ⟨cs', hl', hr', fun j u hu => ?_⟩
      have hj : j < sz := by rw [← hl']; exact (List.getElem?_eq_some_iff.1 hu).1
      rw [← hu, ← hc' j hj, add_form]

theorem trod_ints5 {t e : TypeId} {fuel : Nat} {cs : List Value} {x : DataW H × List MemPlace} (ht : P.underlying t = some (.array 5 e)) (he : P.underlying e = some (.int .i64)) (hC : P.cellsOf t = 5) (hCe : P.cellsOf e = 1)
    (h : DataW.trod enc P w base spare held fuel t cs = some x) : ∃ y : TCall, cs = [.int .i64 y.a0, .int .i64 y.a1, .int .i64 y.a2, .int .i64 y.a3, .int .i64 y.a4] := by
  obtain ⟨xs, m, _, _, hlen, hxl, hf⟩ := DataW.trod_array ht h
  rw [hC] at hlen
  match cs, hlen with
  | [c0, c1, c2, c3, c4], _ =>
    match xs, hxl with
    | [x0, x1, x2, x3, x4], _ =>
      have g := fun i (hi : i < 5) => by have := hf i hi; rw [hCe] at this; exact this
      obtain ⟨n0, e0, _⟩ := DataW.trod_int he (g 0 (by omega))
      obtain ⟨n1, e1, _⟩ := DataW.trod_int he (g 1 (by omega))
      obtain ⟨n2, e2, _⟩ := DataW.trod_int he (g 2 (by omega))
      obtain ⟨n3, e3, _⟩ := DataW.trod_int he (g 3 (by omega))
      obtain ⟨n4, e4, _⟩ := DataW.trod_int he (g 4 (by omega))
      simp at e0 e1 e2 e3 e4
      exact ⟨⟨n0, n1, n2, n3, n4⟩, by simp [e0, e1, e2, e3, e4]⟩
theorem open_call {r : Reach} {b0 : Nat} {t e : TypeId} {v : Value} {d : DataW H} {ps : List MemPlace} (ht : P.underlying t = some (.array 5 e)) (he : P.underlying e = some (.int .i64)) (hC : P.cellsOf t = 5) (hCe : P.cellsOf e = 1)
    (hv : Value.okWide P w r b0 t v) (h : DataW.Trod enc P w base spare held t v d ps) : ∃ y : TCall, v = callV y := by
  simp only [Value.okWide, ht] at hv
  obtain ⟨cs, rfl, _, _⟩ := hv
  obtain ⟨fuel, hf⟩ := h
  obtain ⟨y, hy⟩ := trod_ints5 ht he hC hCe hf
  obtain ⟨l⟩ := cs
  exact ⟨y, by simp only [Value.cells] at hy; subst hy; rfl⟩

theorem open_code {t e ei : TypeId} {fs : Array Field} {r : Reach} {b0 : Nat} {v : Value} {d : DataW H} {ps : List MemPlace} (ht : P.underlying t = some (.slice e)) (he : P.underlying e = some (.struct fs)) (hC : P.cellsOf e = 4) (hi : P.underlying ei = some (.int .i64)) (hCi : P.cellsOf ei = 1)
    (hfs : fs.map (fun f => (f.type, f.offset)) = #[(ei, 0), (ei, 1), (ei, 2), (ei, 3)])
    (hv : Value.okWide P w r b0 t v) (h : DataW.Trod enc P w base spare held t v d ps) : ∃ l, RdCode w (fun _ => True) v l := by
  obtain ⟨a, len, cap, rfl⟩ := okWide_slice ht hv
  obtain ⟨fuel, hf⟩ := h
  have hR : ∀ n cs x, cs.length = 4 → DataW.trod enc P w base spare held n e cs = some x → ∃ a : TIns, insR a cs := fun n cs x hl hx => by
    obtain ⟨xs, m, _, _, _, hxl, hg⟩ := DataW.trod_struct he hx
    have hsz : fs.size = 4 := by have := congrArg Array.size hfs; simpa using this
    match cs, hl with
    | [c0, c1, c2, c3], _ =>
      have g : ∀ (i : Nat), i < 4 → ∃ n, ([c0, c1, c2, c3].drop i).take 1 = [.int .i64 n] := fun i hi4 => by
        have hfi : fs[i]? = some fs[i] := Array.getElem?_eq_getElem (by omega)
        have h1 := congrArg (fun a => a[i]?) hfs
        simp only [Array.getElem?_map, hfi, Option.map_some] at h1
        have h2 : fs[i].type = ei ∧ fs[i].offset = i := by
          have : i = 0 ∨ i = 1 ∨ i = 2 ∨ i = 3 := by omega
          rcases this with rfl | rfl | rfl | rfl <;> simpa using h1
        have := hg i _ hfi
        rw [h2.1, h2.2, hCi] at this
        rw [List.getElem?_eq_getElem (by omega)] at this
        obtain ⟨n, e, _⟩ := DataW.trod_int hi this
        exact ⟨n, e⟩
      obtain ⟨n0, e0⟩ := g 0 (by omega)
      obtain ⟨n1, e1⟩ := g 1 (by omega)
      obtain ⟨n2, e2⟩ := g 2 (by omega)
      obtain ⟨n3, e3⟩ := g 3 (by omega)
      simp at e0 e1 e2 e3
      exact ⟨⟨n0, n1, n2, n3⟩, by simp [insR, e0, e1, e2, e3]⟩
  obtain ⟨v', xs, hcs, hsl⟩ := sl_of_trod ht hC (by omega) hR hf
  simp [Value.cells] at hcs
  rw [hcs]
  exact ⟨xs, hsl⟩
end
end Go.Proofs.YtmokmmpomgjemaaDoor
