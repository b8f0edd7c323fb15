/- Walk: slices.Clone at Rule. Bound: the result's bytes. -/
import Derived.Test.YtmokmmpomgjemaaDoorConcatRule
import Derived.Test.YtmokmmpomgjemaaDoorBlk
namespace Go.Proofs.YtmokmmpomgjemaaDoor
open Go.RowKit

set_option maxRecDepth 100000 in
set_option maxHeartbeats 1000000 in
theorem cloneRule_any {α : Type} (R : α → List Value → Prop) (h1R : ∀ (y : α) (cs : List Value), R y cs → ∀ c ∈ cs, c.oneCell' = true) (v : Value) (xs : List α) (D : Nat → Prop) (w : World) (h : Sl w D 2 R v xs) (hn : xs.length * 32 ≤ 140737488355328) :
    Calls Tryd.prog 13 #[v] w fun e w' => ∃ v', e = .returned v' ∧ OwnSl w' w.heap.size 46 2 R v' xs ∧ Below w.heap.size w w' := by
  obtain ⟨i0, hi, hz0, hz1, hz2⟩ := info_parts infocRule
  have H := Lib.hid h
  obtain ⟨a, c, rfl, hlc, hcm, hnil, hat⟩ := h
  have Hi := Lib.hid hi
  clear hi
  cases a with
  | none =>
    have hc := hnil rfl
    subst hc
    have hx : xs = [] := List.length_eq_zero_iff.1 (by omega)
    subst hx
    have hq := fun (a : Option Addr) (n c : Nat) (W : World) => Lib.run_eql_slice_nil (P := Tryd.prog) W 22 46 a n c 0 0 Tryd.underlying22
    go_enter Tryd.func13, Tryd.ntmps13
    go_wp2
    go_ret
    exact ⟨_, rfl, OwnSl.nil, Below.refl _ _⟩
  | some ad =>
    have H2 := Lib.hid (H.out.belowR (bel_alloc (Below.refl _ w) (.cells #[] 46)) (fun _ _ _ h => h))
    have Hown : Hid (OwnSl (w.alloc (.cells #[] 46)) w.heap.size 46 2 R (.slice (some ⟨w.heap.size, 0, none⟩) 0 0) ([] : List α)) :=
      ⟨[], RowsOf.nil, by simp, .inr ⟨w.heap.size, 0, #[], rfl, Nat.le_refl _, heap_last _ _, by simp, by simp, by simp, by simp⟩⟩
    clear hat hnil
    have hq := fun (a : Option Addr) (n c : Nat) (W : World) => Lib.run_eql_slice_nil (P := Tryd.prog) W 22 46 a n c 0 0 Tryd.underlying22
    go_enter Tryd.func13, Tryd.ntmps13
    go_wp2_with (at_builtin; refine wpList_app rfl _ _ 22 rfl w.heap.size 46 i0 _ 2 32 Tryd.underlying22 Hi.out hz0 hz1 hz2 rfl (by decide) _ _ rfl Hown.out _ _ rfl H2.out (fun y _ cs h => h1R y cs h) (by show 0 + _ ≤ maxLen; unfold maxLen; omega) (by show (0 + _) * 32 ≤ _; omega) (by simp) ?_; intro v' w3 hown' hg)
    go_ret
    exact ⟨_, rfl, hown', Hown.out.grown (bel_alloc (Below.refl _ _) _) hg (by simp) (Nat.le_refl _)⟩
end Go.Proofs.YtmokmmpomgjemaaDoor
