/- PointHome returns true for every input of bulk at most 1048576: the tied card. No condition beyond the card's. -/
import Derived.Test.YtioeliocdbckbaaGreatDoorTie
import Derived.Test.YtioeliocdbckbaaGreatDoorCards
import Derived.Test.YtioeliocdbckbaaGreatDoorK7
import Derived.Test.YtioeliocdbckbaaGreatDoorK12
import Derived.Test.YtioeliocdbckbaaGreatDoorJPointHome
import Derived.SevenTiedAt
namespace Go.Proofs.YtioeliocdbckbaaGreatDoor.pointHome
open Go.ChangeShapes Go.WideShapes Go.ChangeAt Go.RowKit
set_option linter.unusedVariables false

theorem own : ownKnob Tryz.prog.godebug = none := by kernel_rfl
theorem laidOut : laidOutB Tryz.prog = true := by kernel_rfl

set_option maxRecDepth 100000 in
theorem lifted (os : Os) (started : os.Started) (H : Type) (enc : TypeId × Value → H) (F : Stop.Interp) :
    ReturnsInHanded {} Tryz.checked os 4 .any ((Rows.OpenSpec.upto Rows.pointHomeSpec).preRow enc Tryz.prog Tryz.f4 Rows.pointHomeUptoRow.domain false Rows.pointHomeUptoRow.laid) (((Rows.OpenSpec.upto Rows.pointHomeSpec).at F).post enc Tryz.prog Tryz.f4 false true false false) := by
  refine returnsInHanded_of_row (C := Tryz.checked) (s := (Rows.OpenSpec.upto Rows.pointHomeSpec)) own started (by kernel_rfl) Tryz.func4
    (witness_rowU (enc := enc) (C := Tryz.checked) false (World.laidAll Tryz.prog os Rows.pointHomeUptoRow.laid) #[.slice none 0 0, callV ⟨0, 0, 0, 0, 0⟩] (World.laidAll_os _ _ _)
      (World.shaped_of_ZipB (by kernel_rfl) (by kernel_rfl)) (by kernel_rfl)
      (OpenSpec.preRow_of_cond 8 (x := ([.nil, .agg [.lit (.int .i64 0), .lit (.int .i64 0), .lit (.int .i64 0), .lit (.int .i64 0), .lit (.int .i64 0)]], [], [])) (by kernel_rfl) (by kernel_rfl) (fun k hk => by cases hk; kernel_rfl) (by kernel_rfl)
        (by rw [MakeChecks.laidMetH_plain _ _ _ (by kernel_rfl)]; exact laidMet_laidAll _ (by kernel_rfl) (by kernel_rfl)))) ?_
  intro W base args ds gs before hval0 hW _ hcond hwt hL0 hsh _
  have hk : Rows.uptoBulkAll (ds ++ gs) ≤ 1048576 := of_decide_eq_true (hcond _ rfl)
  clear hcond
  have hLd : Laid W := laid_of (l := Rows.pointHomeUptoRow.laid) (by kernel_rfl) (by simp [Rows.pointHomeUptoRow]) (by simp [Rows.pointHomeUptoRow]) (by simp [Rows.pointHomeUptoRow]) hL0 hsh
  have hval : ∀ (j : Nat) t v, Tryz.f4.params[j]? = some t → args[j]? = some v → Value.okWide Tryz.prog W .any base t v := hval0
  have hW1 : DataW.Whole enc Tryz.prog Tryz.f4.params.toList Rows.pointHomeSpec.vars false W args.toList ds gs before := hW
  have key : Calls Tryz.prog 4 args W fun e W' => ∃ v, e = .returned v ∧ Rows.pointHomeSpec.post enc Tryz.prog Tryz.f4 false true false false W args v W' := by
    clear hval0 hW
    have hW' := hW1
    obtain ⟨p, q, hA0, hV, rfl, hfz, hnd⟩ := hW1
    have hA : DataW.TrodAll enc Tryz.prog W 0 (fun _ => true) true Tryz.f4.params.toList args.toList ds p := hA0
    rw [Tryz.params4] at hA hval
    obtain ⟨v0, vs0, d0, ds0, p0, q0, hargs, rfl, rfl, h0, r0⟩ := trodAll_cons hA
    obtain ⟨v1, vs1, d1, ds1, p1, q1, rfl, rfl, rfl, h1, r1⟩ := trodAll_cons r0
    obtain ⟨rfl, rfl, rfl⟩ := trodAll_nil r1
    obtain rfl : args = #[v0, v1] := by cases args; simp_all
    obtain ⟨rfl, rfl⟩ := trodVars_none hV
    have k0 := h0
    have lt0 : ∀ x ∈ p0, x.block < W.heap.size := by obtain ⟨m, hm⟩ := k0; exact DataW.trod_lt m _ _ _ hm
    obtain ⟨l0, rd0, bb0⟩ := open_polsW (hval 0 34 v0 rfl rfl) h0
    have bk0 : (l0.flatMap polConds).length + l0.length ≤ 1048576 := Nat.le_trans bb0 (Nat.le_trans (bulk_part (by simp)) hk)
    have k1 := h1
    have lt1 : ∀ x ∈ p1, x.block < W.heap.size := by obtain ⟨m, hm⟩ := k1; exact DataW.trod_lt m _ _ _ hm
    obtain ⟨x1, rfl⟩ := open_call Tryz.underlying26 Tryz.underlying3 (by kernel_rfl) (by kernel_rfl) (hval 1 26 v1 rfl rfl) h1
    clear hA0
    refine (pointHome_walk (w := W) hLd v0 l0 rd0 bk0 x1).mono fun e W' ⟨he, bel⟩ => ?_
    subst he
    exact ⟨_, rfl, _, _, _, [], _, [], hW', trodAll_mk1 (shut_bool Tryz.underlying4 _), (trodAll_cons_mk (Below.trod laidOut (by kernel_rfl) (of_decide_eq_true (by kernel_rfl)) k0 bel lt0) (trodAll_cons_mk (Below.trod laidOut (by kernel_rfl) (of_decide_eq_true (by kernel_rfl)) k1 bel lt1) trodAll_mk0)), rfl, bel.frame _, fun h => by cases h⟩
  exact key

theorem said : Rows.PointHomeUptoSaid :=
  OpenClaim.holds_of_cond 4 Tryz.f4 rfl rfl rfl rfl rfl rfl rfl ⟨rfl, rfl, rfl, rfl, rfl⟩ rfl rfl rfl rfl rfl (by kernel_rfl) Tryz.func4 (by kernel_rfl)
    (of_decide_eq_true (by kernel_rfl)) (by unfold Func.isWrapper; first | (rw [if_pos (by decide +kernel)]; kernel_rfl) | (rw [if_neg (by decide +kernel)]; exact ⟨rfl, rfl⟩))
    (fun os started H enc _ F => by rw [OpenClaim.pre_eq_preRow]; exact lifted os started H enc F)

theorem proved : Rows.PointHomeUptoCardSaid :=
  Claim7.holds_tied_plain_at .later [] _ _ _ _ said (fun _ h => by cases h) (by kernel_rfl) (fun _ h => by cases h) pointHomeUpto_row_tie rfl ⟨rfl, rfl⟩ (by kernel_rfl) rfl
    (fun f fn hf hfn => by
      obtain rfl : f = 4 := Option.some.inj ((show Tryz.prog.funcNamed Rows.pointHomeUptoRow.func = some 4 by kernel_rfl).symm.trans hf) |>.symm
      obtain rfl : fn = Tryz.f4 := (Option.some.inj (Tryz.func4.symm.trans hfn)).symm
      exact ⟨by kernel_rfl, fun j t ht => by
        rw [Tryz.params4] at ht
        have hm : t ∈ [34, 26] := by simpa using Array.mem_of_getElem? ht
        have hall : ([34, 26].all fun u => !Tryz.prog.wantsStandIn u) = true := by kernel_rfl
        exact (show Tryz.prog.wantsStandIn t = false by simpa using List.all_eq_true.1 hall t hm)⟩)
    (by kernel_rfl)
end Go.Proofs.YtioeliocdbckbaaGreatDoor.pointHome
