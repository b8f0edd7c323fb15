/- Walks: code.ins, code.Check, code.Run. No condition. -/
import Derived.Test.YtlhhomimcnjnfaaDoorCall
namespace Go.Proofs.YtlhhomimcnjnfaaDoor
open Go.RowKit

set_option maxHeartbeats 4000000 in
theorem ins_any (k a b c n : Int) (w : World) : Calls Tryd.prog 57 #[.agg #[.int .i64 k, .int .i64 a, .int .i64 b, .int .i64 c], .int .i64 n] w fun e w' => e = .returned (.int .i64 (insE ⟨k,a,b,c⟩ n)) ∧ Below w.heap.size w w' := by
  go_enter Tryd.func57, Tryd.ntmps57
  go_wp2
  all_goals go_ret
  all_goals (refine ⟨ret_int ?_, (Below.refl _ _).alloc (Nat.le_refl _) _⟩)
  all_goals (simp only [beq_iff_eq, bne_iff_ne, beq_eq_false_iff_ne, bne_eq_false_iff_eq] at *)
  all_goals (simp [insE])
  all_goals ((repeat' split) <;> first | rfl | omega)

set_option maxHeartbeats 1000000 in
theorem codecheck_any (v : Value) (l : List TIns) (D : Nat → Prop) (w : World) (h : RdCode w D v l) : Calls Tryd.prog 27 #[v] w fun e w' => e = .returned (.int .i64 (codeE l)) ∧ Below w.heap.size w w' := by
  obtain ⟨a, c, rfl, hlc, hcm, hat⟩ := Sl.form h
  have H := Lib.hid h
  clear h
  by_cases h0 : l.length = 0
  · have b0 : ((l.length : Int) == 0) = true := by simp [h0]
    have hs : codeE l = 2 := by simp [codeE, h0]
    rw [hs]; clear hs hat H h0
    go_enter Tryd.func27, Tryd.ntmps27
    go_wp2
    go_ret
    exact ⟨rfl, Below.refl _ _⟩
  · by_cases h1 : 1500 < l.length
    · have b0 : ((l.length : Int) == 0) = false := beq_eq_false_iff_ne.2 (by omega)
      have hs : codeE l = 2 := by simp [codeE, h1]
      rw [hs]; clear hs hat H
      go_enter Tryd.func27, Tryd.ntmps27
      go_wp2
      go_ret
      exact ⟨rfl, Below.refl _ _⟩
    · obtain ⟨b, o, rfl, hDb, hb⟩ := hat (by omega)
      have b0 : ((l.length : Int) == 0) = false := beq_eq_false_iff_ne.2 (by omega)
      have b1 : ¬ (1500 < (l.length : Int)) := by omega
      have hE := Lib.hid (show codeE l = if codeGo l ≠ 0 then codeGo l else if lastK l = 4 then 0 else 4 from if_neg (by omega))
      clear hat
      go_enter Tryd.func27, Tryd.ntmps27
      go_wp2_with fail
      go_loopw [16] (fun i wr => ∃ k : Nat, k ≤ l.length ∧ i = .int .i64 k ∧ codeGo l = codeGo (l.drop k) ∧ Below w.heap.size w wr) (fun i _ => l.length - (intOf i).toNat)
      case atStart => exact ⟨0, by omega, rfl, rfl, Below.refl _ _⟩
      case round =>
        obtain ⟨k, hk, rfl, hgo, hbw⟩ := hrel
        have Hgo := Lib.hid hgo
        clear hgo
        by_cases hlt : k < l.length
        · obtain ⟨c0, c1, c2, c3⟩ := RdCode.cells (RdCode.below H.out hbw) hlt
          have Hd := Lib.hid (codeGo_drop l k hlt)
          have hsz := hbw.size
          go_wp2_with (go_at_call 57; refine (ins_any _ _ _ _ _ _).mono ?_; rintro e w1 ⟨rfl, hb1⟩)
          · rename_i ht
            have ht' := bne_iff_ne.1 ht
            go_ret
            refine ⟨ret_int ?_, bel_alloc_call hbw hb1⟩
            rw [hE.out, Hgo.out, Hd.out]
            simp only [ht', if_false, ne_eq, not_false_eq_true, if_true]
          · rename_i ht
            have ht' := bne_eq_false_iff_eq.1 ht
            go_roundw
            case rel => exact ⟨k + 1, by omega, by go_num, by rw [Hgo.out, Hd.out, if_pos ht'], bel_alloc_call hbw hb1⟩
            case measure => simp [intOf]; omega
        · obtain rfl : k = l.length := by omega
          have hz : codeGo l = 0 := by rw [Hgo.out, List.drop_length]; rfl
          have Hz := Lib.hid hz
          have hl1 : l.length - 1 < l.length := by omega
          obtain ⟨c0, _, _, _⟩ := RdCode.cells (RdCode.below H.out hbw) hl1
          have Hl := Lib.hid (lastK_eq l (by omega))
          clear hz
          by_cases h4 : l[l.length - 1].k = 4
          · rw [h4] at c0
            have Hf := Lib.hid (show codeE l = 0 by rw [hE.out, Hz.out, Hl.out, h4]; simp)
            clear h4
            go_wp2
            go_ret
            exact ⟨ret_int Hf.out.symm, hbw⟩
          · have b4 : (l[l.length - 1].k != 4) = true := bne_iff_ne.2 h4
            have Hf := Lib.hid (show codeE l = 4 by rw [hE.out, Hz.out, Hl.out, if_neg h4]; simp)
            clear h4
            go_wp2
            go_ret
            exact ⟨ret_int Hf.out.symm, hbw⟩
end Go.Proofs.YtlhhomimcnjnfaaDoor
