/- Walks: code.Run; the reference's CheckCall. No condition. -/
import Derived.Test.YtlhhomimcnjnfaaDoorCode
namespace Go.Proofs.YtlhhomimcnjnfaaDoor
open Go.RowKit
attribute [local go_sem] gives givesUpon

set_option maxHeartbeats 1000000 in
theorem rcheckcall_any (x : TCall) (w : World) : Calls Tryd.prog 16 #[callV x] w fun e w' => e = .returned (.int .i64 (callE x)) ∧ Below w.heap.size w w' := by
  go_enter Tryd.func16, Tryd.ntmps16
  go_wp2_with fail
  go_loopw [4] (fun i wr => ∃ k : Nat, k ≤ 5 ∧ i = .int .i64 k ∧ Hid (okTo x k) ∧ Below (w.heap.size + 1) (w.alloc (.cells #[.int .i64 x.a0, .int .i64 x.a1, .int .i64 x.a2, .int .i64 x.a3, .int .i64 x.a4] 26)) wr) (fun i _ => 5 - (intOf i).toNat)
  case atStart => exact ⟨0, by omega, rfl, fun j hj => absurd hj (by omega), Below.refl _ _⟩
  case round =>
    obtain ⟨k, hk, rfl, hok, hb⟩ := hrel
    have hbel : Below w.heap.size w wr := (bel_alloc (Below.refl _ _) _).trans (hb.mono (by omega))
    have Hb := Lib.hid hbel
    have hsz : w.heap.size + 1 ≤ wr.heap.size := by have := hb.size; simp at this; omega
    clear hbel
    by_cases hlt : k < 5
    · have hc : ∀ W, Cls (w.heap.size + 1) wr W → W.cell? ⟨w.heap.size, k, none⟩ = some (.int .i64 (x.get k)) := fun W hW => by
        rw [hW.2.cell (p := ⟨w.heap.size, k, none⟩) (by simp), hb.cell (p := ⟨w.heap.size, k, none⟩) (by simp), World.cell?_alloc_at _ _ _ _ rfl]
        exact cell5 x k hlt
      have Hc := Lib.hid hc
      clear hc
      go_wp2_with fail
      refine wp_region_exact (w.heap.size + 1) hsz (by kernel_rfl) (by kernel_rfl) ?_
      repeat (refine monoE_step (fun K hK => ?_); apply Exists.intro; refine ⟨fun W hC R hR => ?_, ?_⟩; (first
        | (have := Hc.out W hC; go_simp; exact hR _ _ (Below.refl _ _) rfl)
        | (go_simp; go_at_call 48; refine (mostof_any _ _).mono ?_; rintro e w1 ⟨rfl, hb1⟩; exact ⟨_, rfl, hR _ _ hb1 rfl⟩)
        | (go_simp; go_at_call 47; refine (in_any _ _ _ _).mono ?_; rintro e w1 ⟨rfl, rfl⟩; exact ⟨_, rfl, hR _ _ (Below.refl _ _) rfl⟩)); (go_simp; refine hK _ ?_; clear hK K))
      intro w2 hC2
      have fin : ∀ hr : ¬ (0 ≤ x.get k ∧ x.get k ≤ mostOf k), Ending.returned (.int .i64 3) = .returned (.int .i64 (callE x)) ∧ Below w.heap.size w w2 := fun hr => ⟨ret_int (okTo_not hlt hr).symm, Hb.out.trans (hC2.2.mono (by omega))⟩
      by_cases hr : 0 ≤ x.get k ∧ x.get k ≤ mostOf k
      · have hnx : okTo x (k + 1) := fun j hj => by
          by_cases e : j = k
          · subst e; exact hr
          · exact hok.out j (by omega)
        have Hnx := Lib.hid hnx
        have d := inB_yes hr.1 hr.2
        clear hnx fin hr
        simp only [d, Bool.not_true]
        go_wp2
        go_roundw
        case rel => exact ⟨k + 1, by omega, by go_num, Hnx, hb.trans hC2.2⟩
        case measure => simp [intOf]; omega
      · have Hf := Lib.hid (fin hr)
        have d := inB_no hr
        clear fin hr
        simp only [d, Bool.not_false]
        go_wp2
        go_ret
        exact Hf.out
    · obtain rfl : k = 5 := by omega
      go_wp2
      go_ret
      exact ⟨ret_int (okTo_all hok.out).symm, Hb.out⟩

/-- What the loop of Run holds. -/
def RunAt (x : TCall) (l : List TIns) (k : Nat) (n : Int) (d : Nat) : Prop := ∃ f, (l.drop k).length ≤ f ∧ run l x = runGo x f (l.drop k) n d
theorem RunAt.start (x : TCall) (l : List TIns) : RunAt x l 0 0 0 := ⟨l.length, by simp, rfl⟩
theorem RunAt.ret {x : TCall} {l : List TIns} {k : Nat} {n : Int} {d : Nat} (h : RunAt x l k n d) (hk : k < l.length) (h4 : l[k].k = 4) : run l x = (l[k].a, d + 1) := by
  obtain ⟨f, hf, hr⟩ := h
  rw [hr, runGo_ret x f l n d k hk hf h4]
theorem RunAt.load {x : TCall} {l : List TIns} {k : Nat} {n : Int} {d : Nat} (h : RunAt x l k n d) (hk : k < l.length) (h1 : l[k].k = 1) : RunAt x l (k + 1) (x.get l[k].a) (d + 1) := by
  obtain ⟨f, hf, hr⟩ := h
  obtain ⟨f', hf', hs⟩ := runGo_step x f l n d k hk hf (by omega)
  exact ⟨f', hf', by rw [hr, hs, if_pos h1]⟩
theorem RunAt.jump {x : TCall} {l : List TIns} {k : Nat} {n : Int} {d : Nat} (h : RunAt x l k n d) (hk : k < l.length) (h1 : l[k].k = 2 ∨ l[k].k = 3) : RunAt x l (k + 1 + insNext l[k] n) n (d + 1) := by
  obtain ⟨f, hf, hr⟩ := h
  obtain ⟨f', hf', hs⟩ := runGo_step x f l n d k hk hf (by omega)
  exact ⟨f', by simp at hf' ⊢; omega, by rw [hr, hs, if_neg (by omega)]⟩

set_option maxHeartbeats 2000000 in
theorem run_ok (v : Value) (l : List TIns) (x : TCall) (D : Nat → Prop) (w : World) (h : RdCode w D v l) (hc : codeE l = 0) (hx : x.ok) :
    Calls Tryd.prog 26 #[v, callV x] w fun e w' => e = .returned (.tuple #[.int .i64 (run l x).1, .int .i64 (run l x).2, .int .i64 0]) ∧ Below w.heap.size w w' := by
  obtain ⟨hR, hl⟩ := right_of hc
  have hpos : 0 < l.length := List.length_pos_iff.2 hR.ne
  obtain ⟨a, c, rfl, hlc, hcm, hat⟩ := Sl.form h
  obtain ⟨b, o, rfl, hDb, hb⟩ := hat hpos
  have H := Lib.hid h
  have HR := Lib.hid hR
  have Hc := Lib.hid hc
  have Hx := Lib.hid hx
  have hxe : Hid (callE x = 0) := if_pos hx
  clear h hR hc hx hat
  go_enter Tryd.func26, Tryd.ntmps26
  go_wp2_with (first
    | (go_at_call 27; refine (codecheck_any _ _ _ _ (RdCode.below H.out (bel_alloc (Below.refl _ _) _))).mono ?_; rw [Hc.out]; rintro e w1 ⟨rfl, hb1⟩; have hb1' : Below (w.heap.size + 1) _ w1 := hb1.mono (by simp); have hcell := box_cells hb1'; clear hb1)
    | (go_at_call 45; refine (callcheck_any x _).mono ?_; rw [hxe.out]; rintro e w2 ⟨rfl, hb2⟩; have hb2' := hb1'.trans (hb2.mono (size_box hb1')); clear hb2 hb1' hcell))
  go_loopw [9, 10, 11] (fun n d at_ wr => ∃ (k dn : Nat) (nn : Int), k < l.length ∧ dn ≤ k ∧ n = .int .i64 nn ∧ d = .int .i64 dn ∧ at_ = .int .i64 k ∧ RunAt x l k nn dn ∧ Below (w.heap.size + 1) (w.alloc (.cells #[.int .i64 x.a0, .int .i64 x.a1, .int .i64 x.a2, .int .i64 x.a3, .int .i64 x.a4] 26)) wr) (fun _ _ i _ => l.length - (intOf i).toNat)
  case atStart => exact ⟨0, 0, 0, hpos, by omega, rfl, rfl, rfl, RunAt.start x l, hb2'⟩
  case round =>
    obtain ⟨k, dn, nn, hk, hdn, rfl, rfl, rfl, hrun, hbx⟩ := hrel
    have Hrun := Lib.hid hrun
    have hsz := size_box hbx
    obtain ⟨c0, c1, c2, c3⟩ := RdCode.cells (RdCode.below H.out (bel_box hbx)) hk
    have hcell := box_cells hbx
    have hfrz : True := trivial
    obtain ⟨hi, hn4⟩ := HR.out.at_ hk
    have Hn4 := Lib.hid hn4
    clear hrun hn4 hb2'
    rcases insE_cases hi with ⟨h4, h5, h6, h7, h8⟩ | ⟨h1, h5, h6, h7, h8⟩ | ⟨h23, h5, h6, h7, h8, h9, h10⟩
    · rw [h4] at c0
      have Hr := Lib.hid (Hrun.out.ret hk h4)
      clear hi h4 h5 h6 h7 h8
      go_wp2
      go_ret3
      exact ⟨by rw [Hr.out]; simp, bel_alloc (bel_box hbx) _⟩
    · obtain ⟨m, hm⟩ := Int.eq_ofNat_of_zero_le h5
      have Hn := Lib.hid (Hrun.out.load hk h1)
      have hk1 := Hn4.out (by omega)
      rw [h1] at c0
      rw [hm] at c1 Hn
      have hm5 : m < 5 := by omega
      have hcm := hcell m
      rw [cell5 x m hm5] at hcm
      have hcm' : ∀ o, (wr.alloc o).cell? ⟨w.heap.size, m, none⟩ = some (.int .i64 (x.get m)) := fun o => (World.cell?_alloc_lt wr o ⟨w.heap.size, m, none⟩ (show w.heap.size < wr.heap.size by omega)).trans hcm
      clear hi h1 h5 h6 h7 h8 hm hcell Hrun
      go_wp2
      go_roundw
      case rel => exact ⟨k + 1, dn + 1, _, hk1, by omega, rfl, by go_num, by go_num, Hn.out, hbx.trans ((Below.refl _ _).alloc (size_box hbx) _)⟩
      case measure => simp [intOf]; omega
    · obtain ⟨mb, hmb⟩ := Int.eq_ofNat_of_zero_le h7
      obtain ⟨mc, hmc⟩ := Int.eq_ofNat_of_zero_le h9
      have Hn := Lib.hid (Hrun.out.jump hk h23)
      rw [hmb] at c2
      rw [hmc] at c3
      have hx : Hid (insNext l[k] nn = if (l[k].k = 2 ∧ nn = l[k].a) ∨ (l[k].k = 3 ∧ nn < l[k].a) then mb else mc) := by unfold insNext; rw [hmb, hmc]; rfl
      have hb1 : k + 1 + mb < l.length := by omega
      have hb2 : k + 1 + mc < l.length := by omega
      clear hi h5 h6 h7 h8 h9 h10 hmb hmc hcell Hrun
      have fin : ∀ (m : Nat) , k + 1 + m < l.length → insNext l[k] nn = m → ∀ wz, Below w.heap.size w wz → True := fun _ _ _ _ _ => trivial
      rcases h23 with h2 | h3
      · rw [h2] at c0
        by_cases he : nn = l[k].a
        · have be : (nn == l[k].a) = true := beq_iff_eq.2 he
          have Hm : Hid (insNext l[k] nn = mb) := by rw [hx.out]; exact if_pos (.inl ⟨h2, he⟩)
          clear he h2 hx fin
          go_wp2
          go_roundw
          case rel => exact ⟨k + 1 + mb, dn + 1, nn, hb1, by omega, rfl, by go_num, by go_num, by have := Hn.out; rwa [Hm.out] at this, hbx.trans ((Below.refl _ _).alloc (size_box hbx) _)⟩
          case measure => simp [intOf]; omega
        · have be : (nn == l[k].a) = false := beq_eq_false_iff_ne.2 he
          have Hm : Hid (insNext l[k] nn = mc) := by rw [hx.out]; exact if_neg (by omega)
          clear he h2 hx fin
          go_wp2
          go_roundw
          case rel => exact ⟨k + 1 + mc, dn + 1, nn, hb2, by omega, rfl, by go_num, by go_num, by have := Hn.out; rwa [Hm.out] at this, hbx.trans ((Below.refl _ _).alloc (size_box hbx) _)⟩
          case measure => simp [intOf]; omega
      · rw [h3] at c0
        by_cases he : nn < l[k].a
        · have Hm : Hid (insNext l[k] nn = mb) := by rw [hx.out]; exact if_pos (.inr ⟨h3, he⟩)
          clear h3 hx fin
          go_wp2
          go_roundw
          case rel => exact ⟨k + 1 + mb, dn + 1, nn, hb1, by omega, rfl, by go_num, by go_num, by have := Hn.out; rwa [Hm.out] at this, hbx.trans ((Below.refl _ _).alloc (size_box hbx) _)⟩
          case measure => simp [intOf]; omega
        · have Hm : Hid (insNext l[k] nn = mc) := by rw [hx.out]; exact if_neg (by omega)
          clear h3 hx fin
          go_wp2
          go_roundw
          case rel => exact ⟨k + 1 + mc, dn + 1, nn, hb2, by omega, rfl, by go_num, by go_num, by have := Hn.out; rwa [Hm.out] at this, hbx.trans ((Below.refl _ _).alloc (size_box hbx) _)⟩
          case measure => simp [intOf]; omega

theorem run_any (v : Value) (l : List TIns) (x : TCall) (D : Nat → Prop) (w : World) (h : RdCode w D v l) :
    Calls Tryd.prog 26 #[v, callV x] w fun e w' => e = .returned (.tuple #[.int .i64 (runE l x).1, .int .i64 (runE l x).2.1, .int .i64 (runE l x).2.2]) ∧ Below w.heap.size w w' := by
  by_cases hc : codeE l = 0
  · by_cases hx : x.ok
    · have e : runE l x = ((run l x).1, ((run l x).2 : Int), 0) := by unfold runE; rw [if_neg (by omega), if_pos hx]
      rw [e]
      exact run_ok v l x D w h hc hx
    · have e : runE l x = (0, 0, 3) := by unfold runE; rw [if_neg (by omega), if_neg hx]
      have H := Lib.hid h
      have Hc := Lib.hid hc
      have hxe : Hid (callE x = 3) := if_neg hx
      rw [e]
      clear h e hc hx
      go_enter Tryd.func26, Tryd.ntmps26
      go_wp2_with (first
        | (go_at_call 27; refine (codecheck_any _ _ _ _ (RdCode.below H.out (bel_alloc (Below.refl _ _) _))).mono ?_; rw [Hc.out]; rintro e w1 ⟨rfl, hb1⟩; have hb1' : Below (w.heap.size + 1) _ w1 := hb1.mono (by simp); have hcell := box_cells hb1'; clear hb1)
        | (go_at_call 45; refine (callcheck_any x _).mono ?_; rw [hxe.out]; rintro e w2 ⟨rfl, hb2⟩; have hb2' := hb1'.trans (hb2.mono (size_box hb1')); clear hb2 hb1' hcell))
      go_ret3
      exact ⟨rfl, bel_box hb2'⟩
  · have e : runE l x = (0, 0, codeE l) := by unfold runE; rw [if_pos hc]
    have H := Lib.hid h
    have be : (codeE l != 0) = true := bne_iff_ne.2 hc
    rw [e]
    clear h e hc
    go_enter Tryd.func26, Tryd.ntmps26
    go_wp2_with (first
      | (go_at_call 27; refine (codecheck_any _ _ _ _ (RdCode.below H.out (bel_alloc (Below.refl _ _) _))).mono ?_; rintro e w1 ⟨rfl, hb1⟩; have hb1' : Below (w.heap.size + 1) _ w1 := hb1.mono (by simp); clear hb1))
    go_ret3
    exact ⟨rfl, bel_box hb1'⟩
end Go.Proofs.YtlhhomimcnjnfaaDoor
