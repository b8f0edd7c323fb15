/- Walks: policy.which, policy.Judge. No condition (which: of right policies). -/
import Derived.Test.YtmokmmpomgjemaaDoorJudge
namespace Go.Proofs.YtmokmmpomgjemaaDoor
open Go.RowKit

set_option maxHeartbeats 2000000 in
theorem which_any (v : Value) (p : TPol) (x : TCall) (D : Nat → Prop) (w : World) (h : RdRules w D v p.rules) (hok : OkPol p) :
    Calls Tryd.prog 17 #[polV v p.dflt, callV x] w fun e w' => e = .returned (.int .i64 (which x p.rules)) ∧ Below w.heap.size w w' := by
  obtain ⟨rs, d⟩ := p
  dsimp only at h ⊢
  obtain ⟨a, c, rfl, hlc, hcm, hat⟩ := Sl.form h
  have H := Lib.hid h
  have Hok := Lib.hid hok
  have hmk : ∀ (fn : Fn) (first cap : Array Value) (w : World), (Instr.makeFunc fn first cap).run Tryd.prog w = .ok (.func fn first cap) w := fun _ _ _ _ => rfl
  clear h hok
  go_enter Tryd.func17, Tryd.ntmps17
  go_wp2_with fail
  go_loopw [10] (fun i wr => ∃ k : Nat, k ≤ rs.length ∧ i = .int .i64 k ∧ which x rs = k + which x (rs.drop k) ∧ Below (w.heap.size + 2) ((w.alloc (.cells #[.slice a rs.length c, .int .i64 d] 24)).alloc (.cells (callCells x) 26)) wr) (fun i _ => rs.length - (intOf i).toNat)
  case atStart => exact ⟨0, by omega, rfl, by simp, Below.refl _ _⟩
  case round =>
    obtain ⟨k, hk, rfl, hgo, hbx⟩ := hrel
    have Hgo := Lib.hid hgo
    have hsz := size_box2 hbx
    have Hb := Lib.hid (bel_box2 hbx)
    obtain ⟨hc1, hc2⟩ := box2_cells hbx
    clear hgo
    by_cases hlt : k < rs.length
    · obtain ⟨b, o, rfl, hDb, hb⟩ := hat (by omega)
      obtain ⟨a', c', k0, k1, hr, hlc', hcm', hat'⟩ := RdRules.cells (RdRules.below H.out Hb.out) hlt
      have Hr := Lib.hid hr
      have Hd := Lib.hid (which_drop x rs k hlt)
      have Hrok := Lib.hid (Hok.out.rules _ (List.getElem_mem hlt))
      have HC := Lib.hid hc2
      clear hr hc1 hc2 hat'
      go_wp2_with fail
      refine (containsFunc_any _ rs[k].conds x (w.heap.size + 1) D _ (RdConds.below Hr.out (bel_alloc (Below.refl _ _) _)) Hrok.out.conds (fun j => (World.cell?_alloc_lt _ _ ⟨w.heap.size + 1, j, none⟩ (show w.heap.size + 1 < wr.heap.size by omega)).trans (HC.out j)) (by simp; omega)).mono ?_
      rintro e w1 ⟨rfl, hb1⟩
      have hb2 : Below (w.heap.size + 2) wr w1 := ((Below.refl _ _).alloc (by omega) _).trans (hb1.mono (by simp; omega))
      have Hb1 := Lib.hid (hbx.trans hb2)
      clear hb1 hb2
      cases hh : allHold x rs[k].conds with
      | true =>
        have Hn := Lib.hid (show which x rs = k by rw [Hgo.out, Hd.out, if_pos hh]; omega)
        clear hh
        go_wp2
        go_ret
        exact ⟨ret_int (by rw [Hn.out]), bel_box2 Hb1.out⟩
      | false =>
        have Hn := Lib.hid (show which x rs = (k + 1 : Nat) + which x (rs.drop (k + 1)) by rw [Hgo.out, Hd.out, hh]; simp; omega)
        clear hh
        go_wp2
        go_roundw
        case rel => exact ⟨k + 1, by omega, by go_num, Hn.out, Hb1.out⟩
        case measure => simp [intOf]; omega
    · obtain rfl : k = rs.length := by omega
      have Hn := Lib.hid (show which x rs = rs.length by rw [Hgo.out, List.drop_length]; rfl)
      go_wp2
      go_ret
      exact ⟨ret_int (by rw [Hn.out]), Hb.out⟩
end Go.Proofs.YtmokmmpomgjemaaDoor
