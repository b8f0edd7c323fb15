/- KeeperReplays returns true at every list of records. Condition: Laid. -/
import Derived.Test.YtkiipnbjckdlbaaGreatDoorK17
import Derived.Test.YtkiipnbjckdlbaaGreatDoorK11
namespace Go.Proofs.YtkiipnbjckdlbaaGreatDoor
open Go.RowKit

set_option maxRecDepth 100000 in
set_option maxHeartbeats 16000000 in
theorem keeperReplays_walk {w : World} (hL : Laid w) (v0 : Value) (l : List TRec) (rd0 : RdRecs w (fun _ => True) v0 l) :
    Calls Tryz.prog 7 #[v0] w fun e w' => e = .returned (.bool true) ∧ Below w.heap.size w w' := by
  have HL := Lib.hid hL
  have H := Lib.hid rd0
  obtain ⟨a0, c0, rfl, _⟩ := Sl.form rd0
  clear rd0 hL
  obtain ⟨⟨N, ne⟩, hN⟩ : ∃ E, replayE l = E := ⟨_, rfl⟩
  have HN := Lib.hid hN
  clear hN
  go_enter Tryz.func7, Tryz.ntmps7
  go_wp2_with fail
  refine (replay_any _ l _ _ H.out).mono ?_
  rw [HN.out]
  rintro e w1 ⟨a1, c1, rfl, hr1, hb1⟩
  have Hb1 := Lib.hid hb1
  have Hr1 := Lib.hid (cells_true hr1)
  clear hr1 hb1
  go_wp2_with fail
  refine (rreplay_any _ l _ _ (H.out.below Hb1.out)).mono ?_
  rw [HN.out]
  rintro e w2 ⟨a2, c2, rfl, hr2, hb2⟩
  have Hb2 := Lib.hid (bel_call Hb1.out hb2)
  have Hr12 := Lib.hid (Hr1.out.below hb2)
  have Hr2 := Lib.hid hr2
  clear hr2 hb2 Hr1
  go_wp2_with fail
  refine (opened_walk _ (HL.out.below Hb2.out)).mono ?_
  rintro e w3 ⟨rfl, hb3⟩
  have Hb3 := Lib.hid (bel_call Hb2.out hb3)
  have Hr13 := Lib.hid (Hr12.out.below hb3)
  have Hr23 := Lib.hid (Hr2.out.below hb3)
  clear hb3 Hr12 Hr2
  go_wp2_with fail
  refine (rkeepsame_any _ _ N N _ Hr13.out Hr23.out).mono ?_
  rw [decide_eq_true (rfl : N = N)]
  rintro e w4 ⟨rfl, hb4⟩
  have Hb4 := Lib.hid (bel_call Hb3.out hb4)
  clear hb4
  go_wp2
  go_ret
  exact ⟨rfl, Hb4.out⟩
end Go.Proofs.YtkiipnbjckdlbaaGreatDoor
