/- Walks: the closed facts' policy (made), and what it says of three calls (judged). Condition: Laid. -/
import Derived.Test.YtmokmmpomgjemaaDoorRead
import Derived.Test.YtmokmmpomgjemaaDoorJudge3
namespace Go.Proofs.YtmokmmpomgjemaaDoor
open Go.RowKit

set_option maxHeartbeats 1000000 in
theorem made_any (w : World) (hL : Laid w) : Calls Tryd.prog 12 #[] w fun e w' => ∃ v, e = .returned (polV v 4) ∧ RdRules w' (fun b => w.heap.size ≤ b) v madeP.rules ∧ Below w.heap.size w w' := by
  have HL := Lib.hid (hL.below (bel_alloc (Below.refl _ _) (.cells #[.slice none 0 0, .int .i64 0] 24)))
  clear hL
  go_enter Tryd.func12, Tryd.ntmps12
  go_wp2_with fail
  refine (read_walk ⟨writtenL.toArray⟩ _ HL.out (by decide) (by decide)).mono ?_
  rintro e w1 ⟨v, rfl, hr, hb⟩
  have hrm : readP (⟨writtenL.toArray⟩ : ByteArray).data.toList = (madeP, 0) := read_made
  rw [hrm] at hr
  rw [hrm]
  have hd : (madeP, (0 : Int)).1.dflt = 4 := rfl
  rw [hd]
  have hr1 := blk_below (heap_last w (.cells #[.slice none 0 0, .int .i64 0] 24)) hb
  have Hr := Lib.hid hr
  have Hb := Lib.hid (bel_call (bel_alloc (Below.refl _ w) _) hb)
  obtain ⟨a, c, rfl, _⟩ := Sl.form hr
  have hsz := hb.size
  have hr2 : (w1.alloc (.cells #[.slice a madeP.rules.length c, .int .i64 4] 24)).heap[w.heap.size]? = some (.cells #[.slice none 0 0, .int .i64 0] 24) := blk_old hr1
  have hc2 := cells_of hr2
  have hf2 := not_frozen hr2
  have hr4 := set_at (o := 1) (v := .int .i64 4) (set_at (o := 0) (v := .slice a madeP.rules.length c) hr2)
  have hc4 := cells_of hr4
  have Hb4 := Lib.hid (set_below (a := ⟨w.heap.size, 1, none⟩) (v := .int .i64 4) (set_below (a := ⟨w.heap.size, 0, none⟩) (v := .slice a madeP.rules.length c) (bel_alloc Hb.out (.cells #[.slice a madeP.rules.length c, .int .i64 4] 24)) (Nat.le_refl _)) (Nat.le_refl _))
  have HR4 : Hid (RdRules (((w1.alloc (.cells #[.slice a madeP.rules.length c, .int .i64 4] 24)).setCell ⟨w.heap.size, 0, none⟩ (.slice a madeP.rules.length c)).setCell ⟨w.heap.size, 1, none⟩ (.int .i64 4)) (fun b => w.heap.size ≤ b) (.slice a madeP.rules.length c) madeP.rules) :=
    RdRules.keep (Hr.out.below (bel_alloc (Below.refl _ _) _)) (fun b h _ => by have : (w.alloc _).heap.size ≤ b := h; simp at this; show w.heap.size ≤ b; omega) (fun b hb _ => by
      have h1 : (w.alloc _).heap.size ≤ b := hb
      simp at h1
      rw [set_other (by show b ≠ w.heap.size; omega), set_other (by show b ≠ w.heap.size; omega)]) (by rw [set_size, set_size]; exact Nat.le_refl _)
  clear hr hb hrm hd hr1 hr2
  go_wp2
  refine bodyPost_ret (v := polV (.slice a madeP.rules.length c) 4) ?_ rfl ⟨_, rfl, HR4.out, Hb4.out⟩
  simp [results, Tryd.results12, go_sem, hc4]

end Go.Proofs.YtmokmmpomgjemaaDoor
