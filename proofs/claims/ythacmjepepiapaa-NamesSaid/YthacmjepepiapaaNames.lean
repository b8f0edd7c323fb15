/- Names returns true in every world. No condition. -/
import Derived.Test.YthacmjepepiapaaEqual
namespace Go.Proofs.Ythacmjepepiapaa
open Go.RowKit

def ints (l : List Int) : Array Value := (l.map (Value.int .i64)).toArray
theorem ints_flat : ∀ l : List Int, (ints l).toList = (l.map fun x => [Value.int .i64 x]).flatten
  | [] => rfl
  | a :: l => by have := ints_flat l; simp [ints] at this ⊢; exact this
theorem rd_ints {w : World} {b : Nat} {l : List Int} {T : TypeId} {fr : Nat × Nat} (hb : w.heap[b]? = some (.cells (ints l) T fr)) (hm : l.length ≤ maxLen) : RdInts w (fun _ => True) (.slice (some ⟨b, 0, none⟩) l.length l.length) l :=
  rd_row hb trivial (l.map fun x => [.int .i64 x]) (ints_flat l) (by simp) (by intro r hr; obtain ⟨x, _, rfl⟩ := List.mem_map.1 hr; rfl)
    (fun i x r hx hr => by rw [List.getElem?_map, hx] at hr; simp at hr; exact hr.symm) hm

def limitsL : List Int := [5, 63, 3, 65535, 10, 120, 1500, 1000, 6, 4, 40, 60000, 60]
def kindsL : List Int := [0, 1, 2, 3, 4, 1, 2, 3, 4, 1, 2, 3, 4, 1, 2, 3, 4, 1, 2, 3, 4, 5, 6, 7]
theorem rd_limits {w : World} {b : Nat} {T : TypeId} (hb : w.heap[b]? = some (.cells #[.int .i64 5, .int .i64 63, .int .i64 3, .int .i64 65535, .int .i64 10, .int .i64 120, .int .i64 1500, .int .i64 1000, .int .i64 6, .int .i64 4, .int .i64 40, .int .i64 60000, .int .i64 60] T)) :
    RdInts w (fun _ => True) (.slice (some ⟨b, 0, none⟩) 13 13) limitsL := rd_ints (l := limitsL) hb (by simp [limitsL, maxLen])
theorem rd_kinds {w : World} {b : Nat} {T : TypeId} (hb : w.heap[b]? = some (.cells #[.int .i64 0, .int .i64 1, .int .i64 2, .int .i64 3, .int .i64 4, .int .i64 1, .int .i64 2, .int .i64 3, .int .i64 4, .int .i64 1, .int .i64 2, .int .i64 3, .int .i64 4, .int .i64 1, .int .i64 2, .int .i64 3, .int .i64 4, .int .i64 1, .int .i64 2, .int .i64 3, .int .i64 4, .int .i64 5, .int .i64 6, .int .i64 7] T)) :
    RdInts w (fun _ => True) (.slice (some ⟨b, 0, none⟩) 24 24) kindsL := rd_ints (l := kindsL) hb (by simp [kindsL, maxLen])
theorem nine (k : Nat) (h : k < 9) : (#[Value.int .i64 0, .int .i64 1, .int .i64 2, .int .i64 3, .int .i64 4, .int .i64 5, .int .i64 6, .int .i64 7, .int .i64 8] : Array Value)[k]? = some (.int .i64 k) := by
  have hk : k = 0 ∨ k = 1 ∨ k = 2 ∨ k = 3 ∨ k = 4 ∨ k = 5 ∨ k = 6 ∨ k = 7 ∨ k = 8 := by omega
  rcases hk with rfl | rfl | rfl | rfl | rfl | rfl | rfl | rfl | rfl <;> rfl

set_option maxHeartbeats 1000000 in
set_option maxRecDepth 100000 in
theorem names_walk {w : World} : Calls Try.prog 3 #[] w fun e w' => e = .returned (.bool true) ∧ Below w.heap.size w w' := by
  go_enter Try.func3, Try.ntmps3
  go_wp2_with fail
  go_loop [9] (fun i => ∃ k : Nat, k ≤ 9 ∧ i = .int .i64 k) (fun i => 9 - (intOf i).toNat)
  case atStart => exact ⟨0, by omega, rfl⟩
  case round =>
    obtain ⟨k, hk, rfl⟩ := hrel
    by_cases hlt : k < 9
    · have h9 : ∀ T, (w.alloc (.cells #[Value.int .i64 0, .int .i64 1, .int .i64 2, .int .i64 3, .int .i64 4, .int .i64 5, .int .i64 6, .int .i64 7, .int .i64 8] T)).cell? ⟨w.heap.size, k, none⟩ = some (.int .i64 k) := fun T => by
        rw [World.cell?_alloc_at _ _ _ _ rfl]; exact nine k hlt
      have b0 : ((k : Int) != (k : Int)) = false := by simp
      go_wp2
      go_round
      case rel => exact ⟨k + 1, by omega, by go_num⟩
      case measure => simp [intOf]; omega
    · obtain rfl : k = 9 := by omega
      go_wp2_with fail
      have k1 := blk_old (o := .cells #[.int .i64 5, .int .i64 63, .int .i64 3, .int .i64 65535, .int .i64 10, .int .i64 120, .int .i64 1500, .int .i64 1000, .int .i64 6, .int .i64 4, .int .i64 40, .int .i64 60000, .int .i64 60] 3) (blk_at (w := (w.alloc (.cells #[.int .i64 0, .int .i64 1, .int .i64 2, .int .i64 3, .int .i64 4, .int .i64 5, .int .i64 6, .int .i64 7, .int .i64 8] 22)).alloc (.cells #[.int .i64 5, .int .i64 63, .int .i64 3, .int .i64 65535, .int .i64 10, .int .i64 120, .int .i64 1500, .int .i64 1000, .int .i64 6, .int .i64 4, .int .i64 40, .int .i64 60000, .int .i64 60] 3)) (b := w.heap.size + 1 + 1) (o := .cells #[.int .i64 0, .int .i64 1, .int .i64 2, .int .i64 3, .int .i64 4, .int .i64 1, .int .i64 2, .int .i64 3, .int .i64 4, .int .i64 1, .int .i64 2, .int .i64 3, .int .i64 4, .int .i64 1, .int .i64 2, .int .i64 3, .int .i64 4, .int .i64 1, .int .i64 2, .int .i64 3, .int .i64 4, .int .i64 5, .int .i64 6, .int .i64 7] 3) (by simp))
      have K1 := Lib.hid k1
      clear k1
      refine (eqints_any _ _ limitsL limitsL (fun _ => True) _ (rd_limits (blk_old (blk_old (blk_at (by simp))))) (rd_limits (blk_at (by simp)))).mono ?_
      rintro e w1 ⟨rfl, hb1⟩
      simp only
      have Hb1 := Lib.hid hb1
      have K2 := Lib.hid (blk_below K1.out hb1)
      have hsz := hb1.size
      clear hb1 K1
      go_wp2_with fail
      refine (eqints_any _ _ kindsL kindsL (fun _ => True) _ (rd_kinds (blk_old K2.out)) (rd_kinds (blk_at rfl))).mono ?_
      rintro e w2 ⟨rfl, hb2⟩
      simp only
      go_wp2
      go_ret
      exact ⟨rfl, bel_alloc_call ((bel_alloc (bel_alloc (bel_alloc (bel_alloc (Below.refl _ _) _) _) _) _).trans (Hb1.out.mono (by simp; omega))) hb2⟩
end Go.Proofs.Ythacmjepepiapaa
