/- strings.Cut and strings.Split at one byte, as lists of bytes. Condition: Laid, few enough bytes. -/
import Derived.Test.YtmokmmpomgjemaaDoorLaid
import Derived.Test.YtmokmmpomgjemaaDoorReadSpec
import Derived.Lib.SplitLaws
namespace Go.Proofs.YtmokmmpomgjemaaDoor
open Go.RowKit

theorem splitB_words (t : ByteArray) : (Lib.splitB ⟨#[32]⟩ 0 (Lib.countB t ⟨#[32]⟩) t).map (·.data.toList) = words t.data.toList := by
  rw [Lib.splitB_data]; rfl
theorem splitB_sizes (sep : ByteArray) : ∀ (k : Nat) (t : ByteArray), ∀ u ∈ Lib.splitB sep 0 k t, u.size ≤ t.size
  | 0, t, u, h => by simp [Lib.splitB_zero] at h; subst h; exact Nat.le_refl _
  | k + 1, t, u, h => by
    unfold Lib.splitB at h
    split at h
    · simp at h; subst h; exact Nat.le_refl _
    · rcases List.mem_cons.1 h with h | h
      · subst h; simp [ByteArray.size_extract]; omega
      · have := splitB_sizes sep k _ u h
        simp [ByteArray.size_extract] at this; omega

theorem split_any (t : ByteArray) (w : World) (hL : Laid w) (hs : t.size < 4294967281) : Calls Tryd.prog 28 #[.string t, .string ⟨#[32]⟩] w fun e w' =>
    ∃ ws : List ByteArray, e = .returned (.slice (some ⟨w.heap.size, 0, none⟩) ws.length ws.length) ∧ w' = w.alloc (.cells (ws.map Value.string).toArray 9) ∧ ws.map (·.data.toList) = words t.data.toList ∧ 0 < ws.length ∧ ws.length ≤ t.size + 1 ∧ ∀ u ∈ ws, u.size ≤ t.size := by
  obtain ⟨m, hm⟩ := hL.ml
  refine (Tryd.strings_Split t ⟨#[32]⟩ m w hs hm (by decide)).mono ?_
  rintro e w1 ⟨rfl, rfl⟩
  have hl := Lib.splitB_all ⟨#[32]⟩ (by decide) 0 _ t rfl
  have hc := Lib.countB_le ⟨#[32]⟩ (by decide) _ t (Nat.le_refl _)
  exact ⟨_, by rw [hl], rfl, splitB_words t, by omega, by omega, splitB_sizes _ _ t⟩

theorem cut_any (t : ByteArray) (w : World) (hL : Laid w) (hs : t.size < 4294967281) : Calls Tryd.prog 27 #[.string t, .string ⟨#[59]⟩] w fun e w' =>
    ∃ (a r : ByteArray) (more : Bool), e = .returned (.tuple #[.string a, .string r, .bool more]) ∧ a.data.toList = (Lib.cut t.data.toList [59]).1 ∧ r.data.toList = (Lib.cut t.data.toList [59]).2.1 ∧ more = (Lib.cut t.data.toList [59]).2.2 ∧ a.size ≤ t.size ∧ (more = true → r.size < t.size) ∧ Below w.heap.size w w' := by
  obtain ⟨m, hm⟩ := hL.ml
  refine (Tryd.strings_Cut t ⟨#[59]⟩ m w hs hm).mono ?_
  rintro e w1 ⟨rfl, n, rfl⟩
  refine ⟨_, _, _, rfl, by simp, by simp, rfl, ?_, ?_, Go.Joins.below_draws _ _ _⟩
  · show ((Lib.cut t.data.toList [59]).1.toArray).size ≤ t.data.size
    unfold Lib.cut
    split
    · simp; omega
    · simp
  · intro h
    show ((Lib.cut t.data.toList [59]).2.1.toArray).size < t.data.size
    revert h
    show (Lib.cut t.data.toList [59]).2.2 = true → _
    unfold Lib.cut
    split
    · rename_i h0
      intro _
      have hne : t.data.toList ≠ [] := fun e => by rw [e] at h0; simp [Lib.index] at h0
      have : 0 < t.data.toList.length := List.length_pos_iff.2 hne
      simp at this ⊢
      omega
    · intro h; cases h
end Go.Proofs.YtmokmmpomgjemaaDoor
