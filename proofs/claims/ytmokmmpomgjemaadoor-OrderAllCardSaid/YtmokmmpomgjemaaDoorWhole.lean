/- A whole number of a word, as the document reads it; numerals are read back. No condition. -/
import Derived.Lib.ParseIntB
import Derived.Lib.ItoaMem
namespace Go.Proofs.YtmokmmpomgjemaaDoor

/-- a whole number of a word, and is it one? -/
def wholeS (l : List UInt8) : Int × Bool := match Lib.parseIntB 64 l with
  | .ok v => (v, Lib.itoa v == l)
  | .range => (Lib.intSat 64 l, false)
  | _ => (0, false)
theorem parse_in {l : List UInt8} {v : Int} (h : Lib.parseIntB 64 l = .ok v) : -9223372036854775808 ≤ v ∧ v ≤ 9223372036854775807 := by
  unfold Lib.parseIntB at h
  split at h
  · cases h
  · rename_i c r
    dsimp only at h
    split at h
    · cases h
    · cases h
    · rename_i u _
      split at h
      · cases h
      · rename_i h1
        split at h
        · cases h
        · rename_i h2
          injection h with h
          subst h
          simp only [Nat.reducePow, Nat.reduceSub] at h1 h2
          split <;> rename_i hn <;> simp [hn] at h1 h2 <;> omega

/-! ### numerals -/
def valOf (acc : Nat) (l : List UInt8) : Nat := l.foldl (fun a c => a * 10 + (c.toNat - 48)) acc
theorem valOf_ge : ∀ (l : List UInt8) (acc : Nat), acc ≤ valOf acc l
  | [], _ => Nat.le_refl _
  | c :: r, acc => by
    have := valOf_ge r (acc * 10 + (c.toNat - 48))
    show acc ≤ valOf (acc * 10 + (c.toNat - 48)) r
    omega
theorem parse_val : ∀ (l : List UInt8) (acc : Nat), (∀ c ∈ l, 48 ≤ c.toNat ∧ c.toNat ≤ 57) → valOf acc l ≤ 65535 → Lib.parseUintM (2 ^ 64 - 1) acc l = .ok (valOf acc l)
  | [], _, _, _ => rfl
  | c :: r, acc, hd, hv => by
    have hc := hd c (List.mem_cons_self ..)
    have h1 : acc * 10 + (c.toNat - 48) ≤ 65535 := Nat.le_trans (valOf_ge r _) hv
    unfold Lib.parseUintM
    rw [if_pos hc, if_neg (by omega), if_neg (by omega)]
    exact parse_val r _ (fun x hx => hd x (List.mem_cons_of_mem _ hx)) hv
theorem digit_byte {d : Nat} (h : d < 10) : (UInt8.ofNat (48 + d)).toNat = 48 + d := by
  rw [UInt8.toNat_ofNat']; omega
theorem dec_digits : ∀ (n u : Nat), u ≤ n → (∀ c ∈ Lib.decDigits u, 48 ≤ c.toNat ∧ c.toNat ≤ 57) ∧ valOf 0 (Lib.decDigits u) = u ∧ Lib.decDigits u ≠ []
  | 0, u, h => by
    obtain rfl : u = 0 := by omega
    rw [Lib.decDigits_one (by omega)]
    refine ⟨fun c hc => ?_, by simp [valOf], by simp⟩
    simp only [List.mem_singleton] at hc
    subst hc
    rw [digit_byte (by omega)]; omega
  | n + 1, u, h => by
    by_cases hu : u < 10
    · rw [Lib.decDigits_one hu]
      refine ⟨fun c hc => ?_, ?_, by simp⟩
      · simp only [List.mem_singleton] at hc
        subst hc
        rw [digit_byte hu]; omega
      · simp only [valOf, List.foldl_cons, List.foldl_nil]
        rw [digit_byte hu]; omega
    · obtain ⟨h1, h2, h3⟩ := dec_digits n (u / 10) (by omega)
      rw [Lib.decDigits, dif_neg hu]
      refine ⟨fun c hc => ?_, ?_, by simp⟩
      · rcases List.mem_append.1 hc with hc | hc
        · exact h1 c hc
        · simp only [List.mem_singleton] at hc
          subst hc
          rw [digit_byte (by omega)]; omega
      · unfold valOf at h2 ⊢
        rw [List.foldl_append, h2]
        simp only [List.foldl_cons, List.foldl_nil]
        rw [digit_byte (by omega)]; omega
theorem itoa_digits {v : Int} (h0 : 0 ≤ v) : (∀ c ∈ Lib.itoa v, 48 ≤ c.toNat ∧ c.toNat ≤ 57) ∧ Lib.itoa v ≠ [] := by
  unfold Lib.itoa
  rw [if_neg (by omega)]
  have := dec_digits v.toNat v.toNat (Nat.le_refl _)
  exact ⟨this.1, this.2.2⟩
theorem parse_itoa {v : Int} (h0 : 0 ≤ v) (h1 : v ≤ 65535) : Lib.parseIntB 64 (Lib.itoa v) = .ok v := by
  obtain ⟨n, rfl⟩ := Int.eq_ofNat_of_zero_le h0
  rw [Lib.itoa_nonneg]
  obtain ⟨hd, hv, hne⟩ := dec_digits n n (Nat.le_refl _)
  have hp := parse_val (Lib.decDigits n) 0 hd (by rw [hv]; omega)
  rw [hv] at hp
  cases hl : Lib.decDigits n with
  | nil => exact absurd hl hne
  | cons c r =>
    rw [hl] at hd hp
    have hc := hd c (List.mem_cons_self ..)
    have hs : ¬ (c.toNat = 43 ∨ c.toNat = 45) := by omega
    have hn : ¬ c.toNat = 45 := by omega
    unfold Lib.parseIntB
    dsimp only
    rw [if_neg hs]
    have hu : Lib.parseUintB 64 (c :: r) = .ok n := by
      unfold Lib.parseUintB
      rw [if_neg (by simp)]
      exact hp
    rw [hu]
    simp only [hn, not_false_eq_true, true_and, false_and, if_false]
    rw [if_neg (by simp only [Nat.reducePow, Nat.reduceSub]; omega)]
theorem whole_itoa {v : Int} (h0 : 0 ≤ v) (h1 : v ≤ 65535) : wholeS (Lib.itoa v) = (v, true) := by
  unfold wholeS
  rw [parse_itoa h0 h1]
  simp
theorem whole_some {l : List UInt8} (h : (wholeS l).2 = true) : l = Lib.itoa (wholeS l).1 := by
  unfold wholeS at h ⊢
  split at h
  · exact (beq_iff_eq.1 h).symm
  · cases h
  · cases h
end Go.Proofs.YtmokmmpomgjemaaDoor
