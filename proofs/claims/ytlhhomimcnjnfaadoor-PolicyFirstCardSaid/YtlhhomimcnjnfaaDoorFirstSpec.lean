/- The first rule that holds says: plain laws on lists of rules. No condition. -/
import Derived.Test.YtlhhomimcnjnfaaDoorPolSpec
namespace Go.Proofs.YtlhhomimcnjnfaaDoor

theorem which_cons (x : TCall) (r : TRule) (l : List TRule) : which x (r :: l) = if allHold x r.conds then 0 else which x l + 1 := rfl
theorem which_first (x : TCall) : ∀ (l more : List TRule), which x l < l.length → which x (l.take (which x l + 1) ++ more) = which x l
  | [], _, h => by simp at h
  | r :: l, more, h => by
    rw [which_cons] at h ⊢
    by_cases hr : allHold x r.conds = true
    · rw [if_pos hr]
      simp only [Nat.zero_add, List.take_succ_cons, List.take_zero, List.cons_append, List.nil_append]
      rw [which_cons, if_pos hr]
    · rw [if_neg hr] at h ⊢
      simp only [List.take_succ_cons, List.cons_append]
      rw [which_cons, if_neg hr, which_first x l more (by simpa using h)]
theorem verdict_first (p : TPol) (k : Nat) (more : List TRule) (h : k < p.rules.length) : verdictAt ⟨p.rules.take (k + 1) ++ more, p.dflt⟩ k = verdictAt p k := by
  unfold verdictAt
  have : (p.rules.take (k + 1) ++ more)[k]? = p.rules[k]? := by
    rw [List.getElem?_append_left (by rw [List.length_take]; omega), List.getElem?_take_of_lt (by omega)]
  rw [this]
theorem which_erase (x : TCall) : ∀ (l : List TRule) (i : Nat), i < which x l → which x (l.take i ++ l.drop (i + 1)) = which x l - 1
  | [], i, h => by simp [which] at h
  | r :: l, i, h => by
    rw [which_cons] at h ⊢
    by_cases hr : allHold x r.conds = true
    · rw [if_pos hr] at h; omega
    · rw [if_neg hr] at h ⊢
      cases i with
      | zero => simp
      | succ i =>
        simp only [List.take_succ_cons, List.drop_succ_cons, List.cons_append]
        rw [which_cons, if_neg hr, which_erase x l i (by omega)]
        omega
theorem verdict_erase (p : TPol) (k i : Nat) (h : i < k) (hk : k ≤ p.rules.length) : verdictAt ⟨p.rules.take i ++ p.rules.drop (i + 1), p.dflt⟩ (k - 1) = verdictAt p k := by
  unfold verdictAt
  have : (p.rules.take i ++ p.rules.drop (i + 1))[k - 1]? = p.rules[k]? := by
    rw [List.getElem?_append_right (by rw [List.length_take]; omega), List.getElem?_drop, List.length_take]
    congr 1; omega
  rw [this]
theorem okPol_erase {p : TPol} (h : OkPol p) (i : Nat) : OkPol ⟨p.rules.take i ++ p.rules.drop (i + 1), p.dflt⟩ := by
  refine ⟨?_, h.d0, h.d1, fun r hr => ?_⟩
  · have := h.len; simp only [List.length_append, List.length_take, List.length_drop]; omega
  · rcases List.mem_append.1 hr with hr | hr
    · exact h.rules r (List.mem_of_mem_take hr)
    · exact h.rules r (List.mem_of_mem_drop hr)
theorem judgeE_ok {p : TPol} {x : TCall} (h : (judgeE p x).2.2 = 0) : OkPol p ∧ x.ok ∧ judgeE p x = ((judged p x).1, ((judged p x).2 : Int), 0) := by
  unfold judgeE at h ⊢
  split at h
  · rename_i h1; exact absurd h h1
  · rename_i h1
    split at h
    · rename_i h2
      exact ⟨(okPol_iff p).1 (by simpa using h1), h2, by rw [if_neg h1, if_pos h2]⟩
    · simp at h
theorem judgeE_of {p : TPol} {x : TCall} (h : OkPol p) (hx : x.ok) : judgeE p x = ((judged p x).1, ((judged p x).2 : Int), 0) := by
  unfold judgeE
  rw [if_neg (by rw [(okPol_iff p).2 h]; simp), if_pos hx]
end Go.Proofs.YtlhhomimcnjnfaaDoor
