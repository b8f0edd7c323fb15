/- Chapter 5's Compile, and that a filter says what its policy says: plain laws on lists. No condition. -/
import Derived.Test.YtlhhomimcnjnfaaDoorPolSpec
namespace Go.Proofs.YtlhhomimcnjnfaaDoor

def jumpIns (c : TCond) (skip : Int) : TIns :=
  if c.op = 2 then ⟨2, c.v, skip, 0⟩ else if c.op = 3 then ⟨3, c.v, 0, skip⟩ else if c.op = 4 then ⟨3, c.v, skip, 0⟩ else ⟨2, c.v, 0, skip⟩
/-- a rule as instructions. -/
def condIns : List TCond → Int → List TIns
  | [], v => [⟨4, v, 0, 0⟩]
  | c :: r, v => ⟨1, c.f, 0, 0⟩ :: jumpIns c (2 * r.length + 1) :: condIns r v
def rulesIns : List TRule → List TIns
  | [] => []
  | r :: l => condIns r.conds r.verdict ++ rulesIns l
def filterL (p : TPol) : List TIns := rulesIns p.rules ++ [⟨4, p.dflt, 0, 0⟩]
/-- chapter 5's Compile, errors too. -/
def filterE (p : TPol) : List TIns × Int := if polE p ≠ 0 then ([], polE p) else if 1500 < (filterL p).length then ([], 2) else (filterL p, 0)

theorem condIns_len : ∀ (l : List TCond) (v : Int), (condIns l v).length = 2 * l.length + 1
  | [], _ => rfl
  | c :: r, v => by simp only [condIns, List.length_cons, condIns_len r v]; omega
theorem rulesIns_snoc : ∀ (l : List TRule) (r : TRule), rulesIns (l ++ [r]) = rulesIns l ++ condIns r.conds r.verdict
  | [], r => by simp [rulesIns]
  | x :: l, r => by simp only [List.cons_append, rulesIns, rulesIns_snoc l r, List.append_assoc]
theorem rulesIns_len {l : List TRule} (h : ∀ r ∈ l, r.conds.length ≤ 10) : (rulesIns l).length ≤ 21 * l.length := by
  induction l with
  | nil => simp [rulesIns]
  | cons r l ih =>
    have h1 := h r (List.mem_cons_self ..)
    have h2 := ih fun x hx => h x (List.mem_cons_of_mem _ hx)
    simp only [rulesIns, List.length_append, condIns_len, List.length_cons]
    omega

theorem jump_ok {c : TCond} (h : OkCond c) {s n : Int} (h0 : 0 ≤ s) (h1 : s < n) : insE (jumpIns c s) n = 0 := by
  have hv := h.v1
  have hm : mostOf c.f ≤ 65535 := by unfold mostOf; split <;> (try split) <;> omega
  have := h.v0
  have h0' : ¬ c.v < 0 := by omega
  have h1' : ¬ c.v > 65535 := by omega
  clear hv hm this
  unfold jumpIns insE
  split
  · (simp [h0', h1']; omega)
  · split
    · (simp [h0', h1']; omega)
    · split
      · (simp [h0', h1']; omega)
      · (simp [h0', h1']; omega)
theorem ret_ok {v n : Int} (h0 : 0 ≤ v) (h1 : v ≤ 4) : insE ⟨4, v, 0, 0⟩ n = 0 := by
  unfold insE
  dsimp only
  rw [if_pos (.inr rfl), if_neg (by omega), if_neg (by omega)]
theorem load_ok {v n : Int} (h0 : 0 ≤ v) (h1 : v ≤ 4) : insE ⟨1, v, 0, 0⟩ n = 0 := by
  unfold insE
  dsimp only
  rw [if_pos (.inl rfl), if_neg (by omega), if_neg (by omega)]
theorem condIns_go : ∀ (cs : List TCond) (v : Int) (l : List TIns), (∀ c ∈ cs, OkCond c) → 0 ≤ v → v ≤ 4 → l ≠ [] → codeGo l = 0 → codeGo (condIns cs v ++ l) = 0
  | [], v, l, _, h0, h1, _, hl => by
    simp only [condIns, List.cons_append, List.nil_append, codeGo]
    rw [if_pos (ret_ok h0 h1)]; exact hl
  | c :: cs, v, l, hc, h0, h1, hn, hl => by
    have ih := condIns_go cs v l (fun x hx => hc x (List.mem_cons_of_mem _ hx)) h0 h1 hn hl
    have hk := hc c (List.mem_cons_self ..)
    have hlen : 0 < l.length := List.length_pos_iff.2 hn
    simp only [condIns, List.cons_append, codeGo]
    rw [if_pos (load_ok hk.f0 (by have := hk.f1; omega)), if_pos (jump_ok hk (by omega) (by rw [List.length_append, condIns_len]; omega))]
    exact ih
theorem rulesIns_go : ∀ (rs : List TRule) (l : List TIns), (∀ r ∈ rs, OkRule r) → l ≠ [] → codeGo l = 0 → codeGo (rulesIns rs ++ l) = 0
  | [], l, _, _, hl => hl
  | r :: rs, l, hr, hn, hl => by
    have hk := hr r (List.mem_cons_self ..)
    have ih := rulesIns_go rs l (fun x hx => hr x (List.mem_cons_of_mem _ hx)) hn hl
    simp only [rulesIns, List.append_assoc]
    exact condIns_go _ _ _ hk.conds hk.v0 hk.v1 (by simp [hn]) ih
theorem lastK_snoc : ∀ (l : List TIns) (x : TIns), lastK (l ++ [x]) = x.k
  | [], x => rfl
  | [y], x => rfl
  | y :: z :: l, x => by
    have := lastK_snoc (z :: l) x
    simp only [List.cons_append] at this ⊢
    simp only [lastK]
    exact this
theorem filter_code {p : TPol} (h : OkPol p) : codeE (filterL p) = if 1500 < (filterL p).length then 2 else 0 := by
  have h1 : codeGo (filterL p) = 0 := rulesIns_go p.rules _ h.rules (by simp) (by simp only [codeGo]; rw [if_pos (ret_ok h.d0 h.d1)])
  have h2 : lastK (filterL p) = 4 := lastK_snoc _ _
  have h3 : (filterL p).length ≠ 0 := by simp [filterL]
  unfold codeE
  split
  · rw [if_pos (by omega)]
  · simp only [h1, ne_eq, not_true_eq_false, if_false]
    rw [if_neg (by omega)]

/-! ### a filter says what its policy says -/
theorem jump_next {c : TCond} (h : OkCond c) (x : TCall) (s : Nat) : insNext (jumpIns c s) (x.get c.f) = if holdsB c x then 0 else s := by
  have h0 := h.o0
  have h1 := h.o1
  have e : c.op = 1 ∨ c.op = 2 ∨ c.op = 3 ∨ c.op = 4 := by omega
  unfold jumpIns insNext holdsB
  rcases e with e | e | e | e <;> simp only [e] <;> simp only [Int.reduceEq, if_true, if_false, true_and, false_and, or_false, false_or]
  · by_cases e : x.get c.f = c.v <;> simp [e]
  · by_cases e : x.get c.f = c.v <;> simp [e]
  · by_cases e : x.get c.f < c.v <;> simp [e]
  · by_cases e : x.get c.f < c.v
    · have : ¬ c.v ≤ x.get c.f := by omega
      simp [e, this]
    · have : c.v ≤ x.get c.f := by omega
      simp [e, this]
theorem jumpIns_k (c : TCond) (s : Int) : (jumpIns c s).k = 2 ∨ (jumpIns c s).k = 3 := by
  unfold jumpIns
  split
  · exact .inl rfl
  · split
    · exact .inr rfl
    · split
      · exact .inr rfl
      · exact .inl rfl
theorem condIns_run (x : TCall) : ∀ (cs : List TCond) (v : Int) (l : List TIns) (f : Nat) (n : Int) (d : Nat), (∀ c ∈ cs, OkCond c) → (condIns cs v ++ l).length ≤ f →
    (allHold x cs = true ∧ (runGo x f (condIns cs v ++ l) n d).1 = v) ∨ (allHold x cs = false ∧ ∃ (f' : Nat) (n' : Int) (d' : Nat), l.length ≤ f' ∧ runGo x f (condIns cs v ++ l) n d = runGo x f' l n' d')
  | [], v, l, f, n, d, _, hf => by
    refine .inl ⟨rfl, ?_⟩
    cases f with
    | zero => simp [condIns] at hf
    | succ f => simp only [condIns, List.cons_append, List.nil_append, runGo, if_true]
  | c :: cs, v, l, f, n, d, hc, hf => by
    have hk := hc c (List.mem_cons_self ..)
    have hlen : (condIns (c :: cs) v ++ l).length = 2 + (condIns cs v ++ l).length := by simp only [condIns, List.cons_append, List.length_cons]; omega
    obtain ⟨g, rfl⟩ : ∃ g : Nat, f = g + 2 := ⟨f - 2, by omega⟩
    have h14 : ¬ (1 : Int) = 4 := by omega
    have hj4 : ¬ (jumpIns c (2 * (cs.length : Int) + 1)).k = 4 := by have := jumpIns_k c (2 * (cs.length : Int) + 1); omega
    have hj1 : ¬ (jumpIns c (2 * (cs.length : Int) + 1)).k = 1 := by have := jumpIns_k c (2 * (cs.length : Int) + 1); omega
    have hs : (2 * (cs.length : Int) + 1) = ((2 * cs.length + 1 : Nat) : Int) := by omega
    have step : runGo x (g + 2) (condIns (c :: cs) v ++ l) n d = runGo x g ((condIns cs v ++ l).drop (if holdsB c x then 0 else 2 * cs.length + 1)) (x.get c.f) (d + 1 + 1) := by
      simp only [condIns, List.cons_append, runGo, if_neg h14, if_true, if_neg hj4, if_neg hj1]
      rw [hs, jump_next hk]
    rw [step]
    cases hb : holdsB c x with
    | true =>
      simp only [if_true, List.drop_zero]
      have hall : allHold x (c :: cs) = allHold x cs := by unfold allHold; simp [hb]
      rw [hall]
      exact condIns_run x cs v l g _ _ (fun y hy => hc y (List.mem_cons_of_mem _ hy)) (by omega)
    | false =>
      refine .inr ⟨by unfold allHold; simp [hb], g, x.get c.f, d + 1 + 1, ?_, ?_⟩
      · have : (condIns cs v ++ l).length = (condIns cs v).length + l.length := by simp
        omega
      · simp only [Bool.false_eq_true, if_false]
        rw [← condIns_len cs v, List.drop_left]
theorem rules_run (x : TCall) (dflt : Int) : ∀ (rs : List TRule) (f : Nat) (n : Int) (d : Nat), (∀ r ∈ rs, OkRule r) → (rulesIns rs ++ [(⟨4, dflt, 0, 0⟩ : TIns)]).length ≤ f →
    (runGo x f (rulesIns rs ++ [(⟨4, dflt, 0, 0⟩ : TIns)]) n d).1 = verdictAt ⟨rs, dflt⟩ (which x rs)
  | [], f, n, d, _, hf => by
    cases f with
    | zero => simp at hf
    | succ f => simp only [rulesIns, List.nil_append, runGo, if_true]; rfl
  | r :: rs, f, n, d, hr, hf => by
    have hk := hr r (List.mem_cons_self ..)
    simp only [rulesIns, List.append_assoc] at hf ⊢
    rcases condIns_run x r.conds r.verdict (rulesIns rs ++ [(⟨4, dflt, 0, 0⟩ : TIns)]) f n d hk.conds hf with ⟨ha, he⟩ | ⟨ha, f', n', d', hf', he⟩
    · rw [he]; unfold which; rw [if_pos ha]; rfl
    · rw [he, rules_run x dflt rs f' n' d' (fun y hy => hr y (List.mem_cons_of_mem _ hy)) hf']
      have hw : which x (r :: rs) = which x rs + 1 := by conv => lhs; unfold which
                                                         rw [if_neg (by simp [ha])]
      rw [hw]
      simp [verdictAt]
/-- A FILTER SAYS OF EACH CALL WHAT ITS POLICY SAYS. -/
theorem filter_means {p : TPol} (h : OkPol p) (x : TCall) : (run (filterL p) x).1 = (judged p x).1 :=
  rules_run x p.dflt p.rules _ 0 0 h.rules (Nat.le_refl _)
theorem filterE_ok {p : TPol} (h : (filterE p).2 = 0) : OkPol p ∧ filterE p = (filterL p, 0) ∧ codeE (filterL p) = 0 ∧ (filterL p).length ≤ 1500 := by
  unfold filterE at h ⊢
  split at h
  · rename_i h1; exact absurd h h1
  · rename_i h1
    have hp := (okPol_iff p).1 (by simpa using h1)
    split at h
    · simp at h
    · rename_i h2
      refine ⟨hp, by rw [if_neg h1, if_neg h2], ?_, by omega⟩
      rw [filter_code hp, if_neg h2]
end Go.Proofs.YtlhhomimcnjnfaaDoor
