/- Chapters 7 and 8 as plain functions; what holds of them. No program is in sight. -/
import Derived.Test.YtmokmmpomgjemaaDoorPointSpec
namespace Go.Proofs.YtmokmmpomgjemaaDoor

def zeroCall : TCall := ⟨0, 0, 0, 0, 0⟩
/-- the verdict of a right policy on a right call. -/
def says (p : TPol) (x : TCall) : Int := (judged p x).1
def looserAt (p q : TPol) (x : TCall) : Bool := decide (says q x < says p x)
/-- chapter 7's Looser. -/
def looserE (p q : TPol) : Bool × TCall × Int :=
  if (pointsE [p, q]).2 ≠ 0 then (false, zeroCall, (pointsE [p, q]).2) else match (pointsE [p, q]).1.find? (looserAt p q) with
    | some x => (true, x, 0)
    | none => (false, zeroCall, 0)
/-- chapter 7's Alike. -/
def alikeE (p q : TPol) : Bool × Int := if (looserE p q).2.2 ≠ 0 then (false, (looserE p q).2.2) else (!(looserE p q).1 && !(looserE q p).1, (looserE q p).2.2)
theorem says_home {l : List TPol} (h : ∀ p ∈ l, OkPol p) {x : TCall} (hx : x.ok) {p : TPol} (hp : p ∈ l) : says p (homeOf l x) = says p x := by unfold says; rw [judged_home h hx hp]
theorem verdictAt_range {p : TPol} (h : OkPol p) (k : Nat) : 0 ≤ verdictAt p k ∧ verdictAt p k ≤ 4 := by
  unfold verdictAt
  cases hk : p.rules[k]? with
  | none => exact ⟨h.d0, h.d1⟩
  | some r => exact ⟨(h.rules r (List.mem_of_getElem? hk)).v0, (h.rules r (List.mem_of_getElem? hk)).v1⟩
theorem says_range {p : TPol} (h : OkPol p) (x : TCall) : 0 ≤ says p x ∧ says p x ≤ 4 := verdictAt_range h _
theorem looserE_ok {p q : TPol} (h : (looserE p q).2.2 = 0) : OkPol p ∧ OkPol q ∧ sizes [p, q] 5 ≤ 1000 ∧ pointsE [p, q] = (stage [p, q] 5, 0) := by
  have h0 : (pointsE [p, q]).2 = 0 := by
    unfold looserE at h
    split at h
    · exact h
    · rename_i h'; simpa using h'
  obtain ⟨h1, h2, h3⟩ := pointsE_ok h0
  exact ⟨h1 p (by simp), h1 q (by simp), h2, h3⟩
def looserGo (o : Option TCall) : Bool × TCall × Int := match o with
  | some x => (true, x, 0)
  | none => (false, zeroCall, 0)
theorem looserE_eq {p q : TPol} (h : (looserE p q).2.2 = 0) : looserE p q = looserGo ((stage [p, q] 5).find? (looserAt p q)) := by
  obtain ⟨_, _, _, h3⟩ := looserE_ok h
  unfold looserE
  rw [if_neg (by rw [h3]; simp), h3]
  cases (stage [p, q] 5).find? (looserAt p q) <;> rfl
/-- where it is looser, it is so at the call that is told. -/
theorem looser_at {p q : TPol} (h : (looserE p q).2.2 = 0) (hl : (looserE p q).1 = true) : (looserE p q).2.1.ok ∧ (looserE p q).2.1 ∈ stage [p, q] 5 ∧ says q (looserE p q).2.1 < says p (looserE p q).2.1 := by
  obtain ⟨h1, h2, _, _⟩ := looserE_ok h
  rw [looserE_eq h] at hl ⊢
  cases hf : (stage [p, q] 5).find? (looserAt p q) with
  | none => rw [hf] at hl; simp [looserGo] at hl
  | some x =>
    have hm := List.mem_of_find?_eq_some hf
    have hp := List.find?_some hf
    exact ⟨point_ok (by intro r hr; simp at hr; rcases hr with rfl | rfl <;> assumption) hm, hm, by simpa [looserAt, looserGo] using hp⟩
/-- WHAT ISN'T LOOSER IS SO NOWHERE. -/
theorem looser_not {p q : TPol} (h : (looserE p q).2.2 = 0) (hl : (looserE p q).1 = false) {x : TCall} (hx : x.ok) : says p x ≤ says q x := by
  obtain ⟨h1, h2, _, _⟩ := looserE_ok h
  have hall : ∀ r ∈ [p, q], OkPol r := by intro r hr; simp at hr; rcases hr with rfl | rfl <;> assumption
  rw [looserE_eq h] at hl
  cases hf : (stage [p, q] 5).find? (looserAt p q) with
  | some x => rw [hf] at hl; simp [looserGo] at hl
  | none =>
    have := List.find?_eq_none.1 hf _ (home_point hall hx)
    simp only [looserAt, decide_eq_true_eq] at this
    rw [says_home hall hx (by simp), says_home hall hx (by simp)] at this
    omega
theorem looser_iff {p q : TPol} (h : (looserE p q).2.2 = 0) : (looserE p q).1 = false ↔ ∀ x : TCall, x.ok → says p x ≤ says q x := by
  constructor
  · intro hl x hx; exact looser_not h hl hx
  · intro ha
    cases hl : (looserE p q).1 with
    | false => rfl
    | true =>
      obtain ⟨a, _, c⟩ := looser_at h hl
      have := ha _ a; omega
theorem looser_call {p q : TPol} (hl : (looserE p q).1 = false) : (looserE p q).2.1 = zeroCall := by
  unfold looserE at hl ⊢
  by_cases h1 : (pointsE [p, q]).2 ≠ 0
  · rw [if_pos h1]
  · rw [if_neg h1] at hl ⊢
    cases hf : (pointsE [p, q]).1.find? (looserAt p q) with
    | none => rfl
    | some x => rw [hf] at hl; simp at hl

/-! ### meeting -/
def wholeOf (p : TPol) : List TRule := p.rules ++ [⟨[], p.dflt⟩]
def pairRule (of : Int → Int → Int) (a b : TRule) : TRule := ⟨a.conds ++ b.conds, of a.verdict b.verdict⟩
def pairs (of : Int → Int → Int) (l m : List TRule) : List TRule := l.flatMap fun a => m.map (pairRule of a)
def pairPol (of : Int → Int → Int) (p q : TPol) : TPol := ⟨(pairs of (wholeOf p) (wholeOf q)).dropLast, of p.dflt q.dflt⟩
def zeroPol : TPol := ⟨[], 0⟩
/-- chapter 8's Meet and Except. -/
def pairE (of : Int → Int → Int) (p q : TPol) : TPol × Int := if polsE [p, q] ≠ 0 then (zeroPol, polsE [p, q]) else if polE (pairPol of p q) ≠ 0 then (zeroPol, polE (pairPol of p q)) else (pairPol of p q, 0)
def minOf (a b : Int) : Int := if a ≤ b then a else b
def exceptOf (a b : Int) : Int := if a < b then a else 4
theorem wholeOf_len (p : TPol) : (wholeOf p).length = p.rules.length + 1 := by simp [wholeOf]
theorem pairs_len (of : Int → Int → Int) (l m : List TRule) : (pairs of l m).length = l.length * m.length := by
  unfold pairs
  induction l with
  | nil => simp
  | cons a l ih => simp only [List.flatMap_cons, List.length_append, List.length_map, ih, List.length_cons, Nat.add_mul]; omega
theorem pairs_last (of : Int → Int → Int) (p q : TPol) : pairs of (wholeOf p) (wholeOf q) = (pairPol of p q).rules ++ [⟨[], of p.dflt q.dflt⟩] := by
  have e : pairs of (wholeOf p) (wholeOf q) = (pairs of p.rules (wholeOf q) ++ q.rules.map (pairRule of ⟨[], p.dflt⟩)) ++ [⟨[], of p.dflt q.dflt⟩] := by
    unfold pairs wholeOf
    simp [List.flatMap_append, pairRule]
  show _ = (pairs of (wholeOf p) (wholeOf q)).dropLast ++ _
  rw [e, List.dropLast_concat]
theorem allHold_app (x : TCall) (a b : List TCond) : allHold x (a ++ b) = (allHold x a && allHold x b) := by unfold allHold; rw [List.all_append]
/-- the rule that is the first to hold. -/
def firstOf (x : TCall) (l : List TRule) : Option TRule := l.find? fun r => allHold x r.conds
theorem firstOf_append (x : TCall) (l m : List TRule) : firstOf x (l ++ m) = (firstOf x l).or (firstOf x m) := by unfold firstOf; rw [List.find?_append]
theorem says_first (p : TPol) (x : TCall) : says p x = match firstOf x p.rules with | some r => r.verdict | none => p.dflt := by
  obtain ⟨l, d⟩ := p
  unfold says judged
  dsimp only
  induction l with
  | nil => rfl
  | cons r l ih =>
    unfold which firstOf
    rw [List.find?_cons]
    by_cases h : allHold x r.conds = true
    · rw [if_pos h, h]; rfl
    · rw [if_neg h, Bool.eq_false_iff.2 h]
      exact ih
theorem first_map (of : Int → Int → Int) (x : TCall) (a : TRule) (ha : allHold x a.conds = true) : ∀ m : List TRule, firstOf x (m.map (pairRule of a)) = (firstOf x m).map (pairRule of a)
  | [] => rfl
  | b :: m => by
    have ih := first_map of x a ha m
    unfold firstOf at ih ⊢
    rw [List.map_cons, List.find?_cons, List.find?_cons]
    have e : allHold x (pairRule of a b).conds = allHold x b.conds := by
      show allHold x (a.conds ++ b.conds) = _
      rw [allHold_app, ha, Bool.true_and]
    rw [e]
    cases allHold x b.conds with
    | true => rfl
    | false => exact ih
theorem first_map_no (of : Int → Int → Int) (x : TCall) (a : TRule) (ha : allHold x a.conds = false) : ∀ m : List TRule, firstOf x (m.map (pairRule of a)) = none
  | [] => rfl
  | b :: m => by
    have ih := first_map_no of x a ha m
    unfold firstOf at ih ⊢
    rw [List.map_cons, List.find?_cons]
    have e : allHold x (pairRule of a b).conds = false := by
      show allHold x (a.conds ++ b.conds) = _
      rw [allHold_app, ha, Bool.false_and]
    rw [e]
    exact ih
theorem first_pairs (of : Int → Int → Int) (x : TCall) (m : List TRule) (b : TRule) (hb : firstOf x m = some b) : ∀ l : List TRule, firstOf x (pairs of l m) = (firstOf x l).map fun a => pairRule of a b
  | [] => rfl
  | a :: l => by
    have ih := first_pairs of x m b hb l
    have e : pairs of (a :: l) m = m.map (pairRule of a) ++ pairs of l m := by unfold pairs; rw [List.flatMap_cons]
    rw [e, firstOf_append, ih]
    have e2 : firstOf x (a :: l) = if allHold x a.conds = true then some a else firstOf x l := by
      unfold firstOf
      rw [List.find?_cons]
      cases allHold x a.conds <;> simp
    rw [e2]
    by_cases h : allHold x a.conds = true
    · rw [first_map of x a h, hb, if_pos h]; rfl
    · rw [first_map_no of x a (by simpa using h), if_neg h]; rfl
theorem first_whole (x : TCall) (p : TPol) : ∃ r, firstOf x (wholeOf p) = some r ∧ r.verdict = says p x := by
  rw [says_first]
  unfold wholeOf
  rw [firstOf_append]
  cases firstOf x p.rules with
  | none => exact ⟨⟨[], p.dflt⟩, rfl, rfl⟩
  | some r => exact ⟨r, rfl, rfl⟩
/-- A MEETING SAYS OF EACH CALL what becomes of both verdicts. -/
theorem says_pair (of : Int → Int → Int) (p q : TPol) (x : TCall) : says (pairPol of p q) x = of (says p x) (says q x) := by
  obtain ⟨a, ha, hva⟩ := first_whole x p
  obtain ⟨b, hb, hvb⟩ := first_whole x q
  have h := first_pairs of x (wholeOf q) b hb (wholeOf p)
  rw [ha, pairs_last, firstOf_append] at h
  rw [says_first, ← hva, ← hvb]
  cases hf : firstOf x (pairPol of p q).rules with
  | some r =>
    rw [hf] at h
    simp only [Option.map_some, Option.some_or, Option.some.injEq] at h
    rw [h]; rfl
  | none =>
    rw [hf] at h
    simp only [Option.map_some, Option.none_or] at h
    have h2 : firstOf x [(⟨[], of p.dflt q.dflt⟩ : TRule)] = some ⟨[], of p.dflt q.dflt⟩ := rfl
    rw [h2] at h
    injection h with h
    have := congrArg TRule.verdict h
    exact this
theorem pairPol_len (of : Int → Int → Int) (p q : TPol) : (pairPol of p q).rules.length = (p.rules.length + 1) * (q.rules.length + 1) - 1 := by
  unfold pairPol
  rw [List.length_dropLast, pairs_len, wholeOf_len, wholeOf_len]
theorem pairE_ok {of : Int → Int → Int} {p q : TPol} (h : (pairE of p q).2 = 0) : OkPol p ∧ OkPol q ∧ OkPol (pairPol of p q) ∧ pairE of p q = (pairPol of p q, 0) := by
  unfold pairE at h ⊢
  split at h
  · rename_i h1; exact absurd h h1
  · rename_i h1
    split at h
    · rename_i h2; exact absurd h h2
    · rename_i h2
      have h3 := (polsE_iff _).1 (by simpa using h1)
      exact ⟨h3 p (by simp), h3 q (by simp), (okPol_iff _).1 (by simpa using h2), by rw [if_neg h1, if_neg h2]⟩
theorem pairE_of {of : Int → Int → Int} {p q : TPol} (hp : OkPol p) (hq : OkPol q) (h : OkPol (pairPol of p q)) : pairE of p q = (pairPol of p q, 0) := by
  unfold pairE
  rw [if_neg (by rw [(polsE_iff _).2 (by intro r hr; simp at hr; rcases hr with rfl | rfl <;> assumption)]; simp), if_neg (by rw [(okPol_iff _).2 h]; simp)]
/-- verdicts apart, whether it is right hangs on the conditions alone. -/
theorem rulesGo_conds : ∀ (l m : List TRule), l.map TRule.conds = m.map TRule.conds → (∀ r ∈ l, 0 ≤ r.verdict ∧ r.verdict ≤ 4) → (∀ r ∈ m, 0 ≤ r.verdict ∧ r.verdict ≤ 4) → rulesGo l = rulesGo m
  | [], [], _, _, _ => rfl
  | [], _ :: _, h, _, _ => by simp at h
  | _ :: _, [], h, _, _ => by simp at h
  | a :: l, b :: m, h, h1, h2 => by
    simp only [List.map_cons, List.cons.injEq] at h
    obtain ⟨hc, hr⟩ := h
    have ih := rulesGo_conds l m hr (fun r hr => h1 r (List.mem_cons_of_mem _ hr)) (fun r hr => h2 r (List.mem_cons_of_mem _ hr))
    have e : ruleE a = ruleE b := by
      have := h1 a (List.mem_cons_self ..); have := h2 b (List.mem_cons_self ..)
      unfold ruleE
      rw [hc, if_neg (show ¬ (a.verdict < 0 ∨ 4 < a.verdict) by omega), if_neg (show ¬ (b.verdict < 0 ∨ 4 < b.verdict) by omega)]
    unfold rulesGo
    rw [e, ih]
theorem mem_wholeOf {p : TPol} (h : OkPol p) {r : TRule} (hr : r ∈ wholeOf p) : (0 ≤ r.verdict ∧ r.verdict ≤ 4) ∧ ∀ c ∈ r.conds, OkCond c := by
  unfold wholeOf at hr
  rcases List.mem_append.1 hr with hr | hr
  · have := h.rules r hr; exact ⟨⟨this.v0, this.v1⟩, this.conds⟩
  · simp at hr; subst hr; exact ⟨⟨h.d0, h.d1⟩, fun c hc => by simp at hc⟩
theorem mem_pairs {of : Int → Int → Int} {l m : List TRule} {r : TRule} : r ∈ pairs of l m ↔ ∃ a ∈ l, ∃ b ∈ m, r = pairRule of a b := by
  unfold pairs
  simp only [List.mem_flatMap, List.mem_map]
  constructor
  · rintro ⟨a, ha, b, hb, rfl⟩; exact ⟨a, ha, b, hb, rfl⟩
  · rintro ⟨a, ha, b, hb, rfl⟩; exact ⟨a, ha, b, hb, rfl⟩
def Keeps (of : Int → Int → Int) : Prop := ∀ a b : Int, 0 ≤ a → a ≤ 4 → 0 ≤ b → b ≤ 4 → 0 ≤ of a b ∧ of a b ≤ 4
theorem keeps_min : Keeps minOf := fun a b h0 h1 h2 h3 => by unfold minOf; split <;> omega
theorem keeps_except : Keeps exceptOf := fun a b h0 h1 h2 h3 => by unfold exceptOf; split <;> omega
theorem pair_verdict {of : Int → Int → Int} (hk : Keeps of) {p q : TPol} (hp : OkPol p) (hq : OkPol q) : ∀ r ∈ (pairPol of p q).rules, 0 ≤ r.verdict ∧ r.verdict ≤ 4 := by
  intro r hr
  have hm : r ∈ pairs of (wholeOf p) (wholeOf q) := by rw [pairs_last]; exact List.mem_append_left _ hr
  obtain ⟨a, ha, b, hb, rfl⟩ := mem_pairs.1 hm
  have := mem_wholeOf hp ha; have := mem_wholeOf hq hb
  exact hk _ _ (by omega) (by omega) (by omega) (by omega)
theorem pair_err {of of' : Int → Int → Int} (hk : Keeps of) (hk' : Keeps of') {p q : TPol} : (pairE of p q).2 = (pairE of' p q).2 := by
  unfold pairE
  split
  · rfl
  · rename_i h1
    have h3 := (polsE_iff _).1 (by simpa using h1)
    have hp := h3 p (by simp)
    have hq := h3 q (by simp)
    have e : polE (pairPol of p q) = polE (pairPol of' p q) := by
      have d := hk _ _ hp.d0 hp.d1 hq.d0 hq.d1
      have d' := hk' _ _ hp.d0 hp.d1 hq.d0 hq.d1
      unfold polE
      rw [pairPol_len, pairPol_len, if_neg (show ¬ ((pairPol of p q).dflt < 0 ∨ 4 < (pairPol of p q).dflt) by show ¬ (of p.dflt q.dflt < 0 ∨ 4 < of p.dflt q.dflt); omega), if_neg (show ¬ ((pairPol of' p q).dflt < 0 ∨ 4 < (pairPol of' p q).dflt) by show ¬ (of' p.dflt q.dflt < 0 ∨ 4 < of' p.dflt q.dflt); omega)]
      rw [rulesGo_conds _ (pairPol of' p q).rules _ (pair_verdict hk hp hq) (pair_verdict hk' hp hq)]
      unfold pairPol pairs
      simp only [List.map_dropLast, List.map_flatMap, List.map_map]
      rfl
    rw [e]
    split <;> rfl
/-- the other way round it is as right. -/
theorem pair_turn {of of' : Int → Int → Int} (hk' : Keeps of') {p q : TPol} (h : (pairE of p q).2 = 0) : (pairE of' q p).2 = 0 := by
  obtain ⟨hp, hq, hm, _⟩ := pairE_ok h
  have : OkPol (pairPol of' q p) := by
    have d := hk' _ _ hq.d0 hq.d1 hp.d0 hp.d1
    refine ⟨?_, d.1, d.2, fun r hr => ?_⟩
    · have := hm.len
      rw [pairPol_len] at this ⊢
      rw [Nat.mul_comm]; exact this
    · have hv := pair_verdict hk' hq hp r hr
      have hmem : r ∈ pairs of' (wholeOf q) (wholeOf p) := by rw [pairs_last]; exact List.mem_append_left _ hr
      obtain ⟨a, ha, b, hb, rfl⟩ := mem_pairs.1 hmem
      have hm2 : pairRule of b a ∈ pairs of (wholeOf p) (wholeOf q) := mem_pairs.2 ⟨b, hb, a, ha, rfl⟩
      refine ⟨?_, hv.1, hv.2, fun c hc => ?_⟩
      · rw [pairs_last] at hm2
        rcases List.mem_append.1 hm2 with hm2 | hm2
        · have := (hm.rules _ hm2).len
          simp only [pairRule, List.length_append] at this ⊢; omega
        · simp [pairRule] at hm2
          simp only [pairRule, List.length_append]
          rw [hm2.1.1, hm2.1.2]; simp
      · rcases List.mem_append.1 hc with hc | hc
        · exact (mem_wholeOf hq ha).2 c hc
        · exact (mem_wholeOf hp hb).2 c hc
  rw [pairE_of hq hp this]

/-! ### made shorter -/
def usedRules (ks : List Nat) : List TRule → Nat → List TRule
  | [], _ => []
  | r :: l, i => if ks.contains i then r :: usedRules ks l (i + 1) else usedRules ks l (i + 1)
def trimD (d : Int) : List TRule → List TRule
  | [] => []
  | r :: l => if trimD d l = [] ∧ r.verdict = d then [] else r :: trimD d l
def usedBy (p : TPol) (l : List TCall) : List Nat := l.map fun x => which x p.rules
def shortPol (p : TPol) : TPol := ⟨trimD p.dflt (usedRules (usedBy p (stage [p] 5)) p.rules 0), p.dflt⟩
/-- chapter 8's Short. -/
def shortE (p : TPol) : TPol × Int := if (pointsE [p]).2 ≠ 0 then (zeroPol, (pointsE [p]).2) else (shortPol p, 0)
theorem shortE_ok {p : TPol} (h : (shortE p).2 = 0) : OkPol p ∧ sizes [p] 5 ≤ 1000 ∧ shortE p = (shortPol p, 0) := by
  have h0 : (pointsE [p]).2 = 0 := by
    unfold shortE at h
    split at h
    · exact h
    · rename_i h'; simpa using h'
  obtain ⟨h1, h2, h3⟩ := pointsE_ok h0
  refine ⟨h1 p (by simp), h2, ?_⟩
  unfold shortE
  rw [if_neg (by rw [h0]; simp)]
theorem shortE_of {p : TPol} (h : OkPol p) (hs : sizes [p] 5 ≤ 1000) : shortE p = (shortPol p, 0) := by
  unfold shortE
  rw [if_neg (by rw [pointsE_of (by simpa using h) hs]; simp)]
theorem usedRules_sub (ks : List Nat) : ∀ (l : List TRule) (i : Nat), (usedRules ks l i).Sublist l
  | [], _ => List.Sublist.refl _
  | r :: l, i => by
    unfold usedRules
    split
    · exact (usedRules_sub ks l (i + 1)).cons_cons r
    · exact (usedRules_sub ks l (i + 1)).cons r
theorem trimD_pre (d : Int) : ∀ l : List TRule, trimD d l <+: l
  | [] => List.prefix_refl _
  | r :: l => by
    unfold trimD
    split
    · exact List.nil_prefix
    · exact (List.cons_prefix_cons).2 ⟨rfl, trimD_pre d l⟩
theorem first_used (x : TCall) (ks : List Nat) : ∀ (l : List TRule) (i : Nat), (which x l < l.length → i + which x l ∈ ks) → firstOf x (usedRules ks l i) = firstOf x l
  | [], _, _ => rfl
  | r :: l, i, h => by
    have e2 : ∀ m : List TRule, firstOf x (r :: m) = if allHold x r.conds = true then some r else firstOf x m := fun m => by
      unfold firstOf
      rw [List.find?_cons]
      cases allHold x r.conds <;> simp
    unfold usedRules
    by_cases hr : allHold x r.conds = true
    · have hw : which x (r :: l) = 0 := by unfold which; rw [if_pos hr]
      have hi := h (by rw [hw]; simp)
      rw [hw, Nat.add_zero] at hi
      rw [if_pos (by simpa using hi), e2, e2, if_pos hr, if_pos hr]
    · have hw : which x (r :: l) = which x l + 1 := by conv => lhs; unfold which
                                                       rw [if_neg hr]
      have ih := first_used x ks l (i + 1) (fun hlt => by
        have := h (by rw [hw]; simpa using hlt)
        rw [hw] at this
        rwa [show i + 1 + which x l = i + (which x l + 1) by omega])
      split
      · rw [e2, e2, if_neg hr, if_neg hr, ih]
      · rw [e2, if_neg hr, ih]
def orD (d : Int) : Option TRule → Int
  | some r => r.verdict
  | none => d
theorem says_orD (p : TPol) (x : TCall) : says p x = orD p.dflt (firstOf x p.rules) := by rw [says_first]; rfl
theorem first_trim (x : TCall) (d : Int) : ∀ l : List TRule, orD d (firstOf x (trimD d l)) = orD d (firstOf x l)
  | [] => rfl
  | r :: l => by
    have e2 : ∀ m : List TRule, firstOf x (r :: m) = if allHold x r.conds = true then some r else firstOf x m := fun m => by
      unfold firstOf
      rw [List.find?_cons]
      cases allHold x r.conds <;> simp
    have ih := first_trim x d l
    unfold trimD
    split
    · rename_i h
      rw [h.1] at ih
      rw [e2]
      split
      · show d = r.verdict; exact h.2.symm
      · exact ih
    · rw [e2, e2]
      split
      · rfl
      · exact ih
/-- SHORT SAYS OF EACH CALL WHAT THE POLICY SAYS. -/
theorem says_short {p : TPol} (h : OkPol p) {x : TCall} (hx : x.ok) : says (shortPol p) x = says p x := by
  have hall : ∀ r ∈ [p], OkPol r := by simpa using h
  rw [says_orD, says_orD]
  show orD p.dflt (firstOf x (trimD _ _)) = _
  rw [first_trim, first_used]
  intro _
  rw [Nat.zero_add]
  refine List.mem_map.2 ⟨homeOf [p] x, home_point hall hx, which_home hall hx (by simp)⟩
theorem short_sub (p : TPol) : (shortPol p).rules.Sublist p.rules := (trimD_pre _ _).sublist.trans (usedRules_sub _ _ _)
theorem okPol_sub {p q : TPol} (h : OkPol p) (hs : q.rules.Sublist p.rules) (hd : q.dflt = p.dflt) : OkPol q :=
  ⟨Nat.le_trans hs.length_le h.len, by rw [hd]; exact h.d0, by rw [hd]; exact h.d1, fun r hr => h.rules r (hs.subset hr)⟩
theorem okPol_short {p : TPol} (h : OkPol p) : OkPol (shortPol p) := okPol_sub h (short_sub p) rfl
theorem cutVals_sub {p q : TPol} (hs : q.rules.Sublist p.rules) (f n : Int) (h : n ∈ cutVals [q] f) : n ∈ cutVals [p] f := by
  rcases mem_vals.1 h with rfl | ⟨a, ha, r, hr, c, hc, hm⟩
  · exact mem_vals.2 (.inl rfl)
  · simp at ha; subst ha
    exact mem_vals.2 (.inr ⟨p, by simp, r, hs.subset hr, c, hc, hm⟩)
/-- every rule of a list is the first to hold somewhere among these calls. -/
def AllUsed (p : TPol) (l : List TCall) : Prop := ∀ i, i < p.rules.length → ∃ x ∈ l, which x p.rules = i
theorem used_all (ks : List Nat) : ∀ (l : List TRule) (i : Nat), (∀ j, j < l.length → i + j ∈ ks) → usedRules ks l i = l
  | [], _, _ => rfl
  | r :: l, i, h => by
    unfold usedRules
    rw [if_pos (by have := h 0 (by simp); simpa using this), used_all ks l (i + 1) (fun j hj => by have := h (j + 1) (by simpa using hj); rwa [show i + 1 + j = i + (j + 1) by omega])]
theorem trim_trim (d : Int) : ∀ l : List TRule, trimD d (trimD d l) = trimD d l
  | [] => rfl
  | r :: l => by
    have ih := trim_trim d l
    by_cases h : trimD d l = [] ∧ r.verdict = d
    · have e : trimD d (r :: l) = [] := by unfold trimD; rw [if_pos h]
      rw [e]; rfl
    · have e : trimD d (r :: l) = r :: trimD d l := by conv => lhs; unfold trimD
                                                       rw [if_neg h]
      rw [e]
      conv => lhs; unfold trimD
      rw [ih, if_neg h]
theorem short_of_used {p : TPol} (h : AllUsed p (stage [p] 5)) : shortPol p = ⟨trimD p.dflt p.rules, p.dflt⟩ := by
  unfold shortPol
  rw [used_all]
  intro j hj
  obtain ⟨x, hx, hw⟩ := h j hj
  rw [Nat.zero_add]
  exact List.mem_map.2 ⟨x, hx, hw⟩
/-- the place of a rule that is used, among those that are. -/
theorem used_which (ks : List Nat) : ∀ (l : List TRule) (i j : Nat), j < (usedRules ks l i).length → ∃ k, k < l.length ∧ i + k ∈ ks ∧ ∀ x, which x l = k → which x (usedRules ks l i) = j
  | [], _, _, h => by simp [usedRules] at h
  | r :: l, i, j, h => by
    unfold usedRules at h ⊢
    by_cases hk : ks.contains i = true
    · rw [if_pos hk] at h ⊢
      cases j with
      | zero => exact ⟨0, by simp, by simpa using hk, fun x hx => by
          unfold which at hx ⊢
          split at hx
          · rename_i ha; rw [if_pos ha]
          · omega⟩
      | succ j =>
        obtain ⟨k, h1, h2, h3⟩ := used_which ks l (i + 1) j (by simpa using h)
        refine ⟨k + 1, by simpa using h1, by rwa [show i + (k + 1) = i + 1 + k by omega], fun x hx => ?_⟩
        unfold which at hx ⊢
        split at hx
        · omega
        · rename_i ha; rw [if_neg ha, h3 x (by omega)]
    · rw [if_neg hk] at h ⊢
      obtain ⟨k, h1, h2, h3⟩ := used_which ks l (i + 1) j h
      refine ⟨k + 1, by simpa using h1, by rwa [show i + (k + 1) = i + 1 + k by omega], fun x hx => ?_⟩
      unfold which at hx
      split at hx
      · omega
      · exact h3 x (by omega)
theorem which_pre (x : TCall) : ∀ (l m : List TRule) (j : Nat), l <+: m → which x m = j → j < l.length → which x l = j
  | [], _, _, _, _, h => by simp at h
  | r :: l, m, j, hp, hw, hj => by
    obtain ⟨t, rfl⟩ := hp
    rw [List.cons_append] at hw
    unfold which at hw ⊢
    split at hw
    · rename_i h; rw [if_pos h]; exact hw
    · rename_i h
      rw [if_neg h]
      cases j with
      | zero => omega
      | succ j => rw [which_pre x l (l ++ t) j ⟨t, rfl⟩ (by omega) (by simpa using hj)]
/-- made shorter again it is the same. -/
theorem short_short {p : TPol} (h : OkPol p) : shortPol (shortPol p) = shortPol p := by
  have hall : ∀ r ∈ [p], OkPol r := by simpa using h
  have hs := okPol_short h
  have hsall : ∀ r ∈ [shortPol p], OkPol r := by simpa using hs
  have hu : AllUsed (shortPol p) (stage [shortPol p] 5) := by
    intro j hj
    have hpre : (shortPol p).rules <+: usedRules (usedBy p (stage [p] 5)) p.rules 0 := trimD_pre _ _
    obtain ⟨k, h1, h2, h3⟩ := used_which (usedBy p (stage [p] 5)) p.rules 0 j (Nat.lt_of_lt_of_le hj hpre.length_le)
    rw [Nat.zero_add] at h2
    obtain ⟨x, hx, hw⟩ := List.mem_map.1 h2
    have hxo := point_ok hall hx
    have hj' := which_pre x _ _ j hpre (h3 x hw) hj
    exact ⟨homeOf [shortPol p] x, home_point hsall hxo, by rw [which_home hsall hxo (by simp)]; exact hj'⟩
  rw [short_of_used hu]
  show (⟨trimD p.dflt (trimD p.dflt _), p.dflt⟩ : TPol) = ⟨trimD p.dflt _, p.dflt⟩
  rw [trim_trim]
theorem short_again {p : TPol} (h : (shortE p).2 = 0) : shortE (shortPol p) = (shortPol p, 0) := by
  obtain ⟨h1, h2, _⟩ := shortE_ok h
  rw [shortE_of (okPol_short h1) (Nat.le_trans (sizes_sub (fun f n hn => cutVals_sub (short_sub p) f n hn) 5) h2), short_short h1]

/-! ### chapter 9's Delta -/
def deltaE (p q : TPol) : TPol × Int := if (looserE q p).2.2 ≠ 0 then (zeroPol, (looserE q p).2.2) else if (looserE q p).1 then (zeroPol, 7) else
  if (pairE exceptOf q p).2 ≠ 0 then (zeroPol, (pairE exceptOf q p).2) else shortE (pairPol exceptOf q p)
theorem pointsE_err (l : List TPol) : (pointsE l).2 ≠ 7 := by
  have key : ∀ l : List TPol, polsE l ≠ 7 := by
    have k1 : ∀ c, condE c ≠ 7 := fun c => by unfold condE; split <;> (try split) <;> (try split) <;> omega
    have k2 : ∀ l, condsGo l ≠ 7 := fun l => by
      induction l with
      | nil => simp [condsGo]
      | cons c l ih => unfold condsGo; split; exact ih; exact k1 c
    have k3 : ∀ r, ruleE r ≠ 7 := fun r => by unfold ruleE; split; omega; split; omega; exact k2 _
    have k4 : ∀ l, rulesGo l ≠ 7 := fun l => by
      induction l with
      | nil => simp [rulesGo]
      | cons c l ih => unfold rulesGo; split; exact ih; exact k3 c
    intro l
    induction l with
    | nil => simp [polsE]
    | cons p l ih =>
      unfold polsE; split
      · exact ih
      · unfold polE; split; omega; split; omega; exact k4 _
  unfold pointsE
  split
  · exact key l
  · split <;> simp
theorem polE_err (p : TPol) : polE p ≠ 7 := by
  intro h
  have e : polsE [p] = 7 := by
    unfold polsE
    rw [if_neg (by rw [h]; simp), h]
  have : (pointsE [p]).2 = 7 := by
    unfold pointsE
    rw [if_pos (by rw [e]; simp), e]
  exact pointsE_err [p] this
theorem looserE_err (p q : TPol) : (looserE p q).2.2 ≠ 7 := by
  unfold looserE
  split
  · exact pointsE_err _
  · split <;> simp
theorem pairE_err (of : Int → Int → Int) (p q : TPol) : (pairE of p q).2 ≠ 7 := by
  unfold pairE
  split
  · rename_i h
    show polsE [p, q] ≠ 7
    unfold polsE polsE polsE
    split
    · split
      · simp
      · exact polE_err q
    · exact polE_err p
  · split
    · exact polE_err _
    · simp
theorem shortE_err (p : TPol) : (shortE p).2 ≠ 7 := by
  unfold shortE
  split
  · exact pointsE_err _
  · simp
theorem deltaE_loose {p q : TPol} : (deltaE p q).2 = 7 ↔ ((looserE q p).2.2 = 0 ∧ (looserE q p).1 = true) := by
  unfold deltaE
  constructor
  · intro h
    split at h
    · exact absurd h (looserE_err _ _)
    · rename_i h1
      split at h
      · rename_i h2; exact ⟨by simpa using h1, h2⟩
      · split at h
        · exact absurd h (pairE_err _ _ _)
        · exact absurd h (shortE_err _)
  · rintro ⟨h1, h2⟩
    rw [if_neg (by rw [h1]; simp), if_pos h2]
theorem deltaE_ok {p q : TPol} (h : (deltaE p q).2 = 0) : OkPol p ∧ OkPol q ∧ (looserE q p).2.2 = 0 ∧ (looserE q p).1 = false ∧ OkPol (pairPol exceptOf q p) ∧ deltaE p q = (shortPol (pairPol exceptOf q p), 0) := by
  unfold deltaE at h ⊢
  split at h
  · rename_i h1; exact absurd h h1
  · rename_i h1
    have h1' : (looserE q p).2.2 = 0 := by simpa using h1
    split at h
    · simp at h
    · rename_i h2
      split at h
      · rename_i h3; exact absurd h h3
      · rename_i h3
        obtain ⟨a1, a2, a3, _⟩ := pairE_ok (of := exceptOf) (p := q) (q := p) (by simpa using h3)
        obtain ⟨_, _, b3⟩ := shortE_ok h
        exact ⟨a2, a1, h1', by simpa using h2, a3, by rw [if_neg h1, if_neg h2, if_neg h3]; exact b3⟩
/-- A DELTA allows all of which nothing changes, and says of all else what the stricter policy says. -/
theorem says_delta {p q : TPol} (h : (deltaE p q).2 = 0) {x : TCall} (hx : x.ok) : says (deltaE p q).1 x = exceptOf (says q x) (says p x) := by
  obtain ⟨_, _, _, _, h5, h6⟩ := deltaE_ok h
  rw [h6]
  show says (shortPol _) x = _
  rw [says_short h5 hx, says_pair]
theorem okPol_delta {p q : TPol} (h : (deltaE p q).2 = 0) : OkPol (deltaE p q).1 := by
  obtain ⟨_, _, _, _, h5, h6⟩ := deltaE_ok h
  rw [h6]; exact okPol_short h5
theorem delta_le {p q : TPol} (h : (deltaE p q).2 = 0) {x : TCall} (hx : x.ok) : says q x ≤ says p x := by
  obtain ⟨_, _, h3, h4, _, _⟩ := deltaE_ok h
  exact looser_not h3 h4 hx
theorem trim_all (d : Int) : ∀ l : List TRule, (∀ r ∈ l, r.verdict = d) → trimD d l = []
  | [], _ => rfl
  | r :: l, h => by
    unfold trimD
    rw [if_pos ⟨trim_all d l (fun r hr => h r (List.mem_cons_of_mem _ hr)), h r (List.mem_cons_self ..)⟩]
theorem mem_used (ks : List Nat) : ∀ (l : List TRule) (i : Nat) (r : TRule), r ∈ usedRules ks l i → ∃ k, l[k]? = some r ∧ i + k ∈ ks
  | [], _, _, h => by simp [usedRules] at h
  | a :: l, i, r, h => by
    unfold usedRules at h
    split at h
    · rename_i hk
      rcases List.mem_cons.1 h with rfl | h
      · exact ⟨0, rfl, by simpa using hk⟩
      · obtain ⟨k, h1, h2⟩ := mem_used ks l (i + 1) r h
        exact ⟨k + 1, by simpa using h1, by rwa [show i + (k + 1) = i + 1 + k by omega]⟩
    · obtain ⟨k, h1, h2⟩ := mem_used ks l (i + 1) r h
      exact ⟨k + 1, by simpa using h1, by rwa [show i + (k + 1) = i + 1 + k by omega]⟩
/-- from a policy to itself a delta has no rules. -/
theorem delta_self {p : TPol} (h : (deltaE p p).2 = 0) : (deltaE p p).1.rules = [] := by
  obtain ⟨h1, _, _, _, h5, h6⟩ := deltaE_ok h
  rw [h6]
  show trimD (exceptOf p.dflt p.dflt) _ = []
  have hd : exceptOf p.dflt p.dflt = 4 := by unfold exceptOf; rw [if_neg (by omega)]
  rw [hd]
  refine trim_all 4 _ fun r hr => ?_
  obtain ⟨k, hk, hks⟩ := mem_used _ _ _ _ hr
  rw [Nat.zero_add] at hks
  obtain ⟨x, _, hw⟩ := List.mem_map.1 hks
  have hs := says_pair exceptOf p p x
  have hv : says (pairPol exceptOf p p) x = r.verdict := by
    unfold says judged verdictAt
    dsimp only
    rw [hw, hk]
  rw [hv] at hs
  rw [hs]
  unfold exceptOf
  rw [if_neg (by omega)]
theorem delta_self_not (p : TPol) : (deltaE p p).2 ≠ 7 := by
  intro h
  obtain ⟨h1, h2⟩ := deltaE_loose.1 h
  have := looser_at h1 h2
  omega
theorem looser_self {p : TPol} (h : (looserE p p).2.2 = 0) : (looserE p p).1 = false := (looser_iff h).2 fun _ _ => Int.le_refl _
end Go.Proofs.YtmokmmpomgjemaaDoor
