/- Texts laid one behind the other: OrderSpec, CompSpec, ChainSpec, RecRd, NoteCheck, NoteSpec, NPrint. No condition beyond theirs. -/
import Derived.Test.YthkgjohhbdipcaaDoorK7
import Derived.Test.YthkgjohhbdipcaaDoorK2
import Derived.Test.YthkgjohhbdipcaaDoorK3
import Derived.Test.YthkgjohhbdipcaaDoorK4
set_option linter.all false
namespace Go.Proofs.YthkgjohhbdipcaaDoor

def zeroCall : TCall := ⟨0, 0, 0, 0, 0⟩
/-- the verdict of a right policy on a right call. -/
def says (p : TPol) (x : TCall) : Int := (judged p x).1
def looserAt (p q : TPol) (x : TCall) : Bool := decide (says q x < says p x)
/-- chapter 7's Looser. -/
def looserE (p q : TPol) : Bool × TCall × Int :=
  if (pointsE [p, q]).2 ≠ 0 then (false, zeroCall, (pointsE [p, q]).2) else match (pointsE [p, q]).1.find? (looserAt p q) with
    | some x => (true, x, 0)
    | none => (false, zeroCall, 0)
/-- chapter 7's Alike. -/
def alikeE (p q : TPol) : Bool × Int := if (looserE p q).2.2 ≠ 0 then (false, (looserE p q).2.2) else (!(looserE p q).1 && !(looserE q p).1, (looserE q p).2.2)
theorem says_home {l : List TPol} (h : ∀ p ∈ l, OkPol p) {x : TCall} (hx : x.ok) {p : TPol} (hp : p ∈ l) : says p (homeOf l x) = says p x := by unfold says; rw [judged_home h hx hp]
theorem verdictAt_range {p : TPol} (h : OkPol p) (k : Nat) : 0 ≤ verdictAt p k ∧ verdictAt p k ≤ 4 := by
  unfold verdictAt
  cases hk : p.rules[k]? with
  | none => exact ⟨h.d0, h.d1⟩
  | some r => exact ⟨(h.rules r (List.mem_of_getElem? hk)).v0, (h.rules r (List.mem_of_getElem? hk)).v1⟩
theorem says_range {p : TPol} (h : OkPol p) (x : TCall) : 0 ≤ says p x ∧ says p x ≤ 4 := verdictAt_range h _
theorem looserE_ok {p q : TPol} (h : (looserE p q).2.2 = 0) : OkPol p ∧ OkPol q ∧ sizes [p, q] 5 ≤ 1000 ∧ pointsE [p, q] = (stage [p, q] 5, 0) := by
  have h0 : (pointsE [p, q]).2 = 0 := by
    unfold looserE at h
    split at h
    · exact h
    · rename_i h'; simpa using h'
  obtain ⟨h1, h2, h3⟩ := pointsE_ok h0
  exact ⟨h1 p (by simp), h1 q (by simp), h2, h3⟩
def looserGo (o : Option TCall) : Bool × TCall × Int := match o with
  | some x => (true, x, 0)
  | none => (false, zeroCall, 0)
theorem looserE_eq {p q : TPol} (h : (looserE p q).2.2 = 0) : looserE p q = looserGo ((stage [p, q] 5).find? (looserAt p q)) := by
  obtain ⟨_, _, _, h3⟩ := looserE_ok h
  unfold looserE
  rw [if_neg (by rw [h3]; simp), h3]
  cases (stage [p, q] 5).find? (looserAt p q) <;> rfl
/-- where it is looser, it is so at the call that is told. -/
theorem looser_at {p q : TPol} (h : (looserE p q).2.2 = 0) (hl : (looserE p q).1 = true) : (looserE p q).2.1.ok ∧ (looserE p q).2.1 ∈ stage [p, q] 5 ∧ says q (looserE p q).2.1 < says p (looserE p q).2.1 := by
  obtain ⟨h1, h2, _, _⟩ := looserE_ok h
  rw [looserE_eq h] at hl ⊢
  cases hf : (stage [p, q] 5).find? (looserAt p q) with
  | none => rw [hf] at hl; simp [looserGo] at hl
  | some x =>
    have hm := List.mem_of_find?_eq_some hf
    have hp := List.find?_some hf
    exact ⟨point_ok (by intro r hr; simp at hr; rcases hr with rfl | rfl <;> assumption) hm, hm, by simpa [looserAt, looserGo] using hp⟩
/-- WHAT ISN'T LOOSER IS SO NOWHERE. -/
theorem looser_not {p q : TPol} (h : (looserE p q).2.2 = 0) (hl : (looserE p q).1 = false) {x : TCall} (hx : x.ok) : says p x ≤ says q x := by
  obtain ⟨h1, h2, _, _⟩ := looserE_ok h
  have hall : ∀ r ∈ [p, q], OkPol r := by intro r hr; simp at hr; rcases hr with rfl | rfl <;> assumption
  rw [looserE_eq h] at hl
  cases hf : (stage [p, q] 5).find? (looserAt p q) with
  | some x => rw [hf] at hl; simp [looserGo] at hl
  | none =>
    have := List.find?_eq_none.1 hf _ (home_point hall hx)
    simp only [looserAt, decide_eq_true_eq] at this
    rw [says_home hall hx (by simp), says_home hall hx (by simp)] at this
    omega
theorem looser_iff {p q : TPol} (h : (looserE p q).2.2 = 0) : (looserE p q).1 = false ↔ ∀ x : TCall, x.ok → says p x ≤ says q x := by
  constructor
  · intro hl x hx; exact looser_not h hl hx
  · intro ha
    cases hl : (looserE p q).1 with
    | false => rfl
    | true =>
      obtain ⟨a, _, c⟩ := looser_at h hl
      have := ha _ a; omega
theorem looser_call {p q : TPol} (hl : (looserE p q).1 = false) : (looserE p q).2.1 = zeroCall := by
  unfold looserE at hl ⊢
  by_cases h1 : (pointsE [p, q]).2 ≠ 0
  · rw [if_pos h1]
  · rw [if_neg h1] at hl ⊢
    cases hf : (pointsE [p, q]).1.find? (looserAt p q) with
    | none => rfl
    | some x => rw [hf] at hl; simp at hl

/-! ### meeting -/
def wholeOf (p : TPol) : List TRule := p.rules ++ [⟨[], p.dflt⟩]
def pairRule (of : Int → Int → Int) (a b : TRule) : TRule := ⟨a.conds ++ b.conds, of a.verdict b.verdict⟩
def pairs (of : Int → Int → Int) (l m : List TRule) : List TRule := l.flatMap fun a => m.map (pairRule of a)
def pairPol (of : Int → Int → Int) (p q : TPol) : TPol := ⟨(pairs of (wholeOf p) (wholeOf q)).dropLast, of p.dflt q.dflt⟩
def zeroPol : TPol := ⟨[], 0⟩
/-- chapter 8's Meet and Except. -/
def pairE (of : Int → Int → Int) (p q : TPol) : TPol × Int := if polsE [p, q] ≠ 0 then (zeroPol, polsE [p, q]) else if polE (pairPol of p q) ≠ 0 then (zeroPol, polE (pairPol of p q)) else (pairPol of p q, 0)
def minOf (a b : Int) : Int := if a ≤ b then a else b
def exceptOf (a b : Int) : Int := if a < b then a else 4
theorem wholeOf_len (p : TPol) : (wholeOf p).length = p.rules.length + 1 := by simp [wholeOf]
theorem pairs_len (of : Int → Int → Int) (l m : List TRule) : (pairs of l m).length = l.length * m.length := by
  unfold pairs
  induction l with
  | nil => simp
  | cons a l ih => simp only [List.flatMap_cons, List.length_append, List.length_map, ih, List.length_cons, Nat.add_mul]; omega
theorem pairs_last (of : Int → Int → Int) (p q : TPol) : pairs of (wholeOf p) (wholeOf q) = (pairPol of p q).rules ++ [⟨[], of p.dflt q.dflt⟩] := by
  have e : pairs of (wholeOf p) (wholeOf q) = (pairs of p.rules (wholeOf q) ++ q.rules.map (pairRule of ⟨[], p.dflt⟩)) ++ [⟨[], of p.dflt q.dflt⟩] := by
    unfold pairs wholeOf
    simp [List.flatMap_append, pairRule]
  show _ = (pairs of (wholeOf p) (wholeOf q)).dropLast ++ _
  rw [e, List.dropLast_concat]
theorem allHold_app (x : TCall) (a b : List TCond) : allHold x (a ++ b) = (allHold x a && allHold x b) := by unfold allHold; rw [List.all_append]
/-- the rule that is the first to hold. -/
def firstOf (x : TCall) (l : List TRule) : Option TRule := l.find? fun r => allHold x r.conds
theorem firstOf_append (x : TCall) (l m : List TRule) : firstOf x (l ++ m) = (firstOf x l).or (firstOf x m) := by unfold firstOf; rw [List.find?_append]
theorem says_first (p : TPol) (x : TCall) : says p x = match firstOf x p.rules with | some r => r.verdict | none => p.dflt := by
  obtain ⟨l, d⟩ := p
  unfold says judged
  dsimp only
  induction l with
  | nil => rfl
  | cons r l ih =>
    unfold which firstOf
    rw [List.find?_cons]
    by_cases h : allHold x r.conds = true
    · rw [if_pos h, h]; rfl
    · rw [if_neg h, Bool.eq_false_iff.2 h]
      exact ih
theorem first_map (of : Int → Int → Int) (x : TCall) (a : TRule) (ha : allHold x a.conds = true) : ∀ m : List TRule, firstOf x (m.map (pairRule of a)) = (firstOf x m).map (pairRule of a)
  | [] => rfl
  | b :: m => by
    have ih := first_map of x a ha m
    unfold firstOf at ih ⊢
    rw [List.map_cons, List.find?_cons, List.find?_cons]
    have e : allHold x (pairRule of a b).conds = allHold x b.conds := by
      show allHold x (a.conds ++ b.conds) = _
      rw [allHold_app, ha, Bool.true_and]
    rw [e]
    cases allHold x b.conds with
    | true => rfl
    | false => exact ih
theorem first_map_no (of : Int → Int → Int) (x : TCall) (a : TRule) (ha : allHold x a.conds = false) : ∀ m : List TRule, firstOf x (m.map (pairRule of a)) = none
  | [] => rfl
  | b :: m => by
    have ih := first_map_no of x a ha m
    unfold firstOf at ih ⊢
    rw [List.map_cons, List.find?_cons]
    have e : allHold x (pairRule of a b).conds = false := by
      show allHold x (a.conds ++ b.conds) = _
      rw [allHold_app, ha, Bool.false_and]
    rw [e]
    exact ih
theorem first_pairs (of : Int → Int → Int) (x : TCall) (m : List TRule) (b : TRule) (hb : firstOf x m = some b) : ∀ l : List TRule, firstOf x (pairs of l m) = (firstOf x l).map fun a => pairRule of a b
  | [] => rfl
  | a :: l => by
    have ih := first_pairs of x m b hb l
    have e : pairs of (a :: l) m = m.map (pairRule of a) ++ pairs of l m := by unfold pairs; rw [List.flatMap_cons]
    rw [e, firstOf_append, ih]
    have e2 : firstOf x (a :: l) = if allHold x a.conds = true then some a else firstOf x l := by
      unfold firstOf
      rw [List.find?_cons]
      cases allHold x a.conds <;> simp
    rw [e2]
    by_cases h : allHold x a.conds = true
    · rw [first_map of x a h, hb, if_pos h]; rfl
    · rw [first_map_no of x a (by simpa using h), if_neg h]; rfl
theorem first_whole (x : TCall) (p : TPol) : ∃ r, firstOf x (wholeOf p) = some r ∧ r.verdict = says p x := by
  rw [says_first]
  unfold wholeOf
  rw [firstOf_append]
  cases firstOf x p.rules with
  | none => exact ⟨⟨[], p.dflt⟩, rfl, rfl⟩
  | some r => exact ⟨r, rfl, rfl⟩
/-- A MEETING SAYS OF EACH CALL what becomes of both verdicts. -/
theorem says_pair (of : Int → Int → Int) (p q : TPol) (x : TCall) : says (pairPol of p q) x = of (says p x) (says q x) := by
  obtain ⟨a, ha, hva⟩ := first_whole x p
  obtain ⟨b, hb, hvb⟩ := first_whole x q
  have h := first_pairs of x (wholeOf q) b hb (wholeOf p)
  rw [ha, pairs_last, firstOf_append] at h
  rw [says_first, ← hva, ← hvb]
  cases hf : firstOf x (pairPol of p q).rules with
  | some r =>
    rw [hf] at h
    simp only [Option.map_some, Option.some_or, Option.some.injEq] at h
    rw [h]; rfl
  | none =>
    rw [hf] at h
    simp only [Option.map_some, Option.none_or] at h
    have h2 : firstOf x [(⟨[], of p.dflt q.dflt⟩ : TRule)] = some ⟨[], of p.dflt q.dflt⟩ := rfl
    rw [h2] at h
    injection h with h
    have := congrArg TRule.verdict h
    exact this
theorem pairPol_len (of : Int → Int → Int) (p q : TPol) : (pairPol of p q).rules.length = (p.rules.length + 1) * (q.rules.length + 1) - 1 := by
  unfold pairPol
  rw [List.length_dropLast, pairs_len, wholeOf_len, wholeOf_len]
theorem pairE_ok {of : Int → Int → Int} {p q : TPol} (h : (pairE of p q).2 = 0) : OkPol p ∧ OkPol q ∧ OkPol (pairPol of p q) ∧ pairE of p q = (pairPol of p q, 0) := by
  unfold pairE at h ⊢
  split at h
  · rename_i h1; exact absurd h h1
  · rename_i h1
    split at h
    · rename_i h2; exact absurd h h2
    · rename_i h2
      have h3 := (polsE_iff _).1 (by simpa using h1)
      exact ⟨h3 p (by simp), h3 q (by simp), (okPol_iff _).1 (by simpa using h2), by rw [if_neg h1, if_neg h2]⟩
theorem pairE_of {of : Int → Int → Int} {p q : TPol} (hp : OkPol p) (hq : OkPol q) (h : OkPol (pairPol of p q)) : pairE of p q = (pairPol of p q, 0) := by
  unfold pairE
  rw [if_neg (by rw [(polsE_iff _).2 (by intro r hr; simp at hr; rcases hr with rfl | rfl <;> assumption)]; simp), if_neg (by rw [(okPol_iff _).2 h]; simp)]
/-- verdicts apart, whether it is right hangs on the conditions alone. -/
theorem rulesGo_conds : ∀ (l m : List TRule), l.map TRule.conds = m.map TRule.conds → (∀ r ∈ l, 0 ≤ r.verdict ∧ r.verdict ≤ 4) → (∀ r ∈ m, 0 ≤ r.verdict ∧ r.verdict ≤ 4) → rulesGo l = rulesGo m
  | [], [], _, _, _ => rfl
  | [], _ :: _, h, _, _ => by simp at h
  | _ :: _, [], h, _, _ => by simp at h
  | a :: l, b :: m, h, h1, h2 => by
    simp only [List.map_cons, List.cons.injEq] at h
    obtain ⟨hc, hr⟩ := h
    have ih := rulesGo_conds l m hr (fun r hr => h1 r (List.mem_cons_of_mem _ hr)) (fun r hr => h2 r (List.mem_cons_of_mem _ hr))
    have e : ruleE a = ruleE b := by
      have := h1 a (List.mem_cons_self ..); have := h2 b (List.mem_cons_self ..)
      unfold ruleE
      rw [hc, if_neg (show ¬ (a.verdict < 0 ∨ 4 < a.verdict) by omega), if_neg (show ¬ (b.verdict < 0 ∨ 4 < b.verdict) by omega)]
    unfold rulesGo
    rw [e, ih]
theorem mem_wholeOf {p : TPol} (h : OkPol p) {r : TRule} (hr : r ∈ wholeOf p) : (0 ≤ r.verdict ∧ r.verdict ≤ 4) ∧ ∀ c ∈ r.conds, OkCond c := by
  unfold wholeOf at hr
  rcases List.mem_append.1 hr with hr | hr
  · have := h.rules r hr; exact ⟨⟨this.v0, this.v1⟩, this.conds⟩
  · simp at hr; subst hr; exact ⟨⟨h.d0, h.d1⟩, fun c hc => by simp at hc⟩
theorem mem_pairs {of : Int → Int → Int} {l m : List TRule} {r : TRule} : r ∈ pairs of l m ↔ ∃ a ∈ l, ∃ b ∈ m, r = pairRule of a b := by
  unfold pairs
  simp only [List.mem_flatMap, List.mem_map]
  constructor
  · rintro ⟨a, ha, b, hb, rfl⟩; exact ⟨a, ha, b, hb, rfl⟩
  · rintro ⟨a, ha, b, hb, rfl⟩; exact ⟨a, ha, b, hb, rfl⟩
def Keeps (of : Int → Int → Int) : Prop := ∀ a b : Int, 0 ≤ a → a ≤ 4 → 0 ≤ b → b ≤ 4 → 0 ≤ of a b ∧ of a b ≤ 4
theorem keeps_min : Keeps minOf := fun a b h0 h1 h2 h3 => by unfold minOf; split <;> omega
theorem keeps_except : Keeps exceptOf := fun a b h0 h1 h2 h3 => by unfold exceptOf; split <;> omega
theorem pair_verdict {of : Int → Int → Int} (hk : Keeps of) {p q : TPol} (hp : OkPol p) (hq : OkPol q) : ∀ r ∈ (pairPol of p q).rules, 0 ≤ r.verdict ∧ r.verdict ≤ 4 := by
  intro r hr
  have hm : r ∈ pairs of (wholeOf p) (wholeOf q) := by rw [pairs_last]; exact List.mem_append_left _ hr
  obtain ⟨a, ha, b, hb, rfl⟩ := mem_pairs.1 hm
  have := mem_wholeOf hp ha; have := mem_wholeOf hq hb
  exact hk _ _ (by omega) (by omega) (by omega) (by omega)
theorem pair_err {of of' : Int → Int → Int} (hk : Keeps of) (hk' : Keeps of') {p q : TPol} : (pairE of p q).2 = (pairE of' p q).2 := by
  unfold pairE
  split
  · rfl
  · rename_i h1
    have h3 := (polsE_iff _).1 (by simpa using h1)
    have hp := h3 p (by simp)
    have hq := h3 q (by simp)
    have e : polE (pairPol of p q) = polE (pairPol of' p q) := by
      have d := hk _ _ hp.d0 hp.d1 hq.d0 hq.d1
      have d' := hk' _ _ hp.d0 hp.d1 hq.d0 hq.d1
      unfold polE
      rw [pairPol_len, pairPol_len, if_neg (show ¬ ((pairPol of p q).dflt < 0 ∨ 4 < (pairPol of p q).dflt) by show ¬ (of p.dflt q.dflt < 0 ∨ 4 < of p.dflt q.dflt); omega), if_neg (show ¬ ((pairPol of' p q).dflt < 0 ∨ 4 < (pairPol of' p q).dflt) by show ¬ (of' p.dflt q.dflt < 0 ∨ 4 < of' p.dflt q.dflt); omega)]
      rw [rulesGo_conds _ (pairPol of' p q).rules _ (pair_verdict hk hp hq) (pair_verdict hk' hp hq)]
      unfold pairPol pairs
      simp only [List.map_dropLast, List.map_flatMap, List.map_map]
      rfl
    rw [e]
    split <;> rfl
/-- the other way round it is as right. -/
theorem pair_turn {of of' : Int → Int → Int} (hk' : Keeps of') {p q : TPol} (h : (pairE of p q).2 = 0) : (pairE of' q p).2 = 0 := by
  obtain ⟨hp, hq, hm, _⟩ := pairE_ok h
  have : OkPol (pairPol of' q p) := by
    have d := hk' _ _ hq.d0 hq.d1 hp.d0 hp.d1
    refine ⟨?_, d.1, d.2, fun r hr => ?_⟩
    · have := hm.len
      rw [pairPol_len] at this ⊢
      rw [Nat.mul_comm]; exact this
    · have hv := pair_verdict hk' hq hp r hr
      have hmem : r ∈ pairs of' (wholeOf q) (wholeOf p) := by rw [pairs_last]; exact List.mem_append_left _ hr
      obtain ⟨a, ha, b, hb, rfl⟩ := mem_pairs.1 hmem
      have hm2 : pairRule of b a ∈ pairs of (wholeOf p) (wholeOf q) := mem_pairs.2 ⟨b, hb, a, ha, rfl⟩
      refine ⟨?_, hv.1, hv.2, fun c hc => ?_⟩
      · rw [pairs_last] at hm2
        rcases List.mem_append.1 hm2 with hm2 | hm2
        · have := (hm.rules _ hm2).len
          simp only [pairRule, List.length_append] at this ⊢; omega
        · simp [pairRule] at hm2
          simp only [pairRule, List.length_append]
          rw [hm2.1.1, hm2.1.2]; simp
      · rcases List.mem_append.1 hc with hc | hc
        · exact (mem_wholeOf hq ha).2 c hc
        · exact (mem_wholeOf hp hb).2 c hc
  rw [pairE_of hq hp this]

/-! ### made shorter -/
def usedRules (ks : List Nat) : List TRule → Nat → List TRule
  | [], _ => []
  | r :: l, i => if ks.contains i then r :: usedRules ks l (i + 1) else usedRules ks l (i + 1)
def trimD (d : Int) : List TRule → List TRule
  | [] => []
  | r :: l => if trimD d l = [] ∧ r.verdict = d then [] else r :: trimD d l
def usedBy (p : TPol) (l : List TCall) : List Nat := l.map fun x => which x p.rules
def shortPol (p : TPol) : TPol := ⟨trimD p.dflt (usedRules (usedBy p (stage [p] 5)) p.rules 0), p.dflt⟩
/-- chapter 8's Short. -/
def shortE (p : TPol) : TPol × Int := if (pointsE [p]).2 ≠ 0 then (zeroPol, (pointsE [p]).2) else (shortPol p, 0)
theorem shortE_ok {p : TPol} (h : (shortE p).2 = 0) : OkPol p ∧ sizes [p] 5 ≤ 1000 ∧ shortE p = (shortPol p, 0) := by
  have h0 : (pointsE [p]).2 = 0 := by
    unfold shortE at h
    split at h
    · exact h
    · rename_i h'; simpa using h'
  obtain ⟨h1, h2, h3⟩ := pointsE_ok h0
  refine ⟨h1 p (by simp), h2, ?_⟩
  unfold shortE
  rw [if_neg (by rw [h0]; simp)]
theorem shortE_of {p : TPol} (h : OkPol p) (hs : sizes [p] 5 ≤ 1000) : shortE p = (shortPol p, 0) := by
  unfold shortE
  rw [if_neg (by rw [pointsE_of (by simpa using h) hs]; simp)]
theorem usedRules_sub (ks : List Nat) : ∀ (l : List TRule) (i : Nat), (usedRules ks l i).Sublist l
  | [], _ => List.Sublist.refl _
  | r :: l, i => by
    unfold usedRules
    split
    · exact (usedRules_sub ks l (i + 1)).cons_cons r
    · exact (usedRules_sub ks l (i + 1)).cons r
theorem trimD_pre (d : Int) : ∀ l : List TRule, trimD d l <+: l
  | [] => List.prefix_refl _
  | r :: l => by
    unfold trimD
    split
    · exact List.nil_prefix
    · exact (List.cons_prefix_cons).2 ⟨rfl, trimD_pre d l⟩
theorem first_used (x : TCall) (ks : List Nat) : ∀ (l : List TRule) (i : Nat), (which x l < l.length → i + which x l ∈ ks) → firstOf x (usedRules ks l i) = firstOf x l
  | [], _, _ => rfl
  | r :: l, i, h => by
    have e2 : ∀ m : List TRule, firstOf x (r :: m) = if allHold x r.conds = true then some r else firstOf x m := fun m => by
      unfold firstOf
      rw [List.find?_cons]
      cases allHold x r.conds <;> simp
    unfold usedRules
    by_cases hr : allHold x r.conds = true
    · have hw : which x (r :: l) = 0 := by unfold which; rw [if_pos hr]
      have hi := h (by rw [hw]; simp)
      rw [hw, Nat.add_zero] at hi
      rw [if_pos (by simpa using hi), e2, e2, if_pos hr, if_pos hr]
    · have hw : which x (r :: l) = which x l + 1 := by conv => lhs; unfold which
                                                       rw [if_neg hr]
      have ih := first_used x ks l (i + 1) (fun hlt => by
        have := h (by rw [hw]; simpa using hlt)
        rw [hw] at this
        rwa [show i + 1 + which x l = i + (which x l + 1) by omega])
      split
      · rw [e2, e2, if_neg hr, if_neg hr, ih]
      · rw [e2, if_neg hr, ih]
def orD (d : Int) : Option TRule → Int
  | some r => r.verdict
  | none => d
theorem says_orD (p : TPol) (x : TCall) : says p x = orD p.dflt (firstOf x p.rules) := by rw [says_first]; rfl
theorem first_trim (x : TCall) (d : Int) : ∀ l : List TRule, orD d (firstOf x (trimD d l)) = orD d (firstOf x l)
  | [] => rfl
  | r :: l => by
    have e2 : ∀ m : List TRule, firstOf x (r :: m) = if allHold x r.conds = true then some r else firstOf x m := fun m => by
      unfold firstOf
      rw [List.find?_cons]
      cases allHold x r.conds <;> simp
    have ih := first_trim x d l
    unfold trimD
    split
    · rename_i h
      rw [h.1] at ih
      rw [e2]
      split
      · show d = r.verdict; exact h.2.symm
      · exact ih
    · rw [e2, e2]
      split
      · rfl
      · exact ih
/-- SHORT SAYS OF EACH CALL WHAT THE POLICY SAYS. -/
theorem says_short {p : TPol} (h : OkPol p) {x : TCall} (hx : x.ok) : says (shortPol p) x = says p x := by
  have hall : ∀ r ∈ [p], OkPol r := by simpa using h
  rw [says_orD, says_orD]
  show orD p.dflt (firstOf x (trimD _ _)) = _
  rw [first_trim, first_used]
  intro _
  rw [Nat.zero_add]
  refine List.mem_map.2 ⟨homeOf [p] x, home_point hall hx, which_home hall hx (by simp)⟩
theorem short_sub (p : TPol) : (shortPol p).rules.Sublist p.rules := (trimD_pre _ _).sublist.trans (usedRules_sub _ _ _)
theorem okPol_sub {p q : TPol} (h : OkPol p) (hs : q.rules.Sublist p.rules) (hd : q.dflt = p.dflt) : OkPol q :=
  ⟨Nat.le_trans hs.length_le h.len, by rw [hd]; exact h.d0, by rw [hd]; exact h.d1, fun r hr => h.rules r (hs.subset hr)⟩
theorem okPol_short {p : TPol} (h : OkPol p) : OkPol (shortPol p) := okPol_sub h (short_sub p) rfl
theorem cutVals_sub {p q : TPol} (hs : q.rules.Sublist p.rules) (f n : Int) (h : n ∈ cutVals [q] f) : n ∈ cutVals [p] f := by
  rcases mem_vals.1 h with rfl | ⟨a, ha, r, hr, c, hc, hm⟩
  · exact mem_vals.2 (.inl rfl)
  · simp at ha; subst ha
    exact mem_vals.2 (.inr ⟨p, by simp, r, hs.subset hr, c, hc, hm⟩)
/-- every rule of a list is the first to hold somewhere among these calls. -/
def AllUsed (p : TPol) (l : List TCall) : Prop := ∀ i, i < p.rules.length → ∃ x ∈ l, which x p.rules = i
theorem used_all (ks : List Nat) : ∀ (l : List TRule) (i : Nat), (∀ j, j < l.length → i + j ∈ ks) → usedRules ks l i = l
  | [], _, _ => rfl
  | r :: l, i, h => by
    unfold usedRules
    rw [if_pos (by have := h 0 (by simp); simpa using this), used_all ks l (i + 1) (fun j hj => by have := h (j + 1) (by simpa using hj); rwa [show i + 1 + j = i + (j + 1) by omega])]
theorem trim_trim (d : Int) : ∀ l : List TRule, trimD d (trimD d l) = trimD d l
  | [] => rfl
  | r :: l => by
    have ih := trim_trim d l
    by_cases h : trimD d l = [] ∧ r.verdict = d
    · have e : trimD d (r :: l) = [] := by unfold trimD; rw [if_pos h]
      rw [e]; rfl
    · have e : trimD d (r :: l) = r :: trimD d l := by conv => lhs; unfold trimD
                                                       rw [if_neg h]
      rw [e]
      conv => lhs; unfold trimD
      rw [ih, if_neg h]
theorem short_of_used {p : TPol} (h : AllUsed p (stage [p] 5)) : shortPol p = ⟨trimD p.dflt p.rules, p.dflt⟩ := by
  unfold shortPol
  rw [used_all]
  intro j hj
  obtain ⟨x, hx, hw⟩ := h j hj
  rw [Nat.zero_add]
  exact List.mem_map.2 ⟨x, hx, hw⟩
/-- the place of a rule that is used, among those that are. -/
theorem used_which (ks : List Nat) : ∀ (l : List TRule) (i j : Nat), j < (usedRules ks l i).length → ∃ k, k < l.length ∧ i + k ∈ ks ∧ ∀ x, which x l = k → which x (usedRules ks l i) = j
  | [], _, _, h => by simp [usedRules] at h
  | r :: l, i, j, h => by
    unfold usedRules at h ⊢
    by_cases hk : ks.contains i = true
    · rw [if_pos hk] at h ⊢
      cases j with
      | zero => exact ⟨0, by simp, by simpa using hk, fun x hx => by
          unfold which at hx ⊢
          split at hx
          · rename_i ha; rw [if_pos ha]
          · omega⟩
      | succ j =>
        obtain ⟨k, h1, h2, h3⟩ := used_which ks l (i + 1) j (by simpa using h)
        refine ⟨k + 1, by simpa using h1, by rwa [show i + (k + 1) = i + 1 + k by omega], fun x hx => ?_⟩
        unfold which at hx ⊢
        split at hx
        · omega
        · rename_i ha; rw [if_neg ha, h3 x (by omega)]
    · rw [if_neg hk] at h ⊢
      obtain ⟨k, h1, h2, h3⟩ := used_which ks l (i + 1) j h
      refine ⟨k + 1, by simpa using h1, by rwa [show i + (k + 1) = i + 1 + k by omega], fun x hx => ?_⟩
      unfold which at hx
      split at hx
      · omega
      · exact h3 x (by omega)
theorem which_pre (x : TCall) : ∀ (l m : List TRule) (j : Nat), l <+: m → which x m = j → j < l.length → which x l = j
  | [], _, _, _, _, h => by simp at h
  | r :: l, m, j, hp, hw, hj => by
    obtain ⟨t, rfl⟩ := hp
    rw [List.cons_append] at hw
    unfold which at hw ⊢
    split at hw
    · rename_i h; rw [if_pos h]; exact hw
    · rename_i h
      rw [if_neg h]
      cases j with
      | zero => omega
      | succ j => rw [which_pre x l (l ++ t) j ⟨t, rfl⟩ (by omega) (by simpa using hj)]
/-- made shorter again it is the same. -/
theorem short_short {p : TPol} (h : OkPol p) : shortPol (shortPol p) = shortPol p := by
  have hall : ∀ r ∈ [p], OkPol r := by simpa using h
  have hs := okPol_short h
  have hsall : ∀ r ∈ [shortPol p], OkPol r := by simpa using hs
  have hu : AllUsed (shortPol p) (stage [shortPol p] 5) := by
    intro j hj
    have hpre : (shortPol p).rules <+: usedRules (usedBy p (stage [p] 5)) p.rules 0 := trimD_pre _ _
    obtain ⟨k, h1, h2, h3⟩ := used_which (usedBy p (stage [p] 5)) p.rules 0 j (Nat.lt_of_lt_of_le hj hpre.length_le)
    rw [Nat.zero_add] at h2
    obtain ⟨x, hx, hw⟩ := List.mem_map.1 h2
    have hxo := point_ok hall hx
    have hj' := which_pre x _ _ j hpre (h3 x hw) hj
    exact ⟨homeOf [shortPol p] x, home_point hsall hxo, by rw [which_home hsall hxo (by simp)]; exact hj'⟩
  rw [short_of_used hu]
  show (⟨trimD p.dflt (trimD p.dflt _), p.dflt⟩ : TPol) = ⟨trimD p.dflt _, p.dflt⟩
  rw [trim_trim]
theorem short_again {p : TPol} (h : (shortE p).2 = 0) : shortE (shortPol p) = (shortPol p, 0) := by
  obtain ⟨h1, h2, _⟩ := shortE_ok h
  rw [shortE_of (okPol_short h1) (Nat.le_trans (sizes_sub (fun f n hn => cutVals_sub (short_sub p) f n hn) 5) h2), short_short h1]

/-! ### chapter 9's Delta -/
def deltaE (p q : TPol) : TPol × Int := if (looserE q p).2.2 ≠ 0 then (zeroPol, (looserE q p).2.2) else if (looserE q p).1 then (zeroPol, 7) else
  if (pairE exceptOf q p).2 ≠ 0 then (zeroPol, (pairE exceptOf q p).2) else shortE (pairPol exceptOf q p)
theorem pointsE_err (l : List TPol) : (pointsE l).2 ≠ 7 := by
  have key : ∀ l : List TPol, polsE l ≠ 7 := by
    have k1 : ∀ c, condE c ≠ 7 := fun c => by unfold condE; split <;> (try split) <;> (try split) <;> omega
    have k2 : ∀ l, condsGo l ≠ 7 := fun l => by
      induction l with
      | nil => simp [condsGo]
      | cons c l ih => unfold condsGo; split; exact ih; exact k1 c
    have k3 : ∀ r, ruleE r ≠ 7 := fun r => by unfold ruleE; split; omega; split; omega; exact k2 _
    have k4 : ∀ l, rulesGo l ≠ 7 := fun l => by
      induction l with
      | nil => simp [rulesGo]
      | cons c l ih => unfold rulesGo; split; exact ih; exact k3 c
    intro l
    induction l with
    | nil => simp [polsE]
    | cons p l ih =>
      unfold polsE; split
      · exact ih
      · unfold polE; split; omega; split; omega; exact k4 _
  unfold pointsE
  split
  · exact key l
  · split <;> simp
theorem polE_err (p : TPol) : polE p ≠ 7 := by
  intro h
  have e : polsE [p] = 7 := by
    unfold polsE
    rw [if_neg (by rw [h]; simp), h]
  have : (pointsE [p]).2 = 7 := by
    unfold pointsE
    rw [if_pos (by rw [e]; simp), e]
  exact pointsE_err [p] this
theorem looserE_err (p q : TPol) : (looserE p q).2.2 ≠ 7 := by
  unfold looserE
  split
  · exact pointsE_err _
  · split <;> simp
theorem pairE_err (of : Int → Int → Int) (p q : TPol) : (pairE of p q).2 ≠ 7 := by
  unfold pairE
  split
  · rename_i h
    show polsE [p, q] ≠ 7
    unfold polsE polsE polsE
    split
    · split
      · simp
      · exact polE_err q
    · exact polE_err p
  · split
    · exact polE_err _
    · simp
theorem shortE_err (p : TPol) : (shortE p).2 ≠ 7 := by
  unfold shortE
  split
  · exact pointsE_err _
  · simp
theorem deltaE_loose {p q : TPol} : (deltaE p q).2 = 7 ↔ ((looserE q p).2.2 = 0 ∧ (looserE q p).1 = true) := by
  unfold deltaE
  constructor
  · intro h
    split at h
    · exact absurd h (looserE_err _ _)
    · rename_i h1
      split at h
      · rename_i h2; exact ⟨by simpa using h1, h2⟩
      · split at h
        · exact absurd h (pairE_err _ _ _)
        · exact absurd h (shortE_err _)
  · rintro ⟨h1, h2⟩
    rw [if_neg (by rw [h1]; simp), if_pos h2]
theorem deltaE_ok {p q : TPol} (h : (deltaE p q).2 = 0) : OkPol p ∧ OkPol q ∧ (looserE q p).2.2 = 0 ∧ (looserE q p).1 = false ∧ OkPol (pairPol exceptOf q p) ∧ deltaE p q = (shortPol (pairPol exceptOf q p), 0) := by
  unfold deltaE at h ⊢
  split at h
  · rename_i h1; exact absurd h h1
  · rename_i h1
    have h1' : (looserE q p).2.2 = 0 := by simpa using h1
    split at h
    · simp at h
    · rename_i h2
      split at h
      · rename_i h3; exact absurd h h3
      · rename_i h3
        obtain ⟨a1, a2, a3, _⟩ := pairE_ok (of := exceptOf) (p := q) (q := p) (by simpa using h3)
        obtain ⟨_, _, b3⟩ := shortE_ok h
        exact ⟨a2, a1, h1', by simpa using h2, a3, by rw [if_neg h1, if_neg h2, if_neg h3]; exact b3⟩
/-- A DELTA allows all of which nothing changes, and says of all else what the stricter policy says. -/
theorem says_delta {p q : TPol} (h : (deltaE p q).2 = 0) {x : TCall} (hx : x.ok) : says (deltaE p q).1 x = exceptOf (says q x) (says p x) := by
  obtain ⟨_, _, _, _, h5, h6⟩ := deltaE_ok h
  rw [h6]
  show says (shortPol _) x = _
  rw [says_short h5 hx, says_pair]
theorem okPol_delta {p q : TPol} (h : (deltaE p q).2 = 0) : OkPol (deltaE p q).1 := by
  obtain ⟨_, _, _, _, h5, h6⟩ := deltaE_ok h
  rw [h6]; exact okPol_short h5
theorem delta_le {p q : TPol} (h : (deltaE p q).2 = 0) {x : TCall} (hx : x.ok) : says q x ≤ says p x := by
  obtain ⟨_, _, h3, h4, _, _⟩ := deltaE_ok h
  exact looser_not h3 h4 hx
theorem trim_all (d : Int) : ∀ l : List TRule, (∀ r ∈ l, r.verdict = d) → trimD d l = []
  | [], _ => rfl
  | r :: l, h => by
    unfold trimD
    rw [if_pos ⟨trim_all d l (fun r hr => h r (List.mem_cons_of_mem _ hr)), h r (List.mem_cons_self ..)⟩]
theorem mem_used (ks : List Nat) : ∀ (l : List TRule) (i : Nat) (r : TRule), r ∈ usedRules ks l i → ∃ k, l[k]? = some r ∧ i + k ∈ ks
  | [], _, _, h => by simp [usedRules] at h
  | a :: l, i, r, h => by
    unfold usedRules at h
    split at h
    · rename_i hk
      rcases List.mem_cons.1 h with rfl | h
      · exact ⟨0, rfl, by simpa using hk⟩
      · obtain ⟨k, h1, h2⟩ := mem_used ks l (i + 1) r h
        exact ⟨k + 1, by simpa using h1, by rwa [show i + (k + 1) = i + 1 + k by omega]⟩
    · obtain ⟨k, h1, h2⟩ := mem_used ks l (i + 1) r h
      exact ⟨k + 1, by simpa using h1, by rwa [show i + (k + 1) = i + 1 + k by omega]⟩
/-- from a policy to itself a delta has no rules. -/
theorem delta_self {p : TPol} (h : (deltaE p p).2 = 0) : (deltaE p p).1.rules = [] := by
  obtain ⟨h1, _, _, _, h5, h6⟩ := deltaE_ok h
  rw [h6]
  show trimD (exceptOf p.dflt p.dflt) _ = []
  have hd : exceptOf p.dflt p.dflt = 4 := by unfold exceptOf; rw [if_neg (by omega)]
  rw [hd]
  refine trim_all 4 _ fun r hr => ?_
  obtain ⟨k, hk, hks⟩ := mem_used _ _ _ _ hr
  rw [Nat.zero_add] at hks
  obtain ⟨x, _, hw⟩ := List.mem_map.1 hks
  have hs := says_pair exceptOf p p x
  have hv : says (pairPol exceptOf p p) x = r.verdict := by
    unfold says judged verdictAt
    dsimp only
    rw [hw, hk]
  rw [hv] at hs
  rw [hs]
  unfold exceptOf
  rw [if_neg (by omega)]
theorem delta_self_not (p : TPol) : (deltaE p p).2 ≠ 7 := by
  intro h
  obtain ⟨h1, h2⟩ := deltaE_loose.1 h
  have := looser_at h1 h2
  omega
theorem looser_self {p : TPol} (h : (looserE p p).2.2 = 0) : (looserE p p).1 = false := (looser_iff h).2 fun _ _ => Int.le_refl _
end Go.Proofs.YthkgjohhbdipcaaDoor
namespace Go.Proofs.YthkgjohhbdipcaaDoor

def jumpIns (c : TCond) (skip : Int) : TIns :=
  if c.op = 2 then ⟨2, c.v, skip, 0⟩ else if c.op = 3 then ⟨3, c.v, 0, skip⟩ else if c.op = 4 then ⟨3, c.v, skip, 0⟩ else ⟨2, c.v, 0, skip⟩
/-- a rule as instructions. -/
def condIns : List TCond → Int → List TIns
  | [], v => [⟨4, v, 0, 0⟩]
  | c :: r, v => ⟨1, c.f, 0, 0⟩ :: jumpIns c (2 * r.length + 1) :: condIns r v
def rulesIns : List TRule → List TIns
  | [] => []
  | r :: l => condIns r.conds r.verdict ++ rulesIns l
def filterL (p : TPol) : List TIns := rulesIns p.rules ++ [⟨4, p.dflt, 0, 0⟩]
/-- chapter 5's Compile, errors too. -/
def filterE (p : TPol) : List TIns × Int := if polE p ≠ 0 then ([], polE p) else if 1500 < (filterL p).length then ([], 2) else (filterL p, 0)

theorem condIns_len : ∀ (l : List TCond) (v : Int), (condIns l v).length = 2 * l.length + 1
  | [], _ => rfl
  | c :: r, v => by simp only [condIns, List.length_cons, condIns_len r v]; omega
theorem rulesIns_snoc : ∀ (l : List TRule) (r : TRule), rulesIns (l ++ [r]) = rulesIns l ++ condIns r.conds r.verdict
  | [], r => by simp [rulesIns]
  | x :: l, r => by simp only [List.cons_append, rulesIns, rulesIns_snoc l r, List.append_assoc]
theorem rulesIns_len {l : List TRule} (h : ∀ r ∈ l, r.conds.length ≤ 10) : (rulesIns l).length ≤ 21 * l.length := by
  induction l with
  | nil => simp [rulesIns]
  | cons r l ih =>
    have h1 := h r (List.mem_cons_self ..)
    have h2 := ih fun x hx => h x (List.mem_cons_of_mem _ hx)
    simp only [rulesIns, List.length_append, condIns_len, List.length_cons]
    omega

theorem jump_ok {c : TCond} (h : OkCond c) {s n : Int} (h0 : 0 ≤ s) (h1 : s < n) : insE (jumpIns c s) n = 0 := by
  have hv := h.v1
  have hm : mostOf c.f ≤ 65535 := by unfold mostOf; split <;> (try split) <;> omega
  have := h.v0
  have h0' : ¬ c.v < 0 := by omega
  have h1' : ¬ c.v > 65535 := by omega
  clear hv hm this
  unfold jumpIns insE
  split
  · (simp [h0', h1']; omega)
  · split
    · (simp [h0', h1']; omega)
    · split
      · (simp [h0', h1']; omega)
      · (simp [h0', h1']; omega)
theorem ret_ok {v n : Int} (h0 : 0 ≤ v) (h1 : v ≤ 4) : insE ⟨4, v, 0, 0⟩ n = 0 := by
  unfold insE
  dsimp only
  rw [if_pos (.inr rfl), if_neg (by omega), if_neg (by omega)]
theorem load_ok {v n : Int} (h0 : 0 ≤ v) (h1 : v ≤ 4) : insE ⟨1, v, 0, 0⟩ n = 0 := by
  unfold insE
  dsimp only
  rw [if_pos (.inl rfl), if_neg (by omega), if_neg (by omega)]
theorem condIns_go : ∀ (cs : List TCond) (v : Int) (l : List TIns), (∀ c ∈ cs, OkCond c) → 0 ≤ v → v ≤ 4 → l ≠ [] → codeGo l = 0 → codeGo (condIns cs v ++ l) = 0
  | [], v, l, _, h0, h1, _, hl => by
    simp only [condIns, List.cons_append, List.nil_append, codeGo]
    rw [if_pos (ret_ok h0 h1)]; exact hl
  | c :: cs, v, l, hc, h0, h1, hn, hl => by
    have ih := condIns_go cs v l (fun x hx => hc x (List.mem_cons_of_mem _ hx)) h0 h1 hn hl
    have hk := hc c (List.mem_cons_self ..)
    have hlen : 0 < l.length := List.length_pos_iff.2 hn
    simp only [condIns, List.cons_append, codeGo]
    rw [if_pos (load_ok hk.f0 (by have := hk.f1; omega)), if_pos (jump_ok hk (by omega) (by rw [List.length_append, condIns_len]; omega))]
    exact ih
theorem rulesIns_go : ∀ (rs : List TRule) (l : List TIns), (∀ r ∈ rs, OkRule r) → l ≠ [] → codeGo l = 0 → codeGo (rulesIns rs ++ l) = 0
  | [], l, _, _, hl => hl
  | r :: rs, l, hr, hn, hl => by
    have hk := hr r (List.mem_cons_self ..)
    have ih := rulesIns_go rs l (fun x hx => hr x (List.mem_cons_of_mem _ hx)) hn hl
    simp only [rulesIns, List.append_assoc]
    exact condIns_go _ _ _ hk.conds hk.v0 hk.v1 (by simp [hn]) ih
theorem lastK_snoc : ∀ (l : List TIns) (x : TIns), lastK (l ++ [x]) = x.k
  | [], x => rfl
  | [y], x => rfl
  | y :: z :: l, x => by
    have := lastK_snoc (z :: l) x
    simp only [List.cons_append] at this ⊢
    simp only [lastK]
    exact this
theorem filter_code {p : TPol} (h : OkPol p) : codeE (filterL p) = if 1500 < (filterL p).length then 2 else 0 := by
  have h1 : codeGo (filterL p) = 0 := rulesIns_go p.rules _ h.rules (by simp) (by simp only [codeGo]; rw [if_pos (ret_ok h.d0 h.d1)])
  have h2 : lastK (filterL p) = 4 := lastK_snoc _ _
  have h3 : (filterL p).length ≠ 0 := by simp [filterL]
  unfold codeE
  split
  · rw [if_pos (by omega)]
  · simp only [h1, ne_eq, not_true_eq_false, if_false]
    rw [if_neg (by omega)]

/-! ### a filter says what its policy says -/
theorem jump_next {c : TCond} (h : OkCond c) (x : TCall) (s : Nat) : insNext (jumpIns c s) (x.get c.f) = if holdsB c x then 0 else s := by
  have h0 := h.o0
  have h1 := h.o1
  have e : c.op = 1 ∨ c.op = 2 ∨ c.op = 3 ∨ c.op = 4 := by omega
  unfold jumpIns insNext holdsB
  rcases e with e | e | e | e <;> simp only [e] <;> simp only [Int.reduceEq, if_true, if_false, true_and, false_and, or_false, false_or]
  · by_cases e : x.get c.f = c.v <;> simp [e]
  · by_cases e : x.get c.f = c.v <;> simp [e]
  · by_cases e : x.get c.f < c.v <;> simp [e]
  · by_cases e : x.get c.f < c.v
    · have : ¬ c.v ≤ x.get c.f := by omega
      simp [e, this]
    · have : c.v ≤ x.get c.f := by omega
      simp [e, this]
theorem jumpIns_k (c : TCond) (s : Int) : (jumpIns c s).k = 2 ∨ (jumpIns c s).k = 3 := by
  unfold jumpIns
  split
  · exact .inl rfl
  · split
    · exact .inr rfl
    · split
      · exact .inr rfl
      · exact .inl rfl
theorem condIns_run (x : TCall) : ∀ (cs : List TCond) (v : Int) (l : List TIns) (f : Nat) (n : Int) (d : Nat), (∀ c ∈ cs, OkCond c) → (condIns cs v ++ l).length ≤ f →
    (allHold x cs = true ∧ (runGo x f (condIns cs v ++ l) n d).1 = v) ∨ (allHold x cs = false ∧ ∃ (f' : Nat) (n' : Int) (d' : Nat), l.length ≤ f' ∧ runGo x f (condIns cs v ++ l) n d = runGo x f' l n' d')
  | [], v, l, f, n, d, _, hf => by
    refine .inl ⟨rfl, ?_⟩
    cases f with
    | zero => simp [condIns] at hf
    | succ f => simp only [condIns, List.cons_append, List.nil_append, runGo, if_true]
  | c :: cs, v, l, f, n, d, hc, hf => by
    have hk := hc c (List.mem_cons_self ..)
    have hlen : (condIns (c :: cs) v ++ l).length = 2 + (condIns cs v ++ l).length := by simp only [condIns, List.cons_append, List.length_cons]; omega
    obtain ⟨g, rfl⟩ : ∃ g : Nat, f = g + 2 := ⟨f - 2, by omega⟩
    have h14 : ¬ (1 : Int) = 4 := by omega
    have hj4 : ¬ (jumpIns c (2 * (cs.length : Int) + 1)).k = 4 := by have := jumpIns_k c (2 * (cs.length : Int) + 1); omega
    have hj1 : ¬ (jumpIns c (2 * (cs.length : Int) + 1)).k = 1 := by have := jumpIns_k c (2 * (cs.length : Int) + 1); omega
    have hs : (2 * (cs.length : Int) + 1) = ((2 * cs.length + 1 : Nat) : Int) := by omega
    have step : runGo x (g + 2) (condIns (c :: cs) v ++ l) n d = runGo x g ((condIns cs v ++ l).drop (if holdsB c x then 0 else 2 * cs.length + 1)) (x.get c.f) (d + 1 + 1) := by
      simp only [condIns, List.cons_append, runGo, if_neg h14, if_true, if_neg hj4, if_neg hj1]
      rw [hs, jump_next hk]
    rw [step]
    cases hb : holdsB c x with
    | true =>
      simp only [if_true, List.drop_zero]
      have hall : allHold x (c :: cs) = allHold x cs := by unfold allHold; simp [hb]
      rw [hall]
      exact condIns_run x cs v l g _ _ (fun y hy => hc y (List.mem_cons_of_mem _ hy)) (by omega)
    | false =>
      refine .inr ⟨by unfold allHold; simp [hb], g, x.get c.f, d + 1 + 1, ?_, ?_⟩
      · have : (condIns cs v ++ l).length = (condIns cs v).length + l.length := by simp
        omega
      · simp only [Bool.false_eq_true, if_false]
        rw [← condIns_len cs v, List.drop_left]
theorem rules_run (x : TCall) (dflt : Int) : ∀ (rs : List TRule) (f : Nat) (n : Int) (d : Nat), (∀ r ∈ rs, OkRule r) → (rulesIns rs ++ [(⟨4, dflt, 0, 0⟩ : TIns)]).length ≤ f →
    (runGo x f (rulesIns rs ++ [(⟨4, dflt, 0, 0⟩ : TIns)]) n d).1 = verdictAt ⟨rs, dflt⟩ (which x rs)
  | [], f, n, d, _, hf => by
    cases f with
    | zero => simp at hf
    | succ f => simp only [rulesIns, List.nil_append, runGo, if_true]; rfl
  | r :: rs, f, n, d, hr, hf => by
    have hk := hr r (List.mem_cons_self ..)
    simp only [rulesIns, List.append_assoc] at hf ⊢
    rcases condIns_run x r.conds r.verdict (rulesIns rs ++ [(⟨4, dflt, 0, 0⟩ : TIns)]) f n d hk.conds hf with ⟨ha, he⟩ | ⟨ha, f', n', d', hf', he⟩
    · rw [he]; unfold which; rw [if_pos ha]; rfl
    · rw [he, rules_run x dflt rs f' n' d' (fun y hy => hr y (List.mem_cons_of_mem _ hy)) hf']
      have hw : which x (r :: rs) = which x rs + 1 := by conv => lhs; unfold which
                                                         rw [if_neg (by simp [ha])]
      rw [hw]
      simp [verdictAt]
/-- A FILTER SAYS OF EACH CALL WHAT ITS POLICY SAYS. -/
theorem filter_means {p : TPol} (h : OkPol p) (x : TCall) : (run (filterL p) x).1 = (judged p x).1 :=
  rules_run x p.dflt p.rules _ 0 0 h.rules (Nat.le_refl _)
theorem filterE_ok {p : TPol} (h : (filterE p).2 = 0) : OkPol p ∧ filterE p = (filterL p, 0) ∧ codeE (filterL p) = 0 ∧ (filterL p).length ≤ 1500 := by
  unfold filterE at h ⊢
  split at h
  · rename_i h1; exact absurd h h1
  · rename_i h1
    have hp := (okPol_iff p).1 (by simpa using h1)
    split at h
    · simp at h
    · rename_i h2
      refine ⟨hp, by rw [if_neg h1, if_neg h2], ?_, by omega⟩
      rw [filter_code hp, if_neg h2]
end Go.Proofs.YthkgjohhbdipcaaDoor
namespace Go.Proofs.YthkgjohhbdipcaaDoor

/-! ### chains -/
def codesGo : List (List TIns) → Int
  | [] => 0
  | f :: l => if codeE f = 0 then codesGo l else codeE f
/-- chapter 9's Check. -/
def chainE (l : List (List TIns)) : Int := if 6 < l.length then 2 else codesGo l
theorem codesGo_drop (l : List (List TIns)) (k : Nat) (h : k < l.length) : codesGo (l.drop k) = if codeE l[k] = 0 then codesGo (l.drop (k + 1)) else codeE l[k] := by
  rw [List.drop_eq_getElem_cons h]; rfl
theorem codesGo_iff : ∀ l : List (List TIns), codesGo l = 0 ↔ ∀ f ∈ l, codeE f = 0
  | [] => by simp [codesGo]
  | f :: l => by
    simp only [codesGo, List.mem_cons, forall_eq_or_imp]
    rw [← codesGo_iff l]
    split
    · rename_i h; simp [h]
    · rename_i h; simp [h]
theorem chainE_iff (l : List (List TIns)) : chainE l = 0 ↔ l.length ≤ 6 ∧ ∀ f ∈ l, codeE f = 0 := by
  unfold chainE
  split
  · rename_i h
    constructor
    · intro h'; simp at h'
    · rintro ⟨h1, _⟩; omega
  · rename_i h
    rw [codesGo_iff]
    exact ⟨fun h' => ⟨by omega, h'⟩, fun h' => h'.2⟩
/-- the strictest of what all say. -/
def askGo (x : TCall) : List (List TIns) → Int → Int
  | [], v => v
  | f :: l, v => askGo x l (minOf v (run f x).1)
def asked (l : List (List TIns)) (x : TCall) : Int := askGo x l 4
/-- chapter 9's Ask. -/
def askE (l : List (List TIns)) (x : TCall) : Int × Int := if chainE l ≠ 0 then (0, chainE l) else if x.ok then (asked l x, 0) else (0, 3)
theorem minOf_le (a b : Int) : minOf a b ≤ a ∧ minOf a b ≤ b := by unfold minOf; split <;> omega
theorem minOf_eq (a b : Int) : minOf a b = min a b := by unfold minOf; split <;> omega
theorem askGo_min (x : TCall) : ∀ (l : List (List TIns)) (v : Int), askGo x l v = minOf v (askGo x l v)
  | [], v => by simp [askGo, minOf]
  | f :: l, v => by
    have ih := askGo_min x l (minOf v (run f x).1)
    show askGo x l (minOf v (run f x).1) = minOf v (askGo x l (minOf v (run f x).1))
    rw [ih]
    simp only [minOf_eq]
    omega
theorem askGo_from (x : TCall) : ∀ (l : List (List TIns)) (u v : Int), askGo x l (minOf u v) = minOf u (askGo x l v)
  | [], u, v => rfl
  | f :: l, u, v => by
    show askGo x l (minOf (minOf u v) (run f x).1) = minOf u (askGo x l (minOf v (run f x).1))
    rw [← askGo_from x l u (minOf v (run f x).1)]
    congr 1
    simp only [minOf_eq]; omega
theorem askGo_append (x : TCall) : ∀ (l m : List (List TIns)) (v : Int), askGo x (l ++ m) v = askGo x m (askGo x l v)
  | [], _, _ => rfl
  | _ :: l, m, _ => askGo_append x l m _
theorem asked_append (x : TCall) (l m : List (List TIns)) : asked (l ++ m) x = minOf (asked l x) (asked m x) := by
  unfold asked
  rw [askGo_append]
  have e : askGo x l 4 = minOf (askGo x l 4) 4 := by
    have := askGo_min x l 4
    simp only [minOf_eq] at this ⊢; omega
  conv => lhs; rw [e]
  rw [askGo_from]
theorem asked_cons (x : TCall) (f : List TIns) (l : List (List TIns)) : asked (f :: l) x = minOf (minOf 4 (run f x).1) (asked l x) := asked_append x [f] l
theorem asked_le (x : TCall) (l : List (List TIns)) : asked l x ≤ 4 := by
  have := askGo_min x l 4
  unfold asked
  rw [this]
  exact (minOf_le _ _).1
theorem asked_reverse (x : TCall) : ∀ l : List (List TIns), asked l.reverse x = asked l x
  | [] => rfl
  | f :: l => by
    rw [List.reverse_cons, asked_append, asked_reverse x l, asked_cons]
    have e : asked [] x = 4 := rfl
    have h4 := asked_le x l
    rw [e, asked_cons]
    simp only [minOf_eq]; omega
theorem asked_twice (x : TCall) (l : List (List TIns)) : asked (l ++ l) x = asked l x := by
  rw [asked_append]; simp only [minOf_eq]; omega
/-- chapter 9's Tighten. -/
def tightE (l : List (List TIns)) (p q : TPol) : List (List TIns) × Int :=
  if chainE l ≠ 0 then ([], chainE l) else if (deltaE p q).2 ≠ 0 then ([], (deltaE p q).2) else if l.length = 6 then ([], 2) else
    if (filterE (deltaE p q).1).2 ≠ 0 then ([], (filterE (deltaE p q).1).2) else (l ++ [filterL (deltaE p q).1], 0)
theorem tightE_ok {l : List (List TIns)} {p q : TPol} (h : (tightE l p q).2 = 0) : chainE l = 0 ∧ (deltaE p q).2 = 0 ∧ l.length < 6 ∧ codeE (filterL (deltaE p q).1) = 0 ∧ tightE l p q = (l ++ [filterL (deltaE p q).1], 0) := by
  unfold tightE at h ⊢
  split at h
  · rename_i h1; exact absurd h h1
  · rename_i h1
    split at h
    · rename_i h2; exact absurd h h2
    · rename_i h2
      split at h
      · simp at h
      · rename_i h3
        split at h
        · rename_i h4; exact absurd h h4
        · rename_i h4
          have h1' : chainE l = 0 := by simpa using h1
          obtain ⟨_, _, c, _⟩ := filterE_ok (p := (deltaE p q).1) (by simpa using h4)
          have := (chainE_iff l).1 h1'
          exact ⟨h1', by simpa using h2, by omega, c, by rw [if_neg h1, if_neg h2, if_neg h3, if_neg h4]⟩
theorem chain_tight {l : List (List TIns)} {p q : TPol} (h : (tightE l p q).2 = 0) : chainE (tightE l p q).1 = 0 := by
  obtain ⟨h1, _, h3, h4, h5⟩ := tightE_ok h
  rw [h5, chainE_iff]
  refine ⟨by simp; omega, fun f hf => ?_⟩
  rcases List.mem_append.1 hf with hf | hf
  · exact ((chainE_iff l).1 h1).2 f hf
  · simp at hf; subst hf; exact h4
theorem asked_tight {l : List (List TIns)} {p q : TPol} (h : (tightE l p q).2 = 0) {x : TCall} (hx : x.ok) : asked (tightE l p q).1 x = minOf (asked l x) (exceptOf (says q x) (says p x)) := by
  obtain ⟨_, h2, _, _, h5⟩ := tightE_ok h
  rw [h5]
  show asked (l ++ [filterL _]) x = _
  rw [asked_append]
  have e : asked [filterL (deltaE p q).1] x = minOf 4 (says (deltaE p q).1 x) := by
    show minOf 4 (run (filterL (deltaE p q).1) x).1 = _
    rw [filter_means (okPol_delta h2)]; rfl
  have := (says_range (okPol_delta h2) x).2
  rw [e, says_delta h2 hx]
  rw [says_delta h2 hx] at this
  simp only [minOf_eq]; omega
/-- nothing is ever looser than it was. -/
theorem tight_le {l : List (List TIns)} {p q : TPol} (h : (tightE l p q).2 = 0) {x : TCall} (hx : x.ok) : asked (tightE l p q).1 x ≤ asked l x := by
  rw [asked_tight h hx]; exact (minOf_le _ _).1
/-- OF A CHAIN THAT SAYS WHAT A POLICY SAYS, TIGHTENED, EACH CALL IS TOLD WHAT THE STRICTER ONE SAYS. -/
theorem tight_says {l : List (List TIns)} {p q : TPol} (h : (tightE l p q).2 = 0) {x : TCall} (hx : x.ok) (hl : asked l x = says p x) : asked (tightE l p q).1 x = says q x := by
  obtain ⟨_, h2, _⟩ := tightE_ok h
  have h3 := delta_le h2 hx
  obtain ⟨hp, hq, _⟩ := deltaE_ok h2
  have h4 := (says_range hp x).2
  rw [asked_tight h hx, hl]
  unfold exceptOf
  simp only [minOf_eq]
  split <;> omega
theorem asked_one {p : TPol} (h : OkPol p) (x : TCall) : asked [filterL p] x = says p x := by
  show minOf 4 (run (filterL p) x).1 = _
  rw [filter_means h]
  have := (says_range h x).2
  show minOf 4 (says p x) = _
  simp only [minOf_eq]; omega

/-! ### records and sessions -/
structure TRec where
  kind : Int
  cell : Int
  from_ : Int
  p : TPol
deriving DecidableEq
structure TCell where
  open_ : Bool
  chain : List (List TIns)
  p : TPol
deriving DecidableEq
def noPol (p : TPol) : Prop := p.dflt = 0 ∧ p.rules = []
instance (p : TPol) : Decidable (noPol p) := by unfold noPol; infer_instance
/-- chapter 10's Check. -/
def recE (r : TRec) : Int :=
  if r.kind < 1 ∨ 4 < r.kind then 4 else if r.cell < 0 ∨ 4 ≤ r.cell ∨ r.from_ < 0 ∨ 4 ≤ r.from_ then 3 else
    if (r.kind ≠ 3 ∧ r.from_ ≠ 0) ∨ (2 < r.kind ∧ ¬ noPol r.p) then 4 else if 2 < r.kind then 0 else polE r.p
def zeroCell : TCell := ⟨false, [], zeroPol⟩
def cellE (c : TCell) : Int :=
  if c.open_ then (if c.chain = [] then 4 else if chainE c.chain ≠ 0 then chainE c.chain else polE c.p) else if c.chain = [] ∧ noPol c.p then 0 else 4
def cellsGo : List TCell → Int
  | [] => 0
  | c :: l => if cellE c = 0 then cellsGo l else cellE c
/-- chapter 12's Check. -/
def cellsE (l : List TCell) : Int := if l.length = 4 then cellsGo l else 4
theorem cellsGo_drop (l : List TCell) (k : Nat) (h : k < l.length) : cellsGo (l.drop k) = if cellE l[k] = 0 then cellsGo (l.drop (k + 1)) else cellE l[k] := by
  rw [List.drop_eq_getElem_cons h]; rfl
theorem cellsGo_iff : ∀ l : List TCell, cellsGo l = 0 ↔ ∀ f ∈ l, cellE f = 0
  | [] => by simp [cellsGo]
  | f :: l => by
    simp only [cellsGo, List.mem_cons, forall_eq_or_imp]
    rw [← cellsGo_iff l]
    split
    · rename_i h; simp [h]
    · rename_i h; simp [h]
theorem cellsE_iff (l : List TCell) : cellsE l = 0 ↔ l.length = 4 ∧ ∀ c ∈ l, cellE c = 0 := by
  unfold cellsE
  split
  · rename_i h; rw [cellsGo_iff]; exact ⟨fun h' => ⟨h, h'⟩, fun h' => h'.2⟩
  · rename_i h; exact ⟨fun h' => by simp at h', fun h' => absurd h'.1 h⟩
def newCells : List TCell := [zeroCell, zeroCell, zeroCell, zeroCell]
/-- a session that begins by a policy. -/
def beginE (p : TPol) : TCell × Int := if (filterE p).2 ≠ 0 then (zeroCell, (filterE p).2) else (⟨true, [filterL p], p⟩, 0)
def cellAt (l : List TCell) (k : Int) : TCell := l.getD k.toNat zeroCell
/-- what a record makes of its session. -/
def nextCell (l : List TCell) (r : TRec) : TCell × Int :=
  if r.kind = 3 then (if (cellAt l r.from_).open_ then beginE (cellAt l r.from_).p else (zeroCell, 5))
  else if r.kind = 1 then beginE r.p
  else if r.kind = 2 then (if (tightE (cellAt l r.cell).chain (cellAt l r.cell).p r.p).2 ≠ 0 then (zeroCell, (tightE (cellAt l r.cell).chain (cellAt l r.cell).p r.p).2) else (⟨true, (tightE (cellAt l r.cell).chain (cellAt l r.cell).p r.p).1, r.p⟩, 0))
  else (zeroCell, 0)
/-- chapter 12's Next. -/
def nextE (l : List TCell) (r : TRec) : List TCell × Int :=
  if cellsE l ≠ 0 then ([], cellsE l) else if recE r ≠ 0 then ([], recE r) else
    if (cellAt l r.cell).open_ = decide (r.kind = 1 ∨ r.kind = 3) then ([], 6) else
      if (nextCell l r).2 ≠ 0 then ([], (nextCell l r).2) else (l.set r.cell.toNat (nextCell l r).1, 0)
def replayGo : List TRec → List TCell → List TCell × Int
  | [], c => (c, 0)
  | r :: l, c => if (nextE c r).2 ≠ 0 then ([], (nextE c r).2) else replayGo l (nextE c r).1
/-- chapter 12's Replay. -/
def replayE (l : List TRec) : List TCell × Int := if 40 < l.length then ([], 2) else replayGo l newCells
theorem nextE_ok {l : List TCell} {r : TRec} (h : (nextE l r).2 = 0) : cellsE l = 0 ∧ recE r = 0 ∧ (cellAt l r.cell).open_ ≠ decide (r.kind = 1 ∨ r.kind = 3) ∧ (nextCell l r).2 = 0 ∧ nextE l r = (l.set r.cell.toNat (nextCell l r).1, 0) := by
  unfold nextE at h ⊢
  split at h
  · rename_i h1; exact absurd h h1
  · rename_i h1
    split at h
    · rename_i h2; exact absurd h h2
    · rename_i h2
      split at h
      · simp at h
      · rename_i h3
        split at h
        · rename_i h4; exact absurd h h4
        · rename_i h4
          exact ⟨by simpa using h1, by simpa using h2, h3, by simpa using h4, by rw [if_neg h1, if_neg h2, if_neg h3, if_neg h4]⟩
theorem recE_ok {r : TRec} (h : recE r = 0) : 1 ≤ r.kind ∧ r.kind ≤ 4 ∧ 0 ≤ r.cell ∧ r.cell < 4 ∧ 0 ≤ r.from_ ∧ r.from_ < 4 ∧ (r.kind ≠ 3 → r.from_ = 0) ∧ (2 < r.kind → noPol r.p) ∧ (r.kind ≤ 2 → OkPol r.p) := by
  unfold recE at h
  split at h
  · simp at h
  · split at h
    · simp at h
    · split at h
      · simp at h
      · rename_i h1 h2 h3
        refine ⟨by omega, by omega, by omega, by omega, by omega, by omega, fun hk => ?_, fun hk => ?_, fun hk => ?_⟩
        · by_cases e : r.from_ = 0
          · exact e
          · exact absurd (.inl ⟨hk, e⟩) h3
        · by_cases e : noPol r.p
          · exact e
          · exact absurd (.inr ⟨hk, e⟩) h3
        · split at h
          · omega
          · exact (okPol_iff _).1 h
theorem mem_set {α : Type} {l : List α} {k : Nat} {a c : α} (h : c ∈ l.set k a) : c ∈ l ∨ c = a := List.mem_or_eq_of_mem_set h
theorem cellAt_mem {l : List TCell} (hl : l.length = 4) {k : Int} (h0 : 0 ≤ k) (h1 : k < 4) : cellAt l k ∈ l := by
  unfold cellAt
  rw [List.getD_eq_getElem?_getD, List.getElem?_eq_getElem (by omega)]
  exact List.getElem_mem (by omega)
/-- what a session is told to say. -/
def Means (c : TCell) : Prop := c.open_ = true → OkPol c.p ∧ chainE c.chain = 0 ∧ c.chain ≠ [] ∧ ∀ x : TCall, x.ok → asked c.chain x = says c.p x
theorem begin_ok {p : TPol} (h : (beginE p).2 = 0) : OkPol p ∧ codeE (filterL p) = 0 ∧ beginE p = (⟨true, [filterL p], p⟩, 0) := by
  unfold beginE at h ⊢
  split at h
  · rename_i h1; exact absurd h h1
  · rename_i h1
    obtain ⟨a, _, c, _⟩ := filterE_ok (p := p) (by simpa using h1)
    exact ⟨a, c, by rw [if_neg h1]⟩
theorem means_begin {p : TPol} (h : (beginE p).2 = 0) : Means (beginE p).1 ∧ cellE (beginE p).1 = 0 := by
  obtain ⟨a, b, c⟩ := begin_ok h
  rw [c]
  have hc : chainE [filterL p] = 0 := by rw [chainE_iff]; exact ⟨by simp, by simpa using b⟩
  refine ⟨fun _ => ⟨a, hc, by simp, fun x _ => asked_one a x⟩, ?_⟩
  unfold cellE
  simp only [if_true]
  rw [if_neg (by simp), if_neg (by rw [hc]; simp)]
  exact (okPol_iff _).2 a
/-- what becomes of the session that a record speaks of. -/
theorem means_next {l : List TCell} {r : TRec} (h : (nextE l r).2 = 0) (hm : ∀ c ∈ l, Means c) : Means (nextCell l r).1 ∧ cellE (nextCell l r).1 = 0 := by
  obtain ⟨h1, h2, h3, h4, _⟩ := nextE_ok h
  obtain ⟨k0, k1, c0, c1, f0, f1, e1, e2, e3⟩ := recE_ok h2
  obtain ⟨hl, _⟩ := (cellsE_iff l).1 h1
  unfold nextCell at h4 ⊢
  by_cases hk3 : r.kind = 3
  · rw [if_pos hk3] at h4 ⊢
    split at h4
    · rename_i ho; rw [if_pos ho]; exact means_begin h4
    · simp at h4
  · rw [if_neg hk3] at h4 ⊢
    by_cases hk1 : r.kind = 1
    · rw [if_pos hk1] at h4 ⊢; exact means_begin h4
    · rw [if_neg hk1] at h4 ⊢
      by_cases hk2 : r.kind = 2
      · rw [if_pos hk2] at h4 ⊢
        split at h4
        · rename_i ht; exact absurd h4 ht
        · rename_i ht
          rw [if_neg ht]
          have ht' : (tightE (cellAt l r.cell).chain (cellAt l r.cell).p r.p).2 = 0 := by simpa using ht
          have ho : (cellAt l r.cell).open_ = true := by
            have : decide (r.kind = 1 ∨ r.kind = 3) = false := by simp [hk1, hk3]
            rw [this] at h3
            simpa using h3
          obtain ⟨m1, m2, m3, m4⟩ := hm _ (cellAt_mem hl c0 c1) ho
          have hp := e3 (by omega)
          have hc := chain_tight ht'
          have hne : (tightE (cellAt l r.cell).chain (cellAt l r.cell).p r.p).1 ≠ [] := by
            rw [(tightE_ok ht').2.2.2.2]; simp
          refine ⟨fun _ => ⟨hp, hc, hne, fun x hx => tight_says ht' hx (m4 x hx)⟩, ?_⟩
          unfold cellE
          simp only [if_true]
          rw [if_neg hne, if_neg (by rw [hc]; simp)]
          exact (okPol_iff _).2 hp
      · rw [if_neg hk2]
        exact ⟨fun h => by simp [zeroCell] at h, by unfold cellE zeroCell; simp [noPol, zeroPol]⟩
theorem means_all {l : List TCell} {r : TRec} (h : (nextE l r).2 = 0) (hm : ∀ c ∈ l, Means c) : (∀ c ∈ (nextE l r).1, Means c) ∧ cellsE (nextE l r).1 = 0 := by
  obtain ⟨h1, _, _, _, h5⟩ := nextE_ok h
  obtain ⟨m1, m2⟩ := means_next h hm
  obtain ⟨hl, hc⟩ := (cellsE_iff l).1 h1
  rw [h5]
  refine ⟨fun c hcm => ?_, (cellsE_iff _).2 ⟨by simpa using hl, fun c hcm => ?_⟩⟩
  · rcases mem_set hcm with h | h
    · exact hm c h
    · subst h; exact m1
  · rcases mem_set hcm with h | h
    · exact hc c h
    · subst h; exact m2
theorem means_new : (∀ c ∈ newCells, Means c) ∧ cellsE newCells = 0 := by
  refine ⟨fun c hc => ?_, by decide⟩
  have : c = zeroCell := by simp [newCells] at hc; exact hc
  subst this
  exact fun h => by simp [zeroCell] at h
theorem means_replay : ∀ (l : List TRec) (c : List TCell), (∀ s ∈ c, Means s) → cellsE c = 0 → (replayGo l c).2 = 0 → (∀ s ∈ (replayGo l c).1, Means s) ∧ cellsE (replayGo l c).1 = 0
  | [], _, h1, h2, _ => ⟨h1, h2⟩
  | r :: l, c, h1, h2, h => by
    unfold replayGo at h ⊢
    by_cases hn : (nextE c r).2 ≠ 0
    · rw [if_pos hn] at h; exact absurd h hn
    · rw [if_neg hn] at h ⊢
      obtain ⟨a, b⟩ := means_all (by simpa using hn) h1
      exact means_replay l _ a b h
theorem replayE_ok {l : List TRec} (h : (replayE l).2 = 0) : l.length ≤ 40 ∧ replayE l = replayGo l newCells ∧ (∀ s ∈ (replayE l).1, Means s) ∧ cellsE (replayE l).1 = 0 := by
  unfold replayE at h ⊢
  split at h
  · simp at h
  · rename_i h1
    rw [if_neg h1]
    exact ⟨by omega, rfl, means_replay l newCells means_new.1 means_new.2 h⟩
theorem replayGo_append : ∀ (l m : List TRec) (c : List TCell), replayGo (l ++ m) c = if (replayGo l c).2 ≠ 0 then ([], (replayGo l c).2) else replayGo m (replayGo l c).1
  | [], m, c => by simp [replayGo]
  | r :: l, m, c => by
    have e : ∀ m : List TRec, replayGo (r :: m) c = if (nextE c r).2 ≠ 0 then ([], (nextE c r).2) else replayGo m (nextE c r).1 := fun _ => rfl
    rw [List.cons_append, e, e]
    by_cases hn : (nextE c r).2 ≠ 0
    · rw [if_pos hn, if_pos hn, if_pos hn]
    · rw [if_neg hn, if_neg hn]
      exact replayGo_append l m _
theorem cellAt_set {l : List TCell} (hl : l.length = 4) {k : Int} (h0 : 0 ≤ k) (h1 : k < 4) (c : TCell) (j : Int) : cellAt (l.set k.toNat c) j = if j.toNat = k.toNat then c else cellAt l j := by
  unfold cellAt
  rw [List.getD_eq_getElem?_getD, List.getElem?_set]
  by_cases e : j.toNat = k.toNat
  · rw [if_pos e.symm, if_pos (by omega), if_pos e]; rfl
  · rw [if_neg (fun h => e h.symm), if_neg e]; rfl
/-- WHILE IT IS OPEN A SESSION GETS STRICTER ALONE. -/
theorem next_strict {l : List TCell} {r : TRec} (h : (nextE l r).2 = 0) (ho : (cellAt l r.cell).open_ = true) (ho' : (nextCell l r).1.open_ = true) :
    (tightE (cellAt l r.cell).chain (cellAt l r.cell).p r.p).2 = 0 ∧ (nextCell l r).1 = ⟨true, (tightE (cellAt l r.cell).chain (cellAt l r.cell).p r.p).1, r.p⟩ ∧ (nextCell l r).1.chain.length = (cellAt l r.cell).chain.length + 1 := by
  obtain ⟨h1, h2, h3, h4, _⟩ := nextE_ok h
  rw [ho] at h3
  have hk : ¬ (r.kind = 1 ∨ r.kind = 3) := fun e => h3 (by simp [e])
  unfold nextCell at h4 ho' ⊢
  rw [if_neg (fun e => hk (.inr e)), if_neg (fun e => hk (.inl e))] at h4 ho' ⊢
  by_cases hk2 : r.kind = 2
  · rw [if_pos hk2] at h4 ho' ⊢
    split at h4
    · rename_i ht; exact absurd h4 ht
    · rename_i ht
      rw [if_neg ht]
      have ht' : (tightE (cellAt l r.cell).chain (cellAt l r.cell).p r.p).2 = 0 := by simpa using ht
      refine ⟨ht', rfl, ?_⟩
      show (tightE _ _ _).1.length = _
      rw [(tightE_ok ht').2.2.2.2]; simp
  · rw [if_neg hk2] at ho'
    simp [zeroCell] at ho'
end Go.Proofs.YthkgjohhbdipcaaDoor
namespace Go.Proofs.YthkgjohhbdipcaaDoor
open Go.RowKit

/-- a record, as an argument: its cells. -/
@[reducible] def recV (r : TRec) (v : Value) : Value := .agg #[.int .i64 r.kind, .int .i64 r.cell, .int .i64 r.from_, v, .int .i64 r.p.dflt]
def recR (w : World) (D : Nat → Prop) (r : TRec) (cs : List Value) : Prop := ∃ v, cs = [.int .i64 r.kind, .int .i64 r.cell, .int .i64 r.from_, v, .int .i64 r.p.dflt] ∧ RdRules w D v r.p.rules
def RdRecs (w : World) (D : Nat → Prop) (v : Value) (l : List TRec) : Prop := Sl w D 5 (recR w D) v l
theorem RdRecs.keep {w w' : World} {D D' : Nat → Prop} {v : Value} {l : List TRec} (h : RdRecs w D v l) (hD : ∀ b, D b → b < w.heap.size → D' b)
    (hw : ∀ b, D b → b < w.heap.size → w'.heap[b]? = w.heap[b]?) (hs : w.heap.size ≤ w'.heap.size) : RdRecs w' D' v l := Sl.mono h hD hw hs (fun _ _ _ ⟨u, h1, h2⟩ => ⟨u, h1, h2.keep hD hw hs⟩)
theorem RdRecs.below {w w' : World} {D : Nat → Prop} {v : Value} {l : List TRec} (h : RdRecs w D v l) (hb : Below w.heap.size w w') : RdRecs w' D v l :=
  h.keep (fun _ h _ => h) (fun b _ hlt => hb.block b hlt) hb.size
theorem RdRecs.cells {w : World} {D : Nat → Prop} {b o n c : Nat} {s : Option Nat} {l : List TRec} (h : RdRecs w D (.slice (some ⟨b, o, s⟩) n c) l) {i : Nat} (hi : i < l.length) :
    ∃ (a : Option Addr) (c : Nat), w.cell? ⟨b, o + i * 5, none⟩ = some (.int .i64 l[i].kind) ∧ w.cell? ⟨b, o + i * 5 + 1, none⟩ = some (.int .i64 l[i].cell) ∧ w.cell? ⟨b, o + i * 5 + 2, none⟩ = some (.int .i64 l[i].from_) ∧ w.cell? ⟨b, o + i * 5 + 3, none⟩ = some (.slice a l[i].p.rules.length c) ∧ w.cell? ⟨b, o + i * 5 + 4, none⟩ = some (.int .i64 l[i].p.dflt) ∧
      RdRules w D (.slice a l[i].p.rules.length c) l[i].p.rules := by
  obtain ⟨cs, _, ⟨v, hu, hp⟩, hcell⟩ := Sl.get h hi
  obtain ⟨a1, c1, hv, _⟩ := Sl.form hp
  subst hv hu
  exact ⟨a1, c1, by have := hcell 0 _ rfl; simpa using this, by have := hcell 1 _ rfl; simpa [Nat.add_assoc] using this, by have := hcell 2 _ rfl; simpa [Nat.add_assoc] using this, by have := hcell 3 _ rfl; simpa [Nat.add_assoc] using this, by have := hcell 4 _ rfl; simpa [Nat.add_assoc] using this, hp⟩
theorem recR.keep {w w' : World} {D D' : Nat → Prop} {r : TRec} {cs : List Value} (h : recR w D r cs) (hD : ∀ b, D b → b < w.heap.size → D' b) (hw : ∀ b, D b → b < w.heap.size → w'.heap[b]? = w.heap[b]?) (hs : w.heap.size ≤ w'.heap.size) : recR w' D' r cs := by
  obtain ⟨u, h1, h2⟩ := h
  exact ⟨u, h1, h2.keep hD hw hs⟩
theorem recR_one {w : World} {D : Nat → Prop} (y : TRec) (cs : List Value) (h : recR w D y cs) : ∀ c ∈ cs, c.oneCell' = true := by
  obtain ⟨u, rfl, h1⟩ := h
  obtain ⟨a, c, rfl, _⟩ := Sl.form h1
  simp [Value.oneCell']
theorem recs_true {w : World} {D : Nat → Prop} {v : Value} {l : List TRec} (h : RdRecs w D v l) : RdRecs w (fun _ => True) v l := h.keep (fun _ _ _ => trivial) (fun _ _ _ => rfl) (Nat.le_refl _)
end Go.Proofs.YthkgjohhbdipcaaDoor
namespace Go.Proofs.YthkgjohhbdipcaaDoor
open Go.RowKit

set_option maxRecDepth 100000 in
set_option maxHeartbeats 8000000 in
theorem notecheck_any (v : Value) (r : TRec) (D : Nat → Prop) (w : World) (h : RdRules w D v r.p.rules) :
    Calls Tryd.prog 43 #[recV r v] w fun e w' => e = .returned (.int .i64 (recE r)) ∧ Below w.heap.size w w' := by
  obtain ⟨kd, cl, fr, ⟨rs, d⟩⟩ := r
  dsimp only at h ⊢
  have H := Lib.hid h
  obtain ⟨a, c, rfl, hlc, hcm, hat⟩ := Sl.form h
  clear h
  by_cases k1 : kd < 1
  · have he : recE ⟨kd, cl, fr, ⟨rs, d⟩⟩ = 4 := by unfold recE; dsimp only; rw [if_pos (Or.inl k1)]
    rw [he]; clear he H hat
    go_enter Tryd.func43, Tryd.ntmps43
    go_wp2
    go_ret
    exact ⟨rfl, bel_alloc (Below.refl _ _) _⟩
  · by_cases k2 : 4 < kd
    · have he : recE ⟨kd, cl, fr, ⟨rs, d⟩⟩ = 4 := by unfold recE; dsimp only; rw [if_pos (Or.inr k2)]
      rw [he]; clear he H hat
      go_enter Tryd.func43, Tryd.ntmps43
      go_wp2
      go_ret
      exact ⟨rfl, bel_alloc (Below.refl _ _) _⟩
    · by_cases c1 : cl < 0
      · have he : recE ⟨kd, cl, fr, ⟨rs, d⟩⟩ = 3 := by unfold recE; dsimp only; rw [if_neg (by omega : ¬ (kd < 1 ∨ 4 < kd)), if_pos (by omega)]
        rw [he]; clear he H hat
        go_enter Tryd.func43, Tryd.ntmps43
        go_wp2
        go_ret
        exact ⟨rfl, bel_alloc (Below.refl _ _) _⟩
      · by_cases c2 : 4 ≤ cl
        · have he : recE ⟨kd, cl, fr, ⟨rs, d⟩⟩ = 3 := by unfold recE; dsimp only; rw [if_neg (by omega : ¬ (kd < 1 ∨ 4 < kd)), if_pos (by omega)]
          rw [he]; clear he H hat
          go_enter Tryd.func43, Tryd.ntmps43
          go_wp2
          go_ret
          exact ⟨rfl, bel_alloc (Below.refl _ _) _⟩
        · by_cases c3 : fr < 0
          · have he : recE ⟨kd, cl, fr, ⟨rs, d⟩⟩ = 3 := by unfold recE; dsimp only; rw [if_neg (by omega : ¬ (kd < 1 ∨ 4 < kd)), if_pos (by omega)]
            rw [he]; clear he H hat
            go_enter Tryd.func43, Tryd.ntmps43
            go_wp2
            go_ret
            exact ⟨rfl, bel_alloc (Below.refl _ _) _⟩
          · by_cases c4 : 4 ≤ fr
            · have he : recE ⟨kd, cl, fr, ⟨rs, d⟩⟩ = 3 := by unfold recE; dsimp only; rw [if_neg (by omega : ¬ (kd < 1 ∨ 4 < kd)), if_pos (by omega)]
              rw [he]; clear he H hat
              go_enter Tryd.func43, Tryd.ntmps43
              go_wp2
              go_ret
              exact ⟨rfl, bel_alloc (Below.refl _ _) _⟩
            · by_cases k4 : kd = 3
              · subst k4
                have k3 : (2 : Int) < 3 := by decide
                by_cases d0 : d = 0
                · subst d0
                  rcases Nat.eq_zero_or_pos rs.length with r0 | r0
                  · obtain rfl : rs = [] := List.length_eq_zero_iff.1 r0
                    have e1 : ([] : List TRule).length = 0 := rfl
                    have he : recE ⟨(3 : Int), cl, fr, ⟨[], 0⟩⟩ = 0 := by unfold recE; dsimp only; rw [if_neg (by omega : ¬ ((3 : Int) < 1 ∨ 4 < (3 : Int))), if_neg (by omega : ¬ (cl < 0 ∨ 4 ≤ cl ∨ fr < 0 ∨ 4 ≤ fr)), if_neg (by simp [noPol]; try omega), if_pos k3]
                    rw [he]; clear he H hat
                    go_enter Tryd.func43, Tryd.ntmps43
                    go_wp2
                    go_ret
                    exact ⟨rfl, bel_alloc (Below.refl _ _) _⟩
                  · have z0 : rs ≠ [] := fun e => by rw [e] at r0; simp at r0
                    have z1 : 0 < (rs.length : Int) := by omega
                    clear r0
                    have he : recE ⟨(3 : Int), cl, fr, ⟨rs, 0⟩⟩ = 4 := by unfold recE; dsimp only; rw [if_neg (by omega : ¬ ((3 : Int) < 1 ∨ 4 < (3 : Int))), if_neg (by omega : ¬ (cl < 0 ∨ 4 ≤ cl ∨ fr < 0 ∨ 4 ≤ fr)), if_pos (Or.inr ⟨k3, fun h => z0 h.2⟩)]
                    rw [he]; clear he H hat
                    go_enter Tryd.func43, Tryd.ntmps43
                    go_wp2
                    go_ret
                    exact ⟨rfl, bel_alloc (Below.refl _ _) _⟩
                · have z1 : (d != 0) = true := bne_iff_ne.2 d0
                  have he : recE ⟨(3 : Int), cl, fr, ⟨rs, d⟩⟩ = 4 := by unfold recE; dsimp only; rw [if_neg (by omega : ¬ ((3 : Int) < 1 ∨ 4 < (3 : Int))), if_neg (by omega : ¬ (cl < 0 ∨ 4 ≤ cl ∨ fr < 0 ∨ 4 ≤ fr)), if_pos (Or.inr ⟨k3, fun h => d0 h.1⟩)]
                  rw [he]; clear he H hat
                  go_enter Tryd.func43, Tryd.ntmps43
                  go_wp2
                  go_ret
                  exact ⟨rfl, bel_alloc (Below.refl _ _) _⟩
              · have k4' : (kd != 3) = true := bne_iff_ne.2 k4
                by_cases f0 : fr = 0
                · subst f0
                  by_cases k3 : 2 < kd
                  · by_cases d0 : d = 0
                    · subst d0
                      rcases Nat.eq_zero_or_pos rs.length with r0 | r0
                      · obtain rfl : rs = [] := List.length_eq_zero_iff.1 r0
                        have e1 : ([] : List TRule).length = 0 := rfl
                        have he : recE ⟨kd, cl, (0 : Int), ⟨[], 0⟩⟩ = 0 := by unfold recE; dsimp only; rw [if_neg (by omega : ¬ (kd < 1 ∨ 4 < kd)), if_neg (by omega : ¬ (cl < 0 ∨ 4 ≤ cl ∨ (0 : Int) < 0 ∨ 4 ≤ (0 : Int))), if_neg (by simp [noPol]; try omega), if_pos k3]
                        rw [he]; clear he H hat
                        go_enter Tryd.func43, Tryd.ntmps43
                        go_wp2
                        go_ret
                        exact ⟨rfl, bel_alloc (Below.refl _ _) _⟩
                      · have z0 : rs ≠ [] := fun e => by rw [e] at r0; simp at r0
                        have z1 : 0 < (rs.length : Int) := by omega
                        clear r0
                        have he : recE ⟨kd, cl, (0 : Int), ⟨rs, 0⟩⟩ = 4 := by unfold recE; dsimp only; rw [if_neg (by omega : ¬ (kd < 1 ∨ 4 < kd)), if_neg (by omega : ¬ (cl < 0 ∨ 4 ≤ cl ∨ (0 : Int) < 0 ∨ 4 ≤ (0 : Int))), if_pos (Or.inr ⟨k3, fun h => z0 h.2⟩)]
                        rw [he]; clear he H hat
                        go_enter Tryd.func43, Tryd.ntmps43
                        go_wp2
                        go_ret
                        exact ⟨rfl, bel_alloc (Below.refl _ _) _⟩
                    · have z1 : (d != 0) = true := bne_iff_ne.2 d0
                      have he : recE ⟨kd, cl, (0 : Int), ⟨rs, d⟩⟩ = 4 := by unfold recE; dsimp only; rw [if_neg (by omega : ¬ (kd < 1 ∨ 4 < kd)), if_neg (by omega : ¬ (cl < 0 ∨ 4 ≤ cl ∨ (0 : Int) < 0 ∨ 4 ≤ (0 : Int))), if_pos (Or.inr ⟨k3, fun h => d0 h.1⟩)]
                      rw [he]; clear he H hat
                      go_enter Tryd.func43, Tryd.ntmps43
                      go_wp2
                      go_ret
                      exact ⟨rfl, bel_alloc (Below.refl _ _) _⟩
                  · have he : recE ⟨kd, cl, (0 : Int), ⟨rs, d⟩⟩ = polE ⟨rs, d⟩ := by unfold recE; dsimp only; rw [if_neg (by omega : ¬ (kd < 1 ∨ 4 < kd)), if_neg (by omega : ¬ (cl < 0 ∨ 4 ≤ cl ∨ (0 : Int) < 0 ∨ 4 ≤ (0 : Int))), if_neg (by omega), if_neg k3]
                    have He := Lib.hid he
                    clear he hat
                    have HB := Lib.hid (Bx.one (w := w) (o := .cells #[.int .i64 kd, .int .i64 cl, .int .i64 (0 : Int), .slice a rs.length c, .int .i64 d] 34))
                    go_enter Tryd.func43, Tryd.ntmps43
                    go_wp2_with fail
                    refine (polcheck_any _ ⟨rs, d⟩ D _ (H.out.below HB.out.bel)).mono ?_
                    rintro e w1 ⟨rfl, hb1⟩
                    have HB1 := Lib.hid (HB.out.below hb1)
                    clear hb1
                    go_wp2
                    go_ret
                    exact ⟨ret_int He.out.symm, HB1.out.bel⟩
                · have f0' : (fr != 0) = true := bne_iff_ne.2 f0
                  have he : recE ⟨kd, cl, fr, ⟨rs, d⟩⟩ = 4 := by unfold recE; dsimp only; rw [if_neg (by omega : ¬ (kd < 1 ∨ 4 < kd)), if_neg (by omega : ¬ (cl < 0 ∨ 4 ≤ cl ∨ fr < 0 ∨ 4 ≤ fr)), if_pos (Or.inl ⟨k4, f0⟩)]
                  rw [he]; clear he H hat
                  go_enter Tryd.func43, Tryd.ntmps43
                  go_wp2
                  go_ret
                  exact ⟨rfl, bel_alloc (Below.refl _ _) _⟩
end Go.Proofs.YthkgjohhbdipcaaDoor
namespace Go.Proofs.YthkgjohhbdipcaaDoor

def kindW (k : Int) : List UInt8 := if k = 1 then [111, 112, 101, 110] else if k = 2 then [116, 105, 103, 104, 116] else if k = 3 then [102, 111, 114, 107] else [115, 104, 117, 116]
def kindOf (l : List UInt8) : Int := if l = [111, 112, 101, 110] then 1 else if l = [116, 105, 103, 104, 116] then 2 else if l = [102, 111, 114, 107] then 3 else if l = [115, 104, 117, 116] then 4 else 0
def zeroRec : TRec := ⟨0, 0, 0, zeroPol⟩
def tailW (r : TRec) : List UInt8 := if r.kind = 3 then 32 :: Lib.itoa r.from_ else if r.kind = 4 then [] else 32 :: textP r.p
/-- chapter 10's Print, of a right record. -/
def recW (r : TRec) : List UInt8 := kindW r.kind ++ 32 :: (Lib.itoa r.cell ++ tailW r)
def checkedRec (r : TRec) : TRec × Int := if recE r = 0 then (r, 0) else (zeroRec, recE r)
/-- what is read of a kind, a cell's word, and what is behind it. -/
def readGo (k : Int) (u : List UInt8 × List UInt8 × Bool) : TRec × Int :=
  if k = 0 ∨ (wholeS u.1).2 = false ∨ u.2.2 ≠ decide (k ≠ 4) then (zeroRec, 1)
  else if k = 3 then (if (wholeS u.2.1).2 then checkedRec ⟨3, (wholeS u.1).1, (wholeS u.2.1).1, zeroPol⟩ else (zeroRec, 1))
  else if k = 4 then checkedRec ⟨4, (wholeS u.1).1, 0, zeroPol⟩
  else if (readP u.2.1).2 ≠ 0 then (zeroRec, (readP u.2.1).2) else checkedRec ⟨k, (wholeS u.1).1, 0, (readP u.2.1).1⟩
/-- chapter 10's Parse. -/
def readRec (s : List UInt8) : TRec × Int := readGo (kindOf (Lib.cut s [32]).1) (Lib.cut (Lib.cut s [32]).2.1 [32])
theorem cut_cases (s : List UInt8) (c : UInt8) : (c ∉ s ∧ Lib.cut s [c] = (s, [], false)) ∨ ∃ a r, s = a ++ c :: r ∧ c ∉ a ∧ Lib.cut s [c] = (a, r, true) := by
  by_cases h : c ∈ s
  · obtain ⟨a, r, rfl, ha⟩ := List.eq_append_cons_of_mem h
    exact .inr ⟨a, r, rfl, ha, cut_app ha⟩
  · exact .inl ⟨h, cut_none h⟩
theorem kindW_plain (k : Int) : ∀ b ∈ kindW k, plainB b = true := by
  intro b hb
  unfold kindW at hb
  split at hb
  · simp at hb; rcases hb with rfl | rfl | rfl | rfl <;> decide
  · split at hb
    · simp at hb; rcases hb with rfl | rfl | rfl | rfl | rfl <;> decide
    · split at hb
      · simp at hb; rcases hb with rfl | rfl | rfl | rfl <;> decide
      · simp at hb; rcases hb with rfl | rfl | rfl | rfl <;> decide
theorem kindOf_W {k : Int} (h0 : 1 ≤ k) (h1 : k ≤ 4) : kindOf (kindW k) = k := by
  have : k = 1 ∨ k = 2 ∨ k = 3 ∨ k = 4 := by omega
  rcases this with rfl | rfl | rfl | rfl <;> decide
theorem kindW_of {l : List UInt8} (h : kindOf l ≠ 0) : kindW (kindOf l) = l ∧ 1 ≤ kindOf l ∧ kindOf l ≤ 4 := by
  unfold kindOf at h ⊢
  split
  · rename_i e; subst e; exact ⟨by decide, by decide, by decide⟩
  · split
    · rename_i e; subst e; exact ⟨by decide, by decide, by decide⟩
    · split
      · rename_i e; subst e; exact ⟨by decide, by decide, by decide⟩
      · split
        · rename_i e; subst e; exact ⟨by decide, by decide, by decide⟩
        · rename_i h1 h2 h3 h4
          rw [if_neg h1, if_neg h2, if_neg h3, if_neg h4] at h
          exact absurd rfl h
theorem itoa_no {v : Int} (h0 : 0 ≤ v) {b : UInt8} (hb : b.toNat < 48 ∨ 57 < b.toNat) : b ∉ Lib.itoa v := by
  intro hm
  have := (itoa_digits h0).1 b hm; omega
theorem noPol_zero {p : TPol} (h : noPol p) : p = zeroPol := by
  obtain ⟨l, d⟩ := p
  obtain ⟨h1, h2⟩ := h
  dsimp only at h1 h2
  subst h1 h2; rfl
theorem zero_noPol : noPol zeroPol := ⟨rfl, rfl⟩
theorem cut_rec {r : TRec} (h : recE r = 0) : Lib.cut (recW r) [32] = (kindW r.kind, Lib.itoa r.cell ++ tailW r, true) ∧ Lib.cut (Lib.itoa r.cell ++ tailW r) [32] = (Lib.itoa r.cell, (tailW r).drop 1, decide (r.kind ≠ 4)) := by
  obtain ⟨k0, k1, c0, c1, f0, f1, e1, e2, e3⟩ := recE_ok h
  refine ⟨cut_app (plain_ne (kindW_plain _) (by decide)), ?_⟩
  have hn : (32 : UInt8) ∉ Lib.itoa r.cell := itoa_no c0 (by decide)
  by_cases h4 : r.kind = 4
  · unfold tailW
    rw [if_neg (by omega), if_pos h4, List.append_nil, cut_none hn]
    simp [h4]
  · have hd : decide (r.kind ≠ 4) = true := by simpa using h4
    rw [hd]
    by_cases h3 : r.kind = 3
    · unfold tailW
      rw [if_pos h3, cut_app hn]; rfl
    · unfold tailW
      rw [if_neg h3, if_neg h4, cut_app hn]; rfl
/-- what is printed is read. -/
theorem recW_read {r : TRec} (h : recE r = 0) : readRec (recW r) = (r, 0) := by
  obtain ⟨h1, h2⟩ := cut_rec h
  obtain ⟨k0, k1, c0, c1, f0, f1, e1, e2, e3⟩ := recE_ok h
  unfold readRec
  rw [h1]
  dsimp only
  rw [h2, kindOf_W k0 k1]
  unfold readGo
  dsimp only
  have hw := whole_itoa c0 (show r.cell ≤ 65535 by omega)
  rw [hw]
  rw [if_neg (by simp; omega)]
  have hk : ∀ r', r' = r → checkedRec r' = (r, 0) := by rintro r' rfl; unfold checkedRec; rw [if_pos h]
  by_cases h3 : r.kind = 3
  · have ht : (tailW r).drop 1 = Lib.itoa r.from_ := by unfold tailW; rw [if_pos h3]; rfl
    rw [if_pos h3, ht, whole_itoa f0 (by omega)]
    dsimp only
    rw [if_pos rfl]
    refine hk _ ?_
    obtain ⟨a, b, c, d⟩ := r
    dsimp only at *
    rw [noPol_zero (e2 (by omega)), h3]
  · by_cases h4 : r.kind = 4
    · rw [if_neg h3, if_pos h4]
      refine hk _ ?_
      obtain ⟨a, b, c, d⟩ := r
      dsimp only at *
      rw [noPol_zero (e2 (by omega)), h4, e1 h3]
    · have ht : (tailW r).drop 1 = textP r.p := by unfold tailW; rw [if_neg h3, if_neg h4]; rfl
      rw [if_neg h3, if_neg h4, ht, print_read (e3 (by omega))]
      dsimp only
      rw [if_neg (by simp)]
      refine hk _ ?_
      obtain ⟨a, b, c, d⟩ := r
      dsimp only at *
      rw [e1 h3]
theorem checkedRec_ok {r r' : TRec} (h : checkedRec r' = (r, 0)) : r' = r ∧ recE r = 0 := by
  unfold checkedRec at h
  split at h
  · rename_i h0
    simp only [Prod.mk.injEq, and_true] at h
    subst h; exact ⟨rfl, h0⟩
  · rename_i h0
    simp only [Prod.mk.injEq] at h
    exact absurd h.2 h0
/-- what is read is printed as it was. -/
theorem read_recW {s : List UInt8} {r : TRec} (h : readRec s = (r, 0)) : recE r = 0 ∧ recW r = s := by
  unfold readRec readGo at h
  split at h
  · simp at h
  · rename_i hbad
    have hk : kindOf (Lib.cut s [32]).1 ≠ 0 := fun e => hbad (.inl e)
    have hw : (wholeS (Lib.cut (Lib.cut s [32]).2.1 [32]).1).2 = true := by
      cases hx : (wholeS (Lib.cut (Lib.cut s [32]).2.1 [32]).1).2 with
      | true => rfl
      | false => exact absurd (.inr (.inl hx)) hbad
    have hm : (Lib.cut (Lib.cut s [32]).2.1 [32]).2.2 = decide (kindOf (Lib.cut s [32]).1 ≠ 4) := by
      by_cases hx : (Lib.cut (Lib.cut s [32]).2.1 [32]).2.2 = decide (kindOf (Lib.cut s [32]).1 ≠ 4)
      · exact hx
      · exact absurd (.inr (.inr hx)) hbad
    clear hbad
    obtain ⟨hkw, hk1, hk2⟩ := kindW_of hk
    rcases cut_cases s 32 with ⟨_, hc⟩ | ⟨a, t, rfl, ha, hc⟩
    · rw [hc] at hw
      have : (wholeS (Lib.cut ([] : List UInt8) [32]).1).2 = false := by decide
      rw [this] at hw; cases hw
    rw [hc] at h hk hw hm hkw hk1 hk2
    dsimp only at h hk hw hm hkw hk1 hk2
    generalize hK : kindOf a = k at h hk hm hkw hk1 hk2
    rcases cut_cases t 32 with ⟨_, hc2⟩ | ⟨b, t2, rfl, hb, hc2⟩
    · rw [hc2] at h hw hm
      dsimp only at h hw hm
      have h4 : k = 4 := by
        have := of_decide_eq_false hm.symm
        omega
      rw [if_neg (by omega), if_pos h4] at h
      obtain ⟨h1, h2⟩ := checkedRec_ok h
      refine ⟨h2, ?_⟩
      rw [← h1]
      unfold recW tailW
      dsimp only
      rw [if_neg (by omega), if_pos rfl, List.append_nil, ← whole_some hw, ← h4, hkw]
    · rw [hc2] at h hw hm
      dsimp only at h hw hm
      have h4 : k ≠ 4 := of_decide_eq_true hm.symm
      by_cases h3 : k = 3
      · rw [if_pos h3] at h
        split at h
        · rename_i hw2
          obtain ⟨h1, h2⟩ := checkedRec_ok h
          refine ⟨h2, ?_⟩
          rw [← h1]
          unfold recW tailW
          dsimp only
          rw [if_pos rfl, ← whole_some hw, ← whole_some hw2, ← h3, hkw]
        · simp at h
      · rw [if_neg h3, if_neg h4] at h
        split at h
        · rename_i he
          simp only [Prod.mk.injEq] at h
          exact absurd h.2 he
        · rename_i he
          obtain ⟨h1, h2⟩ := checkedRec_ok h
          refine ⟨h2, ?_⟩
          have hp : readP t2 = ((readP t2).1, 0) := by
            have : (readP t2).2 = 0 := by simpa using he
            rw [← this]
          rw [← h1]
          unfold recW tailW
          dsimp only
          rw [if_neg h3, if_neg h4, ← whole_some hw, (read_print hp).2, hkw]
/-- unlike records have unlike texts. -/
theorem recW_inj {r q : TRec} (h : recE r = 0) (h' : recE q = 0) : recW r = recW q ↔ r = q := by
  constructor
  · intro e
    have h1 := recW_read h
    rw [e, recW_read h'] at h1
    simp only [Prod.mk.injEq, and_true] at h1
    exact h1.symm
  · rintro rfl; rfl

/-! ### lines -/
theorem text_no10 {p : TPol} (h : OkPol p) : (10 : UInt8) ∉ textP p := by
  unfold textP
  intro hm
  rcases List.mem_append.1 hm with hm | hm
  · obtain ⟨r, hr, hm⟩ := List.mem_flatMap.1 hm
    have ok := h.rules r hr
    rcases List.mem_append.1 hm with hm | hm
    · unfold ruleW at hm
      rcases List.mem_append.1 hm with hm | hm
      · exact plain_ne (verdictW_plain _) (by decide) hm
      · obtain ⟨c, hc, hm⟩ := List.mem_flatMap.1 hm
        rcases List.mem_cons.1 hm with hm | hm
        · exact absurd hm (by decide)
        · exact condW_no (ok.conds c hc).v0 (by decide) (by decide) (by decide) (by decide) (by decide) (by decide) hm
    · exact absurd hm (by decide)
  · exact plain_ne (verdictW_plain _) (by decide) hm
theorem rec_no10 {r : TRec} (h : recE r = 0) : (10 : UInt8) ∉ recW r := by
  obtain ⟨k0, k1, c0, c1, f0, f1, e1, e2, e3⟩ := recE_ok h
  intro hm
  unfold recW at hm
  rcases List.mem_append.1 hm with hm | hm
  · exact plain_ne (kindW_plain _) (by decide) hm
  · rcases List.mem_cons.1 hm with hm | hm
    · exact absurd hm (by decide)
    · rcases List.mem_append.1 hm with hm | hm
      · exact itoa_no c0 (by decide) hm
      · unfold tailW at hm
        split at hm
        · rcases List.mem_cons.1 hm with hm | hm
          · exact absurd hm (by decide)
          · exact itoa_no f0 (by decide) hm
        · split at hm
          · cases hm
          · rcases List.mem_cons.1 hm with hm | hm
            · exact absurd hm (by decide)
            · exact text_no10 (e3 (by omega)) hm
def lineW (r : TRec) : List UInt8 := recW r ++ [10]
def logW (l : List TRec) : List UInt8 := l.flatMap lineW
/-- records as far as they are whole lines: these, how many bytes these have, what is wrong with the next one. -/
def linesF : Nat → List UInt8 → Nat → List TRec × Nat × Int
  | 0, _, _ => ([], 0, 0)
  | n + 1, s, most => if s = [] then ([], 0, 0) else if (Lib.cut s [10]).2.2 = false then ([], 0, 8) else
      if (readRec (Lib.cut s [10]).1).2 ≠ 0 then ([], 0, (readRec (Lib.cut s [10]).1).2) else if most = 0 then ([], 0, 2) else
        ((readRec (Lib.cut s [10]).1).1 :: (linesF n (Lib.cut s [10]).2.1 (most - 1)).1, (Lib.cut s [10]).1.length + 1 + (linesF n (Lib.cut s [10]).2.1 (most - 1)).2.1, (linesF n (Lib.cut s [10]).2.1 (most - 1)).2.2)
def linesOf (s : List UInt8) (most : Nat) : List TRec × Nat × Int := linesF s.length s most
theorem linesF_fuel : ∀ (n m : Nat) (s : List UInt8) (most : Nat), s.length ≤ n → s.length ≤ m → linesF n s most = linesF m s most
  | 0, 0, _, _, _, _ => rfl
  | 0, m + 1, s, most, h, _ => by
    obtain rfl : s = [] := List.length_eq_zero_iff.1 (by omega)
    simp [linesF]
  | n + 1, 0, s, most, _, h => by
    obtain rfl : s = [] := List.length_eq_zero_iff.1 (by omega)
    simp [linesF]
  | n + 1, m + 1, s, most, h1, h2 => by
    unfold linesF
    rcases cut_cases s 10 with ⟨_, hc⟩ | ⟨a, t, rfl, ha, hc⟩
    · rw [hc]; simp
    · rw [hc]
      dsimp only
      simp only [List.length_append, List.length_cons] at h1 h2
      rw [linesF_fuel n m t (most - 1) (by omega) (by omega)]
theorem lines_nil (most : Nat) : linesOf [] most = ([], 0, 0) := rfl
theorem lines_torn {s : List UInt8} (h : (10 : UInt8) ∉ s) (h0 : s ≠ []) (most : Nat) : linesOf s most = ([], 0, 8) := by
  unfold linesOf
  cases s with
  | nil => exact absurd rfl h0
  | cons b s =>
    show linesF (s.length + 1) _ _ = _
    unfold linesF
    rw [cut_none h]; simp
theorem lines_cons {a t : List UInt8} (ha : (10 : UInt8) ∉ a) (most : Nat) : linesOf (a ++ 10 :: t) most = if (readRec a).2 ≠ 0 then ([], 0, (readRec a).2) else if most = 0 then ([], 0, 2) else
    ((readRec a).1 :: (linesOf t (most - 1)).1, a.length + 1 + (linesOf t (most - 1)).2.1, (linesOf t (most - 1)).2.2) := by
  have hl : (a ++ 10 :: t).length = (a.length + t.length) + 1 := by simp; omega
  unfold linesOf
  rw [hl]
  conv => lhs; unfold linesF
  rw [cut_app ha]
  dsimp only
  rw [if_neg (by simp), if_neg (by simp), linesF_fuel (a.length + t.length) t.length t (most - 1) (by omega) (Nat.le_refl _)]
/-- of lines of right records, and what no line is, all records are read. -/
theorem lines_log : ∀ (l : List TRec) (t : List UInt8) (most : Nat), (∀ r ∈ l, recE r = 0) → l.length ≤ most → linesOf (logW l ++ t) most = (l ++ (linesOf t (most - l.length)).1, (logW l).length + (linesOf t (most - l.length)).2.1, (linesOf t (most - l.length)).2.2)
  | [], t, most, _, _ => by simp [logW]
  | r :: l, t, most, h, hm => by
    have h0 := h r (List.mem_cons_self ..)
    have e : logW (r :: l) ++ t = recW r ++ 10 :: (logW l ++ t) := by simp [logW, lineW]
    simp only [List.length_cons] at hm
    rw [e, lines_cons (rec_no10 h0), recW_read h0, if_neg (by simp), if_neg (by omega), lines_log l t (most - 1) (fun x hx => h x (List.mem_cons_of_mem _ hx)) (by omega)]
    have e2 : most - 1 - l.length = most - (l.length + 1) := by omega
    simp only [List.length_cons, e2]
    refine Prod.ext rfl (Prod.ext ?_ rfl)
    simp [logW, lineW]; omega
/-- what is read are right records, and they were written so. -/
theorem lines_back : ∀ (n : Nat) (s : List UInt8) (most : Nat), s.length ≤ n → (∀ r ∈ (linesOf s most).1, recE r = 0) ∧ (linesOf s most).1.length ≤ most ∧ ∃ t, s = logW (linesOf s most).1 ++ t ∧ (linesOf s most).2.1 = (logW (linesOf s most).1).length ∧ ((linesOf s most).2.2 = 0 → t = [])
  | n, s, most, hn => by
    rcases cut_cases s 10 with ⟨hs, _⟩ | ⟨a, t, rfl, ha, hc⟩
    · by_cases h0 : s = []
      · subst h0; rw [lines_nil]; simp [logW]
      · rw [lines_torn hs h0]; simp [logW]
    · cases n with
      | zero => simp at hn
      | succ n =>
      simp only [List.length_append, List.length_cons] at hn
      obtain ⟨i1, i2, t2, i3, i4, i5⟩ := lines_back n t (most - 1) (by omega)
      rw [lines_cons ha]
      split
      · rename_i he
        refine ⟨by simp, by simp, _, by simp [logW]; rfl, by simp [logW], fun h => absurd h he⟩
      · rename_i he
        split
        · refine ⟨by simp, by simp, _, by simp [logW]; rfl, by simp [logW], fun h => by simp at h⟩
        · rename_i hm
          have hr : readRec a = ((readRec a).1, 0) := by
            have : (readRec a).2 = 0 := by simpa using he
            rw [← this]
          obtain ⟨r1, r2⟩ := read_recW hr
          refine ⟨fun r hr' => ?_, by simp; omega, t2, ?_, ?_, i5⟩
          · rcases List.mem_cons.1 hr' with rfl | hr'
            · exact r1
            · exact i1 r hr'
          · have e : logW ((readRec a).1 :: (linesOf t (most - 1)).1) ++ t2 = a ++ 10 :: (logW (linesOf t (most - 1)).1 ++ t2) := by simp [logW, lineW, r2]
            dsimp only
            rw [e, ← i3]
          · dsimp only
            rw [i4]
            simp [logW, lineW, r2]; omega
theorem linesOf_spec (s : List UInt8) (most : Nat) : (∀ r ∈ (linesOf s most).1, recE r = 0) ∧ (linesOf s most).1.length ≤ most ∧ ∃ t, s = logW (linesOf s most).1 ++ t ∧ (linesOf s most).2.1 = (logW (linesOf s most).1).length ∧ ((linesOf s most).2.2 = 0 → t = []) := lines_back _ s most (Nat.le_refl _)
/-- of a beginning of lines a beginning of the records is read. -/
theorem lines_take : ∀ (l : List TRec) (n most : Nat), (∀ r ∈ l, recE r = 0) → l.length ≤ most → ∃ k, k ≤ l.length ∧ (linesOf ((logW l).take n) most).1 = l.take k ∧ (linesOf ((logW l).take n) most).2.1 = (logW (l.take k)).length
  | [], n, most, _, _ => ⟨0, by simp, by simp [logW, lines_nil], by simp [logW, lines_nil]⟩
  | r :: l, n, most, h, hm => by
    have h0 := h r (List.mem_cons_self ..)
    simp only [List.length_cons] at hm
    have e : logW (r :: l) = recW r ++ 10 :: logW l := by simp [logW, lineW]
    rw [e]
    by_cases hn : n ≤ (recW r).length
    · have ht : (recW r ++ 10 :: logW l).take n = (recW r).take n := List.take_append_of_le_length hn
      have hno : (10 : UInt8) ∉ (recW r).take n := fun hx => rec_no10 h0 (List.mem_of_mem_take hx)
      rw [ht]
      by_cases he : (recW r).take n = []
      · rw [he]; exact ⟨0, by simp, by simp [lines_nil], by simp [logW, lines_nil]⟩
      · rw [lines_torn hno he]; exact ⟨0, by simp, by simp, by simp [logW]⟩
    · obtain ⟨m, rfl⟩ : ∃ m, n = (recW r).length + (m + 1) := ⟨n - (recW r).length - 1, by omega⟩
      have ht : (recW r ++ 10 :: logW l).take ((recW r).length + (m + 1)) = recW r ++ 10 :: (logW l).take m := by
        rw [List.take_length_add_append, List.take_succ_cons]
      rw [ht, lines_cons (rec_no10 h0), recW_read h0, if_neg (by simp), if_neg (by omega)]
      obtain ⟨k, hk, i1, i2⟩ := lines_take l m (most - 1) (fun x hx => h x (List.mem_cons_of_mem _ hx)) (by omega)
      refine ⟨k + 1, by simp; omega, by simp [i1], ?_⟩
      dsimp only
      rw [i2, List.take_succ_cons]
      simp [logW, lineW]; omega

/-! ### disks -/
structure TDisk where
  safe : List UInt8
  wait : List UInt8
deriving DecidableEq
def zeroDisk : TDisk := ⟨[], []⟩
/-- chapter 11's Check. -/
def diskE (d : TDisk) : Int := if 60000 < d.safe.length + d.wait.length then 2 else (linesOf d.safe 40).2.2
/-- chapter 11's Put. -/
def putE (d : TDisk) (r : TRec) : TDisk × Int := if diskE d ≠ 0 then (zeroDisk, diskE d) else if recE r ≠ 0 then (zeroDisk, recE r) else
  if 60000 < d.safe.length + d.wait.length + (recW r).length + 1 then (zeroDisk, 2) else (⟨d.safe, d.wait ++ lineW r⟩, 0)
/-- chapter 11's Sync. -/
def syncE (d : TDisk) : TDisk × Int := if diskE d ≠ 0 then (zeroDisk, diskE d) else if diskE ⟨d.safe ++ d.wait, []⟩ ≠ 0 then (zeroDisk, diskE ⟨d.safe ++ d.wait, []⟩) else (⟨d.safe ++ d.wait, []⟩, 0)
/-- chapter 11's Crash. -/
def crashE (d : TDisk) (n : Int) : TDisk × Int := if diskE d ≠ 0 then (zeroDisk, diskE d) else if n < 0 ∨ (d.wait.length : Int) < n then (zeroDisk, 3) else (⟨d.safe, d.wait.take n.toNat⟩, 0)
def restOf (d : TDisk) : List TRec × Nat × Int := linesOf d.wait (40 - (linesOf d.safe 40).1.length)
/-- chapter 11's Recover. -/
def recoverE (d : TDisk) : TDisk × List TRec × Int := if diskE d ≠ 0 then (zeroDisk, [], diskE d) else (⟨d.safe ++ d.wait.take (restOf d).2.1, []⟩, (linesOf d.safe 40).1 ++ (restOf d).1, 0)
theorem diskE_ok {d : TDisk} (h : diskE d = 0) : d.safe.length + d.wait.length ≤ 60000 ∧ (∀ r ∈ (linesOf d.safe 40).1, recE r = 0) ∧ (linesOf d.safe 40).1.length ≤ 40 ∧ d.safe = logW (linesOf d.safe 40).1 := by
  unfold diskE at h
  split at h
  · simp at h
  · rename_i h0
    obtain ⟨i1, i2, t, i3, _, i5⟩ := linesOf_spec d.safe 40
    rw [i5 h, List.append_nil] at i3
    exact ⟨by omega, i1, i2, i3⟩
theorem diskE_log {l : List TRec} {w : List UInt8} (hl : ∀ r ∈ l, recE r = 0) (h40 : l.length ≤ 40) (hn : (logW l).length + w.length ≤ 60000) : diskE ⟨logW l, w⟩ = 0 ∧ linesOf (logW l) 40 = (l, (logW l).length, 0) := by
  have := lines_log l [] 40 hl h40
  rw [List.append_nil, lines_nil] at this
  simp only [List.append_nil, Nat.add_zero] at this
  refine ⟨?_, this⟩
  unfold diskE
  dsimp only
  rw [if_neg (by omega), this]
theorem logW_append (l m : List TRec) : logW (l ++ m) = logW l ++ logW m := by unfold logW; rw [List.flatMap_append]
end Go.Proofs.YthkgjohhbdipcaaDoor
namespace Go.Proofs.YthkgjohhbdipcaaDoor
open Go.RowKit Go.Shelf
attribute [local go_sem] gives givesUpon
attribute [-go_sem] run_string_add_if run_slice_string_if run_slice_string

/-- a slice over a block that is known whole, wherever it lies; the address of a cell of it. -/
def VRowB (cells : Array Value) (T : TypeId) (n : Nat) (v : Value) (W : World) : Prop := ∃ b, v = .slice (some ⟨b, 0, none⟩) n n ∧ W.heap[b]? = some (.cells cells T)
def VAtB (cells : Array Value) (T : TypeId) (k : Nat) (v : Value) (W : World) : Prop := ∃ b, v = .pointer (some ⟨b, k, none⟩) ∧ W.heap[b]? = some (.cells cells T)
theorem VRowB_stable {cells : Array Value} {T : TypeId} {n : Nat} : stableP (VRowB cells T n) := fun _ _ _ hb ⟨b, h1, h2⟩ => ⟨b, h1, blk_below h2 hb⟩
theorem VAtB_stable {cells : Array Value} {T : TypeId} {n : Nat} : stableP (VAtB cells T n) := fun _ _ _ hb ⟨b, h1, h2⟩ => ⟨b, h1, blk_below h2 hb⟩
@[reducible] def wordRow : Array Value := #[Value.string (bsL []), .string (bsL [111, 112, 101, 110]), .string (bsL [116, 105, 103, 104, 116]), .string (bsL [102, 111, 114, 107]), .string (bsL [115, 104, 117, 116])]
theorem word_cell {v : Int} (h0 : 1 ≤ v) (h1 : v ≤ 4) : wordRow[v.toNat]? = some (.string (bsL (kindW v))) := by
  rcases (by omega : v = 1 ∨ v = 2 ∨ v = 3 ∨ v = 4) with rfl | rfl | rfl | rfl <;> rfl
theorem words_any (w : World) : Calls Tryd.prog 44 #[] w fun e w' => e = .returned (.slice (some ⟨w.heap.size, 0, none⟩) 5 5) ∧ w' = w.alloc (.cells wordRow 9) := by
  go_enter Tryd.func44, Tryd.ntmps44
  go_wp2
  go_ret
  exact ⟨rfl, rfl⟩
theorem kindW_len (k : Int) : (kindW k).length ≤ 5 := by unfold kindW; split <;> (try split) <;> (try split) <;> simp
theorem textP_len {p : TPol} (h : OkPol p) : (textP p).length ≤ 34000 := by
  have h1 := headP_len p.rules h.rules
  have h2 := verdictW_len p.dflt
  have h3 := h.len
  have e : textP p = headP p.rules ++ verdictW p.dflt := rfl
  rw [e, List.length_append]; omega
theorem recW_len {r : TRec} (h : recE r = 0) : (recW r).length ≤ 34100 := by
  obtain ⟨_, _, hc0, hc1, hf0, hf1, _, _, hp⟩ := recE_ok h
  have h1 := kindW_len r.kind
  have h2 := Lib.itoa_length_le r.cell (by omega) (by omega)
  have h3 : (tailW r).length ≤ 34001 := by
    unfold tailW
    split
    · have := Lib.itoa_length_le r.from_ (by omega) (by omega)
      simp; omega
    · split
      · simp
      · have := textP_len (hp (by obtain ⟨_, h4, _⟩ := recE_ok h; omega))
        simp; omega
  unfold recW
  simp; omega
/-- chapter 10's Print, errors too. -/
def nprintE (r : TRec) : List UInt8 × Int := if recE r = 0 then (recW r, 0) else ([], recE r)
set_option maxRecDepth 100000 in
set_option maxHeartbeats 16000000 in
theorem nprint_any (v : Value) (r : TRec) (D : Nat → Prop) (w : World) (h : RdRules w D v r.p.rules) (hL : Laid w) :
    Calls Tryd.prog 11 #[recV r v] w fun e w' => e = .returned (.tuple #[.string (bsL (nprintE r).1), .int .i64 (nprintE r).2]) ∧ Below w.heap.size w w' := by
  have H := Lib.hid (RdRules.keep h (D' := fun b => b < w.heap.size) (fun _ _ hl => hl) (fun _ _ _ => rfl) (Nat.le_refl _))
  have HL0 := Lib.hid hL
  obtain ⟨kd, cl, fr, p⟩ := r
  dsimp only at H h ⊢
  obtain ⟨a, c, rfl, hlc, hcm, hat⟩ := Sl.form H.out
  clear h hL hlc hcm hat
  go_enter Tryd.func11, Tryd.ntmps11
  go_wp2_with fail
  have HB0 := Lib.hid (Bx.one (w := w) (o := .cells #[.int .i64 kd, .int .i64 cl, .int .i64 fr, .slice a p.rules.length c, .int .i64 p.dflt] 34))
  refine (notecheck_any _ ⟨kd, cl, fr, p⟩ _ _ (RdRules.below H.out HB0.out.bel)).mono ?_
  rintro e w1 ⟨rfl, hb1⟩
  have HB := Lib.hid (HB0.out.below hb1)
  clear hb1 HB0
  by_cases h0 : recE ⟨kd, cl, fr, p⟩ = 0
  · have HE : Hid (nprintE ⟨kd, cl, fr, p⟩ = (recW ⟨kd, cl, fr, p⟩, 0)) := if_pos h0
    obtain ⟨hk1, hk2, hc0, hc1, hf0, hf1, _, _, hp⟩ := recE_ok h0
    dsimp only at hk1 hk2 hc0 hc1 hf0 hf1 hp
    have Hp := Lib.hid hp
    have HL := Lib.hid (HL0.out.below HB.out.bel)
    rw [h0]
    clear h0 hp
    have hkl := kindW_len kd
    have hil := Lib.itoa_length_le cl (by omega) (by omega)
    obtain ⟨s1, hs1⟩ : ∃ s1, kindW kd ++ [32] = s1 := ⟨_, rfl⟩
    obtain ⟨s2, hs2⟩ : ∃ s2, s1 ++ Lib.itoa cl = s2 := ⟨_, rfl⟩
    have hl1 : s1.length ≤ 6 := by rw [← hs1]; simp; omega
    have hl2 : s2.length ≤ 27 := by rw [← hs2]; simp; omega
    have hb1 : ∀ W : World, (Op.stringOp .add (bsL (kindW kd)) ⟨#[32]⟩).run Tryd.prog W = .ok (.string (bsL s1)) W := fun W => by rw [← hs1]; exact add_bs (kindW kd) [32] (by simp; omega) W
    have hb2 : ∀ W : World, (Op.stringOp .add (bsL s1) (bsL (Lib.itoa cl))).run Tryd.prog W = .ok (.string (bsL s2)) W := fun W => by rw [← hs2]; exact add_bs s1 (Lib.itoa cl) (by omega) W
    have HS : Hid (s2 = kindW kd ++ 32 :: Lib.itoa cl) := by show _ = _; rw [← hs2, ← hs1]; simp
    have Hl2 := Lib.hid hl2
    clear hs1 hs2 hl1
    have hk5 : kd < 5 := by omega
    have hk0 : 0 ≤ kd := by omega
    have hq0 := HB.out.cells0
    go_wp2_with fail
    clear hq0
    refine wp_region_B [pr (VRowB wordRow 9 5), ex (.pointer (some ⟨w.heap.size, 0, none⟩)), ex (.int .i64 kd), pr (VAtB wordRow 9 kd.toNat), ex (.string (bsL (kindW kd))), ex (.string (bsL s1)), ex (.pointer (some ⟨w.heap.size, 1, none⟩)), ex (.int .i64 cl), ex (.string (bsL (Lib.itoa cl))), ex (.string (bsL s2)), ex (.string (bsL s2))] _ (Nat.le_refl _) (by kernel_rfl) (by kernel_rfl) ⟨.inr ⟨_, rfl, VRowB_stable⟩, .inl ⟨_, rfl⟩, .inl ⟨_, rfl⟩, .inr ⟨_, rfl, VAtB_stable⟩, .inl ⟨_, rfl⟩, .inl ⟨_, rfl⟩, .inl ⟨_, rfl⟩, .inl ⟨_, rfl⟩, .inl ⟨_, rfl⟩, .inl ⟨_, rfl⟩, .inl ⟨_, rfl⟩, trivial⟩ ?_
    (refine walkB_pr (fun K hK => ?_); refine ⟨fun W hC hd R hR => ?_, fun v0 => ?_⟩; (clear hd; go_simp; go_at_call 44; refine (words_any W).mono ?_; rintro e w9 ⟨rfl, rfl⟩; exact ⟨_, rfl, hR _ _ (bel_alloc (Below.refl _ _) _) ⟨_, rfl, heap_last _ _⟩⟩); (go_simp; refine hK _ _ ?_; clear hK K))
    (refine walkB_ex (fun K hK => ?_); refine ⟨fun W hC hd R hR => ?_, ?_⟩; (clear hd; go_simp; exact hR _ _ (Below.refl _ _) rfl); (go_simp; refine hK _ ?_; clear hK K))
    (refine walkB_ex (fun K hK => ?_); refine ⟨fun W hC hd R hR => ?_, ?_⟩; (have hqb := (HB.out.below hC.2).cells0; clear hd; go_simp; exact hR _ _ (Below.refl _ _) rfl); (go_simp; refine hK _ ?_; clear hK K))
    (refine walkB_pr (fun K hK => ?_); refine ⟨fun W hC hd R hR => ?_, fun v3 => ?_⟩; (have hv : VRowB wordRow 9 5 v0 W := hd 0 (by decide); obtain ⟨b0, rfl, hc0⟩ := hv; have Hc0 := Lib.hid hc0; clear hc0; clear hd; go_simp; exact hR _ _ (Below.refl _ _) ⟨b0, rfl, Hc0.out⟩); (go_simp; refine hK _ _ ?_; clear hK K))
    (refine walkB_ex (fun K hK => ?_); refine ⟨fun W hC hd R hR => ?_, ?_⟩; (have hv : VAtB wordRow 9 kd.toNat v3 W := hd 3 (by decide); obtain ⟨b0, rfl, hc0⟩ := hv; have hcell := (cells_of hc0 _).trans (word_cell hk1 hk2); clear hc0; clear hd; go_simp; exact hR _ _ (Below.refl _ _) rfl); (go_simp; refine hK _ ?_; clear hK K))
    (refine walkB_ex (fun K hK => ?_); refine ⟨fun W hC hd R hR => ?_, ?_⟩; (clear hd; go_simp; exact hR _ _ (Below.refl _ _) rfl); (go_simp; refine hK _ ?_; clear hK K))
    (refine walkB_ex (fun K hK => ?_); refine ⟨fun W hC hd R hR => ?_, ?_⟩; (clear hd; go_simp; exact hR _ _ (Below.refl _ _) rfl); (go_simp; refine hK _ ?_; clear hK K))
    (refine walkB_ex (fun K hK => ?_); refine ⟨fun W hC hd R hR => ?_, ?_⟩; (have hqb := (HB.out.below hC.2).cells0; clear hd; go_simp; exact hR _ _ (Below.refl _ _) rfl); (go_simp; refine hK _ ?_; clear hK K))
    (refine walkB_ex (fun K hK => ?_); refine ⟨fun W hC hd R hR => ?_, ?_⟩; (have HLW := Lib.hid (HL.out.below hC.2); clear hd; go_simp; go_at_call 34; refine (itoa_any cl (by omega) (by omega) _ HLW.out).mono ?_; rintro e w9 ⟨rfl, hb9⟩; exact ⟨_, rfl, hR _ _ hb9 rfl⟩); (go_simp; refine hK _ ?_; clear hK K))
    (refine walkB_ex (fun K hK => ?_); refine ⟨fun W hC hd R hR => ?_, ?_⟩; (clear hd; go_simp; exact hR _ _ (Below.refl _ _) rfl); (go_simp; refine hK _ ?_; clear hK K))
    (refine walkB_ex (fun K hK => ?_); refine ⟨fun W hC hd R hR => ?_, ?_⟩; (clear hd; go_simp; exact hR _ _ (Below.refl _ _) rfl); (go_simp; refine hK _ ?_; clear hK K))
    intro w2 hC2 _
    have HB2 := Lib.hid (HB.out.below hC2.2)
    have HL2 := Lib.hid (HL.out.below hC2.2)
    clear hC2 hb1 hb2 HB HL hkl hil hl2
    have hq0 := HB2.out.cells0
    have hkd : kd = 1 ∨ kd = 2 ∨ kd = 3 ∨ kd = 4 := by omega
    have hs32 : ∀ (t : List UInt8), t.length ≤ 34100 → ∀ W : World, (Op.stringOp .add (bsL s2) (bsL t)).run Tryd.prog W = .ok (.string (bsL (s2 ++ t))) W := fun t ht W => add_bs s2 t (by have := Hl2.out; omega) W
    have h32 : ∀ W : World, (Op.stringOp .add (bsL s2) ⟨#[32]⟩).run Tryd.prog W = .ok (.string (bsL (s2 ++ [32]))) W := hs32 [32] (by decide)
    clear hk1 hk2 hk5 hk0
    rcases hkd with rfl | rfl | rfl | rfl
    · have Hok := Lib.hid (Hp.out (by decide))
      have HPE : Hid (printE p = (textP p, 0)) := if_pos ((okPol_iff p).2 Hok.out)
      have htl := textP_len Hok.out
      have hadd2 : ∀ W : World, (Op.stringOp .add (bsL (s2 ++ [32])) (bsL (textP p))).run Tryd.prog W = .ok (.string (bsL ((s2 ++ [32]) ++ textP p))) W := fun W => add_bs (s2 ++ [32]) (textP p) (by have := Hl2.out; simp; omega) W
      clear hs32
      go_wp2_with fail
      refine (tprint_any _ p _ _ (RdRules.below H.out HB2.out.bel) HL2.out).mono ?_
      rw [HPE.out]
      rintro e w3 ⟨rfl, hb3⟩
      have HB3 := Lib.hid (HB2.out.below hb3)
      clear hb3 hq0
      dsimp only
      go_wp2
      go_ret2
      exact ⟨by rw [HE.out, HS.out]; simp [recW, tailW], HB3.out.bel⟩
    · have Hok := Lib.hid (Hp.out (by decide))
      have HPE : Hid (printE p = (textP p, 0)) := if_pos ((okPol_iff p).2 Hok.out)
      have htl := textP_len Hok.out
      have hadd2 : ∀ W : World, (Op.stringOp .add (bsL (s2 ++ [32])) (bsL (textP p))).run Tryd.prog W = .ok (.string (bsL ((s2 ++ [32]) ++ textP p))) W := fun W => add_bs (s2 ++ [32]) (textP p) (by have := Hl2.out; simp; omega) W
      clear hs32
      go_wp2_with fail
      refine (tprint_any _ p _ _ (RdRules.below H.out HB2.out.bel) HL2.out).mono ?_
      rw [HPE.out]
      rintro e w3 ⟨rfl, hb3⟩
      have HB3 := Lib.hid (HB2.out.below hb3)
      clear hb3 hq0
      dsimp only
      go_wp2
      go_ret2
      exact ⟨by rw [HE.out, HS.out]; simp [recW, tailW], HB3.out.bel⟩
    · have hfl := Lib.itoa_length_le fr (by omega) (by omega)
      have hadd : ∀ W : World, (Op.stringOp .add ⟨#[32]⟩ (bsL (Lib.itoa fr))).run Tryd.prog W = .ok (.string (bsL (32 :: Lib.itoa fr))) W := fun W => add_bs [32] (Lib.itoa fr) (by simp; omega) W
      have hadd2 := hs32 (32 :: Lib.itoa fr) (by simp; omega)
      clear hs32
      go_wp2_with fail
      refine (itoa_any fr (by omega) (by omega) _ HL2.out).mono ?_
      rintro e w3 ⟨rfl, hb3⟩
      have HB3 := Lib.hid (HB2.out.below hb3)
      clear hb3 hq0
      go_wp2
      go_ret2
      exact ⟨by rw [HE.out, HS.out]; simp [recW, tailW], HB3.out.bel⟩
    · clear hs32
      go_wp2
      go_ret2
      exact ⟨by rw [HE.out, HS.out]; simp [recW, tailW], HB2.out.bel⟩
  · have HE : Hid (nprintE ⟨kd, cl, fr, p⟩ = ([], recE ⟨kd, cl, fr, p⟩)) := if_neg h0
    have hne : (recE ⟨kd, cl, fr, p⟩ != 0) = true := bne_iff_ne.2 h0
    have HBf := Lib.hid HB.out.bel
    generalize recE ⟨kd, cl, fr, p⟩ = E at *
    clear h0
    go_wp2
    go_ret2
    exact ⟨by rw [HE.out]; rfl, HBf.out⟩
end Go.Proofs.YthkgjohhbdipcaaDoor
