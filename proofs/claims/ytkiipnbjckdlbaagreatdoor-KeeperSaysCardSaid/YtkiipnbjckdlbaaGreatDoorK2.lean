/- Texts laid one behind the other: OrderSpec, CompSpec, ChainSpec, Call, Code, Run, Bx. No condition beyond theirs. -/
import Derived.Test.YtkiipnbjckdlbaaGreatDoorK1
import Derived.Test.YtkiipnbjckdlbaaGreatDoorProg
import Derived.KernelRfl
namespace Go.Proofs.YtkiipnbjckdlbaaGreatDoor

def zeroCall : TCall := ⟨0, 0, 0, 0, 0⟩
/-- the verdict of a right policy on a right call. -/
def says (p : TPol) (x : TCall) : Int := (judged p x).1
def looserAt (p q : TPol) (x : TCall) : Bool := decide (says q x < says p x)
/-- chapter 7's Looser. -/
def looserE (p q : TPol) : Bool × TCall × Int :=
  if (pointsE [p, q]).2 ≠ 0 then (false, zeroCall, (pointsE [p, q]).2) else match (pointsE [p, q]).1.find? (looserAt p q) with
    | some x => (true, x, 0)
    | none => (false, zeroCall, 0)
/-- chapter 7's Alike. -/
def alikeE (p q : TPol) : Bool × Int := if (looserE p q).2.2 ≠ 0 then (false, (looserE p q).2.2) else (!(looserE p q).1 && !(looserE q p).1, (looserE q p).2.2)
theorem says_home {l : List TPol} (h : ∀ p ∈ l, OkPol p) {x : TCall} (hx : x.ok) {p : TPol} (hp : p ∈ l) : says p (homeOf l x) = says p x := by unfold says; rw [judged_home h hx hp]
theorem verdictAt_range {p : TPol} (h : OkPol p) (k : Nat) : 0 ≤ verdictAt p k ∧ verdictAt p k ≤ 4 := by
  unfold verdictAt
  cases hk : p.rules[k]? with
  | none => exact ⟨h.d0, h.d1⟩
  | some r => exact ⟨(h.rules r (List.mem_of_getElem? hk)).v0, (h.rules r (List.mem_of_getElem? hk)).v1⟩
theorem says_range {p : TPol} (h : OkPol p) (x : TCall) : 0 ≤ says p x ∧ says p x ≤ 4 := verdictAt_range h _
theorem looserE_ok {p q : TPol} (h : (looserE p q).2.2 = 0) : OkPol p ∧ OkPol q ∧ sizes [p, q] 5 ≤ 1000 ∧ pointsE [p, q] = (stage [p, q] 5, 0) := by
  have h0 : (pointsE [p, q]).2 = 0 := by
    unfold looserE at h
    split at h
    · exact h
    · rename_i h'; simpa using h'
  obtain ⟨h1, h2, h3⟩ := pointsE_ok h0
  exact ⟨h1 p (by simp), h1 q (by simp), h2, h3⟩
def looserGo (o : Option TCall) : Bool × TCall × Int := match o with
  | some x => (true, x, 0)
  | none => (false, zeroCall, 0)
theorem looserE_eq {p q : TPol} (h : (looserE p q).2.2 = 0) : looserE p q = looserGo ((stage [p, q] 5).find? (looserAt p q)) := by
  obtain ⟨_, _, _, h3⟩ := looserE_ok h
  unfold looserE
  rw [if_neg (by rw [h3]; simp), h3]
  cases (stage [p, q] 5).find? (looserAt p q) <;> rfl
/-- where it is looser, it is so at the call that is told. -/
theorem looser_at {p q : TPol} (h : (looserE p q).2.2 = 0) (hl : (looserE p q).1 = true) : (looserE p q).2.1.ok ∧ (looserE p q).2.1 ∈ stage [p, q] 5 ∧ says q (looserE p q).2.1 < says p (looserE p q).2.1 := by
  obtain ⟨h1, h2, _, _⟩ := looserE_ok h
  rw [looserE_eq h] at hl ⊢
  cases hf : (stage [p, q] 5).find? (looserAt p q) with
  | none => rw [hf] at hl; simp [looserGo] at hl
  | some x =>
    have hm := List.mem_of_find?_eq_some hf
    have hp := List.find?_some hf
    exact ⟨point_ok (by intro r hr; simp at hr; rcases hr with rfl | rfl <;> assumption) hm, hm, by simpa [looserAt, looserGo] using hp⟩
/-- WHAT ISN'T LOOSER IS SO NOWHERE. -/
theorem looser_not {p q : TPol} (h : (looserE p q).2.2 = 0) (hl : (looserE p q).1 = false) {x : TCall} (hx : x.ok) : says p x ≤ says q x := by
  obtain ⟨h1, h2, _, _⟩ := looserE_ok h
  have hall : ∀ r ∈ [p, q], OkPol r := by intro r hr; simp at hr; rcases hr with rfl | rfl <;> assumption
  rw [looserE_eq h] at hl
  cases hf : (stage [p, q] 5).find? (looserAt p q) with
  | some x => rw [hf] at hl; simp [looserGo] at hl
  | none =>
    have := List.find?_eq_none.1 hf _ (home_point hall hx)
    simp only [looserAt, decide_eq_true_eq] at this
    rw [says_home hall hx (by simp), says_home hall hx (by simp)] at this
    omega
theorem looser_iff {p q : TPol} (h : (looserE p q).2.2 = 0) : (looserE p q).1 = false ↔ ∀ x : TCall, x.ok → says p x ≤ says q x := by
  constructor
  · intro hl x hx; exact looser_not h hl hx
  · intro ha
    cases hl : (looserE p q).1 with
    | false => rfl
    | true =>
      obtain ⟨a, _, c⟩ := looser_at h hl
      have := ha _ a; omega
theorem looser_call {p q : TPol} (hl : (looserE p q).1 = false) : (looserE p q).2.1 = zeroCall := by
  unfold looserE at hl ⊢
  by_cases h1 : (pointsE [p, q]).2 ≠ 0
  · rw [if_pos h1]
  · rw [if_neg h1] at hl ⊢
    cases hf : (pointsE [p, q]).1.find? (looserAt p q) with
    | none => rfl
    | some x => rw [hf] at hl; simp at hl

/-! ### meeting -/
def wholeOf (p : TPol) : List TRule := p.rules ++ [⟨[], p.dflt⟩]
def pairRule (of : Int → Int → Int) (a b : TRule) : TRule := ⟨a.conds ++ b.conds, of a.verdict b.verdict⟩
def pairs (of : Int → Int → Int) (l m : List TRule) : List TRule := l.flatMap fun a => m.map (pairRule of a)
def pairPol (of : Int → Int → Int) (p q : TPol) : TPol := ⟨(pairs of (wholeOf p) (wholeOf q)).dropLast, of p.dflt q.dflt⟩
def zeroPol : TPol := ⟨[], 0⟩
/-- chapter 8's Meet and Except. -/
def pairE (of : Int → Int → Int) (p q : TPol) : TPol × Int := if polsE [p, q] ≠ 0 then (zeroPol, polsE [p, q]) else if polE (pairPol of p q) ≠ 0 then (zeroPol, polE (pairPol of p q)) else (pairPol of p q, 0)
def minOf (a b : Int) : Int := if a ≤ b then a else b
def exceptOf (a b : Int) : Int := if a < b then a else 4
theorem wholeOf_len (p : TPol) : (wholeOf p).length = p.rules.length + 1 := by simp [wholeOf]
theorem pairs_len (of : Int → Int → Int) (l m : List TRule) : (pairs of l m).length = l.length * m.length := by
  unfold pairs
  induction l with
  | nil => simp
  | cons a l ih => simp only [List.flatMap_cons, List.length_append, List.length_map, ih, List.length_cons, Nat.add_mul]; omega
theorem pairs_last (of : Int → Int → Int) (p q : TPol) : pairs of (wholeOf p) (wholeOf q) = (pairPol of p q).rules ++ [⟨[], of p.dflt q.dflt⟩] := by
  have e : pairs of (wholeOf p) (wholeOf q) = (pairs of p.rules (wholeOf q) ++ q.rules.map (pairRule of ⟨[], p.dflt⟩)) ++ [⟨[], of p.dflt q.dflt⟩] := by
    unfold pairs wholeOf
    simp [List.flatMap_append, pairRule]
  show _ = (pairs of (wholeOf p) (wholeOf q)).dropLast ++ _
  rw [e, List.dropLast_concat]
theorem allHold_app (x : TCall) (a b : List TCond) : allHold x (a ++ b) = (allHold x a && allHold x b) := by unfold allHold; rw [List.all_append]
/-- the rule that is the first to hold. -/
def firstOf (x : TCall) (l : List TRule) : Option TRule := l.find? fun r => allHold x r.conds
theorem firstOf_append (x : TCall) (l m : List TRule) : firstOf x (l ++ m) = (firstOf x l).or (firstOf x m) := by unfold firstOf; rw [List.find?_append]
theorem says_first (p : TPol) (x : TCall) : says p x = match firstOf x p.rules with | some r => r.verdict | none => p.dflt := by
  obtain ⟨l, d⟩ := p
  unfold says judged
  dsimp only
  induction l with
  | nil => rfl
  | cons r l ih =>
    unfold which firstOf
    rw [List.find?_cons]
    by_cases h : allHold x r.conds = true
    · rw [if_pos h, h]; rfl
    · rw [if_neg h, Bool.eq_false_iff.2 h]
      exact ih
theorem first_map (of : Int → Int → Int) (x : TCall) (a : TRule) (ha : allHold x a.conds = true) : ∀ m : List TRule, firstOf x (m.map (pairRule of a)) = (firstOf x m).map (pairRule of a)
  | [] => rfl
  | b :: m => by
    have ih := first_map of x a ha m
    unfold firstOf at ih ⊢
    rw [List.map_cons, List.find?_cons, List.find?_cons]
    have e : allHold x (pairRule of a b).conds = allHold x b.conds := by
      show allHold x (a.conds ++ b.conds) = _
      rw [allHold_app, ha, Bool.true_and]
    rw [e]
    cases allHold x b.conds with
    | true => rfl
    | false => exact ih
theorem first_map_no (of : Int → Int → Int) (x : TCall) (a : TRule) (ha : allHold x a.conds = false) : ∀ m : List TRule, firstOf x (m.map (pairRule of a)) = none
  | [] => rfl
  | b :: m => by
    have ih := first_map_no of x a ha m
    unfold firstOf at ih ⊢
    rw [List.map_cons, List.find?_cons]
    have e : allHold x (pairRule of a b).conds = false := by
      show allHold x (a.conds ++ b.conds) = _
      rw [allHold_app, ha, Bool.false_and]
    rw [e]
    exact ih
theorem first_pairs (of : Int → Int → Int) (x : TCall) (m : List TRule) (b : TRule) (hb : firstOf x m = some b) : ∀ l : List TRule, firstOf x (pairs of l m) = (firstOf x l).map fun a => pairRule of a b
  | [] => rfl
  | a :: l => by
    have ih := first_pairs of x m b hb l
    have e : pairs of (a :: l) m = m.map (pairRule of a) ++ pairs of l m := by unfold pairs; rw [List.flatMap_cons]
    rw [e, firstOf_append, ih]
    have e2 : firstOf x (a :: l) = if allHold x a.conds = true then some a else firstOf x l := by
      unfold firstOf
      rw [List.find?_cons]
      cases allHold x a.conds <;> simp
    rw [e2]
    by_cases h : allHold x a.conds = true
    · rw [first_map of x a h, hb, if_pos h]; rfl
    · rw [first_map_no of x a (by simpa using h), if_neg h]; rfl
theorem first_whole (x : TCall) (p : TPol) : ∃ r, firstOf x (wholeOf p) = some r ∧ r.verdict = says p x := by
  rw [says_first]
  unfold wholeOf
  rw [firstOf_append]
  cases firstOf x p.rules with
  | none => exact ⟨⟨[], p.dflt⟩, rfl, rfl⟩
  | some r => exact ⟨r, rfl, rfl⟩
/-- A MEETING SAYS OF EACH CALL what becomes of both verdicts. -/
theorem says_pair (of : Int → Int → Int) (p q : TPol) (x : TCall) : says (pairPol of p q) x = of (says p x) (says q x) := by
  obtain ⟨a, ha, hva⟩ := first_whole x p
  obtain ⟨b, hb, hvb⟩ := first_whole x q
  have h := first_pairs of x (wholeOf q) b hb (wholeOf p)
  rw [ha, pairs_last, firstOf_append] at h
  rw [says_first, ← hva, ← hvb]
  cases hf : firstOf x (pairPol of p q).rules with
  | some r =>
    rw [hf] at h
    simp only [Option.map_some, Option.some_or, Option.some.injEq] at h
    rw [h]; rfl
  | none =>
    rw [hf] at h
    simp only [Option.map_some, Option.none_or] at h
    have h2 : firstOf x [(⟨[], of p.dflt q.dflt⟩ : TRule)] = some ⟨[], of p.dflt q.dflt⟩ := rfl
    rw [h2] at h
    injection h with h
    have := congrArg TRule.verdict h
    exact this
theorem pairPol_len (of : Int → Int → Int) (p q : TPol) : (pairPol of p q).rules.length = (p.rules.length + 1) * (q.rules.length + 1) - 1 := by
  unfold pairPol
  rw [List.length_dropLast, pairs_len, wholeOf_len, wholeOf_len]
theorem pairE_ok {of : Int → Int → Int} {p q : TPol} (h : (pairE of p q).2 = 0) : OkPol p ∧ OkPol q ∧ OkPol (pairPol of p q) ∧ pairE of p q = (pairPol of p q, 0) := by
  unfold pairE at h ⊢
  split at h
  · rename_i h1; exact absurd h h1
  · rename_i h1
    split at h
    · rename_i h2; exact absurd h h2
    · rename_i h2
      have h3 := (polsE_iff _).1 (by simpa using h1)
      exact ⟨h3 p (by simp), h3 q (by simp), (okPol_iff _).1 (by simpa using h2), by rw [if_neg h1, if_neg h2]⟩
theorem pairE_of {of : Int → Int → Int} {p q : TPol} (hp : OkPol p) (hq : OkPol q) (h : OkPol (pairPol of p q)) : pairE of p q = (pairPol of p q, 0) := by
  unfold pairE
  rw [if_neg (by rw [(polsE_iff _).2 (by intro r hr; simp at hr; rcases hr with rfl | rfl <;> assumption)]; simp), if_neg (by rw [(okPol_iff _).2 h]; simp)]
/-- verdicts apart, whether it is right hangs on the conditions alone. -/
theorem rulesGo_conds : ∀ (l m : List TRule), l.map TRule.conds = m.map TRule.conds → (∀ r ∈ l, 0 ≤ r.verdict ∧ r.verdict ≤ 4) → (∀ r ∈ m, 0 ≤ r.verdict ∧ r.verdict ≤ 4) → rulesGo l = rulesGo m
  | [], [], _, _, _ => rfl
  | [], _ :: _, h, _, _ => by simp at h
  | _ :: _, [], h, _, _ => by simp at h
  | a :: l, b :: m, h, h1, h2 => by
    simp only [List.map_cons, List.cons.injEq] at h
    obtain ⟨hc, hr⟩ := h
    have ih := rulesGo_conds l m hr (fun r hr => h1 r (List.mem_cons_of_mem _ hr)) (fun r hr => h2 r (List.mem_cons_of_mem _ hr))
    have e : ruleE a = ruleE b := by
      have := h1 a (List.mem_cons_self ..); have := h2 b (List.mem_cons_self ..)
      unfold ruleE
      rw [hc, if_neg (show ¬ (a.verdict < 0 ∨ 4 < a.verdict) by omega), if_neg (show ¬ (b.verdict < 0 ∨ 4 < b.verdict) by omega)]
    unfold rulesGo
    rw [e, ih]
theorem mem_wholeOf {p : TPol} (h : OkPol p) {r : TRule} (hr : r ∈ wholeOf p) : (0 ≤ r.verdict ∧ r.verdict ≤ 4) ∧ ∀ c ∈ r.conds, OkCond c := by
  unfold wholeOf at hr
  rcases List.mem_append.1 hr with hr | hr
  · have := h.rules r hr; exact ⟨⟨this.v0, this.v1⟩, this.conds⟩
  · simp at hr; subst hr; exact ⟨⟨h.d0, h.d1⟩, fun c hc => by simp at hc⟩
theorem mem_pairs {of : Int → Int → Int} {l m : List TRule} {r : TRule} : r ∈ pairs of l m ↔ ∃ a ∈ l, ∃ b ∈ m, r = pairRule of a b := by
  unfold pairs
  simp only [List.mem_flatMap, List.mem_map]
  constructor
  · rintro ⟨a, ha, b, hb, rfl⟩; exact ⟨a, ha, b, hb, rfl⟩
  · rintro ⟨a, ha, b, hb, rfl⟩; exact ⟨a, ha, b, hb, rfl⟩
def Keeps (of : Int → Int → Int) : Prop := ∀ a b : Int, 0 ≤ a → a ≤ 4 → 0 ≤ b → b ≤ 4 → 0 ≤ of a b ∧ of a b ≤ 4
theorem keeps_min : Keeps minOf := fun a b h0 h1 h2 h3 => by unfold minOf; split <;> omega
theorem keeps_except : Keeps exceptOf := fun a b h0 h1 h2 h3 => by unfold exceptOf; split <;> omega
theorem pair_verdict {of : Int → Int → Int} (hk : Keeps of) {p q : TPol} (hp : OkPol p) (hq : OkPol q) : ∀ r ∈ (pairPol of p q).rules, 0 ≤ r.verdict ∧ r.verdict ≤ 4 := by
  intro r hr
  have hm : r ∈ pairs of (wholeOf p) (wholeOf q) := by rw [pairs_last]; exact List.mem_append_left _ hr
  obtain ⟨a, ha, b, hb, rfl⟩ := mem_pairs.1 hm
  have := mem_wholeOf hp ha; have := mem_wholeOf hq hb
  exact hk _ _ (by omega) (by omega) (by omega) (by omega)
theorem pair_err {of of' : Int → Int → Int} (hk : Keeps of) (hk' : Keeps of') {p q : TPol} : (pairE of p q).2 = (pairE of' p q).2 := by
  unfold pairE
  split
  · rfl
  · rename_i h1
    have h3 := (polsE_iff _).1 (by simpa using h1)
    have hp := h3 p (by simp)
    have hq := h3 q (by simp)
    have e : polE (pairPol of p q) = polE (pairPol of' p q) := by
      have d := hk _ _ hp.d0 hp.d1 hq.d0 hq.d1
      have d' := hk' _ _ hp.d0 hp.d1 hq.d0 hq.d1
      unfold polE
      rw [pairPol_len, pairPol_len, if_neg (show ¬ ((pairPol of p q).dflt < 0 ∨ 4 < (pairPol of p q).dflt) by show ¬ (of p.dflt q.dflt < 0 ∨ 4 < of p.dflt q.dflt); omega), if_neg (show ¬ ((pairPol of' p q).dflt < 0 ∨ 4 < (pairPol of' p q).dflt) by show ¬ (of' p.dflt q.dflt < 0 ∨ 4 < of' p.dflt q.dflt); omega)]
      rw [rulesGo_conds _ (pairPol of' p q).rules _ (pair_verdict hk hp hq) (pair_verdict hk' hp hq)]
      unfold pairPol pairs
      simp only [List.map_dropLast, List.map_flatMap, List.map_map]
      rfl
    rw [e]
    split <;> rfl
/-- the other way round it is as right. -/
theorem pair_turn {of of' : Int → Int → Int} (hk' : Keeps of') {p q : TPol} (h : (pairE of p q).2 = 0) : (pairE of' q p).2 = 0 := by
  obtain ⟨hp, hq, hm, _⟩ := pairE_ok h
  have : OkPol (pairPol of' q p) := by
    have d := hk' _ _ hq.d0 hq.d1 hp.d0 hp.d1
    refine ⟨?_, d.1, d.2, fun r hr => ?_⟩
    · have := hm.len
      rw [pairPol_len] at this ⊢
      rw [Nat.mul_comm]; exact this
    · have hv := pair_verdict hk' hq hp r hr
      have hmem : r ∈ pairs of' (wholeOf q) (wholeOf p) := by rw [pairs_last]; exact List.mem_append_left _ hr
      obtain ⟨a, ha, b, hb, rfl⟩ := mem_pairs.1 hmem
      have hm2 : pairRule of b a ∈ pairs of (wholeOf p) (wholeOf q) := mem_pairs.2 ⟨b, hb, a, ha, rfl⟩
      refine ⟨?_, hv.1, hv.2, fun c hc => ?_⟩
      · rw [pairs_last] at hm2
        rcases List.mem_append.1 hm2 with hm2 | hm2
        · have := (hm.rules _ hm2).len
          simp only [pairRule, List.length_append] at this ⊢; omega
        · simp [pairRule] at hm2
          simp only [pairRule, List.length_append]
          rw [hm2.1.1, hm2.1.2]; simp
      · rcases List.mem_append.1 hc with hc | hc
        · exact (mem_wholeOf hq ha).2 c hc
        · exact (mem_wholeOf hp hb).2 c hc
  rw [pairE_of hq hp this]

/-! ### made shorter -/
def usedRules (ks : List Nat) : List TRule → Nat → List TRule
  | [], _ => []
  | r :: l, i => if ks.contains i then r :: usedRules ks l (i + 1) else usedRules ks l (i + 1)
def trimD (d : Int) : List TRule → List TRule
  | [] => []
  | r :: l => if trimD d l = [] ∧ r.verdict = d then [] else r :: trimD d l
def usedBy (p : TPol) (l : List TCall) : List Nat := l.map fun x => which x p.rules
def shortPol (p : TPol) : TPol := ⟨trimD p.dflt (usedRules (usedBy p (stage [p] 5)) p.rules 0), p.dflt⟩
/-- chapter 8's Short. -/
def shortE (p : TPol) : TPol × Int := if (pointsE [p]).2 ≠ 0 then (zeroPol, (pointsE [p]).2) else (shortPol p, 0)
theorem shortE_ok {p : TPol} (h : (shortE p).2 = 0) : OkPol p ∧ sizes [p] 5 ≤ 1000 ∧ shortE p = (shortPol p, 0) := by
  have h0 : (pointsE [p]).2 = 0 := by
    unfold shortE at h
    split at h
    · exact h
    · rename_i h'; simpa using h'
  obtain ⟨h1, h2, h3⟩ := pointsE_ok h0
  refine ⟨h1 p (by simp), h2, ?_⟩
  unfold shortE
  rw [if_neg (by rw [h0]; simp)]
theorem shortE_of {p : TPol} (h : OkPol p) (hs : sizes [p] 5 ≤ 1000) : shortE p = (shortPol p, 0) := by
  unfold shortE
  rw [if_neg (by rw [pointsE_of (by simpa using h) hs]; simp)]
theorem usedRules_sub (ks : List Nat) : ∀ (l : List TRule) (i : Nat), (usedRules ks l i).Sublist l
  | [], _ => List.Sublist.refl _
  | r :: l, i => by
    unfold usedRules
    split
    · exact (usedRules_sub ks l (i + 1)).cons_cons r
    · exact (usedRules_sub ks l (i + 1)).cons r
theorem trimD_pre (d : Int) : ∀ l : List TRule, trimD d l <+: l
  | [] => List.prefix_refl _
  | r :: l => by
    unfold trimD
    split
    · exact List.nil_prefix
    · exact (List.cons_prefix_cons).2 ⟨rfl, trimD_pre d l⟩
theorem first_used (x : TCall) (ks : List Nat) : ∀ (l : List TRule) (i : Nat), (which x l < l.length → i + which x l ∈ ks) → firstOf x (usedRules ks l i) = firstOf x l
  | [], _, _ => rfl
  | r :: l, i, h => by
    have e2 : ∀ m : List TRule, firstOf x (r :: m) = if allHold x r.conds = true then some r else firstOf x m := fun m => by
      unfold firstOf
      rw [List.find?_cons]
      cases allHold x r.conds <;> simp
    unfold usedRules
    by_cases hr : allHold x r.conds = true
    · have hw : which x (r :: l) = 0 := by unfold which; rw [if_pos hr]
      have hi := h (by rw [hw]; simp)
      rw [hw, Nat.add_zero] at hi
      rw [if_pos (by simpa using hi), e2, e2, if_pos hr, if_pos hr]
    · have hw : which x (r :: l) = which x l + 1 := by conv => lhs; unfold which
                                                       rw [if_neg hr]
      have ih := first_used x ks l (i + 1) (fun hlt => by
        have := h (by rw [hw]; simpa using hlt)
        rw [hw] at this
        rwa [show i + 1 + which x l = i + (which x l + 1) by omega])
      split
      · rw [e2, e2, if_neg hr, if_neg hr, ih]
      · rw [e2, if_neg hr, ih]
def orD (d : Int) : Option TRule → Int
  | some r => r.verdict
  | none => d
theorem says_orD (p : TPol) (x : TCall) : says p x = orD p.dflt (firstOf x p.rules) := by rw [says_first]; rfl
theorem first_trim (x : TCall) (d : Int) : ∀ l : List TRule, orD d (firstOf x (trimD d l)) = orD d (firstOf x l)
  | [] => rfl
  | r :: l => by
    have e2 : ∀ m : List TRule, firstOf x (r :: m) = if allHold x r.conds = true then some r else firstOf x m := fun m => by
      unfold firstOf
      rw [List.find?_cons]
      cases allHold x r.conds <;> simp
    have ih := first_trim x d l
    unfold trimD
    split
    · rename_i h
      rw [h.1] at ih
      rw [e2]
      split
      · show d = r.verdict; exact h.2.symm
      · exact ih
    · rw [e2, e2]
      split
      · rfl
      · exact ih
/-- SHORT SAYS OF EACH CALL WHAT THE POLICY SAYS. -/
theorem says_short {p : TPol} (h : OkPol p) {x : TCall} (hx : x.ok) : says (shortPol p) x = says p x := by
  have hall : ∀ r ∈ [p], OkPol r := by simpa using h
  rw [says_orD, says_orD]
  show orD p.dflt (firstOf x (trimD _ _)) = _
  rw [first_trim, first_used]
  intro _
  rw [Nat.zero_add]
  refine List.mem_map.2 ⟨homeOf [p] x, home_point hall hx, which_home hall hx (by simp)⟩
theorem short_sub (p : TPol) : (shortPol p).rules.Sublist p.rules := (trimD_pre _ _).sublist.trans (usedRules_sub _ _ _)
theorem okPol_sub {p q : TPol} (h : OkPol p) (hs : q.rules.Sublist p.rules) (hd : q.dflt = p.dflt) : OkPol q :=
  ⟨Nat.le_trans hs.length_le h.len, by rw [hd]; exact h.d0, by rw [hd]; exact h.d1, fun r hr => h.rules r (hs.subset hr)⟩
theorem okPol_short {p : TPol} (h : OkPol p) : OkPol (shortPol p) := okPol_sub h (short_sub p) rfl
theorem cutVals_sub {p q : TPol} (hs : q.rules.Sublist p.rules) (f n : Int) (h : n ∈ cutVals [q] f) : n ∈ cutVals [p] f := by
  rcases mem_vals.1 h with rfl | ⟨a, ha, r, hr, c, hc, hm⟩
  · exact mem_vals.2 (.inl rfl)
  · simp at ha; subst ha
    exact mem_vals.2 (.inr ⟨p, by simp, r, hs.subset hr, c, hc, hm⟩)
/-- every rule of a list is the first to hold somewhere among these calls. -/
def AllUsed (p : TPol) (l : List TCall) : Prop := ∀ i, i < p.rules.length → ∃ x ∈ l, which x p.rules = i
theorem used_all (ks : List Nat) : ∀ (l : List TRule) (i : Nat), (∀ j, j < l.length → i + j ∈ ks) → usedRules ks l i = l
  | [], _, _ => rfl
  | r :: l, i, h => by
    unfold usedRules
    rw [if_pos (by have := h 0 (by simp); simpa using this), used_all ks l (i + 1) (fun j hj => by have := h (j + 1) (by simpa using hj); rwa [show i + 1 + j = i + (j + 1) by omega])]
theorem trim_trim (d : Int) : ∀ l : List TRule, trimD d (trimD d l) = trimD d l
  | [] => rfl
  | r :: l => by
    have ih := trim_trim d l
    by_cases h : trimD d l = [] ∧ r.verdict = d
    · have e : trimD d (r :: l) = [] := by unfold trimD; rw [if_pos h]
      rw [e]; rfl
    · have e : trimD d (r :: l) = r :: trimD d l := by conv => lhs; unfold trimD
                                                       rw [if_neg h]
      rw [e]
      conv => lhs; unfold trimD
      rw [ih, if_neg h]
theorem short_of_used {p : TPol} (h : AllUsed p (stage [p] 5)) : shortPol p = ⟨trimD p.dflt p.rules, p.dflt⟩ := by
  unfold shortPol
  rw [used_all]
  intro j hj
  obtain ⟨x, hx, hw⟩ := h j hj
  rw [Nat.zero_add]
  exact List.mem_map.2 ⟨x, hx, hw⟩
/-- the place of a rule that is used, among those that are. -/
theorem used_which (ks : List Nat) : ∀ (l : List TRule) (i j : Nat), j < (usedRules ks l i).length → ∃ k, k < l.length ∧ i + k ∈ ks ∧ ∀ x, which x l = k → which x (usedRules ks l i) = j
  | [], _, _, h => by simp [usedRules] at h
  | r :: l, i, j, h => by
    unfold usedRules at h ⊢
    by_cases hk : ks.contains i = true
    · rw [if_pos hk] at h ⊢
      cases j with
      | zero => exact ⟨0, by simp, by simpa using hk, fun x hx => by
          unfold which at hx ⊢
          split at hx
          · rename_i ha; rw [if_pos ha]
          · omega⟩
      | succ j =>
        obtain ⟨k, h1, h2, h3⟩ := used_which ks l (i + 1) j (by simpa using h)
        refine ⟨k + 1, by simpa using h1, by rwa [show i + (k + 1) = i + 1 + k by omega], fun x hx => ?_⟩
        unfold which at hx ⊢
        split at hx
        · omega
        · rename_i ha; rw [if_neg ha, h3 x (by omega)]
    · rw [if_neg hk] at h ⊢
      obtain ⟨k, h1, h2, h3⟩ := used_which ks l (i + 1) j h
      refine ⟨k + 1, by simpa using h1, by rwa [show i + (k + 1) = i + 1 + k by omega], fun x hx => ?_⟩
      unfold which at hx
      split at hx
      · omega
      · exact h3 x (by omega)
theorem which_pre (x : TCall) : ∀ (l m : List TRule) (j : Nat), l <+: m → which x m = j → j < l.length → which x l = j
  | [], _, _, _, _, h => by simp at h
  | r :: l, m, j, hp, hw, hj => by
    obtain ⟨t, rfl⟩ := hp
    rw [List.cons_append] at hw
    unfold which at hw ⊢
    split at hw
    · rename_i h; rw [if_pos h]; exact hw
    · rename_i h
      rw [if_neg h]
      cases j with
      | zero => omega
      | succ j => rw [which_pre x l (l ++ t) j ⟨t, rfl⟩ (by omega) (by simpa using hj)]
/-- made shorter again it is the same. -/
theorem short_short {p : TPol} (h : OkPol p) : shortPol (shortPol p) = shortPol p := by
  have hall : ∀ r ∈ [p], OkPol r := by simpa using h
  have hs := okPol_short h
  have hsall : ∀ r ∈ [shortPol p], OkPol r := by simpa using hs
  have hu : AllUsed (shortPol p) (stage [shortPol p] 5) := by
    intro j hj
    have hpre : (shortPol p).rules <+: usedRules (usedBy p (stage [p] 5)) p.rules 0 := trimD_pre _ _
    obtain ⟨k, h1, h2, h3⟩ := used_which (usedBy p (stage [p] 5)) p.rules 0 j (Nat.lt_of_lt_of_le hj hpre.length_le)
    rw [Nat.zero_add] at h2
    obtain ⟨x, hx, hw⟩ := List.mem_map.1 h2
    have hxo := point_ok hall hx
    have hj' := which_pre x _ _ j hpre (h3 x hw) hj
    exact ⟨homeOf [shortPol p] x, home_point hsall hxo, by rw [which_home hsall hxo (by simp)]; exact hj'⟩
  rw [short_of_used hu]
  show (⟨trimD p.dflt (trimD p.dflt _), p.dflt⟩ : TPol) = ⟨trimD p.dflt _, p.dflt⟩
  rw [trim_trim]
theorem short_again {p : TPol} (h : (shortE p).2 = 0) : shortE (shortPol p) = (shortPol p, 0) := by
  obtain ⟨h1, h2, _⟩ := shortE_ok h
  rw [shortE_of (okPol_short h1) (Nat.le_trans (sizes_sub (fun f n hn => cutVals_sub (short_sub p) f n hn) 5) h2), short_short h1]

/-! ### chapter 9's Delta -/
def deltaE (p q : TPol) : TPol × Int := if (looserE q p).2.2 ≠ 0 then (zeroPol, (looserE q p).2.2) else if (looserE q p).1 then (zeroPol, 7) else
  if (pairE exceptOf q p).2 ≠ 0 then (zeroPol, (pairE exceptOf q p).2) else shortE (pairPol exceptOf q p)
theorem pointsE_err (l : List TPol) : (pointsE l).2 ≠ 7 := by
  have key : ∀ l : List TPol, polsE l ≠ 7 := by
    have k1 : ∀ c, condE c ≠ 7 := fun c => by unfold condE; split <;> (try split) <;> (try split) <;> omega
    have k2 : ∀ l, condsGo l ≠ 7 := fun l => by
      induction l with
      | nil => simp [condsGo]
      | cons c l ih => unfold condsGo; split; exact ih; exact k1 c
    have k3 : ∀ r, ruleE r ≠ 7 := fun r => by unfold ruleE; split; omega; split; omega; exact k2 _
    have k4 : ∀ l, rulesGo l ≠ 7 := fun l => by
      induction l with
      | nil => simp [rulesGo]
      | cons c l ih => unfold rulesGo; split; exact ih; exact k3 c
    intro l
    induction l with
    | nil => simp [polsE]
    | cons p l ih =>
      unfold polsE; split
      · exact ih
      · unfold polE; split; omega; split; omega; exact k4 _
  unfold pointsE
  split
  · exact key l
  · split <;> simp
theorem polE_err (p : TPol) : polE p ≠ 7 := by
  intro h
  have e : polsE [p] = 7 := by
    unfold polsE
    rw [if_neg (by rw [h]; simp), h]
  have : (pointsE [p]).2 = 7 := by
    unfold pointsE
    rw [if_pos (by rw [e]; simp), e]
  exact pointsE_err [p] this
theorem looserE_err (p q : TPol) : (looserE p q).2.2 ≠ 7 := by
  unfold looserE
  split
  · exact pointsE_err _
  · split <;> simp
theorem pairE_err (of : Int → Int → Int) (p q : TPol) : (pairE of p q).2 ≠ 7 := by
  unfold pairE
  split
  · rename_i h
    show polsE [p, q] ≠ 7
    unfold polsE polsE polsE
    split
    · split
      · simp
      · exact polE_err q
    · exact polE_err p
  · split
    · exact polE_err _
    · simp
theorem shortE_err (p : TPol) : (shortE p).2 ≠ 7 := by
  unfold shortE
  split
  · exact pointsE_err _
  · simp
theorem deltaE_loose {p q : TPol} : (deltaE p q).2 = 7 ↔ ((looserE q p).2.2 = 0 ∧ (looserE q p).1 = true) := by
  unfold deltaE
  constructor
  · intro h
    split at h
    · exact absurd h (looserE_err _ _)
    · rename_i h1
      split at h
      · rename_i h2; exact ⟨by simpa using h1, h2⟩
      · split at h
        · exact absurd h (pairE_err _ _ _)
        · exact absurd h (shortE_err _)
  · rintro ⟨h1, h2⟩
    rw [if_neg (by rw [h1]; simp), if_pos h2]
theorem deltaE_ok {p q : TPol} (h : (deltaE p q).2 = 0) : OkPol p ∧ OkPol q ∧ (looserE q p).2.2 = 0 ∧ (looserE q p).1 = false ∧ OkPol (pairPol exceptOf q p) ∧ deltaE p q = (shortPol (pairPol exceptOf q p), 0) := by
  unfold deltaE at h ⊢
  split at h
  · rename_i h1; exact absurd h h1
  · rename_i h1
    have h1' : (looserE q p).2.2 = 0 := by simpa using h1
    split at h
    · simp at h
    · rename_i h2
      split at h
      · rename_i h3; exact absurd h h3
      · rename_i h3
        obtain ⟨a1, a2, a3, _⟩ := pairE_ok (of := exceptOf) (p := q) (q := p) (by simpa using h3)
        obtain ⟨_, _, b3⟩ := shortE_ok h
        exact ⟨a2, a1, h1', by simpa using h2, a3, by rw [if_neg h1, if_neg h2, if_neg h3]; exact b3⟩
/-- A DELTA allows all of which nothing changes, and says of all else what the stricter policy says. -/
theorem says_delta {p q : TPol} (h : (deltaE p q).2 = 0) {x : TCall} (hx : x.ok) : says (deltaE p q).1 x = exceptOf (says q x) (says p x) := by
  obtain ⟨_, _, _, _, h5, h6⟩ := deltaE_ok h
  rw [h6]
  show says (shortPol _) x = _
  rw [says_short h5 hx, says_pair]
theorem okPol_delta {p q : TPol} (h : (deltaE p q).2 = 0) : OkPol (deltaE p q).1 := by
  obtain ⟨_, _, _, _, h5, h6⟩ := deltaE_ok h
  rw [h6]; exact okPol_short h5
theorem delta_le {p q : TPol} (h : (deltaE p q).2 = 0) {x : TCall} (hx : x.ok) : says q x ≤ says p x := by
  obtain ⟨_, _, h3, h4, _, _⟩ := deltaE_ok h
  exact looser_not h3 h4 hx
theorem trim_all (d : Int) : ∀ l : List TRule, (∀ r ∈ l, r.verdict = d) → trimD d l = []
  | [], _ => rfl
  | r :: l, h => by
    unfold trimD
    rw [if_pos ⟨trim_all d l (fun r hr => h r (List.mem_cons_of_mem _ hr)), h r (List.mem_cons_self ..)⟩]
theorem mem_used (ks : List Nat) : ∀ (l : List TRule) (i : Nat) (r : TRule), r ∈ usedRules ks l i → ∃ k, l[k]? = some r ∧ i + k ∈ ks
  | [], _, _, h => by simp [usedRules] at h
  | a :: l, i, r, h => by
    unfold usedRules at h
    split at h
    · rename_i hk
      rcases List.mem_cons.1 h with rfl | h
      · exact ⟨0, rfl, by simpa using hk⟩
      · obtain ⟨k, h1, h2⟩ := mem_used ks l (i + 1) r h
        exact ⟨k + 1, by simpa using h1, by rwa [show i + (k + 1) = i + 1 + k by omega]⟩
    · obtain ⟨k, h1, h2⟩ := mem_used ks l (i + 1) r h
      exact ⟨k + 1, by simpa using h1, by rwa [show i + (k + 1) = i + 1 + k by omega]⟩
/-- from a policy to itself a delta has no rules. -/
theorem delta_self {p : TPol} (h : (deltaE p p).2 = 0) : (deltaE p p).1.rules = [] := by
  obtain ⟨h1, _, _, _, h5, h6⟩ := deltaE_ok h
  rw [h6]
  show trimD (exceptOf p.dflt p.dflt) _ = []
  have hd : exceptOf p.dflt p.dflt = 4 := by unfold exceptOf; rw [if_neg (by omega)]
  rw [hd]
  refine trim_all 4 _ fun r hr => ?_
  obtain ⟨k, hk, hks⟩ := mem_used _ _ _ _ hr
  rw [Nat.zero_add] at hks
  obtain ⟨x, _, hw⟩ := List.mem_map.1 hks
  have hs := says_pair exceptOf p p x
  have hv : says (pairPol exceptOf p p) x = r.verdict := by
    unfold says judged verdictAt
    dsimp only
    rw [hw, hk]
  rw [hv] at hs
  rw [hs]
  unfold exceptOf
  rw [if_neg (by omega)]
theorem delta_self_not (p : TPol) : (deltaE p p).2 ≠ 7 := by
  intro h
  obtain ⟨h1, h2⟩ := deltaE_loose.1 h
  have := looser_at h1 h2
  omega
theorem looser_self {p : TPol} (h : (looserE p p).2.2 = 0) : (looserE p p).1 = false := (looser_iff h).2 fun _ _ => Int.le_refl _
end Go.Proofs.YtkiipnbjckdlbaaGreatDoor
namespace Go.Proofs.YtkiipnbjckdlbaaGreatDoor

def jumpIns (c : TCond) (skip : Int) : TIns :=
  if c.op = 2 then ⟨2, c.v, skip, 0⟩ else if c.op = 3 then ⟨3, c.v, 0, skip⟩ else if c.op = 4 then ⟨3, c.v, skip, 0⟩ else ⟨2, c.v, 0, skip⟩
/-- a rule as instructions. -/
def condIns : List TCond → Int → List TIns
  | [], v => [⟨4, v, 0, 0⟩]
  | c :: r, v => ⟨1, c.f, 0, 0⟩ :: jumpIns c (2 * r.length + 1) :: condIns r v
def rulesIns : List TRule → List TIns
  | [] => []
  | r :: l => condIns r.conds r.verdict ++ rulesIns l
def filterL (p : TPol) : List TIns := rulesIns p.rules ++ [⟨4, p.dflt, 0, 0⟩]
/-- chapter 5's Compile, errors too. -/
def filterE (p : TPol) : List TIns × Int := if polE p ≠ 0 then ([], polE p) else if 1500 < (filterL p).length then ([], 2) else (filterL p, 0)

theorem condIns_len : ∀ (l : List TCond) (v : Int), (condIns l v).length = 2 * l.length + 1
  | [], _ => rfl
  | c :: r, v => by simp only [condIns, List.length_cons, condIns_len r v]; omega
theorem rulesIns_snoc : ∀ (l : List TRule) (r : TRule), rulesIns (l ++ [r]) = rulesIns l ++ condIns r.conds r.verdict
  | [], r => by simp [rulesIns]
  | x :: l, r => by simp only [List.cons_append, rulesIns, rulesIns_snoc l r, List.append_assoc]
theorem rulesIns_len {l : List TRule} (h : ∀ r ∈ l, r.conds.length ≤ 10) : (rulesIns l).length ≤ 21 * l.length := by
  induction l with
  | nil => simp [rulesIns]
  | cons r l ih =>
    have h1 := h r (List.mem_cons_self ..)
    have h2 := ih fun x hx => h x (List.mem_cons_of_mem _ hx)
    simp only [rulesIns, List.length_append, condIns_len, List.length_cons]
    omega

theorem jump_ok {c : TCond} (h : OkCond c) {s n : Int} (h0 : 0 ≤ s) (h1 : s < n) : insE (jumpIns c s) n = 0 := by
  have hv := h.v1
  have hm : mostOf c.f ≤ 65535 := by unfold mostOf; split <;> (try split) <;> omega
  have := h.v0
  have h0' : ¬ c.v < 0 := by omega
  have h1' : ¬ c.v > 65535 := by omega
  clear hv hm this
  unfold jumpIns insE
  split
  · (simp [h0', h1']; omega)
  · split
    · (simp [h0', h1']; omega)
    · split
      · (simp [h0', h1']; omega)
      · (simp [h0', h1']; omega)
theorem ret_ok {v n : Int} (h0 : 0 ≤ v) (h1 : v ≤ 4) : insE ⟨4, v, 0, 0⟩ n = 0 := by
  unfold insE
  dsimp only
  rw [if_pos (.inr rfl), if_neg (by omega), if_neg (by omega)]
theorem load_ok {v n : Int} (h0 : 0 ≤ v) (h1 : v ≤ 4) : insE ⟨1, v, 0, 0⟩ n = 0 := by
  unfold insE
  dsimp only
  rw [if_pos (.inl rfl), if_neg (by omega), if_neg (by omega)]
theorem condIns_go : ∀ (cs : List TCond) (v : Int) (l : List TIns), (∀ c ∈ cs, OkCond c) → 0 ≤ v → v ≤ 4 → l ≠ [] → codeGo l = 0 → codeGo (condIns cs v ++ l) = 0
  | [], v, l, _, h0, h1, _, hl => by
    simp only [condIns, List.cons_append, List.nil_append, codeGo]
    rw [if_pos (ret_ok h0 h1)]; exact hl
  | c :: cs, v, l, hc, h0, h1, hn, hl => by
    have ih := condIns_go cs v l (fun x hx => hc x (List.mem_cons_of_mem _ hx)) h0 h1 hn hl
    have hk := hc c (List.mem_cons_self ..)
    have hlen : 0 < l.length := List.length_pos_iff.2 hn
    simp only [condIns, List.cons_append, codeGo]
    rw [if_pos (load_ok hk.f0 (by have := hk.f1; omega)), if_pos (jump_ok hk (by omega) (by rw [List.length_append, condIns_len]; omega))]
    exact ih
theorem rulesIns_go : ∀ (rs : List TRule) (l : List TIns), (∀ r ∈ rs, OkRule r) → l ≠ [] → codeGo l = 0 → codeGo (rulesIns rs ++ l) = 0
  | [], l, _, _, hl => hl
  | r :: rs, l, hr, hn, hl => by
    have hk := hr r (List.mem_cons_self ..)
    have ih := rulesIns_go rs l (fun x hx => hr x (List.mem_cons_of_mem _ hx)) hn hl
    simp only [rulesIns, List.append_assoc]
    exact condIns_go _ _ _ hk.conds hk.v0 hk.v1 (by simp [hn]) ih
theorem lastK_snoc : ∀ (l : List TIns) (x : TIns), lastK (l ++ [x]) = x.k
  | [], x => rfl
  | [y], x => rfl
  | y :: z :: l, x => by
    have := lastK_snoc (z :: l) x
    simp only [List.cons_append] at this ⊢
    simp only [lastK]
    exact this
theorem filter_code {p : TPol} (h : OkPol p) : codeE (filterL p) = if 1500 < (filterL p).length then 2 else 0 := by
  have h1 : codeGo (filterL p) = 0 := rulesIns_go p.rules _ h.rules (by simp) (by simp only [codeGo]; rw [if_pos (ret_ok h.d0 h.d1)])
  have h2 : lastK (filterL p) = 4 := lastK_snoc _ _
  have h3 : (filterL p).length ≠ 0 := by simp [filterL]
  unfold codeE
  split
  · rw [if_pos (by omega)]
  · simp only [h1, ne_eq, not_true_eq_false, if_false]
    rw [if_neg (by omega)]

/-! ### a filter says what its policy says -/
theorem jump_next {c : TCond} (h : OkCond c) (x : TCall) (s : Nat) : insNext (jumpIns c s) (x.get c.f) = if holdsB c x then 0 else s := by
  have h0 := h.o0
  have h1 := h.o1
  have e : c.op = 1 ∨ c.op = 2 ∨ c.op = 3 ∨ c.op = 4 := by omega
  unfold jumpIns insNext holdsB
  rcases e with e | e | e | e <;> simp only [e] <;> simp only [Int.reduceEq, if_true, if_false, true_and, false_and, or_false, false_or]
  · by_cases e : x.get c.f = c.v <;> simp [e]
  · by_cases e : x.get c.f = c.v <;> simp [e]
  · by_cases e : x.get c.f < c.v <;> simp [e]
  · by_cases e : x.get c.f < c.v
    · have : ¬ c.v ≤ x.get c.f := by omega
      simp [e, this]
    · have : c.v ≤ x.get c.f := by omega
      simp [e, this]
theorem jumpIns_k (c : TCond) (s : Int) : (jumpIns c s).k = 2 ∨ (jumpIns c s).k = 3 := by
  unfold jumpIns
  split
  · exact .inl rfl
  · split
    · exact .inr rfl
    · split
      · exact .inr rfl
      · exact .inl rfl
theorem condIns_run (x : TCall) : ∀ (cs : List TCond) (v : Int) (l : List TIns) (f : Nat) (n : Int) (d : Nat), (∀ c ∈ cs, OkCond c) → (condIns cs v ++ l).length ≤ f →
    (allHold x cs = true ∧ (runGo x f (condIns cs v ++ l) n d).1 = v) ∨ (allHold x cs = false ∧ ∃ (f' : Nat) (n' : Int) (d' : Nat), l.length ≤ f' ∧ runGo x f (condIns cs v ++ l) n d = runGo x f' l n' d')
  | [], v, l, f, n, d, _, hf => by
    refine .inl ⟨rfl, ?_⟩
    cases f with
    | zero => simp [condIns] at hf
    | succ f => simp only [condIns, List.cons_append, List.nil_append, runGo, if_true]
  | c :: cs, v, l, f, n, d, hc, hf => by
    have hk := hc c (List.mem_cons_self ..)
    have hlen : (condIns (c :: cs) v ++ l).length = 2 + (condIns cs v ++ l).length := by simp only [condIns, List.cons_append, List.length_cons]; omega
    obtain ⟨g, rfl⟩ : ∃ g : Nat, f = g + 2 := ⟨f - 2, by omega⟩
    have h14 : ¬ (1 : Int) = 4 := by omega
    have hj4 : ¬ (jumpIns c (2 * (cs.length : Int) + 1)).k = 4 := by have := jumpIns_k c (2 * (cs.length : Int) + 1); omega
    have hj1 : ¬ (jumpIns c (2 * (cs.length : Int) + 1)).k = 1 := by have := jumpIns_k c (2 * (cs.length : Int) + 1); omega
    have hs : (2 * (cs.length : Int) + 1) = ((2 * cs.length + 1 : Nat) : Int) := by omega
    have step : runGo x (g + 2) (condIns (c :: cs) v ++ l) n d = runGo x g ((condIns cs v ++ l).drop (if holdsB c x then 0 else 2 * cs.length + 1)) (x.get c.f) (d + 1 + 1) := by
      simp only [condIns, List.cons_append, runGo, if_neg h14, if_true, if_neg hj4, if_neg hj1]
      rw [hs, jump_next hk]
    rw [step]
    cases hb : holdsB c x with
    | true =>
      simp only [if_true, List.drop_zero]
      have hall : allHold x (c :: cs) = allHold x cs := by unfold allHold; simp [hb]
      rw [hall]
      exact condIns_run x cs v l g _ _ (fun y hy => hc y (List.mem_cons_of_mem _ hy)) (by omega)
    | false =>
      refine .inr ⟨by unfold allHold; simp [hb], g, x.get c.f, d + 1 + 1, ?_, ?_⟩
      · have : (condIns cs v ++ l).length = (condIns cs v).length + l.length := by simp
        omega
      · simp only [Bool.false_eq_true, if_false]
        rw [← condIns_len cs v, List.drop_left]
theorem rules_run (x : TCall) (dflt : Int) : ∀ (rs : List TRule) (f : Nat) (n : Int) (d : Nat), (∀ r ∈ rs, OkRule r) → (rulesIns rs ++ [(⟨4, dflt, 0, 0⟩ : TIns)]).length ≤ f →
    (runGo x f (rulesIns rs ++ [(⟨4, dflt, 0, 0⟩ : TIns)]) n d).1 = verdictAt ⟨rs, dflt⟩ (which x rs)
  | [], f, n, d, _, hf => by
    cases f with
    | zero => simp at hf
    | succ f => simp only [rulesIns, List.nil_append, runGo, if_true]; rfl
  | r :: rs, f, n, d, hr, hf => by
    have hk := hr r (List.mem_cons_self ..)
    simp only [rulesIns, List.append_assoc] at hf ⊢
    rcases condIns_run x r.conds r.verdict (rulesIns rs ++ [(⟨4, dflt, 0, 0⟩ : TIns)]) f n d hk.conds hf with ⟨ha, he⟩ | ⟨ha, f', n', d', hf', he⟩
    · rw [he]; unfold which; rw [if_pos ha]; rfl
    · rw [he, rules_run x dflt rs f' n' d' (fun y hy => hr y (List.mem_cons_of_mem _ hy)) hf']
      have hw : which x (r :: rs) = which x rs + 1 := by conv => lhs; unfold which
                                                         rw [if_neg (by simp [ha])]
      rw [hw]
      simp [verdictAt]
/-- A FILTER SAYS OF EACH CALL WHAT ITS POLICY SAYS. -/
theorem filter_means {p : TPol} (h : OkPol p) (x : TCall) : (run (filterL p) x).1 = (judged p x).1 :=
  rules_run x p.dflt p.rules _ 0 0 h.rules (Nat.le_refl _)
theorem filterE_ok {p : TPol} (h : (filterE p).2 = 0) : OkPol p ∧ filterE p = (filterL p, 0) ∧ codeE (filterL p) = 0 ∧ (filterL p).length ≤ 1500 := by
  unfold filterE at h ⊢
  split at h
  · rename_i h1; exact absurd h h1
  · rename_i h1
    have hp := (okPol_iff p).1 (by simpa using h1)
    split at h
    · simp at h
    · rename_i h2
      refine ⟨hp, by rw [if_neg h1, if_neg h2], ?_, by omega⟩
      rw [filter_code hp, if_neg h2]
end Go.Proofs.YtkiipnbjckdlbaaGreatDoor
namespace Go.Proofs.YtkiipnbjckdlbaaGreatDoor

/-! ### chains -/
def codesGo : List (List TIns) → Int
  | [] => 0
  | f :: l => if codeE f = 0 then codesGo l else codeE f
/-- chapter 9's Check. -/
def chainE (l : List (List TIns)) : Int := if 6 < l.length then 2 else codesGo l
theorem codesGo_drop (l : List (List TIns)) (k : Nat) (h : k < l.length) : codesGo (l.drop k) = if codeE l[k] = 0 then codesGo (l.drop (k + 1)) else codeE l[k] := by
  rw [List.drop_eq_getElem_cons h]; rfl
theorem codesGo_iff : ∀ l : List (List TIns), codesGo l = 0 ↔ ∀ f ∈ l, codeE f = 0
  | [] => by simp [codesGo]
  | f :: l => by
    simp only [codesGo, List.mem_cons, forall_eq_or_imp]
    rw [← codesGo_iff l]
    split
    · rename_i h; simp [h]
    · rename_i h; simp [h]
theorem chainE_iff (l : List (List TIns)) : chainE l = 0 ↔ l.length ≤ 6 ∧ ∀ f ∈ l, codeE f = 0 := by
  unfold chainE
  split
  · rename_i h
    constructor
    · intro h'; simp at h'
    · rintro ⟨h1, _⟩; omega
  · rename_i h
    rw [codesGo_iff]
    exact ⟨fun h' => ⟨by omega, h'⟩, fun h' => h'.2⟩
/-- the strictest of what all say. -/
def askGo (x : TCall) : List (List TIns) → Int → Int
  | [], v => v
  | f :: l, v => askGo x l (minOf v (run f x).1)
def asked (l : List (List TIns)) (x : TCall) : Int := askGo x l 4
/-- chapter 9's Ask. -/
def askE (l : List (List TIns)) (x : TCall) : Int × Int := if chainE l ≠ 0 then (0, chainE l) else if x.ok then (asked l x, 0) else (0, 3)
theorem minOf_le (a b : Int) : minOf a b ≤ a ∧ minOf a b ≤ b := by unfold minOf; split <;> omega
theorem minOf_eq (a b : Int) : minOf a b = min a b := by unfold minOf; split <;> omega
theorem askGo_min (x : TCall) : ∀ (l : List (List TIns)) (v : Int), askGo x l v = minOf v (askGo x l v)
  | [], v => by simp [askGo, minOf]
  | f :: l, v => by
    have ih := askGo_min x l (minOf v (run f x).1)
    show askGo x l (minOf v (run f x).1) = minOf v (askGo x l (minOf v (run f x).1))
    rw [ih]
    simp only [minOf_eq]
    omega
theorem askGo_from (x : TCall) : ∀ (l : List (List TIns)) (u v : Int), askGo x l (minOf u v) = minOf u (askGo x l v)
  | [], u, v => rfl
  | f :: l, u, v => by
    show askGo x l (minOf (minOf u v) (run f x).1) = minOf u (askGo x l (minOf v (run f x).1))
    rw [← askGo_from x l u (minOf v (run f x).1)]
    congr 1
    simp only [minOf_eq]; omega
theorem askGo_append (x : TCall) : ∀ (l m : List (List TIns)) (v : Int), askGo x (l ++ m) v = askGo x m (askGo x l v)
  | [], _, _ => rfl
  | _ :: l, m, _ => askGo_append x l m _
theorem asked_append (x : TCall) (l m : List (List TIns)) : asked (l ++ m) x = minOf (asked l x) (asked m x) := by
  unfold asked
  rw [askGo_append]
  have e : askGo x l 4 = minOf (askGo x l 4) 4 := by
    have := askGo_min x l 4
    simp only [minOf_eq] at this ⊢; omega
  conv => lhs; rw [e]
  rw [askGo_from]
theorem asked_cons (x : TCall) (f : List TIns) (l : List (List TIns)) : asked (f :: l) x = minOf (minOf 4 (run f x).1) (asked l x) := asked_append x [f] l
theorem asked_le (x : TCall) (l : List (List TIns)) : asked l x ≤ 4 := by
  have := askGo_min x l 4
  unfold asked
  rw [this]
  exact (minOf_le _ _).1
theorem asked_reverse (x : TCall) : ∀ l : List (List TIns), asked l.reverse x = asked l x
  | [] => rfl
  | f :: l => by
    rw [List.reverse_cons, asked_append, asked_reverse x l, asked_cons]
    have e : asked [] x = 4 := rfl
    have h4 := asked_le x l
    rw [e, asked_cons]
    simp only [minOf_eq]; omega
theorem asked_twice (x : TCall) (l : List (List TIns)) : asked (l ++ l) x = asked l x := by
  rw [asked_append]; simp only [minOf_eq]; omega
/-- chapter 9's Tighten. -/
def tightE (l : List (List TIns)) (p q : TPol) : List (List TIns) × Int :=
  if chainE l ≠ 0 then ([], chainE l) else if (deltaE p q).2 ≠ 0 then ([], (deltaE p q).2) else if l.length = 6 then ([], 2) else
    if (filterE (deltaE p q).1).2 ≠ 0 then ([], (filterE (deltaE p q).1).2) else (l ++ [filterL (deltaE p q).1], 0)
theorem tightE_ok {l : List (List TIns)} {p q : TPol} (h : (tightE l p q).2 = 0) : chainE l = 0 ∧ (deltaE p q).2 = 0 ∧ l.length < 6 ∧ codeE (filterL (deltaE p q).1) = 0 ∧ tightE l p q = (l ++ [filterL (deltaE p q).1], 0) := by
  unfold tightE at h ⊢
  split at h
  · rename_i h1; exact absurd h h1
  · rename_i h1
    split at h
    · rename_i h2; exact absurd h h2
    · rename_i h2
      split at h
      · simp at h
      · rename_i h3
        split at h
        · rename_i h4; exact absurd h h4
        · rename_i h4
          have h1' : chainE l = 0 := by simpa using h1
          obtain ⟨_, _, c, _⟩ := filterE_ok (p := (deltaE p q).1) (by simpa using h4)
          have := (chainE_iff l).1 h1'
          exact ⟨h1', by simpa using h2, by omega, c, by rw [if_neg h1, if_neg h2, if_neg h3, if_neg h4]⟩
theorem chain_tight {l : List (List TIns)} {p q : TPol} (h : (tightE l p q).2 = 0) : chainE (tightE l p q).1 = 0 := by
  obtain ⟨h1, _, h3, h4, h5⟩ := tightE_ok h
  rw [h5, chainE_iff]
  refine ⟨by simp; omega, fun f hf => ?_⟩
  rcases List.mem_append.1 hf with hf | hf
  · exact ((chainE_iff l).1 h1).2 f hf
  · simp at hf; subst hf; exact h4
theorem asked_tight {l : List (List TIns)} {p q : TPol} (h : (tightE l p q).2 = 0) {x : TCall} (hx : x.ok) : asked (tightE l p q).1 x = minOf (asked l x) (exceptOf (says q x) (says p x)) := by
  obtain ⟨_, h2, _, _, h5⟩ := tightE_ok h
  rw [h5]
  show asked (l ++ [filterL _]) x = _
  rw [asked_append]
  have e : asked [filterL (deltaE p q).1] x = minOf 4 (says (deltaE p q).1 x) := by
    show minOf 4 (run (filterL (deltaE p q).1) x).1 = _
    rw [filter_means (okPol_delta h2)]; rfl
  have := (says_range (okPol_delta h2) x).2
  rw [e, says_delta h2 hx]
  rw [says_delta h2 hx] at this
  simp only [minOf_eq]; omega
/-- nothing is ever looser than it was. -/
theorem tight_le {l : List (List TIns)} {p q : TPol} (h : (tightE l p q).2 = 0) {x : TCall} (hx : x.ok) : asked (tightE l p q).1 x ≤ asked l x := by
  rw [asked_tight h hx]; exact (minOf_le _ _).1
/-- OF A CHAIN THAT SAYS WHAT A POLICY SAYS, TIGHTENED, EACH CALL IS TOLD WHAT THE STRICTER ONE SAYS. -/
theorem tight_says {l : List (List TIns)} {p q : TPol} (h : (tightE l p q).2 = 0) {x : TCall} (hx : x.ok) (hl : asked l x = says p x) : asked (tightE l p q).1 x = says q x := by
  obtain ⟨_, h2, _⟩ := tightE_ok h
  have h3 := delta_le h2 hx
  obtain ⟨hp, hq, _⟩ := deltaE_ok h2
  have h4 := (says_range hp x).2
  rw [asked_tight h hx, hl]
  unfold exceptOf
  simp only [minOf_eq]
  split <;> omega
theorem asked_one {p : TPol} (h : OkPol p) (x : TCall) : asked [filterL p] x = says p x := by
  show minOf 4 (run (filterL p) x).1 = _
  rw [filter_means h]
  have := (says_range h x).2
  show minOf 4 (says p x) = _
  simp only [minOf_eq]; omega

/-! ### records and sessions -/
structure TRec where
  kind : Int
  cell : Int
  from_ : Int
  p : TPol
deriving DecidableEq
structure TCell where
  open_ : Bool
  chain : List (List TIns)
  p : TPol
deriving DecidableEq
def noPol (p : TPol) : Prop := p.dflt = 0 ∧ p.rules = []
instance (p : TPol) : Decidable (noPol p) := by unfold noPol; infer_instance
/-- chapter 10's Check. -/
def recE (r : TRec) : Int :=
  if r.kind < 1 ∨ 4 < r.kind then 4 else if r.cell < 0 ∨ 4 ≤ r.cell ∨ r.from_ < 0 ∨ 4 ≤ r.from_ then 3 else
    if (r.kind ≠ 3 ∧ r.from_ ≠ 0) ∨ (2 < r.kind ∧ ¬ noPol r.p) then 4 else if 2 < r.kind then 0 else polE r.p
def zeroCell : TCell := ⟨false, [], zeroPol⟩
def cellE (c : TCell) : Int :=
  if c.open_ then (if c.chain = [] then 4 else if chainE c.chain ≠ 0 then chainE c.chain else polE c.p) else if c.chain = [] ∧ noPol c.p then 0 else 4
def cellsGo : List TCell → Int
  | [] => 0
  | c :: l => if cellE c = 0 then cellsGo l else cellE c
/-- chapter 12's Check. -/
def cellsE (l : List TCell) : Int := if l.length = 4 then cellsGo l else 4
theorem cellsGo_drop (l : List TCell) (k : Nat) (h : k < l.length) : cellsGo (l.drop k) = if cellE l[k] = 0 then cellsGo (l.drop (k + 1)) else cellE l[k] := by
  rw [List.drop_eq_getElem_cons h]; rfl
theorem cellsGo_iff : ∀ l : List TCell, cellsGo l = 0 ↔ ∀ f ∈ l, cellE f = 0
  | [] => by simp [cellsGo]
  | f :: l => by
    simp only [cellsGo, List.mem_cons, forall_eq_or_imp]
    rw [← cellsGo_iff l]
    split
    · rename_i h; simp [h]
    · rename_i h; simp [h]
theorem cellsE_iff (l : List TCell) : cellsE l = 0 ↔ l.length = 4 ∧ ∀ c ∈ l, cellE c = 0 := by
  unfold cellsE
  split
  · rename_i h; rw [cellsGo_iff]; exact ⟨fun h' => ⟨h, h'⟩, fun h' => h'.2⟩
  · rename_i h; exact ⟨fun h' => by simp at h', fun h' => absurd h'.1 h⟩
def newCells : List TCell := [zeroCell, zeroCell, zeroCell, zeroCell]
/-- a session that begins by a policy. -/
def beginE (p : TPol) : TCell × Int := if (filterE p).2 ≠ 0 then (zeroCell, (filterE p).2) else (⟨true, [filterL p], p⟩, 0)
def cellAt (l : List TCell) (k : Int) : TCell := l.getD k.toNat zeroCell
/-- what a record makes of its session. -/
def nextCell (l : List TCell) (r : TRec) : TCell × Int :=
  if r.kind = 3 then (if (cellAt l r.from_).open_ then beginE (cellAt l r.from_).p else (zeroCell, 5))
  else if r.kind = 1 then beginE r.p
  else if r.kind = 2 then (if (tightE (cellAt l r.cell).chain (cellAt l r.cell).p r.p).2 ≠ 0 then (zeroCell, (tightE (cellAt l r.cell).chain (cellAt l r.cell).p r.p).2) else (⟨true, (tightE (cellAt l r.cell).chain (cellAt l r.cell).p r.p).1, r.p⟩, 0))
  else (zeroCell, 0)
/-- chapter 12's Next. -/
def nextE (l : List TCell) (r : TRec) : List TCell × Int :=
  if cellsE l ≠ 0 then ([], cellsE l) else if recE r ≠ 0 then ([], recE r) else
    if (cellAt l r.cell).open_ = decide (r.kind = 1 ∨ r.kind = 3) then ([], 6) else
      if (nextCell l r).2 ≠ 0 then ([], (nextCell l r).2) else (l.set r.cell.toNat (nextCell l r).1, 0)
def replayGo : List TRec → List TCell → List TCell × Int
  | [], c => (c, 0)
  | r :: l, c => if (nextE c r).2 ≠ 0 then ([], (nextE c r).2) else replayGo l (nextE c r).1
/-- chapter 12's Replay. -/
def replayE (l : List TRec) : List TCell × Int := if 40 < l.length then ([], 2) else replayGo l newCells
theorem nextE_ok {l : List TCell} {r : TRec} (h : (nextE l r).2 = 0) : cellsE l = 0 ∧ recE r = 0 ∧ (cellAt l r.cell).open_ ≠ decide (r.kind = 1 ∨ r.kind = 3) ∧ (nextCell l r).2 = 0 ∧ nextE l r = (l.set r.cell.toNat (nextCell l r).1, 0) := by
  unfold nextE at h ⊢
  split at h
  · rename_i h1; exact absurd h h1
  · rename_i h1
    split at h
    · rename_i h2; exact absurd h h2
    · rename_i h2
      split at h
      · simp at h
      · rename_i h3
        split at h
        · rename_i h4; exact absurd h h4
        · rename_i h4
          exact ⟨by simpa using h1, by simpa using h2, h3, by simpa using h4, by rw [if_neg h1, if_neg h2, if_neg h3, if_neg h4]⟩
theorem recE_ok {r : TRec} (h : recE r = 0) : 1 ≤ r.kind ∧ r.kind ≤ 4 ∧ 0 ≤ r.cell ∧ r.cell < 4 ∧ 0 ≤ r.from_ ∧ r.from_ < 4 ∧ (r.kind ≠ 3 → r.from_ = 0) ∧ (2 < r.kind → noPol r.p) ∧ (r.kind ≤ 2 → OkPol r.p) := by
  unfold recE at h
  split at h
  · simp at h
  · split at h
    · simp at h
    · split at h
      · simp at h
      · rename_i h1 h2 h3
        refine ⟨by omega, by omega, by omega, by omega, by omega, by omega, fun hk => ?_, fun hk => ?_, fun hk => ?_⟩
        · by_cases e : r.from_ = 0
          · exact e
          · exact absurd (.inl ⟨hk, e⟩) h3
        · by_cases e : noPol r.p
          · exact e
          · exact absurd (.inr ⟨hk, e⟩) h3
        · split at h
          · omega
          · exact (okPol_iff _).1 h
theorem mem_set {α : Type} {l : List α} {k : Nat} {a c : α} (h : c ∈ l.set k a) : c ∈ l ∨ c = a := List.mem_or_eq_of_mem_set h
theorem cellAt_mem {l : List TCell} (hl : l.length = 4) {k : Int} (h0 : 0 ≤ k) (h1 : k < 4) : cellAt l k ∈ l := by
  unfold cellAt
  rw [List.getD_eq_getElem?_getD, List.getElem?_eq_getElem (by omega)]
  exact List.getElem_mem (by omega)
/-- what a session is told to say. -/
def Means (c : TCell) : Prop := c.open_ = true → OkPol c.p ∧ chainE c.chain = 0 ∧ c.chain ≠ [] ∧ ∀ x : TCall, x.ok → asked c.chain x = says c.p x
theorem begin_ok {p : TPol} (h : (beginE p).2 = 0) : OkPol p ∧ codeE (filterL p) = 0 ∧ beginE p = (⟨true, [filterL p], p⟩, 0) := by
  unfold beginE at h ⊢
  split at h
  · rename_i h1; exact absurd h h1
  · rename_i h1
    obtain ⟨a, _, c, _⟩ := filterE_ok (p := p) (by simpa using h1)
    exact ⟨a, c, by rw [if_neg h1]⟩
theorem means_begin {p : TPol} (h : (beginE p).2 = 0) : Means (beginE p).1 ∧ cellE (beginE p).1 = 0 := by
  obtain ⟨a, b, c⟩ := begin_ok h
  rw [c]
  have hc : chainE [filterL p] = 0 := by rw [chainE_iff]; exact ⟨by simp, by simpa using b⟩
  refine ⟨fun _ => ⟨a, hc, by simp, fun x _ => asked_one a x⟩, ?_⟩
  unfold cellE
  simp only [if_true]
  rw [if_neg (by simp), if_neg (by rw [hc]; simp)]
  exact (okPol_iff _).2 a
/-- what becomes of the session that a record speaks of. -/
theorem means_next {l : List TCell} {r : TRec} (h : (nextE l r).2 = 0) (hm : ∀ c ∈ l, Means c) : Means (nextCell l r).1 ∧ cellE (nextCell l r).1 = 0 := by
  obtain ⟨h1, h2, h3, h4, _⟩ := nextE_ok h
  obtain ⟨k0, k1, c0, c1, f0, f1, e1, e2, e3⟩ := recE_ok h2
  obtain ⟨hl, _⟩ := (cellsE_iff l).1 h1
  unfold nextCell at h4 ⊢
  by_cases hk3 : r.kind = 3
  · rw [if_pos hk3] at h4 ⊢
    split at h4
    · rename_i ho; rw [if_pos ho]; exact means_begin h4
    · simp at h4
  · rw [if_neg hk3] at h4 ⊢
    by_cases hk1 : r.kind = 1
    · rw [if_pos hk1] at h4 ⊢; exact means_begin h4
    · rw [if_neg hk1] at h4 ⊢
      by_cases hk2 : r.kind = 2
      · rw [if_pos hk2] at h4 ⊢
        split at h4
        · rename_i ht; exact absurd h4 ht
        · rename_i ht
          rw [if_neg ht]
          have ht' : (tightE (cellAt l r.cell).chain (cellAt l r.cell).p r.p).2 = 0 := by simpa using ht
          have ho : (cellAt l r.cell).open_ = true := by
            have : decide (r.kind = 1 ∨ r.kind = 3) = false := by simp [hk1, hk3]
            rw [this] at h3
            simpa using h3
          obtain ⟨m1, m2, m3, m4⟩ := hm _ (cellAt_mem hl c0 c1) ho
          have hp := e3 (by omega)
          have hc := chain_tight ht'
          have hne : (tightE (cellAt l r.cell).chain (cellAt l r.cell).p r.p).1 ≠ [] := by
            rw [(tightE_ok ht').2.2.2.2]; simp
          refine ⟨fun _ => ⟨hp, hc, hne, fun x hx => tight_says ht' hx (m4 x hx)⟩, ?_⟩
          unfold cellE
          simp only [if_true]
          rw [if_neg hne, if_neg (by rw [hc]; simp)]
          exact (okPol_iff _).2 hp
      · rw [if_neg hk2]
        exact ⟨fun h => by simp [zeroCell] at h, by unfold cellE zeroCell; simp [noPol, zeroPol]⟩
theorem means_all {l : List TCell} {r : TRec} (h : (nextE l r).2 = 0) (hm : ∀ c ∈ l, Means c) : (∀ c ∈ (nextE l r).1, Means c) ∧ cellsE (nextE l r).1 = 0 := by
  obtain ⟨h1, _, _, _, h5⟩ := nextE_ok h
  obtain ⟨m1, m2⟩ := means_next h hm
  obtain ⟨hl, hc⟩ := (cellsE_iff l).1 h1
  rw [h5]
  refine ⟨fun c hcm => ?_, (cellsE_iff _).2 ⟨by simpa using hl, fun c hcm => ?_⟩⟩
  · rcases mem_set hcm with h | h
    · exact hm c h
    · subst h; exact m1
  · rcases mem_set hcm with h | h
    · exact hc c h
    · subst h; exact m2
theorem means_new : (∀ c ∈ newCells, Means c) ∧ cellsE newCells = 0 := by
  refine ⟨fun c hc => ?_, by decide⟩
  have : c = zeroCell := by simp [newCells] at hc; exact hc
  subst this
  exact fun h => by simp [zeroCell] at h
theorem means_replay : ∀ (l : List TRec) (c : List TCell), (∀ s ∈ c, Means s) → cellsE c = 0 → (replayGo l c).2 = 0 → (∀ s ∈ (replayGo l c).1, Means s) ∧ cellsE (replayGo l c).1 = 0
  | [], _, h1, h2, _ => ⟨h1, h2⟩
  | r :: l, c, h1, h2, h => by
    unfold replayGo at h ⊢
    by_cases hn : (nextE c r).2 ≠ 0
    · rw [if_pos hn] at h; exact absurd h hn
    · rw [if_neg hn] at h ⊢
      obtain ⟨a, b⟩ := means_all (by simpa using hn) h1
      exact means_replay l _ a b h
theorem replayE_ok {l : List TRec} (h : (replayE l).2 = 0) : l.length ≤ 40 ∧ replayE l = replayGo l newCells ∧ (∀ s ∈ (replayE l).1, Means s) ∧ cellsE (replayE l).1 = 0 := by
  unfold replayE at h ⊢
  split at h
  · simp at h
  · rename_i h1
    rw [if_neg h1]
    exact ⟨by omega, rfl, means_replay l newCells means_new.1 means_new.2 h⟩
theorem replayGo_append : ∀ (l m : List TRec) (c : List TCell), replayGo (l ++ m) c = if (replayGo l c).2 ≠ 0 then ([], (replayGo l c).2) else replayGo m (replayGo l c).1
  | [], m, c => by simp [replayGo]
  | r :: l, m, c => by
    have e : ∀ m : List TRec, replayGo (r :: m) c = if (nextE c r).2 ≠ 0 then ([], (nextE c r).2) else replayGo m (nextE c r).1 := fun _ => rfl
    rw [List.cons_append, e, e]
    by_cases hn : (nextE c r).2 ≠ 0
    · rw [if_pos hn, if_pos hn, if_pos hn]
    · rw [if_neg hn, if_neg hn]
      exact replayGo_append l m _
theorem cellAt_set {l : List TCell} (hl : l.length = 4) {k : Int} (h0 : 0 ≤ k) (h1 : k < 4) (c : TCell) (j : Int) : cellAt (l.set k.toNat c) j = if j.toNat = k.toNat then c else cellAt l j := by
  unfold cellAt
  rw [List.getD_eq_getElem?_getD, List.getElem?_set]
  by_cases e : j.toNat = k.toNat
  · rw [if_pos e.symm, if_pos (by omega), if_pos e]; rfl
  · rw [if_neg (fun h => e h.symm), if_neg e]; rfl
/-- WHILE IT IS OPEN A SESSION GETS STRICTER ALONE. -/
theorem next_strict {l : List TCell} {r : TRec} (h : (nextE l r).2 = 0) (ho : (cellAt l r.cell).open_ = true) (ho' : (nextCell l r).1.open_ = true) :
    (tightE (cellAt l r.cell).chain (cellAt l r.cell).p r.p).2 = 0 ∧ (nextCell l r).1 = ⟨true, (tightE (cellAt l r.cell).chain (cellAt l r.cell).p r.p).1, r.p⟩ ∧ (nextCell l r).1.chain.length = (cellAt l r.cell).chain.length + 1 := by
  obtain ⟨h1, h2, h3, h4, _⟩ := nextE_ok h
  rw [ho] at h3
  have hk : ¬ (r.kind = 1 ∨ r.kind = 3) := fun e => h3 (by simp [e])
  unfold nextCell at h4 ho' ⊢
  rw [if_neg (fun e => hk (.inr e)), if_neg (fun e => hk (.inl e))] at h4 ho' ⊢
  by_cases hk2 : r.kind = 2
  · rw [if_pos hk2] at h4 ho' ⊢
    split at h4
    · rename_i ht; exact absurd h4 ht
    · rename_i ht
      rw [if_neg ht]
      have ht' : (tightE (cellAt l r.cell).chain (cellAt l r.cell).p r.p).2 = 0 := by simpa using ht
      refine ⟨ht', rfl, ?_⟩
      show (tightE _ _ _).1.length = _
      rw [(tightE_ok ht').2.2.2.2]; simp
  · rw [if_neg hk2] at ho'
    simp [zeroCell] at ho'
end Go.Proofs.YtkiipnbjckdlbaaGreatDoor
namespace Go.Proofs.YtkiipnbjckdlbaaGreatDoor
open Go.RowKit

theorem index5 (x : TCall) (k : Nat) (h : k < 5) (w : World) : (Instr.index 24 (callV x) (.int .i64 (k : Int))).run Tryz.prog w = .ok (.int .i64 (x.get k)) w := by
  have hk : k = 0 ∨ k = 1 ∨ k = 2 ∨ k = 3 ∨ k = 4 := by omega
  rcases hk with rfl | rfl | rfl | rfl | rfl <;> (change _ = _; kernel_rfl)
theorem cell5 (x : TCall) (k : Nat) (h : k < 5) : (#[Value.int .i64 x.a0, .int .i64 x.a1, .int .i64 x.a2, .int .i64 x.a3, .int .i64 x.a4] : Array Value)[k]? = some (.int .i64 (x.get k)) := by
  match k, h with
  | 0, _ => rfl
  | 1, _ => rfl
  | 2, _ => rfl
  | 3, _ => rfl
  | 4, _ => rfl

theorem most_any (k : Int) (w : World) : Calls Tryz.prog 79 #[.int .i64 k] w fun e w' => e = .returned (.int .i64 (mostOf k)) ∧ w = w' := by
  by_cases h0 : k = 0
  · have b0 : (k == 0) = true := by simpa using h0
    have e : mostOf k = 63 := by simp [mostOf, h0]
    rw [e]; clear h0 e
    go_enter Tryz.func79, Tryz.ntmps79
    go_wp2
    go_ret
    exact ⟨rfl, rfl⟩
  · have b0 : (k == 0) = false := by simpa using h0
    by_cases h1 : k = 1
    · have b1 : (k == 1) = true := by simpa using h1
      have e : mostOf k = 3 := by simp [mostOf, h1]
      rw [e]; clear h0 h1 e
      go_enter Tryz.func79, Tryz.ntmps79
      go_wp2
      go_ret
      exact ⟨rfl, rfl⟩
    · have b1 : (k == 1) = false := by simpa using h1
      have e : mostOf k = 65535 := by simp [mostOf, h0, h1]
      rw [e]; clear h0 h1 e
      go_enter Tryz.func79, Tryz.ntmps79
      go_wp2
      go_ret
      exact ⟨rfl, rfl⟩

/-- how many of the first k fields are right, as a loop's word. -/
def okTo (x : TCall) (k : Nat) : Prop := ∀ j : Nat, j < k → 0 ≤ x.get j ∧ x.get j ≤ mostOf j
theorem okTo_all {x : TCall} (h : okTo x 5) : callE x = 0 := if_pos (TCall.ok_of h)
theorem okTo_not {x : TCall} {k : Nat} (hk : k < 5) (h : ¬ (0 ≤ x.get k ∧ x.get k ≤ mostOf k)) : callE x = 3 := if_neg fun hx => h (TCall.ok_get hx hk)

set_option maxHeartbeats 1000000 in
theorem callcheck_any (x : TCall) (w : World) : Calls Tryz.prog 44 #[callV x] w fun e w' => e = .returned (.int .i64 (callE x)) ∧ Below w.heap.size w w' := by
  go_enter Tryz.func44, Tryz.ntmps44
  go_wp2_with fail
  go_loop [6] (fun i => ∃ k : Nat, k ≤ 5 ∧ i = .int .i64 k ∧ Hid (okTo x k)) (fun i => 5 - (intOf i).toNat)
  case atStart => exact ⟨0, by omega, rfl, fun j hj => absurd hj (by omega)⟩
  case round =>
    obtain ⟨k, hk, rfl, hok⟩ := hrel
    by_cases hlt : k < 5
    · have hi := fun W => index5 x k hlt W
      by_cases h1 : x.get k < 0
      · have he := Lib.hid (okTo_not hlt (x := x) (by omega))
        go_wp2_with (go_at_call 79; refine (most_any _ _).mono ?_; rintro e w1 ⟨rfl, rfl⟩)
        go_ret
        exact ⟨ret_int he.out.symm, bel_alloc (Below.refl _ _) _⟩
      · by_cases h2 : mostOf k < x.get k
        · have he := Lib.hid (okTo_not hlt (x := x) (by omega))
          go_wp2_with (go_at_call 79; refine (most_any _ _).mono ?_; rintro e w1 ⟨rfl, rfl⟩)
          go_ret
          exact ⟨ret_int he.out.symm, bel_alloc (Below.refl _ _) _⟩
        · go_wp2_with (go_at_call 79; refine (most_any _ _).mono ?_; rintro e w1 ⟨rfl, rfl⟩)
          go_round
          case rel =>
            refine ⟨k + 1, by omega, by go_num, fun j hj => ?_⟩
            by_cases e : j = k
            · subst e; omega
            · exact hok.out j (by omega)
          case measure => simp [intOf]; omega
    · obtain rfl : k = 5 := by omega
      go_wp2
      go_ret
      exact ⟨ret_int (okTo_all hok.out).symm, bel_alloc (Below.refl _ _) _⟩

def inB (n a b : Int) : Bool := decide (a ≤ n ∧ n ≤ b)
theorem inB_yes {n a b : Int} (h : a ≤ n) (h' : n ≤ b) : inB n a b = true := by simp [inB, h, h']
theorem inB_no {n a b : Int} (h : ¬ (a ≤ n ∧ n ≤ b)) : inB n a b = false := by unfold inB; exact decide_eq_false h
theorem in_any (n a b : Int) (w : World) : Calls Tryz.prog 62 #[.int .i64 n, .int .i64 a, .int .i64 b] w fun e w' => e = .returned (.bool (inB n a b)) ∧ w = w' := by
  go_enter Tryz.func62, Tryz.ntmps62
  go_wp2
  all_goals go_ret
  all_goals refine ⟨ret_bool ?_, rfl⟩
  · rename_i h1; simp [inB, h1]
  · rename_i h1; have h2 : ¬ a ≤ n := by omega
    simp [inB, h2]
def mostMap : Array MapEntry := #[⟨.int .i64 0, .int .i64 63, 0⟩, ⟨.int .i64 1, .int .i64 3, 1⟩]
theorem most_find0 : Instr.findNow (.int .i64) (.int .i64 0) mostMap.toList 0 = some (some (0, .int .i64 63)) := rfl
theorem most_find1 : Instr.findNow (.int .i64) (.int .i64 1) mostMap.toList 0 = some (some (1, .int .i64 3)) := rfl
theorem most_find2 {k : Int} (h0 : k ≠ 0) (h1 : k ≠ 1) : Instr.findNow (.int .i64) (.int .i64 k) mostMap.toList 0 = some none := by
  have b0 : (k == 0) = false := beq_eq_false_iff_ne.2 h0
  have b1 : (k == 1) = false := beq_eq_false_iff_ne.2 h1
  simp [mostMap, Instr.findNow, Instr.sameNow, b0, b1]
theorem mostof_find (k : Int) : ∃ f, Instr.findNow (.int .i64) (.int .i64 k) mostMap.toList 0 = some f ∧ ((f = none ∧ mostOf k = 65535) ∨ ∃ j, f = some (j, .int .i64 (mostOf k))) := by
  by_cases h0 : k = 0
  · subst h0; exact ⟨_, most_find0, .inr ⟨_, rfl⟩⟩
  · by_cases h1 : k = 1
    · subst h1; exact ⟨_, most_find1, .inr ⟨_, rfl⟩⟩
    · exact ⟨_, most_find2 h0 h1, .inl ⟨rfl, by simp [mostOf, h0, h1]⟩⟩

theorem mostof_any (k : Int) (w : World) : Calls Tryz.prog 43 #[.int .i64 k] w fun e w' => e = .returned (.int .i64 (mostOf k)) ∧ Below w.heap.size w w' := by
  have hmm := @run_makeMap Tryz.prog
  have h1 := run_insert_new (P := Tryz.prog) (w := w) (t := 110) (es := #[]) (c := 0) (key := .int .i64 0) (v := .int .i64 63) Tryz.underlying110 Tryz.underlying3 rfl rfl
  have h2 := run_insert_new (P := Tryz.prog) (w := w) (t := 110) (es := #[⟨.int .i64 0, .int .i64 63, 0⟩]) (c := 1) (key := .int .i64 1) (v := .int .i64 3) Tryz.underlying110 Tryz.underlying3 rfl rfl
  have hz : (zeroValue 3).run Tryz.prog (w.alloc (.map mostMap 2)) = .ok (.int .i64 0) (w.alloc (.map mostMap 2)) := by kernel_rfl
  simp only [List.push_toArray, List.nil_append, List.cons_append, Nat.reduceAdd] at h1 h2
  obtain ⟨f, hf, hv⟩ := mostof_find k
  have h3 := run_lookup_ok (key := .int .i64 k) (t := 110) Tryz.underlying110 Tryz.underlying3 (heap_last w (.map mostMap 2)) hz rfl hf
  unfold mostMap at h3
  clear hz hf
  rcases hv with ⟨rfl, hv⟩ | ⟨j, rfl⟩
  · rw [hv]; clear hv
    simp only [Option.map_none, Option.getD_none, Option.isSome_none] at h3
    go_enter Tryz.func43, Tryz.ntmps43
    go_wp2
    go_ret
    exact ⟨rfl, bel_alloc (Below.refl _ _) _⟩
  · simp only [Option.map_some, Option.getD_some, Option.isSome_some] at h3
    go_enter Tryz.func43, Tryz.ntmps43
    go_wp2
    go_ret
    exact ⟨rfl, bel_alloc (Below.refl _ _) _⟩
end Go.Proofs.YtkiipnbjckdlbaaGreatDoor
namespace Go.Proofs.YtkiipnbjckdlbaaGreatDoor
open Go.RowKit

set_option maxHeartbeats 4000000 in
theorem ins_any (k a b c n : Int) (w : World) : Calls Tryz.prog 91 #[.agg #[.int .i64 k, .int .i64 a, .int .i64 b, .int .i64 c], .int .i64 n] w fun e w' => e = .returned (.int .i64 (insE ⟨k,a,b,c⟩ n)) ∧ Below w.heap.size w w' := by
  go_enter Tryz.func91, Tryz.ntmps91
  go_wp2
  all_goals go_ret
  all_goals (refine ⟨ret_int ?_, (Below.refl _ _).alloc (Nat.le_refl _) _⟩)
  all_goals (simp only [beq_iff_eq, bne_iff_ne, beq_eq_false_iff_ne, bne_eq_false_iff_eq] at *)
  all_goals (simp [insE])
  all_goals ((repeat' split) <;> first | rfl | omega)

set_option maxHeartbeats 1000000 in
theorem codecheck_any (v : Value) (l : List TIns) (D : Nat → Prop) (w : World) (h : RdCode w D v l) : Calls Tryz.prog 57 #[v] w fun e w' => e = .returned (.int .i64 (codeE l)) ∧ Below w.heap.size w w' := by
  obtain ⟨a, c, rfl, hlc, hcm, hat⟩ := Sl.form h
  have H := Lib.hid h
  clear h
  by_cases h0 : l.length = 0
  · have b0 : ((l.length : Int) == 0) = true := by simp [h0]
    have hs : codeE l = 2 := by simp [codeE, h0]
    rw [hs]; clear hs hat H h0
    go_enter Tryz.func57, Tryz.ntmps57
    go_wp2
    go_ret
    exact ⟨rfl, Below.refl _ _⟩
  · by_cases h1 : 1500 < l.length
    · have b0 : ((l.length : Int) == 0) = false := beq_eq_false_iff_ne.2 (by omega)
      have hs : codeE l = 2 := by simp [codeE, h1]
      rw [hs]; clear hs hat H
      go_enter Tryz.func57, Tryz.ntmps57
      go_wp2
      go_ret
      exact ⟨rfl, Below.refl _ _⟩
    · obtain ⟨b, o, rfl, hDb, hb⟩ := hat (by omega)
      have b0 : ((l.length : Int) == 0) = false := beq_eq_false_iff_ne.2 (by omega)
      have b1 : ¬ (1500 < (l.length : Int)) := by omega
      have hE := Lib.hid (show codeE l = if codeGo l ≠ 0 then codeGo l else if lastK l = 4 then 0 else 4 from if_neg (by omega))
      clear hat
      go_enter Tryz.func57, Tryz.ntmps57
      go_wp2_with fail
      go_loopw [16] (fun i wr => ∃ k : Nat, k ≤ l.length ∧ i = .int .i64 k ∧ codeGo l = codeGo (l.drop k) ∧ Below w.heap.size w wr) (fun i _ => l.length - (intOf i).toNat)
      case atStart => exact ⟨0, by omega, rfl, rfl, Below.refl _ _⟩
      case round =>
        obtain ⟨k, hk, rfl, hgo, hbw⟩ := hrel
        have Hgo := Lib.hid hgo
        clear hgo
        by_cases hlt : k < l.length
        · obtain ⟨c0, c1, c2, c3⟩ := RdCode.cells (RdCode.below H.out hbw) hlt
          have Hd := Lib.hid (codeGo_drop l k hlt)
          have hsz := hbw.size
          go_wp2_with (go_at_call 91; refine (ins_any _ _ _ _ _ _).mono ?_; rintro e w1 ⟨rfl, hb1⟩)
          · rename_i ht
            have ht' := bne_iff_ne.1 ht
            go_ret
            refine ⟨ret_int ?_, bel_alloc_call hbw hb1⟩
            rw [hE.out, Hgo.out, Hd.out]
            simp only [ht', if_false, ne_eq, not_false_eq_true, if_true]
          · rename_i ht
            have ht' := bne_eq_false_iff_eq.1 ht
            go_roundw
            case rel => exact ⟨k + 1, by omega, by go_num, by rw [Hgo.out, Hd.out, if_pos ht'], bel_alloc_call hbw hb1⟩
            case measure => simp [intOf]; omega
        · obtain rfl : k = l.length := by omega
          have hz : codeGo l = 0 := by rw [Hgo.out, List.drop_length]; rfl
          have Hz := Lib.hid hz
          have hl1 : l.length - 1 < l.length := by omega
          obtain ⟨c0, _, _, _⟩ := RdCode.cells (RdCode.below H.out hbw) hl1
          have Hl := Lib.hid (lastK_eq l (by omega))
          clear hz
          by_cases h4 : l[l.length - 1].k = 4
          · rw [h4] at c0
            have Hf := Lib.hid (show codeE l = 0 by rw [hE.out, Hz.out, Hl.out, h4]; simp)
            clear h4
            go_wp2
            go_ret
            exact ⟨ret_int Hf.out.symm, hbw⟩
          · have b4 : (l[l.length - 1].k != 4) = true := bne_iff_ne.2 h4
            have Hf := Lib.hid (show codeE l = 4 by rw [hE.out, Hz.out, Hl.out, if_neg h4]; simp)
            clear h4
            go_wp2
            go_ret
            exact ⟨ret_int Hf.out.symm, hbw⟩
end Go.Proofs.YtkiipnbjckdlbaaGreatDoor
namespace Go.Proofs.YtkiipnbjckdlbaaGreatDoor
open Go.RowKit
attribute [local go_sem] gives givesUpon

set_option maxHeartbeats 1000000 in
theorem rcheckcall_any (x : TCall) (w : World) : Calls Tryz.prog 26 #[callV x] w fun e w' => e = .returned (.int .i64 (callE x)) ∧ Below w.heap.size w w' := by
  go_enter Tryz.func26, Tryz.ntmps26
  go_wp2_with fail
  go_loopw [4] (fun i wr => ∃ k : Nat, k ≤ 5 ∧ i = .int .i64 k ∧ Hid (okTo x k) ∧ Below (w.heap.size + 1) (w.alloc (.cells #[.int .i64 x.a0, .int .i64 x.a1, .int .i64 x.a2, .int .i64 x.a3, .int .i64 x.a4] 24)) wr) (fun i _ => 5 - (intOf i).toNat)
  case atStart => exact ⟨0, by omega, rfl, fun j hj => absurd hj (by omega), Below.refl _ _⟩
  case round =>
    obtain ⟨k, hk, rfl, hok, hb⟩ := hrel
    have hbel : Below w.heap.size w wr := (bel_alloc (Below.refl _ _) _).trans (hb.mono (by omega))
    have Hb := Lib.hid hbel
    have hsz : w.heap.size + 1 ≤ wr.heap.size := by have := hb.size; simp at this; omega
    clear hbel
    by_cases hlt : k < 5
    · have hc : ∀ W, Cls (w.heap.size + 1) wr W → W.cell? ⟨w.heap.size, k, none⟩ = some (.int .i64 (x.get k)) := fun W hW => by
        rw [hW.2.cell (p := ⟨w.heap.size, k, none⟩) (by simp), hb.cell (p := ⟨w.heap.size, k, none⟩) (by simp), World.cell?_alloc_at _ _ _ _ rfl]
        exact cell5 x k hlt
      have Hc := Lib.hid hc
      clear hc
      go_wp2_with fail
      refine wp_region_exact (w.heap.size + 1) hsz (by kernel_rfl) (by kernel_rfl) ?_
      repeat (refine monoE_step (fun K hK => ?_); apply Exists.intro; refine ⟨fun W hC R hR => ?_, ?_⟩; (first
        | (have := Hc.out W hC; go_simp; exact hR _ _ (Below.refl _ _) rfl)
        | (go_simp; go_at_call 43; refine (mostof_any _ _).mono ?_; rintro e w1 ⟨rfl, hb1⟩; exact ⟨_, rfl, hR _ _ hb1 rfl⟩)
        | (go_simp; go_at_call 62; refine (in_any _ _ _ _).mono ?_; rintro e w1 ⟨rfl, rfl⟩; exact ⟨_, rfl, hR _ _ (Below.refl _ _) rfl⟩)); (go_simp; refine hK _ ?_; clear hK K))
      intro w2 hC2
      have fin : ∀ hr : ¬ (0 ≤ x.get k ∧ x.get k ≤ mostOf k), Ending.returned (.int .i64 3) = .returned (.int .i64 (callE x)) ∧ Below w.heap.size w w2 := fun hr => ⟨ret_int (okTo_not hlt hr).symm, Hb.out.trans (hC2.2.mono (by omega))⟩
      by_cases hr : 0 ≤ x.get k ∧ x.get k ≤ mostOf k
      · have hnx : okTo x (k + 1) := fun j hj => by
          by_cases e : j = k
          · subst e; exact hr
          · exact hok.out j (by omega)
        have Hnx := Lib.hid hnx
        have d := inB_yes hr.1 hr.2
        clear hnx fin hr
        simp only [d, Bool.not_true]
        go_wp2
        go_roundw
        case rel => exact ⟨k + 1, by omega, by go_num, Hnx, hb.trans hC2.2⟩
        case measure => simp [intOf]; omega
      · have Hf := Lib.hid (fin hr)
        have d := inB_no hr
        clear fin hr
        simp only [d, Bool.not_false]
        go_wp2
        go_ret
        exact Hf.out
    · obtain rfl : k = 5 := by omega
      go_wp2
      go_ret
      exact ⟨ret_int (okTo_all hok.out).symm, Hb.out⟩

/-- What the loop of Run holds. -/
def RunAt (x : TCall) (l : List TIns) (k : Nat) (n : Int) (d : Nat) : Prop := ∃ f, (l.drop k).length ≤ f ∧ run l x = runGo x f (l.drop k) n d
theorem RunAt.start (x : TCall) (l : List TIns) : RunAt x l 0 0 0 := ⟨l.length, by simp, rfl⟩
theorem RunAt.ret {x : TCall} {l : List TIns} {k : Nat} {n : Int} {d : Nat} (h : RunAt x l k n d) (hk : k < l.length) (h4 : l[k].k = 4) : run l x = (l[k].a, d + 1) := by
  obtain ⟨f, hf, hr⟩ := h
  rw [hr, runGo_ret x f l n d k hk hf h4]
theorem RunAt.load {x : TCall} {l : List TIns} {k : Nat} {n : Int} {d : Nat} (h : RunAt x l k n d) (hk : k < l.length) (h1 : l[k].k = 1) : RunAt x l (k + 1) (x.get l[k].a) (d + 1) := by
  obtain ⟨f, hf, hr⟩ := h
  obtain ⟨f', hf', hs⟩ := runGo_step x f l n d k hk hf (by omega)
  exact ⟨f', hf', by rw [hr, hs, if_pos h1]⟩
theorem RunAt.jump {x : TCall} {l : List TIns} {k : Nat} {n : Int} {d : Nat} (h : RunAt x l k n d) (hk : k < l.length) (h1 : l[k].k = 2 ∨ l[k].k = 3) : RunAt x l (k + 1 + insNext l[k] n) n (d + 1) := by
  obtain ⟨f, hf, hr⟩ := h
  obtain ⟨f', hf', hs⟩ := runGo_step x f l n d k hk hf (by omega)
  exact ⟨f', by simp at hf' ⊢; omega, by rw [hr, hs, if_neg (by omega)]⟩

set_option maxHeartbeats 2000000 in
theorem run_ok (v : Value) (l : List TIns) (x : TCall) (D : Nat → Prop) (w : World) (h : RdCode w D v l) (hc : codeE l = 0) (hx : x.ok) :
    Calls Tryz.prog 45 #[v, callV x] w fun e w' => e = .returned (.tuple #[.int .i64 (run l x).1, .int .i64 (run l x).2, .int .i64 0]) ∧ Below w.heap.size w w' := by
  obtain ⟨hR, hl⟩ := right_of hc
  have hpos : 0 < l.length := List.length_pos_iff.2 hR.ne
  obtain ⟨a, c, rfl, hlc, hcm, hat⟩ := Sl.form h
  obtain ⟨b, o, rfl, hDb, hb⟩ := hat hpos
  have H := Lib.hid h
  have HR := Lib.hid hR
  have Hc := Lib.hid hc
  have Hx := Lib.hid hx
  have hxe : Hid (callE x = 0) := if_pos hx
  clear h hR hc hx hat
  go_enter Tryz.func45, Tryz.ntmps45
  go_wp2_with (first
    | (go_at_call 57; refine (codecheck_any _ _ _ _ (RdCode.below H.out (bel_alloc (Below.refl _ _) _))).mono ?_; rw [Hc.out]; rintro e w1 ⟨rfl, hb1⟩; have hb1' : Below (w.heap.size + 1) _ w1 := hb1.mono (by simp); have hcell := box_cells hb1'; clear hb1)
    | (go_at_call 44; refine (callcheck_any x _).mono ?_; rw [hxe.out]; rintro e w2 ⟨rfl, hb2⟩; have hb2' := hb1'.trans (hb2.mono (size_box hb1')); clear hb2 hb1' hcell))
  go_loopw [9, 10, 11] (fun n d at_ wr => ∃ (k dn : Nat) (nn : Int), k < l.length ∧ dn ≤ k ∧ n = .int .i64 nn ∧ d = .int .i64 dn ∧ at_ = .int .i64 k ∧ RunAt x l k nn dn ∧ Below (w.heap.size + 1) (w.alloc (.cells #[.int .i64 x.a0, .int .i64 x.a1, .int .i64 x.a2, .int .i64 x.a3, .int .i64 x.a4] 24)) wr) (fun _ _ i _ => l.length - (intOf i).toNat)
  case atStart => exact ⟨0, 0, 0, hpos, by omega, rfl, rfl, rfl, RunAt.start x l, hb2'⟩
  case round =>
    obtain ⟨k, dn, nn, hk, hdn, rfl, rfl, rfl, hrun, hbx⟩ := hrel
    have Hrun := Lib.hid hrun
    have hsz := size_box hbx
    obtain ⟨c0, c1, c2, c3⟩ := RdCode.cells (RdCode.below H.out (bel_box hbx)) hk
    have hcell := box_cells hbx
    have hfrz : True := trivial
    obtain ⟨hi, hn4⟩ := HR.out.at_ hk
    have Hn4 := Lib.hid hn4
    clear hrun hn4 hb2'
    rcases insE_cases hi with ⟨h4, h5, h6, h7, h8⟩ | ⟨h1, h5, h6, h7, h8⟩ | ⟨h23, h5, h6, h7, h8, h9, h10⟩
    · rw [h4] at c0
      have Hr := Lib.hid (Hrun.out.ret hk h4)
      clear hi h4 h5 h6 h7 h8
      go_wp2
      go_ret3
      exact ⟨by rw [Hr.out]; simp, bel_alloc (bel_box hbx) _⟩
    · obtain ⟨m, hm⟩ := Int.eq_ofNat_of_zero_le h5
      have Hn := Lib.hid (Hrun.out.load hk h1)
      have hk1 := Hn4.out (by omega)
      rw [h1] at c0
      rw [hm] at c1 Hn
      have hm5 : m < 5 := by omega
      have hcm := hcell m
      rw [cell5 x m hm5] at hcm
      have hcm' : ∀ o, (wr.alloc o).cell? ⟨w.heap.size, m, none⟩ = some (.int .i64 (x.get m)) := fun o => (World.cell?_alloc_lt wr o ⟨w.heap.size, m, none⟩ (show w.heap.size < wr.heap.size by omega)).trans hcm
      clear hi h1 h5 h6 h7 h8 hm hcell Hrun
      go_wp2
      go_roundw
      case rel => exact ⟨k + 1, dn + 1, _, hk1, by omega, rfl, by go_num, by go_num, Hn.out, hbx.trans ((Below.refl _ _).alloc (size_box hbx) _)⟩
      case measure => simp [intOf]; omega
    · obtain ⟨mb, hmb⟩ := Int.eq_ofNat_of_zero_le h7
      obtain ⟨mc, hmc⟩ := Int.eq_ofNat_of_zero_le h9
      have Hn := Lib.hid (Hrun.out.jump hk h23)
      rw [hmb] at c2
      rw [hmc] at c3
      have hx : Hid (insNext l[k] nn = if (l[k].k = 2 ∧ nn = l[k].a) ∨ (l[k].k = 3 ∧ nn < l[k].a) then mb else mc) := by unfold insNext; rw [hmb, hmc]; rfl
      have hb1 : k + 1 + mb < l.length := by omega
      have hb2 : k + 1 + mc < l.length := by omega
      clear hi h5 h6 h7 h8 h9 h10 hmb hmc hcell Hrun
      have fin : ∀ (m : Nat) , k + 1 + m < l.length → insNext l[k] nn = m → ∀ wz, Below w.heap.size w wz → True := fun _ _ _ _ _ => trivial
      rcases h23 with h2 | h3
      · rw [h2] at c0
        by_cases he : nn = l[k].a
        · have be : (nn == l[k].a) = true := beq_iff_eq.2 he
          have Hm : Hid (insNext l[k] nn = mb) := by rw [hx.out]; exact if_pos (.inl ⟨h2, he⟩)
          clear he h2 hx fin
          go_wp2
          go_roundw
          case rel => exact ⟨k + 1 + mb, dn + 1, nn, hb1, by omega, rfl, by go_num, by go_num, by have := Hn.out; rwa [Hm.out] at this, hbx.trans ((Below.refl _ _).alloc (size_box hbx) _)⟩
          case measure => simp [intOf]; omega
        · have be : (nn == l[k].a) = false := beq_eq_false_iff_ne.2 he
          have Hm : Hid (insNext l[k] nn = mc) := by rw [hx.out]; exact if_neg (by omega)
          clear he h2 hx fin
          go_wp2
          go_roundw
          case rel => exact ⟨k + 1 + mc, dn + 1, nn, hb2, by omega, rfl, by go_num, by go_num, by have := Hn.out; rwa [Hm.out] at this, hbx.trans ((Below.refl _ _).alloc (size_box hbx) _)⟩
          case measure => simp [intOf]; omega
      · rw [h3] at c0
        by_cases he : nn < l[k].a
        · have Hm : Hid (insNext l[k] nn = mb) := by rw [hx.out]; exact if_pos (.inr ⟨h3, he⟩)
          clear h3 hx fin
          go_wp2
          go_roundw
          case rel => exact ⟨k + 1 + mb, dn + 1, nn, hb1, by omega, rfl, by go_num, by go_num, by have := Hn.out; rwa [Hm.out] at this, hbx.trans ((Below.refl _ _).alloc (size_box hbx) _)⟩
          case measure => simp [intOf]; omega
        · have Hm : Hid (insNext l[k] nn = mc) := by rw [hx.out]; exact if_neg (by omega)
          clear h3 hx fin
          go_wp2
          go_roundw
          case rel => exact ⟨k + 1 + mc, dn + 1, nn, hb2, by omega, rfl, by go_num, by go_num, by have := Hn.out; rwa [Hm.out] at this, hbx.trans ((Below.refl _ _).alloc (size_box hbx) _)⟩
          case measure => simp [intOf]; omega

theorem run_any (v : Value) (l : List TIns) (x : TCall) (D : Nat → Prop) (w : World) (h : RdCode w D v l) :
    Calls Tryz.prog 45 #[v, callV x] w fun e w' => e = .returned (.tuple #[.int .i64 (runE l x).1, .int .i64 (runE l x).2.1, .int .i64 (runE l x).2.2]) ∧ Below w.heap.size w w' := by
  by_cases hc : codeE l = 0
  · by_cases hx : x.ok
    · have e : runE l x = ((run l x).1, ((run l x).2 : Int), 0) := by unfold runE; rw [if_neg (by omega), if_pos hx]
      rw [e]
      exact run_ok v l x D w h hc hx
    · have e : runE l x = (0, 0, 3) := by unfold runE; rw [if_neg (by omega), if_neg hx]
      have H := Lib.hid h
      have Hc := Lib.hid hc
      have hxe : Hid (callE x = 3) := if_neg hx
      rw [e]
      clear h e hc hx
      go_enter Tryz.func45, Tryz.ntmps45
      go_wp2_with (first
        | (go_at_call 57; refine (codecheck_any _ _ _ _ (RdCode.below H.out (bel_alloc (Below.refl _ _) _))).mono ?_; rw [Hc.out]; rintro e w1 ⟨rfl, hb1⟩; have hb1' : Below (w.heap.size + 1) _ w1 := hb1.mono (by simp); have hcell := box_cells hb1'; clear hb1)
        | (go_at_call 44; refine (callcheck_any x _).mono ?_; rw [hxe.out]; rintro e w2 ⟨rfl, hb2⟩; have hb2' := hb1'.trans (hb2.mono (size_box hb1')); clear hb2 hb1' hcell))
      go_ret3
      exact ⟨rfl, bel_box hb2'⟩
  · have e : runE l x = (0, 0, codeE l) := by unfold runE; rw [if_pos hc]
    have H := Lib.hid h
    have be : (codeE l != 0) = true := bne_iff_ne.2 hc
    rw [e]
    clear h e hc
    go_enter Tryz.func45, Tryz.ntmps45
    go_wp2_with (first
      | (go_at_call 57; refine (codecheck_any _ _ _ _ (RdCode.below H.out (bel_alloc (Below.refl _ _) _))).mono ?_; rintro e w1 ⟨rfl, hb1⟩; have hb1' : Below (w.heap.size + 1) _ w1 := hb1.mono (by simp); clear hb1))
    go_ret3
    exact ⟨rfl, bel_box hb1'⟩
end Go.Proofs.YtkiipnbjckdlbaaGreatDoor
namespace Go.Proofs.YtkiipnbjckdlbaaGreatDoor
open Go.RowKit

/-- W is w with these blocks behind it, and more behind those. -/
structure Bx (w : World) (bs : List Obj) (W : World) : Prop where
  bel : Below w.heap.size w W
  at_ : ∀ (i : Nat) (o : Obj), bs[i]? = some o → W.heap[w.heap.size + i]? = some o
section
variable {w W W' : World} {bs : List Obj}
theorem Bx.nil : Bx w [] w := ⟨Below.refl _ _, fun i o h => by simp at h⟩
theorem Bx.push (h : Bx w bs W) (hs : W.heap.size = w.heap.size + bs.length) (o : Obj) : Bx w (bs ++ [o]) (W.alloc o) := by
  refine ⟨bel_alloc h.bel o, fun i x hx => ?_⟩
  rw [List.getElem?_append] at hx
  split at hx
  · exact blk_old (h.at_ i x hx)
  · rename_i hge
    have hi : i - bs.length = 0 := by
      have := (List.getElem?_eq_some_iff.1 hx).1
      simp at this; exact this
    rw [hi] at hx
    simp at hx
    subst hx
    exact blk_at (by omega)
theorem Bx.two {o o' : Obj} : Bx w [o, o'] ((w.alloc o).alloc o') := (Bx.nil.push (by simp) o).push (by simp) o'
theorem Bx.one {o : Obj} : Bx w [o] (w.alloc o) := Bx.nil.push (by simp) o
theorem Bx.three {o o' o2 : Obj} : Bx w [o, o', o2] (((w.alloc o).alloc o').alloc o2) := Bx.two.push (by simp) o2
theorem Bx.below (h : Bx w bs W) (hb : Below W.heap.size W W') : Bx w bs W' := ⟨bel_call h.bel hb, fun i o ho => blk_below (h.at_ i o ho) hb⟩
theorem Bx.alloc (h : Bx w bs W) (o : Obj) : Bx w bs (W.alloc o) := h.below (bel_alloc (Below.refl _ _) o)
theorem Bx.lift {B : Nat} (h : Bx w bs W) (hb : Below B W W') (hB : w.heap.size + bs.length ≤ B) : Bx w bs W' := ⟨h.bel.trans (hb.mono (by omega)), fun i o ho => (hb.block _ (by have := (List.getElem?_eq_some_iff.1 ho).1; omega)).trans (h.at_ i o ho)⟩
theorem Bx.top (h : Bx w bs W) : w.heap.size + bs.length ≤ W.heap.size := by
  rcases Nat.eq_zero_or_pos bs.length with h0 | h0
  · have := h.bel.size; omega
  · have hl : bs.length - 1 < bs.length := by omega
    have := (Array.getElem?_eq_some_iff.1 (h.at_ (bs.length - 1) _ (List.getElem?_eq_getElem hl))).1
    omega
theorem Bx.drew (h : Bx w bs W) : Bx w bs W.drew := h.below (Below.refl _ _).drew
theorem Bx.cells (h : Bx w bs W) {i : Nat} {cs : Array Value} {T : TypeId} (hi : bs[i]? = some (.cells cs T)) (j : Nat) : W.cell? ⟨w.heap.size + i, j, none⟩ = cs[j]? := cells_of (h.at_ i _ hi) j
theorem Bx.free (h : Bx w bs W) {i : Nat} {cs : Array Value} {T : TypeId} (hi : bs[i]? = some (.cells cs T)) (j : Nat) : W.frozen? ⟨w.heap.size + i, j, none⟩ = false := not_frozen (h.at_ i _ hi) j
theorem Bx.cells0 {cs : Array Value} {T : TypeId} {r : List Obj} (h : Bx w (.cells cs T :: r) W) (j : Nat) : W.cell? ⟨w.heap.size, j, none⟩ = cs[j]? := h.cells (i := 0) rfl j
theorem Bx.cells1 {o : Obj} {cs : Array Value} {T : TypeId} {r : List Obj} (h : Bx w (o :: .cells cs T :: r) W) (j : Nat) : W.cell? ⟨w.heap.size + 1, j, none⟩ = cs[j]? := h.cells (i := 1) rfl j
theorem Bx.cells2 {o o' : Obj} {cs : Array Value} {T : TypeId} {r : List Obj} (h : Bx w (o :: o' :: .cells cs T :: r) W) (j : Nat) : W.cell? ⟨w.heap.size + 1 + 1, j, none⟩ = cs[j]? := h.cells (i := 2) rfl j
theorem Bx.free0 {cs : Array Value} {T : TypeId} {r : List Obj} (h : Bx w (.cells cs T :: r) W) (j : Nat) : W.frozen? ⟨w.heap.size, j, none⟩ = false := h.free (i := 0) rfl j
theorem Bx.free1 {o : Obj} {cs : Array Value} {T : TypeId} {r : List Obj} (h : Bx w (o :: .cells cs T :: r) W) (j : Nat) : W.frozen? ⟨w.heap.size + 1, j, none⟩ = false := h.free (i := 1) rfl j
theorem Bx.size (h : Bx w bs W) {i : Nat} (hi : i < bs.length) : w.heap.size + i < W.heap.size :=
  (Array.getElem?_eq_some_iff.1 (h.at_ i _ (List.getElem?_eq_getElem hi))).1
theorem Bx.set (h : Bx w bs W) {i : Nat} {cs : Array Value} {T : TypeId} (hi : bs[i]? = some (.cells cs T)) (j : Nat) (v : Value) : Bx w (bs.set i (.cells (cs.setIfInBounds j v) T)) (W.setCell ⟨w.heap.size + i, j, none⟩ v) := by
  refine ⟨set_below h.bel (by show w.heap.size ≤ w.heap.size + i; omega), fun k o ho => ?_⟩
  by_cases e : k = i
  · subst e
    have hlt := (List.getElem?_eq_some_iff.1 hi).1
    rw [List.getElem?_set_self hlt] at ho
    injection ho with ho
    subst ho
    exact set_at (h.at_ k _ hi)
  · rw [List.getElem?_set_ne (Ne.symm e)] at ho
    rw [set_other (by show w.heap.size + k ≠ w.heap.size + i; omega)]
    exact h.at_ k o ho
end
/-- a call's box behind 'x = right(x)'. -/
theorem Bx.setCall0 {w W : World} {x y : TCall} {T : TypeId} {r : List Obj} (h : Bx w (.cells #[.int .i64 x.a0, .int .i64 x.a1, .int .i64 x.a2, .int .i64 x.a3, .int .i64 x.a4] T :: r) W) :
    Bx w (.cells #[.int .i64 y.a0, .int .i64 y.a1, .int .i64 y.a2, .int .i64 y.a3, .int .i64 y.a4] T :: r) (((((W.setCell ⟨w.heap.size, 0, none⟩ (.int .i64 y.a0)).setCell ⟨w.heap.size, 1, none⟩ (.int .i64 y.a1)).setCell ⟨w.heap.size, 2, none⟩ (.int .i64 y.a2)).setCell ⟨w.heap.size, 3, none⟩ (.int .i64 y.a3)).setCell ⟨w.heap.size, 4, none⟩ (.int .i64 y.a4)) :=
  ((((h.set (i := 0) rfl 0 (.int .i64 y.a0)).set (i := 0) rfl 1 (.int .i64 y.a1)).set (i := 0) rfl 2 (.int .i64 y.a2)).set (i := 0) rfl 3 (.int .i64 y.a3)).set (i := 0) rfl 4 (.int .i64 y.a4)
theorem Bx.setCall1 {w W : World} {x y : TCall} {T : TypeId} {o : Obj} {r : List Obj} (h : Bx w (o :: .cells #[.int .i64 x.a0, .int .i64 x.a1, .int .i64 x.a2, .int .i64 x.a3, .int .i64 x.a4] T :: r) W) :
    Bx w (o :: .cells #[.int .i64 y.a0, .int .i64 y.a1, .int .i64 y.a2, .int .i64 y.a3, .int .i64 y.a4] T :: r) (((((W.setCell ⟨w.heap.size + 1, 0, none⟩ (.int .i64 y.a0)).setCell ⟨w.heap.size + 1, 1, none⟩ (.int .i64 y.a1)).setCell ⟨w.heap.size + 1, 2, none⟩ (.int .i64 y.a2)).setCell ⟨w.heap.size + 1, 3, none⟩ (.int .i64 y.a3)).setCell ⟨w.heap.size + 1, 4, none⟩ (.int .i64 y.a4)) :=
  ((((h.set (i := 1) rfl 0 (.int .i64 y.a0)).set (i := 1) rfl 1 (.int .i64 y.a1)).set (i := 1) rfl 2 (.int .i64 y.a2)).set (i := 1) rfl 3 (.int .i64 y.a3)).set (i := 1) rfl 4 (.int .i64 y.a4)
theorem Bx.setCall2 {w W : World} {x y : TCall} {T : TypeId} {o o' : Obj} {r : List Obj} (h : Bx w (o :: o' :: .cells #[.int .i64 x.a0, .int .i64 x.a1, .int .i64 x.a2, .int .i64 x.a3, .int .i64 x.a4] T :: r) W) :
    Bx w (o :: o' :: .cells #[.int .i64 y.a0, .int .i64 y.a1, .int .i64 y.a2, .int .i64 y.a3, .int .i64 y.a4] T :: r) (((((W.setCell ⟨w.heap.size + 1 + 1, 0, none⟩ (.int .i64 y.a0)).setCell ⟨w.heap.size + 1 + 1, 1, none⟩ (.int .i64 y.a1)).setCell ⟨w.heap.size + 1 + 1, 2, none⟩ (.int .i64 y.a2)).setCell ⟨w.heap.size + 1 + 1, 3, none⟩ (.int .i64 y.a3)).setCell ⟨w.heap.size + 1 + 1, 4, none⟩ (.int .i64 y.a4)) :=
  ((((h.set (i := 2) rfl 0 (.int .i64 y.a0)).set (i := 2) rfl 1 (.int .i64 y.a1)).set (i := 2) rfl 2 (.int .i64 y.a2)).set (i := 2) rfl 3 (.int .i64 y.a3)).set (i := 2) rfl 4 (.int .i64 y.a4)
theorem Bx.free2 {o o' : Obj} {cs : Array Value} {T : TypeId} {r : List Obj} {w W : World} (h : Bx w (o :: o' :: .cells cs T :: r) W) (j : Nat) : W.frozen? ⟨w.heap.size + 1 + 1, j, none⟩ = false := h.free (i := 2) rfl j
end Go.Proofs.YtkiipnbjckdlbaaGreatDoor
