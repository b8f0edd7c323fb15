/- What the document says of policies, as plain functions. No program is in sight. -/
import Derived.Test.YtmokmmpomgjemaaDoorSpec
namespace Go.Proofs.YtmokmmpomgjemaaDoor

def condE (c : TCond) : Int :=
  if c.f < 0 ∨ 5 ≤ c.f then 5 else if c.op < 1 ∨ 4 < c.op then 4 else if c.v < 0 ∨ mostOf c.f < c.v then 3 else 0
def condsGo : List TCond → Int
  | [] => 0
  | c :: r => if condE c = 0 then condsGo r else condE c
def ruleE (r : TRule) : Int := if 10 < r.conds.length then 2 else if r.verdict < 0 ∨ 4 < r.verdict then 3 else condsGo r.conds
def rulesGo : List TRule → Int
  | [] => 0
  | x :: r => if ruleE x = 0 then rulesGo r else ruleE x
/-- chapter 2's Check. -/
def polE (p : TPol) : Int := if 120 < p.rules.length then 2 else if p.dflt < 0 ∨ 4 < p.dflt then 3 else rulesGo p.rules
theorem condsGo_drop (l : List TCond) (k : Nat) (h : k < l.length) : condsGo (l.drop k) = if condE l[k] = 0 then condsGo (l.drop (k+1)) else condE l[k] := by
  rw [List.drop_eq_getElem_cons h]; rfl
theorem rulesGo_drop (l : List TRule) (k : Nat) (h : k < l.length) : rulesGo (l.drop k) = if ruleE l[k] = 0 then rulesGo (l.drop (k+1)) else ruleE l[k] := by
  rw [List.drop_eq_getElem_cons h]; rfl

structure OkCond (c : TCond) : Prop where
  f0 : 0 ≤ c.f
  f1 : c.f < 5
  o0 : 1 ≤ c.op
  o1 : c.op ≤ 4
  v0 : 0 ≤ c.v
  v1 : c.v ≤ mostOf c.f
structure OkRule (r : TRule) : Prop where
  len : r.conds.length ≤ 10
  v0 : 0 ≤ r.verdict
  v1 : r.verdict ≤ 4
  conds : ∀ c ∈ r.conds, OkCond c
structure OkPol (p : TPol) : Prop where
  len : p.rules.length ≤ 120
  d0 : 0 ≤ p.dflt
  d1 : p.dflt ≤ 4
  rules : ∀ r ∈ p.rules, OkRule r
theorem okCond_iff (c : TCond) : condE c = 0 ↔ OkCond c := by
  unfold condE
  constructor
  · intro h
    split at h
    · simp at h
    · split at h
      · simp at h
      · split at h
        · simp at h
        · constructor <;> omega
  · rintro ⟨h1, h2, h3, h4, h5, h6⟩
    rw [if_neg (by omega), if_neg (by omega), if_neg (by omega)]
theorem okConds_iff : ∀ l : List TCond, condsGo l = 0 ↔ ∀ c ∈ l, OkCond c
  | [] => by simp [condsGo]
  | c :: r => by
    simp only [condsGo, List.mem_cons, forall_eq_or_imp]
    rw [← okConds_iff r, ← okCond_iff c]
    split
    · rename_i h; simp [h]
    · rename_i h; simp [h]
theorem okRule_iff (r : TRule) : ruleE r = 0 ↔ OkRule r := by
  unfold ruleE
  constructor
  · intro h
    split at h
    · simp at h
    · split at h
      · simp at h
      · exact ⟨by omega, by omega, by omega, (okConds_iff _).1 h⟩
  · rintro ⟨h1, h2, h3, h4⟩
    rw [if_neg (by omega), if_neg (by omega)]
    exact (okConds_iff _).2 h4
theorem okRules_iff : ∀ l : List TRule, rulesGo l = 0 ↔ ∀ c ∈ l, OkRule c
  | [] => by simp [rulesGo]
  | c :: r => by
    simp only [rulesGo, List.mem_cons, forall_eq_or_imp]
    rw [← okRules_iff r, ← okRule_iff c]
    split
    · rename_i h; simp [h]
    · rename_i h; simp [h]
theorem okPol_iff (p : TPol) : polE p = 0 ↔ OkPol p := by
  unfold polE
  constructor
  · intro h
    split at h
    · simp at h
    · split at h
      · simp at h
      · exact ⟨by omega, by omega, by omega, (okRules_iff _).1 h⟩
  · rintro ⟨h1, h2, h3, h4⟩
    rw [if_neg (by omega), if_neg (by omega)]
    exact (okRules_iff _).2 h4

/-- chapter 2: does a condition hold of a call? -/
def holdsB (c : TCond) (x : TCall) : Bool :=
  if c.op = 1 then x.get c.f == c.v else if c.op = 2 then x.get c.f != c.v else if c.op = 3 then decide (x.get c.f < c.v) else decide (c.v ≤ x.get c.f)
def allHold (x : TCall) (l : List TCond) : Bool := l.all fun c => holdsB c x
/-- the number of the first rule whose conditions all hold. -/
def which (x : TCall) : List TRule → Nat
  | [] => 0
  | r :: l => if allHold x r.conds then 0 else which x l + 1
def verdictAt (p : TPol) (k : Nat) : Int := match p.rules[k]? with
  | some r => r.verdict
  | none => p.dflt
def judged (p : TPol) (x : TCall) : Int × Nat := (verdictAt p (which x p.rules), which x p.rules)
/-- chapter 2's Judge, errors too. -/
def judgeE (p : TPol) (x : TCall) : Int × Int × Int := if polE p ≠ 0 then (0, 0, polE p) else if x.ok then ((judged p x).1, (judged p x).2, 0) else (0, 0, 3)
theorem which_le (x : TCall) : ∀ l : List TRule, which x l ≤ l.length
  | [] => Nat.le_refl _
  | r :: l => by
    have := which_le x l
    unfold which
    split
    · omega
    · simp; exact this
theorem which_drop (x : TCall) (l : List TRule) (k : Nat) (h : k < l.length) : which x (l.drop k) = if allHold x l[k].conds then 0 else which x (l.drop (k + 1)) + 1 := by
  rw [List.drop_eq_getElem_cons h]; rfl
end Go.Proofs.YtmokmmpomgjemaaDoor
