/- Texts laid one behind the other: CompSpec, ChainSpec, Code, Run, Rel, Init, Chain, RecRd, KeepRd. No condition beyond theirs. -/
import Derived.Test.YthkgjohhbdipcaaGreatDoorK2
import Derived.Test.YthkgjohhbdipcaaGreatDoorK4
import Derived.Test.YthkgjohhbdipcaaGreatDoorK3
set_option linter.all false
namespace Go.Proofs.YthkgjohhbdipcaaGreatDoor

def jumpIns (c : TCond) (skip : Int) : TIns :=
  if c.op = 2 then ⟨2, c.v, skip, 0⟩ else if c.op = 3 then ⟨3, c.v, 0, skip⟩ else if c.op = 4 then ⟨3, c.v, skip, 0⟩ else ⟨2, c.v, 0, skip⟩
/-- a rule as instructions. -/
def condIns : List TCond → Int → List TIns
  | [], v => [⟨4, v, 0, 0⟩]
  | c :: r, v => ⟨1, c.f, 0, 0⟩ :: jumpIns c (2 * r.length + 1) :: condIns r v
def rulesIns : List TRule → List TIns
  | [] => []
  | r :: l => condIns r.conds r.verdict ++ rulesIns l
def filterL (p : TPol) : List TIns := rulesIns p.rules ++ [⟨4, p.dflt, 0, 0⟩]
/-- chapter 5's Compile, errors too. -/
def filterE (p : TPol) : List TIns × Int := if polE p ≠ 0 then ([], polE p) else if 1500 < (filterL p).length then ([], 2) else (filterL p, 0)

theorem condIns_len : ∀ (l : List TCond) (v : Int), (condIns l v).length = 2 * l.length + 1
  | [], _ => rfl
  | c :: r, v => by simp only [condIns, List.length_cons, condIns_len r v]; omega
theorem rulesIns_snoc : ∀ (l : List TRule) (r : TRule), rulesIns (l ++ [r]) = rulesIns l ++ condIns r.conds r.verdict
  | [], r => by simp [rulesIns]
  | x :: l, r => by simp only [List.cons_append, rulesIns, rulesIns_snoc l r, List.append_assoc]
theorem rulesIns_len {l : List TRule} (h : ∀ r ∈ l, r.conds.length ≤ 10) : (rulesIns l).length ≤ 21 * l.length := by
  induction l with
  | nil => simp [rulesIns]
  | cons r l ih =>
    have h1 := h r (List.mem_cons_self ..)
    have h2 := ih fun x hx => h x (List.mem_cons_of_mem _ hx)
    simp only [rulesIns, List.length_append, condIns_len, List.length_cons]
    omega

theorem jump_ok {c : TCond} (h : OkCond c) {s n : Int} (h0 : 0 ≤ s) (h1 : s < n) : insE (jumpIns c s) n = 0 := by
  have hv := h.v1
  have hm : mostOf c.f ≤ 65535 := by unfold mostOf; split <;> (try split) <;> omega
  have := h.v0
  have h0' : ¬ c.v < 0 := by omega
  have h1' : ¬ c.v > 65535 := by omega
  clear hv hm this
  unfold jumpIns insE
  split
  · (simp [h0', h1']; omega)
  · split
    · (simp [h0', h1']; omega)
    · split
      · (simp [h0', h1']; omega)
      · (simp [h0', h1']; omega)
theorem ret_ok {v n : Int} (h0 : 0 ≤ v) (h1 : v ≤ 4) : insE ⟨4, v, 0, 0⟩ n = 0 := by
  unfold insE
  dsimp only
  rw [if_pos (.inr rfl), if_neg (by omega), if_neg (by omega)]
theorem load_ok {v n : Int} (h0 : 0 ≤ v) (h1 : v ≤ 4) : insE ⟨1, v, 0, 0⟩ n = 0 := by
  unfold insE
  dsimp only
  rw [if_pos (.inl rfl), if_neg (by omega), if_neg (by omega)]
theorem condIns_go : ∀ (cs : List TCond) (v : Int) (l : List TIns), (∀ c ∈ cs, OkCond c) → 0 ≤ v → v ≤ 4 → l ≠ [] → codeGo l = 0 → codeGo (condIns cs v ++ l) = 0
  | [], v, l, _, h0, h1, _, hl => by
    simp only [condIns, List.cons_append, List.nil_append, codeGo]
    rw [if_pos (ret_ok h0 h1)]; exact hl
  | c :: cs, v, l, hc, h0, h1, hn, hl => by
    have ih := condIns_go cs v l (fun x hx => hc x (List.mem_cons_of_mem _ hx)) h0 h1 hn hl
    have hk := hc c (List.mem_cons_self ..)
    have hlen : 0 < l.length := List.length_pos_iff.2 hn
    simp only [condIns, List.cons_append, codeGo]
    rw [if_pos (load_ok hk.f0 (by have := hk.f1; omega)), if_pos (jump_ok hk (by omega) (by rw [List.length_append, condIns_len]; omega))]
    exact ih
theorem rulesIns_go : ∀ (rs : List TRule) (l : List TIns), (∀ r ∈ rs, OkRule r) → l ≠ [] → codeGo l = 0 → codeGo (rulesIns rs ++ l) = 0
  | [], l, _, _, hl => hl
  | r :: rs, l, hr, hn, hl => by
    have hk := hr r (List.mem_cons_self ..)
    have ih := rulesIns_go rs l (fun x hx => hr x (List.mem_cons_of_mem _ hx)) hn hl
    simp only [rulesIns, List.append_assoc]
    exact condIns_go _ _ _ hk.conds hk.v0 hk.v1 (by simp [hn]) ih
theorem lastK_snoc : ∀ (l : List TIns) (x : TIns), lastK (l ++ [x]) = x.k
  | [], x => rfl
  | [y], x => rfl
  | y :: z :: l, x => by
    have := lastK_snoc (z :: l) x
    simp only [List.cons_append] at this ⊢
    simp only [lastK]
    exact this
theorem filter_code {p : TPol} (h : OkPol p) : codeE (filterL p) = if 1500 < (filterL p).length then 2 else 0 := by
  have h1 : codeGo (filterL p) = 0 := rulesIns_go p.rules _ h.rules (by simp) (by simp only [codeGo]; rw [if_pos (ret_ok h.d0 h.d1)])
  have h2 : lastK (filterL p) = 4 := lastK_snoc _ _
  have h3 : (filterL p).length ≠ 0 := by simp [filterL]
  unfold codeE
  split
  · rw [if_pos (by omega)]
  · simp only [h1, ne_eq, not_true_eq_false, if_false]
    rw [if_neg (by omega)]

/-! ### a filter says what its policy says -/
theorem jump_next {c : TCond} (h : OkCond c) (x : TCall) (s : Nat) : insNext (jumpIns c s) (x.get c.f) = if holdsB c x then 0 else s := by
  have h0 := h.o0
  have h1 := h.o1
  have e : c.op = 1 ∨ c.op = 2 ∨ c.op = 3 ∨ c.op = 4 := by omega
  unfold jumpIns insNext holdsB
  rcases e with e | e | e | e <;> simp only [e] <;> simp only [Int.reduceEq, if_true, if_false, true_and, false_and, or_false, false_or]
  · by_cases e : x.get c.f = c.v <;> simp [e]
  · by_cases e : x.get c.f = c.v <;> simp [e]
  · by_cases e : x.get c.f < c.v <;> simp [e]
  · by_cases e : x.get c.f < c.v
    · have : ¬ c.v ≤ x.get c.f := by omega
      simp [e, this]
    · have : c.v ≤ x.get c.f := by omega
      simp [e, this]
theorem jumpIns_k (c : TCond) (s : Int) : (jumpIns c s).k = 2 ∨ (jumpIns c s).k = 3 := by
  unfold jumpIns
  split
  · exact .inl rfl
  · split
    · exact .inr rfl
    · split
      · exact .inr rfl
      · exact .inl rfl
theorem condIns_run (x : TCall) : ∀ (cs : List TCond) (v : Int) (l : List TIns) (f : Nat) (n : Int) (d : Nat), (∀ c ∈ cs, OkCond c) → (condIns cs v ++ l).length ≤ f →
    (allHold x cs = true ∧ (runGo x f (condIns cs v ++ l) n d).1 = v) ∨ (allHold x cs = false ∧ ∃ (f' : Nat) (n' : Int) (d' : Nat), l.length ≤ f' ∧ runGo x f (condIns cs v ++ l) n d = runGo x f' l n' d')
  | [], v, l, f, n, d, _, hf => by
    refine .inl ⟨rfl, ?_⟩
    cases f with
    | zero => simp [condIns] at hf
    | succ f => simp only [condIns, List.cons_append, List.nil_append, runGo, if_true]
  | c :: cs, v, l, f, n, d, hc, hf => by
    have hk := hc c (List.mem_cons_self ..)
    have hlen : (condIns (c :: cs) v ++ l).length = 2 + (condIns cs v ++ l).length := by simp only [condIns, List.cons_append, List.length_cons]; omega
    obtain ⟨g, rfl⟩ : ∃ g : Nat, f = g + 2 := ⟨f - 2, by omega⟩
    have h14 : ¬ (1 : Int) = 4 := by omega
    have hj4 : ¬ (jumpIns c (2 * (cs.length : Int) + 1)).k = 4 := by have := jumpIns_k c (2 * (cs.length : Int) + 1); omega
    have hj1 : ¬ (jumpIns c (2 * (cs.length : Int) + 1)).k = 1 := by have := jumpIns_k c (2 * (cs.length : Int) + 1); omega
    have hs : (2 * (cs.length : Int) + 1) = ((2 * cs.length + 1 : Nat) : Int) := by omega
    have step : runGo x (g + 2) (condIns (c :: cs) v ++ l) n d = runGo x g ((condIns cs v ++ l).drop (if holdsB c x then 0 else 2 * cs.length + 1)) (x.get c.f) (d + 1 + 1) := by
      simp only [condIns, List.cons_append, runGo, if_neg h14, if_true, if_neg hj4, if_neg hj1]
      rw [hs, jump_next hk]
    rw [step]
    cases hb : holdsB c x with
    | true =>
      simp only [if_true, List.drop_zero]
      have hall : allHold x (c :: cs) = allHold x cs := by unfold allHold; simp [hb]
      rw [hall]
      exact condIns_run x cs v l g _ _ (fun y hy => hc y (List.mem_cons_of_mem _ hy)) (by omega)
    | false =>
      refine .inr ⟨by unfold allHold; simp [hb], g, x.get c.f, d + 1 + 1, ?_, ?_⟩
      · have : (condIns cs v ++ l).length = (condIns cs v).length + l.length := by simp
        omega
      · simp only [Bool.false_eq_true, if_false]
        rw [← condIns_len cs v, List.drop_left]
theorem rules_run (x : TCall) (dflt : Int) : ∀ (rs : List TRule) (f : Nat) (n : Int) (d : Nat), (∀ r ∈ rs, OkRule r) → (rulesIns rs ++ [(⟨4, dflt, 0, 0⟩ : TIns)]).length ≤ f →
    (runGo x f (rulesIns rs ++ [(⟨4, dflt, 0, 0⟩ : TIns)]) n d).1 = verdictAt ⟨rs, dflt⟩ (which x rs)
  | [], f, n, d, _, hf => by
    cases f with
    | zero => simp at hf
    | succ f => simp only [rulesIns, List.nil_append, runGo, if_true]; rfl
  | r :: rs, f, n, d, hr, hf => by
    have hk := hr r (List.mem_cons_self ..)
    simp only [rulesIns, List.append_assoc] at hf ⊢
    rcases condIns_run x r.conds r.verdict (rulesIns rs ++ [(⟨4, dflt, 0, 0⟩ : TIns)]) f n d hk.conds hf with ⟨ha, he⟩ | ⟨ha, f', n', d', hf', he⟩
    · rw [he]; unfold which; rw [if_pos ha]; rfl
    · rw [he, rules_run x dflt rs f' n' d' (fun y hy => hr y (List.mem_cons_of_mem _ hy)) hf']
      have hw : which x (r :: rs) = which x rs + 1 := by conv => lhs; unfold which
                                                         rw [if_neg (by simp [ha])]
      rw [hw]
      simp [verdictAt]
/-- A FILTER SAYS OF EACH CALL WHAT ITS POLICY SAYS. -/
theorem filter_means {p : TPol} (h : OkPol p) (x : TCall) : (run (filterL p) x).1 = (judged p x).1 :=
  rules_run x p.dflt p.rules _ 0 0 h.rules (Nat.le_refl _)
theorem filterE_ok {p : TPol} (h : (filterE p).2 = 0) : OkPol p ∧ filterE p = (filterL p, 0) ∧ codeE (filterL p) = 0 ∧ (filterL p).length ≤ 1500 := by
  unfold filterE at h ⊢
  split at h
  · rename_i h1; exact absurd h h1
  · rename_i h1
    have hp := (okPol_iff p).1 (by simpa using h1)
    split at h
    · simp at h
    · rename_i h2
      refine ⟨hp, by rw [if_neg h1, if_neg h2], ?_, by omega⟩
      rw [filter_code hp, if_neg h2]
end Go.Proofs.YthkgjohhbdipcaaGreatDoor
namespace Go.Proofs.YthkgjohhbdipcaaGreatDoor

/-! ### chains -/
def codesGo : List (List TIns) → Int
  | [] => 0
  | f :: l => if codeE f = 0 then codesGo l else codeE f
/-- chapter 9's Check. -/
def chainE (l : List (List TIns)) : Int := if 6 < l.length then 2 else codesGo l
theorem codesGo_drop (l : List (List TIns)) (k : Nat) (h : k < l.length) : codesGo (l.drop k) = if codeE l[k] = 0 then codesGo (l.drop (k + 1)) else codeE l[k] := by
  rw [List.drop_eq_getElem_cons h]; rfl
theorem codesGo_iff : ∀ l : List (List TIns), codesGo l = 0 ↔ ∀ f ∈ l, codeE f = 0
  | [] => by simp [codesGo]
  | f :: l => by
    simp only [codesGo, List.mem_cons, forall_eq_or_imp]
    rw [← codesGo_iff l]
    split
    · rename_i h; simp [h]
    · rename_i h; simp [h]
theorem chainE_iff (l : List (List TIns)) : chainE l = 0 ↔ l.length ≤ 6 ∧ ∀ f ∈ l, codeE f = 0 := by
  unfold chainE
  split
  · rename_i h
    constructor
    · intro h'; simp at h'
    · rintro ⟨h1, _⟩; omega
  · rename_i h
    rw [codesGo_iff]
    exact ⟨fun h' => ⟨by omega, h'⟩, fun h' => h'.2⟩
/-- the strictest of what all say. -/
def askGo (x : TCall) : List (List TIns) → Int → Int
  | [], v => v
  | f :: l, v => askGo x l (minOf v (run f x).1)
def asked (l : List (List TIns)) (x : TCall) : Int := askGo x l 4
/-- chapter 9's Ask. -/
def askE (l : List (List TIns)) (x : TCall) : Int × Int := if chainE l ≠ 0 then (0, chainE l) else if x.ok then (asked l x, 0) else (0, 3)
theorem minOf_le (a b : Int) : minOf a b ≤ a ∧ minOf a b ≤ b := by unfold minOf; split <;> omega
theorem minOf_eq (a b : Int) : minOf a b = min a b := by unfold minOf; split <;> omega
theorem askGo_min (x : TCall) : ∀ (l : List (List TIns)) (v : Int), askGo x l v = minOf v (askGo x l v)
  | [], v => by simp [askGo, minOf]
  | f :: l, v => by
    have ih := askGo_min x l (minOf v (run f x).1)
    show askGo x l (minOf v (run f x).1) = minOf v (askGo x l (minOf v (run f x).1))
    rw [ih]
    simp only [minOf_eq]
    omega
theorem askGo_from (x : TCall) : ∀ (l : List (List TIns)) (u v : Int), askGo x l (minOf u v) = minOf u (askGo x l v)
  | [], u, v => rfl
  | f :: l, u, v => by
    show askGo x l (minOf (minOf u v) (run f x).1) = minOf u (askGo x l (minOf v (run f x).1))
    rw [← askGo_from x l u (minOf v (run f x).1)]
    congr 1
    simp only [minOf_eq]; omega
theorem askGo_append (x : TCall) : ∀ (l m : List (List TIns)) (v : Int), askGo x (l ++ m) v = askGo x m (askGo x l v)
  | [], _, _ => rfl
  | _ :: l, m, _ => askGo_append x l m _
theorem asked_append (x : TCall) (l m : List (List TIns)) : asked (l ++ m) x = minOf (asked l x) (asked m x) := by
  unfold asked
  rw [askGo_append]
  have e : askGo x l 4 = minOf (askGo x l 4) 4 := by
    have := askGo_min x l 4
    simp only [minOf_eq] at this ⊢; omega
  conv => lhs; rw [e]
  rw [askGo_from]
theorem asked_cons (x : TCall) (f : List TIns) (l : List (List TIns)) : asked (f :: l) x = minOf (minOf 4 (run f x).1) (asked l x) := asked_append x [f] l
theorem asked_le (x : TCall) (l : List (List TIns)) : asked l x ≤ 4 := by
  have := askGo_min x l 4
  unfold asked
  rw [this]
  exact (minOf_le _ _).1
theorem asked_reverse (x : TCall) : ∀ l : List (List TIns), asked l.reverse x = asked l x
  | [] => rfl
  | f :: l => by
    rw [List.reverse_cons, asked_append, asked_reverse x l, asked_cons]
    have e : asked [] x = 4 := rfl
    have h4 := asked_le x l
    rw [e, asked_cons]
    simp only [minOf_eq]; omega
theorem asked_twice (x : TCall) (l : List (List TIns)) : asked (l ++ l) x = asked l x := by
  rw [asked_append]; simp only [minOf_eq]; omega
/-- chapter 9's Tighten. -/
def tightE (l : List (List TIns)) (p q : TPol) : List (List TIns) × Int :=
  if chainE l ≠ 0 then ([], chainE l) else if (deltaE p q).2 ≠ 0 then ([], (deltaE p q).2) else if l.length = 6 then ([], 2) else
    if (filterE (deltaE p q).1).2 ≠ 0 then ([], (filterE (deltaE p q).1).2) else (l ++ [filterL (deltaE p q).1], 0)
theorem tightE_ok {l : List (List TIns)} {p q : TPol} (h : (tightE l p q).2 = 0) : chainE l = 0 ∧ (deltaE p q).2 = 0 ∧ l.length < 6 ∧ codeE (filterL (deltaE p q).1) = 0 ∧ tightE l p q = (l ++ [filterL (deltaE p q).1], 0) := by
  unfold tightE at h ⊢
  split at h
  · rename_i h1; exact absurd h h1
  · rename_i h1
    split at h
    · rename_i h2; exact absurd h h2
    · rename_i h2
      split at h
      · simp at h
      · rename_i h3
        split at h
        · rename_i h4; exact absurd h h4
        · rename_i h4
          have h1' : chainE l = 0 := by simpa using h1
          obtain ⟨_, _, c, _⟩ := filterE_ok (p := (deltaE p q).1) (by simpa using h4)
          have := (chainE_iff l).1 h1'
          exact ⟨h1', by simpa using h2, by omega, c, by rw [if_neg h1, if_neg h2, if_neg h3, if_neg h4]⟩
theorem chain_tight {l : List (List TIns)} {p q : TPol} (h : (tightE l p q).2 = 0) : chainE (tightE l p q).1 = 0 := by
  obtain ⟨h1, _, h3, h4, h5⟩ := tightE_ok h
  rw [h5, chainE_iff]
  refine ⟨by simp; omega, fun f hf => ?_⟩
  rcases List.mem_append.1 hf with hf | hf
  · exact ((chainE_iff l).1 h1).2 f hf
  · simp at hf; subst hf; exact h4
theorem asked_tight {l : List (List TIns)} {p q : TPol} (h : (tightE l p q).2 = 0) {x : TCall} (hx : x.ok) : asked (tightE l p q).1 x = minOf (asked l x) (exceptOf (says q x) (says p x)) := by
  obtain ⟨_, h2, _, _, h5⟩ := tightE_ok h
  rw [h5]
  show asked (l ++ [filterL _]) x = _
  rw [asked_append]
  have e : asked [filterL (deltaE p q).1] x = minOf 4 (says (deltaE p q).1 x) := by
    show minOf 4 (run (filterL (deltaE p q).1) x).1 = _
    rw [filter_means (okPol_delta h2)]; rfl
  have := (says_range (okPol_delta h2) x).2
  rw [e, says_delta h2 hx]
  rw [says_delta h2 hx] at this
  simp only [minOf_eq]; omega
/-- nothing is ever looser than it was. -/
theorem tight_le {l : List (List TIns)} {p q : TPol} (h : (tightE l p q).2 = 0) {x : TCall} (hx : x.ok) : asked (tightE l p q).1 x ≤ asked l x := by
  rw [asked_tight h hx]; exact (minOf_le _ _).1
/-- OF A CHAIN THAT SAYS WHAT A POLICY SAYS, TIGHTENED, EACH CALL IS TOLD WHAT THE STRICTER ONE SAYS. -/
theorem tight_says {l : List (List TIns)} {p q : TPol} (h : (tightE l p q).2 = 0) {x : TCall} (hx : x.ok) (hl : asked l x = says p x) : asked (tightE l p q).1 x = says q x := by
  obtain ⟨_, h2, _⟩ := tightE_ok h
  have h3 := delta_le h2 hx
  obtain ⟨hp, hq, _⟩ := deltaE_ok h2
  have h4 := (says_range hp x).2
  rw [asked_tight h hx, hl]
  unfold exceptOf
  simp only [minOf_eq]
  split <;> omega
theorem asked_one {p : TPol} (h : OkPol p) (x : TCall) : asked [filterL p] x = says p x := by
  show minOf 4 (run (filterL p) x).1 = _
  rw [filter_means h]
  have := (says_range h x).2
  show minOf 4 (says p x) = _
  simp only [minOf_eq]; omega

/-! ### records and sessions -/
structure TRec where
  kind : Int
  cell : Int
  from_ : Int
  p : TPol
deriving DecidableEq
structure TCell where
  open_ : Bool
  chain : List (List TIns)
  p : TPol
deriving DecidableEq
def noPol (p : TPol) : Prop := p.dflt = 0 ∧ p.rules = []
instance (p : TPol) : Decidable (noPol p) := by unfold noPol; infer_instance
/-- chapter 10's Check. -/
def recE (r : TRec) : Int :=
  if r.kind < 1 ∨ 4 < r.kind then 4 else if r.cell < 0 ∨ 4 ≤ r.cell ∨ r.from_ < 0 ∨ 4 ≤ r.from_ then 3 else
    if (r.kind ≠ 3 ∧ r.from_ ≠ 0) ∨ (2 < r.kind ∧ ¬ noPol r.p) then 4 else if 2 < r.kind then 0 else polE r.p
def zeroCell : TCell := ⟨false, [], zeroPol⟩
def cellE (c : TCell) : Int :=
  if c.open_ then (if c.chain = [] then 4 else if chainE c.chain ≠ 0 then chainE c.chain else polE c.p) else if c.chain = [] ∧ noPol c.p then 0 else 4
def cellsGo : List TCell → Int
  | [] => 0
  | c :: l => if cellE c = 0 then cellsGo l else cellE c
/-- chapter 12's Check. -/
def cellsE (l : List TCell) : Int := if l.length = 4 then cellsGo l else 4
theorem cellsGo_drop (l : List TCell) (k : Nat) (h : k < l.length) : cellsGo (l.drop k) = if cellE l[k] = 0 then cellsGo (l.drop (k + 1)) else cellE l[k] := by
  rw [List.drop_eq_getElem_cons h]; rfl
theorem cellsGo_iff : ∀ l : List TCell, cellsGo l = 0 ↔ ∀ f ∈ l, cellE f = 0
  | [] => by simp [cellsGo]
  | f :: l => by
    simp only [cellsGo, List.mem_cons, forall_eq_or_imp]
    rw [← cellsGo_iff l]
    split
    · rename_i h; simp [h]
    · rename_i h; simp [h]
theorem cellsE_iff (l : List TCell) : cellsE l = 0 ↔ l.length = 4 ∧ ∀ c ∈ l, cellE c = 0 := by
  unfold cellsE
  split
  · rename_i h; rw [cellsGo_iff]; exact ⟨fun h' => ⟨h, h'⟩, fun h' => h'.2⟩
  · rename_i h; exact ⟨fun h' => by simp at h', fun h' => absurd h'.1 h⟩
def newCells : List TCell := [zeroCell, zeroCell, zeroCell, zeroCell]
/-- a session that begins by a policy. -/
def beginE (p : TPol) : TCell × Int := if (filterE p).2 ≠ 0 then (zeroCell, (filterE p).2) else (⟨true, [filterL p], p⟩, 0)
def cellAt (l : List TCell) (k : Int) : TCell := l.getD k.toNat zeroCell
/-- what a record makes of its session. -/
def nextCell (l : List TCell) (r : TRec) : TCell × Int :=
  if r.kind = 3 then (if (cellAt l r.from_).open_ then beginE (cellAt l r.from_).p else (zeroCell, 5))
  else if r.kind = 1 then beginE r.p
  else if r.kind = 2 then (if (tightE (cellAt l r.cell).chain (cellAt l r.cell).p r.p).2 ≠ 0 then (zeroCell, (tightE (cellAt l r.cell).chain (cellAt l r.cell).p r.p).2) else (⟨true, (tightE (cellAt l r.cell).chain (cellAt l r.cell).p r.p).1, r.p⟩, 0))
  else (zeroCell, 0)
/-- chapter 12's Next. -/
def nextE (l : List TCell) (r : TRec) : List TCell × Int :=
  if cellsE l ≠ 0 then ([], cellsE l) else if recE r ≠ 0 then ([], recE r) else
    if (cellAt l r.cell).open_ = decide (r.kind = 1 ∨ r.kind = 3) then ([], 6) else
      if (nextCell l r).2 ≠ 0 then ([], (nextCell l r).2) else (l.set r.cell.toNat (nextCell l r).1, 0)
def replayGo : List TRec → List TCell → List TCell × Int
  | [], c => (c, 0)
  | r :: l, c => if (nextE c r).2 ≠ 0 then ([], (nextE c r).2) else replayGo l (nextE c r).1
/-- chapter 12's Replay. -/
def replayE (l : List TRec) : List TCell × Int := if 40 < l.length then ([], 2) else replayGo l newCells
theorem nextE_ok {l : List TCell} {r : TRec} (h : (nextE l r).2 = 0) : cellsE l = 0 ∧ recE r = 0 ∧ (cellAt l r.cell).open_ ≠ decide (r.kind = 1 ∨ r.kind = 3) ∧ (nextCell l r).2 = 0 ∧ nextE l r = (l.set r.cell.toNat (nextCell l r).1, 0) := by
  unfold nextE at h ⊢
  split at h
  · rename_i h1; exact absurd h h1
  · rename_i h1
    split at h
    · rename_i h2; exact absurd h h2
    · rename_i h2
      split at h
      · simp at h
      · rename_i h3
        split at h
        · rename_i h4; exact absurd h h4
        · rename_i h4
          exact ⟨by simpa using h1, by simpa using h2, h3, by simpa using h4, by rw [if_neg h1, if_neg h2, if_neg h3, if_neg h4]⟩
theorem recE_ok {r : TRec} (h : recE r = 0) : 1 ≤ r.kind ∧ r.kind ≤ 4 ∧ 0 ≤ r.cell ∧ r.cell < 4 ∧ 0 ≤ r.from_ ∧ r.from_ < 4 ∧ (r.kind ≠ 3 → r.from_ = 0) ∧ (2 < r.kind → noPol r.p) ∧ (r.kind ≤ 2 → OkPol r.p) := by
  unfold recE at h
  split at h
  · simp at h
  · split at h
    · simp at h
    · split at h
      · simp at h
      · rename_i h1 h2 h3
        refine ⟨by omega, by omega, by omega, by omega, by omega, by omega, fun hk => ?_, fun hk => ?_, fun hk => ?_⟩
        · by_cases e : r.from_ = 0
          · exact e
          · exact absurd (.inl ⟨hk, e⟩) h3
        · by_cases e : noPol r.p
          · exact e
          · exact absurd (.inr ⟨hk, e⟩) h3
        · split at h
          · omega
          · exact (okPol_iff _).1 h
theorem mem_set {α : Type} {l : List α} {k : Nat} {a c : α} (h : c ∈ l.set k a) : c ∈ l ∨ c = a := List.mem_or_eq_of_mem_set h
theorem cellAt_mem {l : List TCell} (hl : l.length = 4) {k : Int} (h0 : 0 ≤ k) (h1 : k < 4) : cellAt l k ∈ l := by
  unfold cellAt
  rw [List.getD_eq_getElem?_getD, List.getElem?_eq_getElem (by omega)]
  exact List.getElem_mem (by omega)
/-- what a session is told to say. -/
def Means (c : TCell) : Prop := c.open_ = true → OkPol c.p ∧ chainE c.chain = 0 ∧ c.chain ≠ [] ∧ ∀ x : TCall, x.ok → asked c.chain x = says c.p x
theorem begin_ok {p : TPol} (h : (beginE p).2 = 0) : OkPol p ∧ codeE (filterL p) = 0 ∧ beginE p = (⟨true, [filterL p], p⟩, 0) := by
  unfold beginE at h ⊢
  split at h
  · rename_i h1; exact absurd h h1
  · rename_i h1
    obtain ⟨a, _, c, _⟩ := filterE_ok (p := p) (by simpa using h1)
    exact ⟨a, c, by rw [if_neg h1]⟩
theorem means_begin {p : TPol} (h : (beginE p).2 = 0) : Means (beginE p).1 ∧ cellE (beginE p).1 = 0 := by
  obtain ⟨a, b, c⟩ := begin_ok h
  rw [c]
  have hc : chainE [filterL p] = 0 := by rw [chainE_iff]; exact ⟨by simp, by simpa using b⟩
  refine ⟨fun _ => ⟨a, hc, by simp, fun x _ => asked_one a x⟩, ?_⟩
  unfold cellE
  simp only [if_true]
  rw [if_neg (by simp), if_neg (by rw [hc]; simp)]
  exact (okPol_iff _).2 a
/-- what becomes of the session that a record speaks of. -/
theorem means_next {l : List TCell} {r : TRec} (h : (nextE l r).2 = 0) (hm : ∀ c ∈ l, Means c) : Means (nextCell l r).1 ∧ cellE (nextCell l r).1 = 0 := by
  obtain ⟨h1, h2, h3, h4, _⟩ := nextE_ok h
  obtain ⟨k0, k1, c0, c1, f0, f1, e1, e2, e3⟩ := recE_ok h2
  obtain ⟨hl, _⟩ := (cellsE_iff l).1 h1
  unfold nextCell at h4 ⊢
  by_cases hk3 : r.kind = 3
  · rw [if_pos hk3] at h4 ⊢
    split at h4
    · rename_i ho; rw [if_pos ho]; exact means_begin h4
    · simp at h4
  · rw [if_neg hk3] at h4 ⊢
    by_cases hk1 : r.kind = 1
    · rw [if_pos hk1] at h4 ⊢; exact means_begin h4
    · rw [if_neg hk1] at h4 ⊢
      by_cases hk2 : r.kind = 2
      · rw [if_pos hk2] at h4 ⊢
        split at h4
        · rename_i ht; exact absurd h4 ht
        · rename_i ht
          rw [if_neg ht]
          have ht' : (tightE (cellAt l r.cell).chain (cellAt l r.cell).p r.p).2 = 0 := by simpa using ht
          have ho : (cellAt l r.cell).open_ = true := by
            have : decide (r.kind = 1 ∨ r.kind = 3) = false := by simp [hk1, hk3]
            rw [this] at h3
            simpa using h3
          obtain ⟨m1, m2, m3, m4⟩ := hm _ (cellAt_mem hl c0 c1) ho
          have hp := e3 (by omega)
          have hc := chain_tight ht'
          have hne : (tightE (cellAt l r.cell).chain (cellAt l r.cell).p r.p).1 ≠ [] := by
            rw [(tightE_ok ht').2.2.2.2]; simp
          refine ⟨fun _ => ⟨hp, hc, hne, fun x hx => tight_says ht' hx (m4 x hx)⟩, ?_⟩
          unfold cellE
          simp only [if_true]
          rw [if_neg hne, if_neg (by rw [hc]; simp)]
          exact (okPol_iff _).2 hp
      · rw [if_neg hk2]
        exact ⟨fun h => by simp [zeroCell] at h, by unfold cellE zeroCell; simp [noPol, zeroPol]⟩
theorem means_all {l : List TCell} {r : TRec} (h : (nextE l r).2 = 0) (hm : ∀ c ∈ l, Means c) : (∀ c ∈ (nextE l r).1, Means c) ∧ cellsE (nextE l r).1 = 0 := by
  obtain ⟨h1, _, _, _, h5⟩ := nextE_ok h
  obtain ⟨m1, m2⟩ := means_next h hm
  obtain ⟨hl, hc⟩ := (cellsE_iff l).1 h1
  rw [h5]
  refine ⟨fun c hcm => ?_, (cellsE_iff _).2 ⟨by simpa using hl, fun c hcm => ?_⟩⟩
  · rcases mem_set hcm with h | h
    · exact hm c h
    · subst h; exact m1
  · rcases mem_set hcm with h | h
    · exact hc c h
    · subst h; exact m2
theorem means_new : (∀ c ∈ newCells, Means c) ∧ cellsE newCells = 0 := by
  refine ⟨fun c hc => ?_, by decide⟩
  have : c = zeroCell := by simp [newCells] at hc; exact hc
  subst this
  exact fun h => by simp [zeroCell] at h
theorem means_replay : ∀ (l : List TRec) (c : List TCell), (∀ s ∈ c, Means s) → cellsE c = 0 → (replayGo l c).2 = 0 → (∀ s ∈ (replayGo l c).1, Means s) ∧ cellsE (replayGo l c).1 = 0
  | [], _, h1, h2, _ => ⟨h1, h2⟩
  | r :: l, c, h1, h2, h => by
    unfold replayGo at h ⊢
    by_cases hn : (nextE c r).2 ≠ 0
    · rw [if_pos hn] at h; exact absurd h hn
    · rw [if_neg hn] at h ⊢
      obtain ⟨a, b⟩ := means_all (by simpa using hn) h1
      exact means_replay l _ a b h
theorem replayE_ok {l : List TRec} (h : (replayE l).2 = 0) : l.length ≤ 40 ∧ replayE l = replayGo l newCells ∧ (∀ s ∈ (replayE l).1, Means s) ∧ cellsE (replayE l).1 = 0 := by
  unfold replayE at h ⊢
  split at h
  · simp at h
  · rename_i h1
    rw [if_neg h1]
    exact ⟨by omega, rfl, means_replay l newCells means_new.1 means_new.2 h⟩
theorem replayGo_append : ∀ (l m : List TRec) (c : List TCell), replayGo (l ++ m) c = if (replayGo l c).2 ≠ 0 then ([], (replayGo l c).2) else replayGo m (replayGo l c).1
  | [], m, c => by simp [replayGo]
  | r :: l, m, c => by
    have e : ∀ m : List TRec, replayGo (r :: m) c = if (nextE c r).2 ≠ 0 then ([], (nextE c r).2) else replayGo m (nextE c r).1 := fun _ => rfl
    rw [List.cons_append, e, e]
    by_cases hn : (nextE c r).2 ≠ 0
    · rw [if_pos hn, if_pos hn, if_pos hn]
    · rw [if_neg hn, if_neg hn]
      exact replayGo_append l m _
theorem cellAt_set {l : List TCell} (hl : l.length = 4) {k : Int} (h0 : 0 ≤ k) (h1 : k < 4) (c : TCell) (j : Int) : cellAt (l.set k.toNat c) j = if j.toNat = k.toNat then c else cellAt l j := by
  unfold cellAt
  rw [List.getD_eq_getElem?_getD, List.getElem?_set]
  by_cases e : j.toNat = k.toNat
  · rw [if_pos e.symm, if_pos (by omega), if_pos e]; rfl
  · rw [if_neg (fun h => e h.symm), if_neg e]; rfl
/-- WHILE IT IS OPEN A SESSION GETS STRICTER ALONE. -/
theorem next_strict {l : List TCell} {r : TRec} (h : (nextE l r).2 = 0) (ho : (cellAt l r.cell).open_ = true) (ho' : (nextCell l r).1.open_ = true) :
    (tightE (cellAt l r.cell).chain (cellAt l r.cell).p r.p).2 = 0 ∧ (nextCell l r).1 = ⟨true, (tightE (cellAt l r.cell).chain (cellAt l r.cell).p r.p).1, r.p⟩ ∧ (nextCell l r).1.chain.length = (cellAt l r.cell).chain.length + 1 := by
  obtain ⟨h1, h2, h3, h4, _⟩ := nextE_ok h
  rw [ho] at h3
  have hk : ¬ (r.kind = 1 ∨ r.kind = 3) := fun e => h3 (by simp [e])
  unfold nextCell at h4 ho' ⊢
  rw [if_neg (fun e => hk (.inr e)), if_neg (fun e => hk (.inl e))] at h4 ho' ⊢
  by_cases hk2 : r.kind = 2
  · rw [if_pos hk2] at h4 ho' ⊢
    split at h4
    · rename_i ht; exact absurd h4 ht
    · rename_i ht
      rw [if_neg ht]
      have ht' : (tightE (cellAt l r.cell).chain (cellAt l r.cell).p r.p).2 = 0 := by simpa using ht
      refine ⟨ht', rfl, ?_⟩
      show (tightE _ _ _).1.length = _
      rw [(tightE_ok ht').2.2.2.2]; simp
  · rw [if_neg hk2] at ho'
    simp [zeroCell] at ho'
end Go.Proofs.YthkgjohhbdipcaaGreatDoor
namespace Go.Proofs.YthkgjohhbdipcaaGreatDoor
open Go.RowKit

set_option maxHeartbeats 4000000 in
theorem ins_any (k a b c n : Int) (w : World) : Calls Tryz.prog 161 #[.agg #[.int .i64 k, .int .i64 a, .int .i64 b, .int .i64 c], .int .i64 n] w fun e w' => e = .returned (.int .i64 (insE ⟨k,a,b,c⟩ n)) ∧ Below w.heap.size w w' := by
  go_enter Tryz.func161, Tryz.ntmps161
  go_wp2
  all_goals go_ret
  all_goals (refine ⟨ret_int ?_, (Below.refl _ _).alloc (Nat.le_refl _) _⟩)
  all_goals (simp only [beq_iff_eq, bne_iff_ne, beq_eq_false_iff_ne, bne_eq_false_iff_eq] at *)
  all_goals (simp [insE])
  all_goals ((repeat' split) <;> first | rfl | omega)

set_option maxHeartbeats 1000000 in
theorem codecheck_any (v : Value) (l : List TIns) (D : Nat → Prop) (w : World) (h : RdCode w D v l) : Calls Tryz.prog 134 #[v] w fun e w' => e = .returned (.int .i64 (codeE l)) ∧ Below w.heap.size w w' := by
  obtain ⟨a, c, rfl, hlc, hcm, hat⟩ := Sl.form h
  have H := Lib.hid h
  clear h
  by_cases h0 : l.length = 0
  · have b0 : ((l.length : Int) == 0) = true := by simp [h0]
    have hs : codeE l = 2 := by simp [codeE, h0]
    rw [hs]; clear hs hat H h0
    go_enter Tryz.func134, Tryz.ntmps134
    go_wp2
    go_ret
    exact ⟨rfl, Below.refl _ _⟩
  · by_cases h1 : 1500 < l.length
    · have b0 : ((l.length : Int) == 0) = false := beq_eq_false_iff_ne.2 (by omega)
      have hs : codeE l = 2 := by simp [codeE, h1]
      rw [hs]; clear hs hat H
      go_enter Tryz.func134, Tryz.ntmps134
      go_wp2
      go_ret
      exact ⟨rfl, Below.refl _ _⟩
    · obtain ⟨b, o, rfl, hDb, hb⟩ := hat (by omega)
      have b0 : ((l.length : Int) == 0) = false := beq_eq_false_iff_ne.2 (by omega)
      have b1 : ¬ (1500 < (l.length : Int)) := by omega
      have hE := Lib.hid (show codeE l = if codeGo l ≠ 0 then codeGo l else if lastK l = 4 then 0 else 4 from if_neg (by omega))
      clear hat
      go_enter Tryz.func134, Tryz.ntmps134
      go_wp2_with fail
      go_loopw [16] (fun i wr => ∃ k : Nat, k ≤ l.length ∧ i = .int .i64 k ∧ codeGo l = codeGo (l.drop k) ∧ Below w.heap.size w wr) (fun i _ => l.length - (intOf i).toNat)
      case atStart => exact ⟨0, by omega, rfl, rfl, Below.refl _ _⟩
      case round =>
        obtain ⟨k, hk, rfl, hgo, hbw⟩ := hrel
        have Hgo := Lib.hid hgo
        clear hgo
        by_cases hlt : k < l.length
        · obtain ⟨c0, c1, c2, c3⟩ := RdCode.cells (RdCode.below H.out hbw) hlt
          have Hd := Lib.hid (codeGo_drop l k hlt)
          have hsz := hbw.size
          go_wp2_with (go_at_call 161; refine (ins_any _ _ _ _ _ _).mono ?_; rintro e w1 ⟨rfl, hb1⟩)
          · rename_i ht
            have ht' := bne_iff_ne.1 ht
            go_ret
            refine ⟨ret_int ?_, bel_alloc_call hbw hb1⟩
            rw [hE.out, Hgo.out, Hd.out]
            simp only [ht', if_false, ne_eq, not_false_eq_true, if_true]
          · rename_i ht
            have ht' := bne_eq_false_iff_eq.1 ht
            go_roundw
            case rel => exact ⟨k + 1, by omega, by go_num, by rw [Hgo.out, Hd.out, if_pos ht'], bel_alloc_call hbw hb1⟩
            case measure => simp [intOf]; omega
        · obtain rfl : k = l.length := by omega
          have hz : codeGo l = 0 := by rw [Hgo.out, List.drop_length]; rfl
          have Hz := Lib.hid hz
          have hl1 : l.length - 1 < l.length := by omega
          obtain ⟨c0, _, _, _⟩ := RdCode.cells (RdCode.below H.out hbw) hl1
          have Hl := Lib.hid (lastK_eq l (by omega))
          clear hz
          by_cases h4 : l[l.length - 1].k = 4
          · rw [h4] at c0
            have Hf := Lib.hid (show codeE l = 0 by rw [hE.out, Hz.out, Hl.out, h4]; simp)
            clear h4
            go_wp2
            go_ret
            exact ⟨ret_int Hf.out.symm, hbw⟩
          · have b4 : (l[l.length - 1].k != 4) = true := bne_iff_ne.2 h4
            have Hf := Lib.hid (show codeE l = 4 by rw [hE.out, Hz.out, Hl.out, if_neg h4]; simp)
            clear h4
            go_wp2
            go_ret
            exact ⟨ret_int Hf.out.symm, hbw⟩
end Go.Proofs.YthkgjohhbdipcaaGreatDoor
namespace Go.Proofs.YthkgjohhbdipcaaGreatDoor
open Go.RowKit
attribute [local go_sem] gives givesUpon

set_option maxHeartbeats 1000000 in
theorem rcheckcall_any (x : TCall) (w : World) : Calls Tryz.prog 23 #[callV x] w fun e w' => e = .returned (.int .i64 (callE x)) ∧ Below w.heap.size w w' := by
  go_enter Tryz.func23, Tryz.ntmps23
  go_wp2_with fail
  go_loopw [4] (fun i wr => ∃ k : Nat, k ≤ 5 ∧ i = .int .i64 k ∧ Hid (okTo x k) ∧ Below (w.heap.size + 1) (w.alloc (.cells #[.int .i64 x.a0, .int .i64 x.a1, .int .i64 x.a2, .int .i64 x.a3, .int .i64 x.a4] 46)) wr) (fun i _ => 5 - (intOf i).toNat)
  case atStart => exact ⟨0, by omega, rfl, fun j hj => absurd hj (by omega), Below.refl _ _⟩
  case round =>
    obtain ⟨k, hk, rfl, hok, hb⟩ := hrel
    have hbel : Below w.heap.size w wr := (bel_alloc (Below.refl _ _) _).trans (hb.mono (by omega))
    have Hb := Lib.hid hbel
    have hsz : w.heap.size + 1 ≤ wr.heap.size := by have := hb.size; simp at this; omega
    clear hbel
    by_cases hlt : k < 5
    · have hc : ∀ W, Cls (w.heap.size + 1) wr W → W.cell? ⟨w.heap.size, k, none⟩ = some (.int .i64 (x.get k)) := fun W hW => by
        rw [hW.2.cell (p := ⟨w.heap.size, k, none⟩) (by simp), hb.cell (p := ⟨w.heap.size, k, none⟩) (by simp), World.cell?_alloc_at _ _ _ _ rfl]
        exact cell5 x k hlt
      have Hc := Lib.hid hc
      clear hc
      go_wp2_with fail
      refine wp_region_exact (w.heap.size + 1) hsz (by kernel_rfl) (by kernel_rfl) ?_
      repeat (refine monoE_step (fun K hK => ?_); apply Exists.intro; refine ⟨fun W hC R hR => ?_, ?_⟩; (first
        | (have := Hc.out W hC; go_simp; exact hR _ _ (Below.refl _ _) rfl)
        | (go_simp; go_at_call 62; refine (mostof_any _ _).mono ?_; rintro e w1 ⟨rfl, hb1⟩; exact ⟨_, rfl, hR _ _ hb1 rfl⟩)
        | (go_simp; go_at_call 56; refine (in_any _ _ _ _).mono ?_; rintro e w1 ⟨rfl, rfl⟩; exact ⟨_, rfl, hR _ _ (Below.refl _ _) rfl⟩)); (go_simp; refine hK _ ?_; clear hK K))
      intro w2 hC2
      have fin : ∀ hr : ¬ (0 ≤ x.get k ∧ x.get k ≤ mostOf k), Ending.returned (.int .i64 3) = .returned (.int .i64 (callE x)) ∧ Below w.heap.size w w2 := fun hr => ⟨ret_int (okTo_not hlt hr).symm, Hb.out.trans (hC2.2.mono (by omega))⟩
      by_cases hr : 0 ≤ x.get k ∧ x.get k ≤ mostOf k
      · have hnx : okTo x (k + 1) := fun j hj => by
          by_cases e : j = k
          · subst e; exact hr
          · exact hok.out j (by omega)
        have Hnx := Lib.hid hnx
        have d := inB_yes hr.1 hr.2
        clear hnx fin hr
        simp only [d, Bool.not_true]
        go_wp2
        go_roundw
        case rel => exact ⟨k + 1, by omega, by go_num, Hnx, hb.trans hC2.2⟩
        case measure => simp [intOf]; omega
      · have Hf := Lib.hid (fin hr)
        have d := inB_no hr
        clear fin hr
        simp only [d, Bool.not_false]
        go_wp2
        go_ret
        exact Hf.out
    · obtain rfl : k = 5 := by omega
      go_wp2
      go_ret
      exact ⟨ret_int (okTo_all hok.out).symm, Hb.out⟩

/-- What the loop of Run holds. -/
def RunAt (x : TCall) (l : List TIns) (k : Nat) (n : Int) (d : Nat) : Prop := ∃ f, (l.drop k).length ≤ f ∧ run l x = runGo x f (l.drop k) n d
theorem RunAt.start (x : TCall) (l : List TIns) : RunAt x l 0 0 0 := ⟨l.length, by simp, rfl⟩
theorem RunAt.ret {x : TCall} {l : List TIns} {k : Nat} {n : Int} {d : Nat} (h : RunAt x l k n d) (hk : k < l.length) (h4 : l[k].k = 4) : run l x = (l[k].a, d + 1) := by
  obtain ⟨f, hf, hr⟩ := h
  rw [hr, runGo_ret x f l n d k hk hf h4]
theorem RunAt.load {x : TCall} {l : List TIns} {k : Nat} {n : Int} {d : Nat} (h : RunAt x l k n d) (hk : k < l.length) (h1 : l[k].k = 1) : RunAt x l (k + 1) (x.get l[k].a) (d + 1) := by
  obtain ⟨f, hf, hr⟩ := h
  obtain ⟨f', hf', hs⟩ := runGo_step x f l n d k hk hf (by omega)
  exact ⟨f', hf', by rw [hr, hs, if_pos h1]⟩
theorem RunAt.jump {x : TCall} {l : List TIns} {k : Nat} {n : Int} {d : Nat} (h : RunAt x l k n d) (hk : k < l.length) (h1 : l[k].k = 2 ∨ l[k].k = 3) : RunAt x l (k + 1 + insNext l[k] n) n (d + 1) := by
  obtain ⟨f, hf, hr⟩ := h
  obtain ⟨f', hf', hs⟩ := runGo_step x f l n d k hk hf (by omega)
  exact ⟨f', by simp at hf' ⊢; omega, by rw [hr, hs, if_neg (by omega)]⟩

set_option maxHeartbeats 2000000 in
theorem run_ok (v : Value) (l : List TIns) (x : TCall) (D : Nat → Prop) (w : World) (h : RdCode w D v l) (hc : codeE l = 0) (hx : x.ok) :
    Calls Tryz.prog 97 #[v, callV x] w fun e w' => e = .returned (.tuple #[.int .i64 (run l x).1, .int .i64 (run l x).2, .int .i64 0]) ∧ Below w.heap.size w w' := by
  obtain ⟨hR, hl⟩ := right_of hc
  have hpos : 0 < l.length := List.length_pos_iff.2 hR.ne
  obtain ⟨a, c, rfl, hlc, hcm, hat⟩ := Sl.form h
  obtain ⟨b, o, rfl, hDb, hb⟩ := hat hpos
  have H := Lib.hid h
  have HR := Lib.hid hR
  have Hc := Lib.hid hc
  have Hx := Lib.hid hx
  have hxe : Hid (callE x = 0) := if_pos hx
  clear h hR hc hx hat
  go_enter Tryz.func97, Tryz.ntmps97
  go_wp2_with (first
    | (go_at_call 134; refine (codecheck_any _ _ _ _ (RdCode.below H.out (bel_alloc (Below.refl _ _) _))).mono ?_; rw [Hc.out]; rintro e w1 ⟨rfl, hb1⟩; have hb1' : Below (w.heap.size + 1) _ w1 := hb1.mono (by simp); have hcell := box_cells hb1'; clear hb1)
    | (go_at_call 96; refine (callcheck_any x _).mono ?_; rw [hxe.out]; rintro e w2 ⟨rfl, hb2⟩; have hb2' := hb1'.trans (hb2.mono (size_box hb1')); clear hb2 hb1' hcell))
  go_loopw [9, 10, 11] (fun n d at_ wr => ∃ (k dn : Nat) (nn : Int), k < l.length ∧ dn ≤ k ∧ n = .int .i64 nn ∧ d = .int .i64 dn ∧ at_ = .int .i64 k ∧ RunAt x l k nn dn ∧ Below (w.heap.size + 1) (w.alloc (.cells #[.int .i64 x.a0, .int .i64 x.a1, .int .i64 x.a2, .int .i64 x.a3, .int .i64 x.a4] 46)) wr) (fun _ _ i _ => l.length - (intOf i).toNat)
  case atStart => exact ⟨0, 0, 0, hpos, by omega, rfl, rfl, rfl, RunAt.start x l, hb2'⟩
  case round =>
    obtain ⟨k, dn, nn, hk, hdn, rfl, rfl, rfl, hrun, hbx⟩ := hrel
    have Hrun := Lib.hid hrun
    have hsz := size_box hbx
    obtain ⟨c0, c1, c2, c3⟩ := RdCode.cells (RdCode.below H.out (bel_box hbx)) hk
    have hcell := box_cells hbx
    have hfrz : True := trivial
    obtain ⟨hi, hn4⟩ := HR.out.at_ hk
    have Hn4 := Lib.hid hn4
    clear hrun hn4 hb2'
    rcases insE_cases hi with ⟨h4, h5, h6, h7, h8⟩ | ⟨h1, h5, h6, h7, h8⟩ | ⟨h23, h5, h6, h7, h8, h9, h10⟩
    · rw [h4] at c0
      have Hr := Lib.hid (Hrun.out.ret hk h4)
      clear hi h4 h5 h6 h7 h8
      go_wp2
      go_ret3
      exact ⟨by rw [Hr.out]; simp, bel_alloc (bel_box hbx) _⟩
    · obtain ⟨m, hm⟩ := Int.eq_ofNat_of_zero_le h5
      have Hn := Lib.hid (Hrun.out.load hk h1)
      have hk1 := Hn4.out (by omega)
      rw [h1] at c0
      rw [hm] at c1 Hn
      have hm5 : m < 5 := by omega
      have hcm := hcell m
      rw [cell5 x m hm5] at hcm
      have hcm' : ∀ o, (wr.alloc o).cell? ⟨w.heap.size, m, none⟩ = some (.int .i64 (x.get m)) := fun o => (World.cell?_alloc_lt wr o ⟨w.heap.size, m, none⟩ (show w.heap.size < wr.heap.size by omega)).trans hcm
      clear hi h1 h5 h6 h7 h8 hm hcell Hrun
      go_wp2
      go_roundw
      case rel => exact ⟨k + 1, dn + 1, _, hk1, by omega, rfl, by go_num, by go_num, Hn.out, hbx.trans ((Below.refl _ _).alloc (size_box hbx) _)⟩
      case measure => simp [intOf]; omega
    · obtain ⟨mb, hmb⟩ := Int.eq_ofNat_of_zero_le h7
      obtain ⟨mc, hmc⟩ := Int.eq_ofNat_of_zero_le h9
      have Hn := Lib.hid (Hrun.out.jump hk h23)
      rw [hmb] at c2
      rw [hmc] at c3
      have hx : Hid (insNext l[k] nn = if (l[k].k = 2 ∧ nn = l[k].a) ∨ (l[k].k = 3 ∧ nn < l[k].a) then mb else mc) := by unfold insNext; rw [hmb, hmc]; rfl
      have hb1 : k + 1 + mb < l.length := by omega
      have hb2 : k + 1 + mc < l.length := by omega
      clear hi h5 h6 h7 h8 h9 h10 hmb hmc hcell Hrun
      have fin : ∀ (m : Nat) , k + 1 + m < l.length → insNext l[k] nn = m → ∀ wz, Below w.heap.size w wz → True := fun _ _ _ _ _ => trivial
      rcases h23 with h2 | h3
      · rw [h2] at c0
        by_cases he : nn = l[k].a
        · have be : (nn == l[k].a) = true := beq_iff_eq.2 he
          have Hm : Hid (insNext l[k] nn = mb) := by rw [hx.out]; exact if_pos (.inl ⟨h2, he⟩)
          clear he h2 hx fin
          go_wp2
          go_roundw
          case rel => exact ⟨k + 1 + mb, dn + 1, nn, hb1, by omega, rfl, by go_num, by go_num, by have := Hn.out; rwa [Hm.out] at this, hbx.trans ((Below.refl _ _).alloc (size_box hbx) _)⟩
          case measure => simp [intOf]; omega
        · have be : (nn == l[k].a) = false := beq_eq_false_iff_ne.2 he
          have Hm : Hid (insNext l[k] nn = mc) := by rw [hx.out]; exact if_neg (by omega)
          clear he h2 hx fin
          go_wp2
          go_roundw
          case rel => exact ⟨k + 1 + mc, dn + 1, nn, hb2, by omega, rfl, by go_num, by go_num, by have := Hn.out; rwa [Hm.out] at this, hbx.trans ((Below.refl _ _).alloc (size_box hbx) _)⟩
          case measure => simp [intOf]; omega
      · rw [h3] at c0
        by_cases he : nn < l[k].a
        · have Hm : Hid (insNext l[k] nn = mb) := by rw [hx.out]; exact if_pos (.inr ⟨h3, he⟩)
          clear h3 hx fin
          go_wp2
          go_roundw
          case rel => exact ⟨k + 1 + mb, dn + 1, nn, hb1, by omega, rfl, by go_num, by go_num, by have := Hn.out; rwa [Hm.out] at this, hbx.trans ((Below.refl _ _).alloc (size_box hbx) _)⟩
          case measure => simp [intOf]; omega
        · have Hm : Hid (insNext l[k] nn = mc) := by rw [hx.out]; exact if_neg (by omega)
          clear h3 hx fin
          go_wp2
          go_roundw
          case rel => exact ⟨k + 1 + mc, dn + 1, nn, hb2, by omega, rfl, by go_num, by go_num, by have := Hn.out; rwa [Hm.out] at this, hbx.trans ((Below.refl _ _).alloc (size_box hbx) _)⟩
          case measure => simp [intOf]; omega

theorem run_any (v : Value) (l : List TIns) (x : TCall) (D : Nat → Prop) (w : World) (h : RdCode w D v l) :
    Calls Tryz.prog 97 #[v, callV x] w fun e w' => e = .returned (.tuple #[.int .i64 (runE l x).1, .int .i64 (runE l x).2.1, .int .i64 (runE l x).2.2]) ∧ Below w.heap.size w w' := by
  by_cases hc : codeE l = 0
  · by_cases hx : x.ok
    · have e : runE l x = ((run l x).1, ((run l x).2 : Int), 0) := by unfold runE; rw [if_neg (by omega), if_pos hx]
      rw [e]
      exact run_ok v l x D w h hc hx
    · have e : runE l x = (0, 0, 3) := by unfold runE; rw [if_neg (by omega), if_neg hx]
      have H := Lib.hid h
      have Hc := Lib.hid hc
      have hxe : Hid (callE x = 3) := if_neg hx
      rw [e]
      clear h e hc hx
      go_enter Tryz.func97, Tryz.ntmps97
      go_wp2_with (first
        | (go_at_call 134; refine (codecheck_any _ _ _ _ (RdCode.below H.out (bel_alloc (Below.refl _ _) _))).mono ?_; rw [Hc.out]; rintro e w1 ⟨rfl, hb1⟩; have hb1' : Below (w.heap.size + 1) _ w1 := hb1.mono (by simp); have hcell := box_cells hb1'; clear hb1)
        | (go_at_call 96; refine (callcheck_any x _).mono ?_; rw [hxe.out]; rintro e w2 ⟨rfl, hb2⟩; have hb2' := hb1'.trans (hb2.mono (size_box hb1')); clear hb2 hb1' hcell))
      go_ret3
      exact ⟨rfl, bel_box hb2'⟩
  · have e : runE l x = (0, 0, codeE l) := by unfold runE; rw [if_pos hc]
    have H := Lib.hid h
    have be : (codeE l != 0) = true := bne_iff_ne.2 hc
    rw [e]
    clear h e hc
    go_enter Tryz.func97, Tryz.ntmps97
    go_wp2_with (first
      | (go_at_call 134; refine (codecheck_any _ _ _ _ (RdCode.below H.out (bel_alloc (Below.refl _ _) _))).mono ?_; rintro e w1 ⟨rfl, hb1⟩; have hb1' : Below (w.heap.size + 1) _ w1 := hb1.mono (by simp); clear hb1))
    go_ret3
    exact ⟨rfl, bel_box hb1'⟩
end Go.Proofs.YthkgjohhbdipcaaGreatDoor
namespace Go.Proofs.YthkgjohhbdipcaaGreatDoor
open Go.RowKit

def valOr (X : Option ((Nat → Value) → Value)) (vf : Nat → Value) (k : Nat) : Value := match X with
  | some X => X vf
  | none => vf k
def valsOf (Xs : Nat → Option ((Nat → Value) → Value)) (vf : Nat → Value) (k : Nat) : Value := valOr (Xs k) vf k
def updVal (vf : Nat → Value) (i : Nat) (v : Value) : Nat → Value := fun j => if j = i then v else vf j
def Proper (bs : List (List Nat)) (i : Nat) (X : (Nat → Value) → Value) : Prop := ∀ f g : Nat → Value, (∀ m ∈ bs.getD i [], f m = g m) → X f = X g
section
variable (P : Program) (ops : Array Oper) (Inv : (Nat → Bool) → World → Prop) (T : Nat → (Nat → Value) → World → World → Prop) (F : Nat → (Nat → Bool) → (Nat → Value) → World → Prop) (bs : List (List Nat)) (Q : Act → World → Prop) (n : Nat)
def relOb (i : Nat) (o : Oper) (av : (Nat → Value) → Act) (E : (Nat → Value) → Value → Prop) : Prop :=
  ∀ (done : Nat → Bool) (vf : Nat → Value) (w : World), Inv done w → done i = false → (∀ k ∈ (prune o).after.toList.map (fun e => e.on), done k = true) → (∀ k : Nat, i ∈ bs.getD k [] → done k = false) → (∀ k, done k = true → F k done vf w) →
    ∀ R : Value → World → Prop, (∀ (v : Value) (w' : World), Inv (updDone done i) w' → T i vf w w' → E vf v → F i (updDone done i) (updVal vf i v) w' → R v w') → if Region.wanted o (yielded ops (av vf).tmps) then gives P o (av vf) w R else R undef w
def relWalk : List Oper → Nat → ((Nat → Value) → Act) → Prop
  | [], _, av => ∀ (done : Nat → Bool) (vf : Nat → Value) (w : World), (∀ k, k < n → done k = true) → Inv done w → (∀ k, k < n → F k done vf w) → Q (av vf) w
  | o :: l, i, av => (∃ X : (Nat → Value) → Value, Proper bs i X ∧ relOb P ops Inv T F bs i o av (fun vf v => v = X vf) ∧ relWalk l (i + 1) (fun vf => (av vf).put o.dst (X vf))) ∨
      (relOb P ops Inv T F bs i o av (fun _ _ => True) ∧ relWalk l (i + 1) (fun vf => (av vf).put o.dst (vf i)))
end
section
variable {P : Program} {ops : Array Oper} {Inv : (Nat → Bool) → World → Prop} {T : Nat → (Nat → Value) → World → World → Prop} {F : Nat → (Nat → Bool) → (Nat → Value) → World → Prop} {bs : List (List Nat)} {Q : Act → World → Prop} {n : Nat} {o : Oper} {l : List Oper} {i : Nat} {av : (Nat → Value) → Act}
/-- an operation whose value is told. -/
theorem rel_ex (h : ∀ K : ((Nat → Value) → Act) → Prop, (∀ a', relWalk P ops Inv T F bs Q n l (i + 1) a' → K a') → ∃ X : (Nat → Value) → Value, relOb P ops Inv T F bs i o av (fun vf v => v = X vf) ∧ Proper bs i X ∧ K (fun vf => (av vf).put o.dst (X vf))) : relWalk P ops Inv T F bs Q n (o :: l) i av := by
  obtain ⟨X, h1, h2, h3⟩ := h _ (fun _ h => h)
  exact .inl ⟨X, h2, h1, h3⟩
/-- an operation whose value meets a fact. -/
theorem rel_pr (h : ∀ K : ((Nat → Value) → Act) → Prop, (∀ a', relWalk P ops Inv T F bs Q n l (i + 1) a' → K a') → relOb P ops Inv T F bs i o av (fun _ _ => True) ∧ K (fun vf => (av vf).put o.dst (vf i))) : relWalk P ops Inv T F bs Q n (o :: l) i av := by
  exact .inr (h _ (fun _ h => h))
end
theorem lexAct_congr {f g : Nat → Value} : ∀ (l : List Oper) (i : Nat) (a : Act), (∀ k, i ≤ k → f k = g k) → lexAct f l i a = lexAct g l i a
  | [], _, _, _ => rfl
  | o :: l, i, a, h => by
    simp only [lexAct]
    rw [h i (Nat.le_refl _)]
    exact lexAct_congr l (i + 1) _ (fun k hk => h k (by omega))
def exOf (X : Option ((Nat → Value) → Value)) (vf : Nat → Value) (v : Value) : Prop := ∀ Y, X = some Y → v = Y vf
section
variable {P : Program} {ops : Array Oper} {Inv : (Nat → Bool) → World → Prop} {T : Nat → (Nat → Value) → World → World → Prop} {F : Nat → (Nat → Bool) → (Nat → Value) → World → Prop} {bs : List (List Nat)} {Q : Act → World → Prop} {n : Nat}
theorem rel_ext : ∀ (l : List Oper) (i : Nat) (av : (Nat → Value) → Act), relWalk P ops Inv T F bs Q n l i av → ∃ Xs : Nat → Option ((Nat → Value) → Value),
    (∀ k X, Xs k = some X → Proper bs k X) ∧ (∀ j o, l[j]? = some o → relOb P ops Inv T F bs (i + j) o (fun vf => lexAct (valsOf Xs vf) (l.take j) i (av vf)) (exOf (Xs (i + j)))) ∧
    (∀ (done : Nat → Bool) (vf : Nat → Value) (w : World), (∀ k, k < n → done k = true) → Inv done w → (∀ k, k < n → F k done vf w) → Q (lexAct (valsOf Xs vf) l i (av vf)) w)
  | [], i, av, h => ⟨fun _ => none, (fun _ _ h => by cases h), (fun j o hj => by simp at hj), h⟩
  | o :: l, i, av, h => by
    have main : ∀ (X0 : Option ((Nat → Value) → Value)), (∀ X, X0 = some X → Proper bs i X) → relOb P ops Inv T F bs i o av (exOf X0) →
        (∃ Xs : Nat → Option ((Nat → Value) → Value), (∀ k X, Xs k = some X → Proper bs k X) ∧ (∀ j o', l[j]? = some o' → relOb P ops Inv T F bs (i + 1 + j) o' (fun vf => lexAct (valsOf Xs vf) (l.take j) (i + 1) ((av vf).put o.dst (valOr X0 vf i))) (exOf (Xs (i + 1 + j)))) ∧
          (∀ (done : Nat → Bool) (vf : Nat → Value) (w : World), (∀ k, k < n → done k = true) → Inv done w → (∀ k, k < n → F k done vf w) → Q (lexAct (valsOf Xs vf) l (i + 1) ((av vf).put o.dst (valOr X0 vf i))) w)) →
        ∃ Xs : Nat → Option ((Nat → Value) → Value), (∀ k X, Xs k = some X → Proper bs k X) ∧ (∀ j o', (o :: l)[j]? = some o' → relOb P ops Inv T F bs (i + j) o' (fun vf => lexAct (valsOf Xs vf) ((o :: l).take j) i (av vf)) (exOf (Xs (i + j)))) ∧
          (∀ (done : Nat → Bool) (vf : Nat → Value) (w : World), (∀ k, k < n → done k = true) → Inv done w → (∀ k, k < n → F k done vf w) → Q (lexAct (valsOf Xs vf) (o :: l) i (av vf)) w) := by
      rintro X0 hp0 hob ⟨Xs, hp, hobs, hend⟩
      let Ys : Nat → Option ((Nat → Value) → Value) := fun k => if k = i then X0 else Xs k
      have yi : Ys i = X0 := if_pos rfl
      have yk : ∀ k, i + 1 ≤ k → Ys k = Xs k := fun k hk => if_neg (by omega)
      have hv : ∀ vf, valsOf Ys vf i = (valOr X0 vf i) := fun vf => by unfold valsOf; rw [yi]
      have hc : ∀ (m : List Oper) (vf : Nat → Value) (a : Act), lexAct (valsOf Ys vf) m (i + 1) a = lexAct (valsOf Xs vf) m (i + 1) a := fun m vf a => lexAct_congr m (i + 1) a fun k hk => by unfold valsOf; rw [yk k hk]
      refine ⟨Ys, fun k X hk => ?_, fun j o' hj => ?_, fun done vf w hd hI hF => ?_⟩
      · by_cases e : k = i
        · subst e; rw [yi] at hk; exact hp0 X hk
        · have : Ys k = Xs k := if_neg e
          rw [this] at hk; exact hp k X hk
      · cases j with
        | zero =>
          simp only [List.getElem?_cons_zero, Option.some.injEq] at hj
          subst hj
          rw [Nat.add_zero, yi]
          exact hob
        | succ j =>
          have := hobs j o' (by simpa using hj)
          rw [show i + (j + 1) = i + 1 + j by omega, yk _ (by omega)]
          refine (congrArg (fun a => relOb P ops Inv T F bs (i + 1 + j) o' a (exOf (Xs (i + 1 + j)))) ?_).mp this
          funext vf
          simp only [List.take_succ_cons, lexAct, hv]
          exact (hc _ _ _).symm
      · simp only [lexAct, hv]
        rw [hc]
        exact hend done vf w hd hI hF
    rcases h with ⟨X, hp, hob, hw⟩ | ⟨hob, hw⟩
    · exact main (some X) (fun Y e => by injection e with e; subst e; exact hp) (fun done vf w h1 h2 h3 h4 h5 R hR => hob done vf w h1 h2 h3 h4 h5 R fun v w' a b c d => hR v w' a b (fun Y e => by injection e with e; subst e; exact c) d) (rel_ext l (i + 1) _ hw)
    · exact main none (fun Y e => by cases e) (fun done vf w h1 h2 h3 h4 h5 R hR => hob done vf w h1 h2 h3 h4 h5 R fun v w' a b _ d => hR v w' a b (fun Y e => by cases e) d) (rel_ext l (i + 1) _ hw)
end

/-- What holds when the operations that are listed have been done. -/
structure RelInv (l : List Oper) (Xs : Nat → Option ((Nat → Value) → Value)) (Inv : (Nat → Bool) → World → Prop) (F : Nat → (Nat → Bool) → (Nat → Value) → World → Prop) (a : Act) (vf : Nat → Value) (listed : Array Bool) (a' : Act) (w' : World) : Prop where
  cls : Inv (fun k => listed[k]? == some true) w'
  down : ∀ (j : Nat) (o : Oper), l[j]? = some o → listed[j]? = some true → ∀ e ∈ o.after, listed[e.on]? = some true
  lsize : listed.size = l.length
  defers : a'.defers = a.defers
  size : a'.tmps.size = a.tmps.size
  vals : ∀ j, listed[j]? = some true → vf j = valsOf Xs vf j
  facts : ∀ j, listed[j]? = some true → F j (fun k => listed[k]? == some true) vf w'
  slots : ∀ (j : Nat) (o : Oper), l[j]? = some o → listed[j]? = some true → ∀ d, o.dst = some d → a'.tmps[d]? = some (vf j)
  rest : ∀ t, (∀ (j : Nat) (o : Oper), l[j]? = some o → listed[j]? = some true → o.dst ≠ some t) → a'.tmps[t]? = a.tmps[t]?

section
variable {P : Program} {l : List Oper} {Inv : (Nat → Bool) → World → Prop} {T : Nat → (Nat → Value) → World → World → Prop} {F : Nat → (Nat → Bool) → (Nat → Value) → World → Prop} {Q : Exit → Act → World → Prop} {a : Act}
theorem wpAny_rel (hB : monoB2 l a.tmps.size = true) (hpr : ∀ o ∈ l, prune o = o)
    (hst : ∀ (i : Nat) (done : Nat → Bool) (vf : Nat → Value) (w w' : World), Inv done w → done i = false → (∀ m ∈ (befores l []).getD i [], done m = true) → (∀ m, done m = true → F m done vf w) → T i vf w w' → ∀ k, done k = true → F k (updDone done i) vf w')
    (hF : ∀ (k : Nat) (done : Nat → Bool) (f g : Nat → Value) (w : World), (∀ m ∈ (befores l []).getD k [], f m = g m) → f k = g k → F k done f w → F k done g w)
    (h : relWalk P l.toArray Inv T F (befores l []) (Q .normal) l.length l 0 (fun _ => a)) :
    ∃ Xs, ∀ (fuel : Nat) (listed : Array Bool) (vf : Nat → Value) (a' : Act) (w' : World), (undone listed l.length).length ≤ fuel → RelInv l Xs Inv F a vf listed a' w' → wpAny P .any l.toArray Q fuel listed a' w' := by
  obtain ⟨Xs, hpX, hobs, hend⟩ := rel_ext l 0 _ h
  refine ⟨Xs, ?_⟩
  have hS := fun {i : Nat} {o : Oper} (hi : l[i]? = some o) => monoB2_spec hB hi
  have fin : ∀ (listed : Array Bool) (vf : Nat → Value) (a' : Act) (w' : World), (∀ j, j < l.length → listed[j]? = some true) → RelInv l Xs Inv F a vf listed a' w' → Q .normal a' w' := by
    intro listed vf a' w' hall hI
    have hq := hend _ vf w' (fun k hk => by simp [hall k hk]) hI.cls (fun k hk => hI.facts k (hall k hk))
    have ea : a' = lexAct (valsOf Xs vf) l 0 a := by
      obtain ⟨hz, hd⟩ := lexAct_size (valsOf Xs vf) l 0 a
      have ht : a'.tmps = (lexAct (valsOf Xs vf) l 0 a).tmps := by
        apply Array.ext_getElem?
        intro t
        by_cases hex : ∃ (j : Nat) (o : Oper), l[j]? = some o ∧ o.dst = some t
        · obtain ⟨j, o, hj, hdt⟩ := hex
          have hjl := (List.getElem?_eq_some_iff.1 hj).1
          obtain ⟨hlt, huniq⟩ := (hS hj).2.2.2 t hdt
          rw [lexAct_same _ l 0 a j o hj hdt huniq hlt, Nat.zero_add, ← hI.vals j (hall j hjl)]
          exact hI.slots j o hj (hall j hjl) t hdt
        · have hn : ∀ (j : Nat) (o : Oper), l[j]? = some o → o.dst ≠ some t := fun j o hj e => hex ⟨j, o, hj, e⟩
          rw [lexAct_other _ l 0 a (fun o ho => by obtain ⟨j, hj⟩ := List.getElem?_of_mem ho; exact hn j o hj)]
          exact hI.rest t (fun j o hj _ => hn j o hj)
      cases a'; cases hx : lexAct (valsOf Xs vf) l 0 a
      rw [hx] at ht hd
      have := hI.defers
      simp_all
    rw [ea]; exact hq
  have allIf : ∀ (listed : Array Bool), listed.size = l.length → Region.ready .any l.toArray listed = [] → ∀ j, j < l.length → listed[j]? = some true := by
    intro listed hsz hr j
    induction j using Nat.strongRecOn with
    | ind j ih =>
      intro hj
      have hsome : listed[j]? = some listed[j] := Array.getElem?_eq_getElem (by omega)
      cases hb : listed[j] with
      | true => rw [hsome, hb]
      | false =>
        have : j ∈ Region.ready .any l.toArray listed := by
          rw [mem_ready]
          refine ⟨by simp [Array.getD_eq_getD_getElem?, hsome, hb], l[j], by simp [hj], fun e he _ => ?_⟩
          have h1 := ((hS (List.getElem?_eq_getElem hj)).2.1 e he).1
          have h2 := ih e.on h1 (by omega)
          simp [Array.getD_eq_getD_getElem?, h2]
        rw [hr] at this
        cases this
  intro fuel
  induction fuel with
  | zero =>
    intro listed vf a' w' hf hI
    have hall : ∀ j, j < l.length → listed[j]? = some true := by
      intro j hj
      have h0 : undone listed l.length = [] := List.eq_nil_of_length_eq_zero (by omega)
      unfold undone at h0
      rw [List.filter_eq_nil_iff] at h0
      simpa using h0 j (List.mem_range.2 hj)
    refine ⟨?_, fin _ _ _ _ hall hI⟩
    rw [List.eq_nil_iff_forall_not_mem]
    intro j hj
    obtain ⟨h0, o, ho, _⟩ := mem_ready.1 hj
    have hj' : j < l.length := by
      have := (Array.getElem?_eq_some_iff.1 ho).1
      simpa using this
    simp [Array.getD_eq_getD_getElem?, hall j hj'] at h0
  | succ fuel ih =>
    intro listed vf a' w' hf hI
    refine ⟨fun hr => fin _ _ _ _ (allIf listed hI.lsize hr) hI, fun i hi => ?_⟩
    obtain ⟨h0, o, ho, hdep⟩ := mem_ready.1 hi
    have hil : l[i]? = some o := by simpa using ho
    have hilt : i < l.length := (List.getElem?_eq_some_iff.1 hil).1
    have hnl : listed[i]? ≠ some true := fun e => by simp [Array.getD_eq_getD_getElem?, e] at h0
    obtain ⟨hsel, hafter, hlooks, hdst⟩ := hS hil
    have hdone : ∀ e ∈ o.after, listed[e.on]? = some true := fun e he => by
      have := hdep e he (hafter e he).2
      rw [Array.getD_eq_getD_getElem?] at this
      cases hx : listed[e.on]? with
      | none => simp [hx] at this
      | some b => simp [hx] at this; rw [this]
    have hob := hobs i o hil
    rw [Nat.zero_add] at hob
    have hclosed : ∀ k m : Nat, m ∈ (befores l []).getD k [] → listed[k]? = some true → listed[m]? = some true := fun k m hk hlk =>
      befores_spec l [] (fun k i => listed[k]? = some true → listed[i]? = some true) (fun k i h => by simp at h) (fun j o' e hj he hlj => by
        simp at hlj; exact hI.down j o' hj hlj e he) (fun a b c h1 h2 h3 => h2 (h1 h3)) k m hk hlk
    have hsame : ∀ t ∈ o.looksAt l.toArray, (lexAct (valsOf Xs vf) (l.take i) 0 a).tmps[t]? = a'.tmps[t]? := by
      intro t ht
      by_cases hex : ∃ (j : Nat) (o' : Oper), l[j]? = some o' ∧ o'.dst = some t
      · obtain ⟨j, o', hj, hdt⟩ := hex
        rcases hlooks t ht j o' hj hdt with ⟨hji, e, he, hej⟩ | hbef
        rotate_left
        · have hij : i < j := befores_spec l [] (fun k i => i < k) (fun k i h => by simp at h) (fun j o' e hj he => by
            have := ((hS (show l[j]? = some o' from hj)).2.1 e he).1; simpa using this) (fun a b c h1 h2 => Nat.lt_trans h2 h1) j i hbef
          have hnj : listed[j]? ≠ some true := fun hlj => hnl (hclosed j i hbef hlj)
          obtain ⟨_, huniq⟩ := (hS hj).2.2.2 t hdt
          rw [lexAct_other _ (l.take i) 0 a (fun o'' ho'' => by
            obtain ⟨k, hk⟩ := List.getElem?_of_mem ho''
            have hki : k < i := by have := (List.getElem?_eq_some_iff.1 hk).1; simp at this; omega
            rw [List.getElem?_take_of_lt hki] at hk
            exact huniq k o'' hk (by omega))]
          refine (hI.rest t fun k o'' hk hlk => ?_).symm
          by_cases hkj : k = j
          · subst hkj; exact absurd hlk hnj
          · exact huniq k o'' hk hkj
        have hlj : listed[j]? = some true := hej ▸ hdone e he
        obtain ⟨hlt, huniq⟩ := (hS hj).2.2.2 t hdt
        rw [lexAct_same _ (l.take i) 0 a j o' (by rw [List.getElem?_take_of_lt hji]; exact hj) hdt (fun j' o'' hj' hne => huniq j' o'' (by
          have hlt' : j' < i := by
            have := (List.getElem?_eq_some_iff.1 hj').1
            simp at this; omega
          rw [List.getElem?_take_of_lt hlt'] at hj'; exact hj') hne) hlt, Nat.zero_add, ← hI.vals j hlj]
        exact (hI.slots j o' hj hlj t hdt).symm
      · have hn : ∀ (j : Nat) (o : Oper), l[j]? = some o → o.dst ≠ some t := fun j o hj e => hex ⟨j, o, hj, e⟩
        rw [lexAct_other _ (l.take i) 0 a (fun o' ho' => by obtain ⟨j, hj⟩ := List.getElem?_of_mem (List.mem_of_mem_take ho'); exact hn j o' hj)]
        exact (hI.rest t (fun j o hj _ => hn j o hj)).symm
    have hexec : execOp (lexAct (valsOf Xs vf) (l.take i) 0 a).eval o = execOp a'.eval o := by
      refine execOp_congr o hsel fun x hx => ?_
      cases x with
      | tmp t =>
        have := hsame t (List.mem_append_left _ (List.mem_filterMap.2 ⟨.tmp t, by simpa using hx, rfl⟩))
        simp [Act.eval, Array.getD_eq_getD_getElem?, this]
      | _ => rfl
    have hwant : Region.wanted o (yielded l.toArray (lexAct (valsOf Xs vf) (l.take i) 0 a).tmps) = Region.wanted o (yielded l.toArray a'.tmps) := by
      unfold Region.wanted
      cases hg : o.guard with
      | none => rfl
      | some gw =>
        obtain ⟨g, want⟩ := gw
        have hy : yielded l.toArray (lexAct (valsOf Xs vf) (l.take i) 0 a).tmps g = yielded l.toArray a'.tmps g := by
          unfold yielded
          cases ht : (l.toArray[g]?).bind (·.dst) with
          | none => rfl
          | some t =>
            have := hsame t (by simp only [Oper.looksAt, hg, ht]; simp)
            simp only [Option.bind_some, this]
        simp only [hy]
    have hnot : ∀ k : Nat, i ∈ (befores l []).getD k [] → ((fun k => listed[k]? == some true) k) = false := by
      intro k hk
      cases hx : (listed[k]? == some true) with
      | false => exact hx
      | true => exact absurd (hclosed k i hk (by simpa using hx)) hnl
    have hbi : ∀ m ∈ (befores l []).getD i [], listed[m]? = some true := fun m hm => by
      have hmi : m < i := befores_spec l [] (fun k i => i < k) (fun k i h => by simp at h) (fun j o' e hj he => by
          have := ((hS (show l[j]? = some o' from hj)).2.1 e he).1; simpa using this) (fun a b c h1 h2 => Nat.lt_trans h2 h1) i m hm
      have key := befores_spec l [] (fun k m => (k = i ∨ listed[k]? = some true) → (m = i ∨ listed[m]? = some true)) (fun k m h => by simp at h) (fun j o' e hj he hlj => by
        rw [List.length_nil, Nat.zero_add] at hlj
        rcases hlj with rfl | hlj
        · rw [hil] at hj
          obtain rfl : o = o' := by simpa using hj
          exact .inr (hdone e he)
        · exact .inr (hI.down j o' hj hlj e he)) (fun a b c h1 h2 h3 => h2 (h1 h3)) i m hm (.inl rfl)
      rcases key with h | h
      · omega
      · exact h
    have hres := hob _ vf w' hI.cls (by simpa using hnl) (fun k hk => by
      rw [hpr o (List.mem_of_getElem? hil)] at hk
      obtain ⟨e, he, rfl⟩ := List.mem_map.1 hk
      simp [hdone e (by simpa using he)]) hnot (fun k hk => hI.facts k (by simpa using hk))
      (fun v w'' => Inv (updDone (fun k => listed[k]? == some true) i) w'' ∧ T i vf w' w'' ∧ exOf (Xs i) vf v ∧ F i (updDone (fun k => listed[k]? == some true) i) (updVal vf i v) w'') (fun v w'' h0 h1 h2 h3 => ⟨h0, h1, h2, h3⟩)
    rw [hwant] at hres
    have next : ∀ v w'', Inv (updDone (fun k => listed[k]? == some true) i) w'' → T i vf w' w'' → exOf (Xs i) vf v → F i (updDone (fun k => listed[k]? == some true) i) (updVal vf i v) w'' → wpAny P .any l.toArray Q fuel (listed.setIfInBounds i true) (a'.put o.dst v) w'' := by
      intro v w'' hIv hT hE hFv
      have hu := undone_set hilt (by rw [hI.lsize]; exact Nat.le_refl _) hnl
      have hset : ∀ j, (listed.setIfInBounds i true)[j]? = some true → j = i ∨ (j ≠ i ∧ listed[j]? = some true) := fun j hj => by
        by_cases e : j = i
        · exact .inl e
        · rw [Array.getElem?_setIfInBounds_ne (Ne.symm e)] at hj
          exact .inr ⟨e, hj⟩
      have hagree : ∀ j, listed[j]? = some true → ∀ m ∈ (befores l []).getD j [], vf m = updVal vf i v m := fun j hj m hm => by
        have hm' := hclosed j m hm hj
        unfold updVal
        rw [if_neg (fun e : m = i => hnl (e ▸ hm'))]
      have hagreei : ∀ m ∈ (befores l []).getD i [], vf m = updVal vf i v m := fun m hm => by
        have hmi : m < i := befores_spec l [] (fun k i => i < k) (fun k i h => by simp at h) (fun j o' e hj he => by
            have := ((hS (show l[j]? = some o' from hj)).2.1 e he).1; simpa using this) (fun a b c h1 h2 => Nat.lt_trans h2 h1) i m hm
        unfold updVal
        rw [if_neg (by omega)]
      have hfun : updDone (fun k => listed[k]? == some true) i = fun k => (listed.setIfInBounds i true)[k]? == some true := by
        funext k
        unfold updDone
        by_cases e : k = i
        · subst e; rw [if_pos rfl, Array.getElem?_setIfInBounds_self_of_lt (by rw [hI.lsize]; exact hilt)]; simp
        · rw [if_neg e, Array.getElem?_setIfInBounds_ne (Ne.symm e)]
      refine ih _ (updVal vf i v) _ _ (by omega) ⟨?_, ?_, by simp [hI.lsize], ?_, ?_, ?_, ?_, ?_, ?_⟩
      · rw [← hfun]; exact hIv
      · intro j o' hj hlj e he
        by_cases hje : j = i
        · subst hje
          rw [hil] at hj
          obtain rfl : o = o' := by simpa using hj
          have := hdone e he
          by_cases hei : e.on = j
          · rw [hei, Array.getElem?_setIfInBounds_self_of_lt (by rw [hI.lsize]; exact hilt)]
          · rw [Array.getElem?_setIfInBounds_ne (Ne.symm hei)]; exact this
        · rw [Array.getElem?_setIfInBounds_ne (Ne.symm hje)] at hlj
          have := hI.down j o' hj hlj e he
          by_cases hei : e.on = i
          · rw [hei, Array.getElem?_setIfInBounds_self_of_lt (by rw [hI.lsize]; exact hilt)]
          · rw [Array.getElem?_setIfInBounds_ne (Ne.symm hei)]; exact this
      · rw [← hI.defers]; cases o.dst <;> rfl
      · rw [← hI.size]; cases o.dst <;> simp [Act.put]
      · intro j hj
        rcases hset j hj with rfl | ⟨hne, hj'⟩
        · have e1 : updVal vf j v j = v := if_pos rfl
          rw [e1]
          unfold valsOf
          cases hx : Xs j with
          | none => exact e1.symm
          | some X => exact (hE X hx).trans (hpX j X hx _ _ hagreei)
        · have e1 : updVal vf i v j = vf j := if_neg hne
          rw [e1, hI.vals j hj']
          unfold valsOf
          cases hx : Xs j with
          | none => exact e1.symm
          | some X => exact hpX j X hx _ _ (hagree j hj')
      · intro j hj
        rw [← hfun]
        rcases hset j hj with rfl | ⟨hne, hj'⟩
        · exact hFv
        · refine hF j _ vf _ w'' (hagree j hj') (by unfold updVal; rw [if_neg hne]) ?_
          exact hst i _ vf w' w'' hI.cls (by simpa using hnl) (fun m hm => by simpa using hbi m hm) (fun m hm => hI.facts m (by simpa using hm)) hT j (by simpa using hj')
      · intro j o' hj hlj d hd
        rcases hset j hlj with rfl | ⟨hne, hj'⟩
        · rw [hil] at hj
          obtain rfl : o = o' := by simpa using hj
          rw [hd, put_get_same (by rw [hI.size]; exact (hdst d hd).1)]
          unfold updVal; rw [if_pos rfl]
        · rw [put_get_other (fun e' => (hdst d e').2 j o' hj hne hd)]
          unfold updVal; rw [if_neg hne]
          exact hI.slots j o' hj hj' d hd
      · intro t ht
        have hti : o.dst ≠ some t := ht i o hil (by rw [Array.getElem?_setIfInBounds_self_of_lt (by rw [hI.lsize]; exact hilt)])
        rw [put_get_other hti]
        refine hI.rest t fun j o' hj hlj => ?_
        by_cases e : j = i
        · subst e; exact absurd hlj hnl
        · exact ht j o' hj (by rw [Array.getElem?_setIfInBounds_ne (Ne.symm e)]; exact hlj)
    unfold wpOp
    rw [ho]
    by_cases hw : Region.wanted o (yielded l.toArray a'.tmps) = true
    · simp only [hw, if_true] at hres ⊢
      refine .inl (wp_of_gives (R := fun v w'' => Inv (updDone (fun k => listed[k]? == some true) i) w'' ∧ T i vf w' w'' ∧ exOf (Xs i) vf v ∧ F i (updDone (fun k => listed[k]? == some true) i) (updVal vf i v) w'') ?_ fun v w'' ⟨h0, h1, h2, h3⟩ => next v w'' h0 h1 h2 h3)
      unfold gives at hres ⊢
      rw [← hexec]; exact hres
    · simp only [hw] at hres ⊢
      exact next _ _ hres.1 hres.2.1 hres.2.2.1 hres.2.2.2
end
theorem prune_prune (o : Oper) : prune (prune o) = prune o := by
  unfold prune
  simp only [Array.filter_filter, Bool.and_self]
theorem rel_prune {P : Program} {Inv : (Nat → Bool) → World → Prop} {T : Nat → (Nat → Value) → World → World → Prop} {F : Nat → (Nat → Bool) → (Nat → Value) → World → Prop} {bs : List (List Nat)} {Q : Act → World → Prop} {n : Nat} {ops' : List Oper} :
    ∀ (l : List Oper) (i : Nat) (av : (Nat → Value) → Act), relWalk P ops'.toArray Inv T F bs Q n l i av → relWalk P (ops'.map prune).toArray Inv T F bs Q n (l.map prune) i av
  | [], _, _, h => h
  | o :: l, i, av, h => by
    have one : ∀ E, relOb P ops'.toArray Inv T F bs i o av E → relOb P (ops'.map prune).toArray Inv T F bs i (prune o) av E := fun E h1 done vf w a b c d e R hR => by
      rw [prune_prune] at c
      have := h1 done vf w a b c d e R hR
      rw [← yielded_prune] at this
      exact this
    rcases h with ⟨X, hp, h1, h2⟩ | ⟨h1, h2⟩
    · exact .inl ⟨X, hp, one _ h1, rel_prune l (i + 1) _ h2⟩
    · exact .inr ⟨one _ h1, rel_prune l (i + 1) _ h2⟩
/-- THE LAW. -/
theorem wp_region_rel {P : Program} {l : List Oper} {Q : Exit → Act → World → Prop} {a : Act} {id : Nat} {w : World} (Inv : (Nat → Bool) → World → Prop) (T : Nat → (Nat → Value) → World → World → Prop) (F : Nat → (Nat → Bool) → (Nat → Value) → World → Prop)
    (hm : P.follows .mixedOrders = true) (hB : monoB2 (l.map prune) a.tmps.size = true) (bs : List (List Nat)) (hbs : befores (l.map prune) [] = bs)
    (hst : ∀ (i : Nat) (done : Nat → Bool) (vf : Nat → Value) (w w' : World), Inv done w → done i = false → (∀ m ∈ bs.getD i [], done m = true) → (∀ m, done m = true → F m done vf w) → T i vf w w' → ∀ k, done k = true → F k (updDone done i) vf w')
    (hF : ∀ (k : Nat) (done : Nat → Bool) (f g : Nat → Value) (w : World), (∀ m ∈ bs.getD k [], f m = g m) → f k = g k → F k done f w → F k done g w)
    (hC : Inv (fun _ => false) w.drew) (h : relWalk P l.toArray Inv T F bs (Q .normal) l.length l 0 (fun _ => a)) : (Code.region id l.toArray true).wp P Q a w := by
  subst hbs
  have h' := rel_prune (ops' := l) l 0 _ h
  rw [show l.length = (l.map prune).length by simp] at h'
  obtain ⟨Xs, hX⟩ := wpAny_rel hB (fun o ho => by obtain ⟨o', _, rfl⟩ := List.mem_map.1 ho; exact prune_prune o') hst hF h'
  refine wp_region_any hm (wpAny_prune _ _ _ _ (hX _ _ (fun _ => undef) _ _ ?_ ⟨?_, ?_, by simp, rfl, rfl, ?_, ?_, ?_, fun _ _ => rfl⟩))
  · have := List.length_filter_le (fun i => (Array.replicate l.toArray.size false)[i]? != some true) (List.range (l.map prune).length)
    simpa [undone] using this
  · refine (congrArg (fun d => Inv d _) ?_).mp hC
    funext k
    rw [Array.getElem?_replicate]
    split <;> simp
  · intro j o hj hl
    rw [Array.getElem?_replicate] at hl
    split at hl <;> simp at hl
  · intro j hl
    rw [Array.getElem?_replicate] at hl
    split at hl <;> simp at hl
  · intro j hl
    rw [Array.getElem?_replicate] at hl
    split at hl <;> simp at hl
  · intro j o hj hl
    rw [Array.getElem?_replicate] at hl
    split at hl <;> simp at hl
end Go.Proofs.YthkgjohhbdipcaaGreatDoor
namespace Go.Proofs.YthkgjohhbdipcaaGreatDoor
open Go.RowKit

def Typed (T0 : TypeId) (o : Obj) : Prop := ∃ cs fr, o = .cells cs T0 fr
/-- what may become of a world: blocks stay, but for those of the types ts. -/
structure InitT (ts : List TypeId) (w w' : World) : Prop where
  size : w.heap.size ≤ w'.heap.size
  keep : ∀ (k : Nat) (o : Obj), w.heap[k]? = some o → (∀ T ∈ ts, ¬ Typed T o) → w'.heap[k]? = some o
theorem InitT.of_below {ts : List TypeId} {w w' : World} (h : Below w.heap.size w w') : InitT ts w w' := ⟨h.size, fun _ _ hk _ => blk_below hk h⟩
theorem InitT.of_set {T0 : TypeId} {ts : List TypeId} (hT : T0 ∈ ts) {w : World} {b o : Nat} {v : Value} {cs : Array Value} {fr : Nat × Nat} (h : w.heap[b]? = some (.cells cs T0 fr)) : InitT ts w (w.setCell ⟨b, o, none⟩ v) := by
  refine ⟨by rw [set_size]; exact Nat.le_refl _, fun k o' hk hn => ?_⟩
  rw [set_other (fun e => by subst e; rw [h] at hk; injection hk with hk; exact hn T0 hT ⟨_, _, hk.symm⟩)]
  exact hk
theorem InitT.of_grown {T0 : TypeId} {ts : List TypeId} (hT : T0 ∈ ts) {w w' : World} {own : Option Nat} (hg : w.grownBy w' own) (ho : ∀ g, own = some g → ∃ o, w.heap[g]? = some o ∧ Typed T0 o) : InitT ts w w' := by
  refine ⟨hg.size, fun k o hk hn => ?_⟩
  rw [hg.block k (Array.getElem?_eq_some_iff.1 hk).1 (fun e => by
    obtain ⟨o', h1, h2⟩ := ho k e.symm
    rw [hk] at h1; injection h1 with h1; subst h1; exact hn T0 hT h2)]
  exact hk
theorem OwnSl.init {α : Type} {ts : List TypeId} {w w' : World} {base : Nat} {e : TypeId} {sz : Nat} {R : α → List Value → Prop} {v : Value} {xs : List α} (h : OwnSl w base e sz R v xs) (hi : InitT ts w w') (hne : e ∉ ts) : OwnSl w' base e sz R v xs := by
  obtain ⟨rows, hr, h1, h2⟩ := h
  refine ⟨rows, hr, h1, ?_⟩
  rcases h2 with h2 | ⟨g, cap, cur, hv, hg, hh, r⟩
  · exact .inl h2
  · refine .inr ⟨g, cap, cur, hv, hg, hi.keep g _ hh (fun T hT => ?_), r⟩
    rintro ⟨cs, fr, e'⟩
    injection e' with _ e2 _
    exact hne (e2 ▸ hT)
theorem OwnSl.set {α : Type} {w : World} {base : Nat} {e : TypeId} {sz : Nat} {R : α → List Value → Prop} {v x : Value} {xs : List α} {a : Addr} (h : OwnSl w base e sz R v xs) (hb : v.ownBlock ≠ some a.block) : OwnSl (w.setCell a x) base e sz R v xs := by
  obtain ⟨rows, hr, ho⟩ := h
  exact ⟨rows, hr, ownsRow_keep1 ho fun b _ _ hv => set_other (fun e => hb (by rw [← e]; exact hv))⟩
theorem OwnSl.base {α : Type} {w : World} {base base' : Nat} {e : TypeId} {sz : Nat} {R : α → List Value → Prop} {v : Value} {xs : List α} (h : OwnSl w base e sz R v xs) (hb : base' ≤ base) : OwnSl w base' e sz R v xs := by
  obtain ⟨rows, hr, h1, h2⟩ := h
  refine ⟨rows, hr, h1, ?_⟩
  rcases h2 with h2 | ⟨g, cap, cur, hv, hg, r⟩
  · exact .inl h2
  · exact .inr ⟨g, cap, cur, hv, Nat.le_trans hb hg, r⟩
/-- a cell put anew. -/
theorem OwnSl.put {α : Type} {w : World} {base b n c : Nat} {e : TypeId} {sz : Nat} {R : α → List Value → Prop} {xs : List α} (h : OwnSl w base e sz R (.slice (some ⟨b, 0, none⟩) n c) xs) {i j : Nat} (hi : i < xs.length) (hj : j < sz) {y : α} {u : Value} (hR : ∀ r, R xs[i] r → R y (r.set j u)) :
    OwnSl (w.setCell ⟨b, i * sz + j, none⟩ u) base e sz R (.slice (some ⟨b, 0, none⟩) n c) (xs.set i y) := by
  obtain ⟨rows, hr, h1, h2⟩ := h
  rcases h2 with ⟨h0, _⟩ | ⟨g, cap, cur, hv, hg, hh, hnc, hcm, hcs, htk⟩
  · cases h0
  injection hv with ha hn hc
  injection ha with ha; injection ha with ha
  subst ha hn hc
  have hir : i < rows.length := by rw [hr.len]; exact hi
  have hsz := hr.size _ (List.getElem_mem hir)
  have hrows : RowsOf sz R (xs.set i y) (rows.set i (rows[i].set j u)) := by
    refine ⟨by simp [hr.len], fun r hrm => ?_, fun k x r hx hk => ?_⟩
    · rcases List.mem_or_eq_of_mem_set hrm with h | h
      · exact hr.size r h
      · rw [h, List.length_set]; exact hsz
    · by_cases e : i = k
      · subst e
        rw [List.getElem?_set_self hi] at hx
        rw [List.getElem?_set_self hir] at hk
        injection hx with hx; injection hk with hk
        subst hx hk
        exact hR _ (hr.rel i _ _ (List.getElem?_eq_getElem hi) (List.getElem?_eq_getElem hir))
      · rw [List.getElem?_set_ne e] at hx hk
        exact hr.rel k x r hx hk
  have hfl := flat_len _ hrows.size
  have hlen : (rows.set i (rows[i].set j u)).length = xs.length := by simp [hr.len]
  refine ⟨_, hrows, by rw [hfl, hlen, List.length_set], .inr ⟨b, c, cur.setIfInBounds (i * sz + j) u, by simp, hg, set_at hh, by simpa using hnc, hcm, by simp [hcs], ?_⟩⟩
  rw [List.length_set]
  have hlt : i * sz + j < xs.length * sz := by
    calc i * sz + j < i * sz + sz := by omega
      _ = (i + 1) * sz := by rw [Nat.add_mul]; omega
      _ ≤ xs.length * sz := Nat.mul_le_mul_right _ hi
  apply List.ext_getElem?
  intro k
  by_cases hk : k < xs.length * sz
  · rw [List.getElem?_take_of_lt hk, Array.getElem?_toList]
    have hsz0 : 0 < sz := by omega
    have hdm : k / sz * sz + k % sz = k := by rw [Nat.mul_comm]; exact Nat.div_add_mod k sz
    have hm : k % sz < sz := Nat.mod_lt _ hsz0
    have hd : k / sz < xs.length := (Nat.div_lt_iff_lt_mul hsz0).2 hk
    have g1 : (rows.set i (rows[i].set j u)).flatten[k]? = (rows.set i (rows[i].set j u))[k / sz]?.bind fun r => r[k % sz]? := by
      have hlt2 : k / sz < (rows.set i (rows[i].set j u)).length := by rw [hlen]; exact hd
      have h := flat_get _ (k / sz) _ hrows.size (List.getElem?_eq_getElem hlt2) (k % sz) hm
      rw [hdm] at h
      rw [h, List.getElem?_eq_getElem hlt2]; rfl
    have g2 : rows.flatten[k]? = rows[k / sz]?.bind fun r => r[k % sz]? := by
      have hlt2 : k / sz < rows.length := by rw [hr.len]; exact hd
      have h := flat_get _ (k / sz) _ hr.size (List.getElem?_eq_getElem hlt2) (k % sz) hm
      rw [hdm] at h
      rw [h, List.getElem?_eq_getElem hlt2]; rfl
    rw [g1]
    by_cases e : k = i * sz + j
    · subst e
      have e1 : (i * sz + j) / sz = i := by rw [Nat.mul_comm, Nat.mul_add_div hsz0, Nat.div_eq_of_lt hj, Nat.add_zero]
      have e2 : (i * sz + j) % sz = j := by rw [Nat.mul_comm, Nat.mul_add_mod, Nat.mod_eq_of_lt hj]
      rw [Array.getElem?_setIfInBounds_self_of_lt (by rw [hcs]; exact Nat.lt_of_lt_of_le hlt (Nat.mul_le_mul_right _ hnc)), e1, e2, List.getElem?_set_self hir]
      show some u = (rows[i].set j u)[j]?
      rw [List.getElem?_set_self (by omega)]
    · rw [Array.getElem?_setIfInBounds_ne (Ne.symm e), ← Array.getElem?_toList, ← List.getElem?_take_of_lt (l := cur.toList) hk, htk, g2]
      by_cases ei : i = k / sz
      · rw [← ei, List.getElem?_set_self hir, List.getElem?_eq_getElem hir]
        show rows[i][k % sz]? = (rows[i].set j u)[k % sz]?
        rw [List.getElem?_set_ne (fun ej => e (by rw [← hdm, ← ei, ← ej]))]
      · rw [List.getElem?_set_ne ei]
  · rw [List.getElem?_eq_none (by rw [List.length_take]; omega), List.getElem?_eq_none (by rw [hfl, hlen]; omega)]
theorem OwnSl.slice {α : Type} {w : World} {base : Nat} {e : TypeId} {sz : Nat} {R : α → List Value → Prop} {v : Value} {xs : List α} (h : OwnSl w base e sz R v xs) : ∃ a c, v = .slice a xs.length c := by
  obtain ⟨rows, _, _, h2⟩ := h
  rcases h2 with ⟨hv, hn⟩ | ⟨g, cap, cur, hv, _⟩
  · exact ⟨_, _, by rw [hv, hn]⟩
  · exact ⟨_, _, hv⟩
theorem OwnSl.addr {α : Type} {w : World} {base : Nat} {e : TypeId} {sz n c : Nat} {a : Option Addr} {R : α → List Value → Prop} {xs : List α} (h : OwnSl w base e sz R (.slice a n c) xs) (h0 : 0 < xs.length) : ∃ b, a = some ⟨b, 0, none⟩ ∧ base ≤ b ∧ b < w.heap.size ∧ ∃ cur, w.heap[b]? = some (.cells cur e) := by
  obtain ⟨rows, _, h1, h2⟩ := h
  rcases h2 with ⟨_, hn⟩ | ⟨g, cap, cur, hv, hg, hh, _⟩
  · omega
  · injection hv with ha hn hc
    exact ⟨g, ha, hg, (Array.getElem?_eq_some_iff.1 hh).1, cur, hh⟩
theorem OwnSl.typed {α : Type} {w : World} {base : Nat} {e : TypeId} {sz : Nat} {R : α → List Value → Prop} {v : Value} {xs : List α} (h : OwnSl w base e sz R v xs) : ∀ g, v.ownBlock = some g → ∃ o, w.heap[g]? = some o ∧ Typed e o := by
  obtain ⟨rows, _, _, h2⟩ := h
  intro g hg
  rcases h2 with ⟨hv, _⟩ | ⟨g', cap, cur, hv, _, hh, _⟩
  · subst hv; simp [Value.ownBlock] at hg
  · subst hv; simp [Value.ownBlock] at hg; subst hg; exact ⟨_, hh, _, _, rfl⟩
theorem InitT.trans {ts : List TypeId} {w w' w'' : World} (h : InitT ts w w') (h' : InitT ts w' w'') : InitT ts w w'' := ⟨Nat.le_trans h.size h'.size, fun k o hk hn => h'.keep k o (h.keep k o hk hn) hn⟩
theorem two_cells {cs : Array Value} (h : cs.size = 2) : ∃ c0 c1, cs = #[c0, c1] := by
  obtain ⟨l⟩ := cs
  match l, h with
  | [c0, c1], _ => exact ⟨c0, c1, rfl⟩
theorem five_cells {cs : Array Value} (h : cs.size = 5) : ∃ c0 c1 c2 c3 c4, cs = #[c0, c1, c2, c3, c4] := by
  obtain ⟨l⟩ := cs
  match l, h with
  | [c0, c1, c2, c3, c4], _ => exact ⟨c0, c1, c2, c3, c4, rfl⟩
theorem InitT.of_sets5 {T0 : TypeId} {w : World} {b : Nat} {v0 v1 v2 v3 v4 : Value} {cs : Array Value} (h : w.heap[b]? = some (.cells cs T0)) :
    InitT [T0] w (((((w.setCell ⟨b, 0, none⟩ v0).setCell ⟨b, 1, none⟩ v1).setCell ⟨b, 2, none⟩ v2).setCell ⟨b, 3, none⟩ v3).setCell ⟨b, 4, none⟩ v4) :=
  have m : T0 ∈ [T0] := by simp
  InitT.trans (InitT.trans (InitT.trans (InitT.trans (.of_set m h) (.of_set m (set_at h))) (.of_set m (set_at (set_at h)))) (.of_set m (set_at (set_at (set_at h))))) (.of_set m (set_at (set_at (set_at (set_at h)))))
theorem blk_init {ts : List TypeId} {w w' : World} {b : Nat} {cs : Array Value} {T : TypeId} (h : w.heap[b]? = some (.cells cs T)) (hi : InitT ts w w') (hT : T ∉ ts) : w'.heap[b]? = some (.cells cs T) :=
  hi.keep b _ h fun T' hT' => by
    rintro ⟨cs', fr, e'⟩
    injection e' with _ e2 _
    exact hT (e2 ▸ hT')
def VarAt (B : Nat) (T0 : TypeId) (sz : Nat) (v : Value) (w : World) : Prop := ∃ b, v = .pointer (some ⟨b, 0, none⟩) ∧ B ≤ b ∧ ∃ cs, cs.size = sz ∧ w.heap[b]? = some (.cells cs T0)
def VarIs (T0 : TypeId) (v : Value) (cs : Array Value) (w : World) : Prop := ∃ b, v = .pointer (some ⟨b, 0, none⟩) ∧ w.heap[b]? = some (.cells cs T0)
def initF (B : Nat) (T0 : TypeId) (sz : Nat) (ia is : Nat) (news : (Nat → Value) → Array Value) (G : Nat → (Nat → Bool) → (Nat → Value) → World → Prop) (k : Nat) (done : Nat → Bool) (vf : Nat → Value) (w : World) : Prop :=
  if k = ia then VarAt B T0 sz (vf ia) w else if k = is then VarIs T0 (vf ia) (news vf) w else G k done vf w
def initT (T0 : TypeId) (ts : Nat → List TypeId) (ia is : Nat) (news : (Nat → Value) → Array Value) (i : Nat) (vf : Nat → Value) (w w' : World) : Prop :=
  InitT (if i = is then [T0] else ts i) w w' ∧ (i = is → VarIs T0 (vf ia) (news vf) w')
def initI (B : Nat) (w0 : World) (_ : Nat → Bool) (w : World) : Prop := Cls B w0 w
theorem initT.plain {T0 : TypeId} {ts : Nat → List TypeId} {ia is i : Nat} {news : (Nat → Value) → Array Value} {vf : Nat → Value} {w w' : World} (h : Below w.heap.size w w') (hi : i ≠ is) : initT T0 ts ia is news i vf w w' := ⟨.of_below h, fun e => absurd e hi⟩
theorem initT.other {T0 : TypeId} {ts : Nat → List TypeId} {ia is i : Nat} {news : (Nat → Value) → Array Value} {vf : Nat → Value} {w w' : World} (h : InitT (ts i) w w') (hi : i ≠ is) : initT T0 ts ia is news i vf w w' := ⟨by rw [if_neg hi]; exact h, fun e => absurd e hi⟩
/-- THE LAW: operation ia lays the variable, is stores into it. -/
theorem wp_region_init {P : Program} {l : List Oper} {Q : Exit → Act → World → Prop} {a : Act} {id : Nat} {w : World} (B : Nat) (hBw : B ≤ w.heap.size) (T0 : TypeId) (sz : Nat) (ts : Nat → List TypeId) (ia is : Nat) (news : (Nat → Value) → Array Value) (G : Nat → (Nat → Bool) → (Nat → Value) → World → Prop)
    (hm : P.follows .mixedOrders = true) (hB : monoB2 (l.map prune) a.tmps.size = true) (bs : List (List Nat)) (hbs : befores (l.map prune) [] = bs) (hia : ia ∈ bs.getD is []) (hts : ∀ i, T0 ∉ ts i) (hsz : ∀ vf, (news vf).size = sz)
    (hG : ∀ (i k : Nat) (done : Nat → Bool) (vf : Nat → Value) (w w' : World), k ≠ i → done i = false → (∀ m ∈ bs.getD i [], done m = true) → done k = true → InitT (if i = is then [T0] else ts i) w w' → G k done vf w → G k (updDone done i) vf w')
    (hGp : ∀ (k : Nat) (done : Nat → Bool) (f g : Nat → Value) (w : World), (∀ m ∈ bs.getD k [], f m = g m) → f k = g k → G k done f w → G k done g w) (hN : ∀ f g : Nat → Value, (∀ m ∈ bs.getD is [], f m = g m) → news f = news g)
    (h : relWalk P l.toArray (initI B w) (initT T0 ts ia is news) (initF B T0 sz ia is news G) bs (Q .normal) l.length l 0 (fun _ => a)) : (Code.region id l.toArray true).wp P Q a w := by
  refine wp_region_rel _ _ _ hm hB bs hbs (fun i done vf w1 w2 _ hd hbf hf hT k hk => ?_) (fun k done f g w1 hfg hk hF => ?_) ⟨hBw, (Below.refl _ _).drew⟩ h
  · have hki : k ≠ i := fun e => by rw [e, hd] at hk; cases hk
    have hF := hf k hk
    unfold initF at hF ⊢
    split
    · rename_i e
      rw [if_pos e] at hF
      obtain ⟨b, hv, hb, cs, hs, hc⟩ := hF
      by_cases ei : i = is
      · obtain ⟨b', hv', hc'⟩ := hT.2 ei
        rw [hv] at hv'
        injection hv' with hv'; injection hv' with hv'; injection hv' with hv'
        subst hv'
        exact ⟨b, hv, hb, _, hsz vf, hc'⟩
      · have h1 := hT.1
        rw [if_neg ei] at h1
        exact ⟨b, hv, hb, cs, hs, blk_init hc h1 (hts i)⟩
    · rename_i e
      rw [if_neg e] at hF
      split
      · rename_i e2
        rw [if_pos e2] at hF
        obtain ⟨b, hv, hc⟩ := hF
        have h1 := hT.1
        rw [if_neg (fun e' => hki (e2.trans e'.symm))] at h1
        exact ⟨b, hv, blk_init hc h1 (hts i)⟩
      · rename_i e2
        rw [if_neg e2] at hF
        exact hG i k done vf _ _ hki hd hbf hk hT.1 hF
  · unfold initF at hF ⊢
    split
    · rename_i e
      subst e
      rw [if_pos rfl, hk] at hF
      exact hF
    · rename_i e
      rw [if_neg e] at hF
      split
      · rename_i e2
        subst e2
        rw [if_pos rfl, hN f g hfg, hfg ia hia] at hF
        exact hF
      · rename_i e2
        rw [if_neg e2] at hF
        exact hGp k done f g w1 hfg hk hF
end Go.Proofs.YthkgjohhbdipcaaGreatDoor
namespace Go.Proofs.YthkgjohhbdipcaaGreatDoor
open Go.RowKit

def chainR (w : World) (D : Nat → Prop) (f : List TIns) (cs : List Value) : Prop := ∃ u, cs = [u] ∧ RdCode w D u f
def RdChain (w : World) (D : Nat → Prop) (v : Value) (l : List (List TIns)) : Prop := Sl w D 1 (chainR w D) v l
theorem RdChain.keep {w w' : World} {D D' : Nat → Prop} {v : Value} {l : List (List TIns)} (h : RdChain w D v l) (hD : ∀ b, D b → b < w.heap.size → D' b)
    (hw : ∀ b, D b → b < w.heap.size → w'.heap[b]? = w.heap[b]?) (hs : w.heap.size ≤ w'.heap.size) : RdChain w' D' v l :=
  Sl.mono h hD hw hs (fun _ _ _ ⟨u, h1, h2⟩ => ⟨u, h1, h2.keep hD hw hs⟩)
theorem RdChain.below {w w' : World} {D : Nat → Prop} {v : Value} {l : List (List TIns)} (h : RdChain w D v l) (hb : Below w.heap.size w w') : RdChain w' D v l :=
  h.keep (fun _ h _ => h) (fun b _ hlt => hb.block b hlt) hb.size
theorem RdChain.cells {w : World} {D : Nat → Prop} {b o n c : Nat} {s : Option Nat} {l : List (List TIns)} (h : RdChain w D (.slice (some ⟨b, o, s⟩) n c) l) {i : Nat} (hi : i < l.length) :
    ∃ (a' : Option Addr) (c' : Nat), w.cell? ⟨b, o + i, none⟩ = some (.slice a' l[i].length c') ∧ RdCode w D (.slice a' l[i].length c') l[i] := by
  obtain ⟨cs, _, ⟨u, hu, hr⟩, hcell⟩ := Sl.get h hi
  obtain ⟨a', c', hv, _⟩ := Sl.form hr
  subst hv hu
  have h1 := hcell 0 _ rfl
  rw [Nat.mul_one] at h1
  exact ⟨a', c', h1, hr⟩

set_option maxHeartbeats 4000000 in
theorem chcheck_any (v : Value) (l : List (List TIns)) (D : Nat → Prop) (w : World) (h : RdChain w D v l) :
    Calls Tryz.prog 95 #[v] w fun e w' => e = .returned (.int .i64 (chainE l)) ∧ Below w.heap.size w w' := by
  obtain ⟨a, c, rfl, hlc, hcm, hat⟩ := Sl.form h
  have H := Lib.hid h
  clear h
  go_enter Tryz.func95, Tryz.ntmps95
  by_cases h6 : 6 < l.length
  · have hE : chainE l = 2 := by unfold chainE; rw [if_pos h6]
    rw [hE]
    go_wp2
    go_ret
    exact ⟨rfl, Below.refl _ _⟩
  · have HE : Hid (chainE l = codesGo l) := by show chainE l = _; unfold chainE; rw [if_neg h6]
    go_wp2_with fail
    go_loopw [11] (fun kv wr => ∃ k : Nat, kv = .int .i64 k ∧ k ≤ l.length ∧ codesGo l = codesGo (l.drop k) ∧ Below w.heap.size w wr) (fun kv _ => l.length - (intOf kv).toNat)
    case atStart => exact ⟨0, rfl, by omega, rfl, Below.refl _ _⟩
    case round =>
      obtain ⟨k, rfl, hk, hd, hb⟩ := hrel
      have Hd := Lib.hid hd
      have Hb := Lib.hid hb
      clear hd hb
      by_cases hlt : k < l.length
      · obtain ⟨b, o, rfl, _, _⟩ := hat (by omega)
        obtain ⟨a', c', hc, hr⟩ := RdChain.cells (H.out.below Hb.out) hlt
        have Hr := Lib.hid hr
        have Hdk := Lib.hid (codesGo_drop l k hlt)
        obtain ⟨f, hf⟩ : ∃ f, l[k] = f := ⟨_, rfl⟩
        rw [hf] at hc Hr Hdk
        clear hr hf
        go_wp2_with fail
        refine (codecheck_any _ f _ _ Hr.out).mono ?_
        rintro e w1 ⟨rfl, hb1⟩
        have Hb1 := Lib.hid (bel_call Hb.out hb1)
        clear hb1 hc
        by_cases h0 : codeE f = 0
        · have Hn : Hid (codesGo l = codesGo (l.drop (k + 1))) := by show _ = _; rw [Hd.out, Hdk.out, if_pos h0]
          rw [h0]
          clear h0
          go_wp2
          go_roundw
          case rel => exact ⟨k + 1, by go_num, by omega, Hn.out, Hb1.out⟩
          case measure => simp [intOf]; omega
        · have Hn : Hid (chainE l = codeE f) := by show _ = _; rw [HE.out, Hd.out, Hdk.out, if_neg h0]
          have hb0 : (codeE f != 0) = true := bne_iff_ne.2 h0
          clear h0
          go_wp2
          go_ret
          exact ⟨ret_int Hn.out.symm, Hb1.out⟩
      · obtain rfl : k = l.length := by omega
        have Hn : Hid (chainE l = 0) := by show _ = _; rw [HE.out, Hd.out, List.drop_length]; rfl
        go_wp2
        go_ret
        exact ⟨ret_int Hn.out.symm, Hb.out⟩

theorem askGo_drop (x : TCall) (l : List (List TIns)) (k : Nat) (v : Int) (h : k < l.length) : askGo x (l.drop k) v = askGo x (l.drop (k + 1)) (minOf v (run l[k] x).1) := by
  rw [List.drop_eq_getElem_cons h]; rfl
theorem runE_of {f : List TIns} (h : codeE f = 0) {x : TCall} (hx : x.ok) : runE f x = ((run f x).1, ((run f x).2 : Int), 0) := by
  unfold runE
  rw [if_neg (by rw [h]; simp), if_pos hx]

set_option maxHeartbeats 4000000 in
theorem ask_any (v : Value) (l : List (List TIns)) (x : TCall) (D : Nat → Prop) (w : World) (h : RdChain w D v l) :
    Calls Tryz.prog 58 #[v, callV x] w fun e w' => e = .returned (.tuple #[.int .i64 (askE l x).1, .int .i64 (askE l x).2]) ∧ Below w.heap.size w w' := by
  obtain ⟨a, c, rfl, hlc, hcm, hat⟩ := Sl.form h
  have H := Lib.hid h
  clear h
  go_enter Tryz.func58, Tryz.ntmps58
  go_wp2_with fail
  have HB := Lib.hid (Bx.one (w := w) (o := .cells #[.int .i64 x.a0, .int .i64 x.a1, .int .i64 x.a2, .int .i64 x.a3, .int .i64 x.a4] 46))
  refine (chcheck_any _ l D _ (H.out.below HB.out.bel)).mono ?_
  rintro e w1 ⟨rfl, hb1⟩
  have HB1 := Lib.hid (HB.out.below hb1)
  clear hb1
  by_cases h0 : chainE l = 0
  · obtain ⟨hl6, hcodes⟩ := (chainE_iff l).1 h0
    have Hcd := Lib.hid hcodes
    have H0 := Lib.hid h0
    rw [h0]
    have hc0 := HB1.out.cells0
    clear h0 hcodes
    go_wp2_with fail
    refine (callcheck_any x _).mono ?_
    rintro e w2 ⟨rfl, hb2⟩
    have HB2 := Lib.hid (HB1.out.below hb2)
    clear hb2 hc0
    by_cases hx : x.ok
    · have Hx := Lib.hid hx
      have he : callE x = 0 := by unfold callE; rw [if_pos hx]
      rw [he]
      have HA : Hid (askE l x = (asked l x, 0)) := by show askE l x = _; unfold askE; rw [if_neg (by rw [H0.out]; simp), if_pos hx]
      clear hx he
      go_wp2_with fail
      go_loopw [8, 26] (fun vv kv wr => ∃ (k : Nat) (t : Int), kv = .int .i64 k ∧ vv = .int .i64 t ∧ k ≤ l.length ∧ asked l x = askGo x (l.drop k) t ∧ Bx w [.cells #[.int .i64 x.a0, .int .i64 x.a1, .int .i64 x.a2, .int .i64 x.a3, .int .i64 x.a4] 46] wr) (fun _ kv _ => l.length - (intOf kv).toNat)
      case atStart => exact ⟨0, 4, rfl, rfl, by omega, rfl, HB2.out⟩
      case round =>
        obtain ⟨k, t, rfl, rfl, hk, hd, hb⟩ := hrel
        have Hd := Lib.hid hd
        have HBr := Lib.hid hb
        clear hd hb
        by_cases hlt : k < l.length
        · obtain ⟨b, o, rfl, _, _⟩ := hat (by omega)
          obtain ⟨a', c', hc, hr⟩ := RdChain.cells (H.out.below HBr.out.bel) hlt
          have Hr := Lib.hid hr
          have Hck := Lib.hid (Hcd.out l[k] (List.getElem_mem hlt))
          have Hdk := Lib.hid (askGo_drop x l k t hlt)
          obtain ⟨f, hf⟩ : ∃ f, l[k] = f := ⟨_, rfl⟩
          rw [hf] at hc Hr Hdk Hck
          have hc0 := HBr.out.cells0
          clear hr hf
          go_wp2_with fail
          refine (run_any _ f x _ _ Hr.out).mono ?_
          rw [runE_of Hck.out Hx.out]
          rintro e w3 ⟨rfl, hb3⟩
          have HB3 := Lib.hid (HBr.out.below hb3)
          clear hb3 hc hc0
          obtain ⟨u, hu⟩ : ∃ u, (run f x).1 = u := ⟨_, rfl⟩
          rw [hu] at Hdk ⊢
          have Hn : Hid (asked l x = askGo x (l.drop (k + 1)) (minOf t u)) := by show _ = _; rw [Hd.out, Hdk.out]
          by_cases htu : t ≤ u
          · have e1 : minOf t u = t := by unfold minOf; rw [if_pos htu]
            rw [e1] at Hn
            go_wp2
            go_roundw
            case rel => exact ⟨k + 1, t, by go_num, (by first | rfl | (congr 1 <;> omega) | omega), by omega, Hn.out, HB3.out⟩
            case measure => simp [intOf]; omega
          · have e1 : minOf t u = u := by unfold minOf; rw [if_neg htu]
            rw [e1] at Hn
            go_wp2
            go_roundw
            case rel => exact ⟨k + 1, u, by go_num, (by first | rfl | (congr 1 <;> omega) | omega), by omega, Hn.out, HB3.out⟩
            case measure => simp [intOf]; omega
        · obtain rfl : k = l.length := by omega
          have Hn : Hid (asked l x = t) := by show _ = _; rw [Hd.out, List.drop_length]; rfl
          have HBf := Lib.hid HBr.out.bel
          go_wp2
          go_ret2
          exact ⟨by rw [HA.out, Hn.out] <;> rfl, HBf.out⟩
    · have he : callE x = 3 := by unfold callE; rw [if_neg hx]
      have HA : Hid (askE l x = (0, 3)) := by show askE l x = _; unfold askE; rw [if_neg (by rw [H0.out]; simp), if_neg hx]
      have HBf := Lib.hid HB2.out.bel
      rw [he]
      clear hx
      go_wp2
      go_ret2
      exact ⟨by rw [HA.out] <;> rfl, HBf.out⟩
  · have HA : Hid (askE l x = (0, chainE l)) := by show askE l x = _; unfold askE; rw [if_pos h0]
    have hb0 : (chainE l != 0) = true := bne_iff_ne.2 h0
    have HBf := Lib.hid HB1.out.bel
    clear h0
    go_wp2
    go_ret2
    exact ⟨by rw [HA.out] <;> rfl, HBf.out⟩
end Go.Proofs.YthkgjohhbdipcaaGreatDoor
namespace Go.Proofs.YthkgjohhbdipcaaGreatDoor
open Go.RowKit

/-- a record, as an argument: its cells. -/
@[reducible] def recV (r : TRec) (v : Value) : Value := .agg #[.int .i64 r.kind, .int .i64 r.cell, .int .i64 r.from_, v, .int .i64 r.p.dflt]
def recR (w : World) (D : Nat → Prop) (r : TRec) (cs : List Value) : Prop := ∃ v, cs = [.int .i64 r.kind, .int .i64 r.cell, .int .i64 r.from_, v, .int .i64 r.p.dflt] ∧ RdRules w D v r.p.rules
def RdRecs (w : World) (D : Nat → Prop) (v : Value) (l : List TRec) : Prop := Sl w D 5 (recR w D) v l
theorem RdRecs.keep {w w' : World} {D D' : Nat → Prop} {v : Value} {l : List TRec} (h : RdRecs w D v l) (hD : ∀ b, D b → b < w.heap.size → D' b)
    (hw : ∀ b, D b → b < w.heap.size → w'.heap[b]? = w.heap[b]?) (hs : w.heap.size ≤ w'.heap.size) : RdRecs w' D' v l := Sl.mono h hD hw hs (fun _ _ _ ⟨u, h1, h2⟩ => ⟨u, h1, h2.keep hD hw hs⟩)
theorem RdRecs.below {w w' : World} {D : Nat → Prop} {v : Value} {l : List TRec} (h : RdRecs w D v l) (hb : Below w.heap.size w w') : RdRecs w' D v l :=
  h.keep (fun _ h _ => h) (fun b _ hlt => hb.block b hlt) hb.size
theorem RdRecs.cells {w : World} {D : Nat → Prop} {b o n c : Nat} {s : Option Nat} {l : List TRec} (h : RdRecs w D (.slice (some ⟨b, o, s⟩) n c) l) {i : Nat} (hi : i < l.length) :
    ∃ (a : Option Addr) (c : Nat), w.cell? ⟨b, o + i * 5, none⟩ = some (.int .i64 l[i].kind) ∧ w.cell? ⟨b, o + i * 5 + 1, none⟩ = some (.int .i64 l[i].cell) ∧ w.cell? ⟨b, o + i * 5 + 2, none⟩ = some (.int .i64 l[i].from_) ∧ w.cell? ⟨b, o + i * 5 + 3, none⟩ = some (.slice a l[i].p.rules.length c) ∧ w.cell? ⟨b, o + i * 5 + 4, none⟩ = some (.int .i64 l[i].p.dflt) ∧
      RdRules w D (.slice a l[i].p.rules.length c) l[i].p.rules := by
  obtain ⟨cs, _, ⟨v, hu, hp⟩, hcell⟩ := Sl.get h hi
  obtain ⟨a1, c1, hv, _⟩ := Sl.form hp
  subst hv hu
  exact ⟨a1, c1, by have := hcell 0 _ rfl; simpa using this, by have := hcell 1 _ rfl; simpa [Nat.add_assoc] using this, by have := hcell 2 _ rfl; simpa [Nat.add_assoc] using this, by have := hcell 3 _ rfl; simpa [Nat.add_assoc] using this, by have := hcell 4 _ rfl; simpa [Nat.add_assoc] using this, hp⟩
theorem recR.keep {w w' : World} {D D' : Nat → Prop} {r : TRec} {cs : List Value} (h : recR w D r cs) (hD : ∀ b, D b → b < w.heap.size → D' b) (hw : ∀ b, D b → b < w.heap.size → w'.heap[b]? = w.heap[b]?) (hs : w.heap.size ≤ w'.heap.size) : recR w' D' r cs := by
  obtain ⟨u, h1, h2⟩ := h
  exact ⟨u, h1, h2.keep hD hw hs⟩
theorem recR_one {w : World} {D : Nat → Prop} (y : TRec) (cs : List Value) (h : recR w D y cs) : ∀ c ∈ cs, c.oneCell' = true := by
  obtain ⟨u, rfl, h1⟩ := h
  obtain ⟨a, c, rfl, _⟩ := Sl.form h1
  simp [Value.oneCell']
theorem recs_true {w : World} {D : Nat → Prop} {v : Value} {l : List TRec} (h : RdRecs w D v l) : RdRecs w (fun _ => True) v l := h.keep (fun _ _ _ => trivial) (fun _ _ _ => rfl) (Nat.le_refl _)
end Go.Proofs.YthkgjohhbdipcaaGreatDoor
namespace Go.Proofs.YthkgjohhbdipcaaGreatDoor
open Go.RowKit

def cellR (w : World) (D : Nat → Prop) (c : TCell) (cs : List Value) : Prop := ∃ u v, cs = [.bool c.open_, u, v, .int .i64 c.p.dflt] ∧ RdChain w D u c.chain ∧ RdRules w D v c.p.rules
def RdCells (w : World) (D : Nat → Prop) (v : Value) (l : List TCell) : Prop := Sl w D 4 (cellR w D) v l
theorem cellR.keep {w w' : World} {D D' : Nat → Prop} {c : TCell} {cs : List Value} (h : cellR w D c cs) (hD : ∀ b, D b → b < w.heap.size → D' b) (hw : ∀ b, D b → b < w.heap.size → w'.heap[b]? = w.heap[b]?) (hs : w.heap.size ≤ w'.heap.size) : cellR w' D' c cs := by
  obtain ⟨u, v, h1, h2, h3⟩ := h
  exact ⟨u, v, h1, h2.keep hD hw hs, h3.keep hD hw hs⟩
theorem RdCells.keep {w w' : World} {D D' : Nat → Prop} {v : Value} {l : List TCell} (h : RdCells w D v l) (hD : ∀ b, D b → b < w.heap.size → D' b)
    (hw : ∀ b, D b → b < w.heap.size → w'.heap[b]? = w.heap[b]?) (hs : w.heap.size ≤ w'.heap.size) : RdCells w' D' v l := Sl.mono h hD hw hs (fun _ _ _ h => h.keep hD hw hs)
theorem RdCells.below {w w' : World} {D : Nat → Prop} {v : Value} {l : List TCell} (h : RdCells w D v l) (hb : Below w.heap.size w w') : RdCells w' D v l :=
  h.keep (fun _ h _ => h) (fun b _ hlt => hb.block b hlt) hb.size
theorem RdCells.cells {w : World} {D : Nat → Prop} {b o n c : Nat} {s : Option Nat} {l : List TCell} (h : RdCells w D (.slice (some ⟨b, o, s⟩) n c) l) {i : Nat} (hi : i < l.length) :
    ∃ (a1 a2 : Option Addr) (c1 c2 : Nat), w.cell? ⟨b, o + i * 4, none⟩ = some (.bool l[i].open_) ∧ w.cell? ⟨b, o + i * 4 + 1, none⟩ = some (.slice a1 l[i].chain.length c1) ∧ w.cell? ⟨b, o + i * 4 + 2, none⟩ = some (.slice a2 l[i].p.rules.length c2) ∧ w.cell? ⟨b, o + i * 4 + 3, none⟩ = some (.int .i64 l[i].p.dflt) ∧
      RdChain w D (.slice a1 l[i].chain.length c1) l[i].chain ∧ RdRules w D (.slice a2 l[i].p.rules.length c2) l[i].p.rules := by
  obtain ⟨cs, _, ⟨u, v, hu, hr, hp⟩, hcell⟩ := Sl.get h hi
  obtain ⟨a1, c1, hv, _⟩ := Sl.form hr
  obtain ⟨a2, c2, hv2, _⟩ := Sl.form hp
  subst hv hv2 hu
  exact ⟨a1, a2, c1, c2, by have := hcell 0 _ rfl; simpa using this, by have := hcell 1 _ rfl; simpa [Nat.add_assoc] using this, by have := hcell 2 _ rfl; simpa [Nat.add_assoc] using this, by have := hcell 3 _ rfl; simpa [Nat.add_assoc] using this, hr, hp⟩
theorem cellR_one {w : World} {D : Nat → Prop} (y : TCell) (cs : List Value) (h : cellR w D y cs) : ∀ c ∈ cs, c.oneCell' = true := by
  obtain ⟨u, v, rfl, h1, h2⟩ := h
  obtain ⟨a, c, rfl, _⟩ := Sl.form h1
  obtain ⟨a2, c2, rfl, _⟩ := Sl.form h2
  simp [Value.oneCell']
end Go.Proofs.YthkgjohhbdipcaaGreatDoor
