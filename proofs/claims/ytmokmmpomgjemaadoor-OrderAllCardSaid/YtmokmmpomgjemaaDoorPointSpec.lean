/- Chapter 6 as plain functions: cuts, points, homes; what holds of them. No program is in sight. -/
import Derived.Test.YtmokmmpomgjemaaDoorPolSpec
namespace Go.Proofs.YtmokmmpomgjemaaDoor

/-! ### rising lists of integers -/
def insU (x : Int) : List Int → List Int
  | [] => [x]
  | y :: l => if x < y then x :: y :: l else if x = y then y :: l else y :: insU x l
def Rising (l : List Int) : Prop := l.Pairwise (· < ·)
theorem mem_insU (x z : Int) : ∀ l : List Int, z ∈ insU x l ↔ z = x ∨ z ∈ l
  | [] => by simp [insU]
  | y :: l => by
    unfold insU
    split
    · simp
    · split
      · rename_i h; subst h; simp
      · simp only [List.mem_cons, mem_insU x z l]
        constructor
        · rintro (h | h | h) <;> simp [h]
        · rintro (h | h | h) <;> simp [h]
theorem rising_insU (x : Int) : ∀ l : List Int, Rising l → Rising (insU x l)
  | [], _ => by simp [insU, Rising]
  | y :: l, h => by
    unfold Rising at h
    obtain ⟨h1, h2⟩ := List.pairwise_cons.1 h
    unfold insU
    split
    · rename_i hlt
      refine List.pairwise_cons.2 ⟨fun z hz => ?_, h⟩
      rcases List.mem_cons.1 hz with rfl | hz
      · exact hlt
      · have := h1 z hz; omega
    · split
      · exact h
      · rename_i h3 h4
        refine List.pairwise_cons.2 ⟨fun z hz => ?_, rising_insU x l h2⟩
        rcases (mem_insU x z l).1 hz with rfl | hz
        · omega
        · exact h1 z hz
def setOf : List Int → List Int
  | [] => []
  | x :: l => insU x (setOf l)
theorem mem_setOf (z : Int) : ∀ l : List Int, z ∈ setOf l ↔ z ∈ l
  | [] => by simp [setOf]
  | x :: l => by simp [setOf, mem_insU, mem_setOf z l]
theorem rising_setOf : ∀ l : List Int, Rising (setOf l)
  | [] => List.Pairwise.nil
  | x :: l => rising_insU x _ (rising_setOf l)
theorem rising_unique : ∀ (l m : List Int), Rising l → Rising m → (∀ z, z ∈ l ↔ z ∈ m) → l = m
  | [], [], _, _, _ => rfl
  | [], y :: m, _, _, h => by have := (h y).2 (List.mem_cons_self ..); simp at this
  | x :: l, [], _, _, h => by have := (h x).1 (List.mem_cons_self ..); simp at this
  | x :: l, y :: m, hl, hm, h => by
    obtain ⟨h1, h2⟩ := List.pairwise_cons.1 hl
    obtain ⟨h3, h4⟩ := List.pairwise_cons.1 hm
    have hxy : x = y := by
      have a := (h x).1 (List.mem_cons_self ..)
      have b := (h y).2 (List.mem_cons_self ..)
      rcases List.mem_cons.1 a with a | a
      · exact a
      · rcases List.mem_cons.1 b with b | b
        · exact b.symm
        · have := h1 _ b; have := h3 _ a; omega
    subst hxy
    rw [rising_unique l m h2 h4 (fun z => ?_)]
    constructor
    · intro hz
      rcases List.mem_cons.1 ((h z).1 (List.mem_cons_of_mem _ hz)) with rfl | hz'
      · have := h1 _ hz; omega
      · exact hz'
    · intro hz
      rcases List.mem_cons.1 ((h z).2 (List.mem_cons_of_mem _ hz)) with rfl | hz'
      · have := h3 _ hz; omega
      · exact hz'
theorem rising_filter {l : List Int} (p : Int → Bool) (h : Rising l) : Rising (l.filter p) := List.Pairwise.sublist (List.filter_sublist) h

/-! ### cuts -/
def condCuts (f : Int) (c : TCond) : List Int := if c.f = f then (if c.op = 1 ∨ c.op = 2 then [c.v, c.v + 1] else [c.v]) else []
def ruleCuts (f : Int) (r : TRule) : List Int := r.conds.flatMap (condCuts f)
def polCuts (f : Int) (p : TPol) : List Int := p.rules.flatMap (ruleCuts f)
def cutVals (l : List TPol) (f : Int) : List Int := 0 :: l.flatMap (polCuts f)
def cutsOf (l : List TPol) (f : Int) : List Int := (setOf (cutVals l f)).filter fun n => decide (n ≤ mostOf f)
theorem rising_cuts (l : List TPol) (f : Int) : Rising (cutsOf l f) := rising_filter _ (rising_setOf _)
theorem mem_cuts {l : List TPol} {f n : Int} : n ∈ cutsOf l f ↔ n ∈ cutVals l f ∧ n ≤ mostOf f := by
  unfold cutsOf; rw [List.mem_filter, mem_setOf]; simp
theorem most_pos (f : Int) : 0 ≤ mostOf f := by unfold mostOf; split <;> (try split) <;> omega
theorem zero_cut (l : List TPol) (f : Int) : 0 ∈ cutsOf l f := mem_cuts.2 ⟨List.mem_cons_self .., most_pos f⟩
theorem cuts_pos (l : List TPol) (f : Int) : 0 < (cutsOf l f).length := List.length_pos_of_mem (zero_cut l f)
theorem mem_vals {l : List TPol} {f n : Int} : n ∈ cutVals l f ↔ n = 0 ∨ ∃ p ∈ l, ∃ r ∈ p.rules, ∃ c ∈ r.conds, n ∈ condCuts f c := by
  unfold cutVals polCuts ruleCuts
  simp only [List.mem_cons, List.mem_flatMap]
theorem mem_condCuts {f n : Int} {c : TCond} : n ∈ condCuts f c ↔ c.f = f ∧ (n = c.v ∨ ((c.op = 1 ∨ c.op = 2) ∧ n = c.v + 1)) := by
  unfold condCuts
  split
  · rename_i h
    split
    · rename_i h'; simp [h, h']
    · rename_i h'; simp [h, h']
  · rename_i h; simp [h]
/-- all right: no error. -/
def polsE : List TPol → Int
  | [] => 0
  | p :: l => if polE p = 0 then polsE l else polE p
theorem polsE_iff : ∀ l : List TPol, polsE l = 0 ↔ ∀ p ∈ l, OkPol p
  | [] => by simp [polsE]
  | p :: l => by
    simp only [polsE, List.mem_cons, forall_eq_or_imp]
    rw [← polsE_iff l, ← okPol_iff p]
    split
    · rename_i h; simp [h]
    · rename_i h; simp [h]
theorem polsE_drop (l : List TPol) (k : Nat) (h : k < l.length) : polsE (l.drop k) = if polE l[k] = 0 then polsE (l.drop (k + 1)) else polE l[k] := by
  rw [List.drop_eq_getElem_cons h]; rfl
theorem cuts_range {l : List TPol} (h : ∀ p ∈ l, OkPol p) {f n : Int} (hn : n ∈ cutsOf l f) : 0 ≤ n ∧ n ≤ mostOf f := by
  obtain ⟨h1, h2⟩ := mem_cuts.1 hn
  refine ⟨?_, h2⟩
  rcases mem_vals.1 h1 with rfl | ⟨p, hp, r, hr, c, hc, hm⟩
  · omega
  · have := ((h p hp).rules r hr).conds c hc
    obtain ⟨_, h | ⟨_, h⟩⟩ := mem_condCuts.1 hm <;> have := this.v0 <;> omega

/-! ### homes -/
/-- the last one that isn't above n. -/
def best (n : Int) : List Int → Int → Int
  | [], b => b
  | m :: l, b => if m ≤ n then best n l m else best n l b
theorem best_spec (n : Int) : ∀ (l : List Int) (b : Int), Rising l → (∀ m ∈ l, b < m) → b ≤ n → (best n l b = b ∨ best n l b ∈ l) ∧ best n l b ≤ n ∧ b ≤ best n l b ∧ ∀ m ∈ l, m ≤ n → m ≤ best n l b
  | [], b, _, _, hb => by simp [best]; exact hb
  | m :: l, b, h, hm, hb => by
    obtain ⟨h1, h2⟩ := List.pairwise_cons.1 h
    unfold best
    split
    · rename_i hle
      obtain ⟨a1, a2, a3, a4⟩ := best_spec n l m h2 h1 hle
      have := hm m (List.mem_cons_self ..)
      refine ⟨?_, a2, by omega, fun z hz hzn => ?_⟩
      · rcases a1 with a1 | a1
        · right; rw [a1]; exact List.mem_cons_self ..
        · right; exact List.mem_cons_of_mem _ a1
      · rcases List.mem_cons.1 hz with rfl | hz
        · exact a3
        · exact a4 z hz hzn
    · rename_i hle
      obtain ⟨a1, a2, a3, a4⟩ := best_spec n l b h2 (fun z hz => hm z (List.mem_cons_of_mem _ hz)) hb
      refine ⟨?_, a2, a3, fun z hz hzn => ?_⟩
      · rcases a1 with a1 | a1
        · exact .inl a1
        · right; exact List.mem_cons_of_mem _ a1
      · rcases List.mem_cons.1 hz with rfl | hz
        · omega
        · exact a4 z hz hzn
/-- the greatest cut that isn't above n. -/
def homeCut (l : List TPol) (f n : Int) : Int := best n (cutsOf l f) 0
theorem best_zero {n : Int} {l : List Int} (hr : Rising l) (h0 : 0 ∈ l) (hp : ∀ m ∈ l, 0 ≤ m) (hn : 0 ≤ n) : best n l 0 ∈ l ∧ best n l 0 ≤ n ∧ ∀ m ∈ l, m ≤ n → m ≤ best n l 0 := by
  cases l with
  | nil => simp at h0
  | cons z l =>
    obtain ⟨h1, h2⟩ := List.pairwise_cons.1 hr
    have hz : z = 0 := by
      rcases List.mem_cons.1 h0 with h | h
      · exact h.symm
      · have := h1 _ h; have := hp z (List.mem_cons_self ..); omega
    subst hz
    obtain ⟨a1, a2, a3, a4⟩ := best_spec n l 0 h2 h1 hn
    have e : best n (0 :: l) 0 = best n l 0 := by
      show (if (0 : Int) ≤ n then _ else _) = _
      rw [if_pos hn]
    rw [e]
    refine ⟨?_, a2, fun m hm hmn => ?_⟩
    · rcases a1 with a1 | a1
      · rw [a1]; exact List.mem_cons_self ..
      · exact List.mem_cons_of_mem _ a1
    · rcases List.mem_cons.1 hm with rfl | hm
      · exact a3
      · exact a4 m hm hmn
theorem homeCut_spec {l : List TPol} (h : ∀ p ∈ l, OkPol p) {f n : Int} (hn : 0 ≤ n) : homeCut l f n ∈ cutsOf l f ∧ homeCut l f n ≤ n ∧ ∀ m ∈ cutsOf l f, m ≤ n → m ≤ homeCut l f n :=
  best_zero (rising_cuts l f) (zero_cut l f) (fun _ hm => (cuts_range h hm).1) hn
def homeOf (l : List TPol) (x : TCall) : TCall := ⟨homeCut l 0 x.a0, homeCut l 1 x.a1, homeCut l 2 x.a2, homeCut l 3 x.a3, homeCut l 4 x.a4⟩
theorem get_home (l : List TPol) (x : TCall) {f : Int} (h0 : 0 ≤ f) (h1 : f < 5) : (homeOf l x).get f = homeCut l f (x.get f) := by
  have hf : f = 0 ∨ f = 1 ∨ f = 2 ∨ f = 3 ∨ f = 4 := by omega
  rcases hf with rfl | rfl | rfl | rfl | rfl <;> rfl
theorem ok_get {x : TCall} (h : x.ok) {f : Int} (h0 : 0 ≤ f) (h1 : f < 5) : 0 ≤ x.get f ∧ x.get f ≤ mostOf f := by
  have := TCall.ok_get h (k := f.toNat) (by omega)
  rwa [Int.toNat_of_nonneg h0] at this
theorem holds_home {l : List TPol} (h : ∀ p ∈ l, OkPol p) {x : TCall} (hx : x.ok) {p : TPol} (hp : p ∈ l) {r : TRule} (hr : r ∈ p.rules) {c : TCond} (hc : c ∈ r.conds) : holdsB c (homeOf l x) = holdsB c x := by
  have ok := ((h p hp).rules r hr).conds c hc
  have hg := ok_get hx ok.f0 ok.f1
  obtain ⟨a1, a2, a3⟩ := homeCut_spec h (f := c.f) hg.1
  have hv : c.v ∈ cutsOf l c.f := mem_cuts.2 ⟨mem_vals.2 (.inr ⟨p, hp, r, hr, c, hc, mem_condCuts.2 ⟨rfl, .inl rfl⟩⟩), ok.v1⟩
  have hv1 : (c.op = 1 ∨ c.op = 2) → c.v + 1 ≤ mostOf c.f → c.v + 1 ∈ cutsOf l c.f := fun ho hle => mem_cuts.2 ⟨mem_vals.2 (.inr ⟨p, hp, r, hr, c, hc, mem_condCuts.2 ⟨rfl, .inr ⟨ho, rfl⟩⟩⟩), hle⟩
  unfold holdsB
  rw [get_home l x ok.f0 ok.f1]
  generalize hn : x.get c.f = n at *
  generalize hh : homeCut l c.f n = m at *
  have key1 : (c.op = 1 ∨ c.op = 2) → (m = c.v ↔ n = c.v) := by
    intro ho
    constructor
    · intro e
      by_cases e' : n = c.v
      · exact e'
      · have := a3 _ (hv1 ho (by omega)) (by omega); omega
    · intro e
      have := a3 _ hv (by omega); omega
  have key2 : (m < c.v ↔ n < c.v) := by
    constructor
    · intro e
      by_cases e' : n < c.v
      · exact e'
      · have := a3 _ hv (by omega); omega
    · intro e; omega
  split
  · rename_i ho
    rw [Bool.eq_iff_iff]; simp [key1 (.inl ho)]
  · split
    · rename_i ho
      rw [Bool.eq_iff_iff]; simp [key1 (.inr ho)]
    · split
      · rw [Bool.eq_iff_iff]; simp [key2]
      · rw [Bool.eq_iff_iff]; simp; omega
theorem allHold_home {l : List TPol} (h : ∀ p ∈ l, OkPol p) {x : TCall} (hx : x.ok) {p : TPol} (hp : p ∈ l) {r : TRule} (hr : r ∈ p.rules) : allHold (homeOf l x) r.conds = allHold x r.conds := by
  unfold allHold
  rw [Bool.eq_iff_iff, List.all_eq_true, List.all_eq_true]
  constructor
  · intro a c hc; rw [← holds_home h hx hp hr hc]; exact a c hc
  · intro a c hc; rw [holds_home h hx hp hr hc]; exact a c hc
theorem which_congr {x y : TCall} : ∀ (l : List TRule), (∀ r ∈ l, allHold x r.conds = allHold y r.conds) → which x l = which y l
  | [], _ => rfl
  | r :: l, h => by
    unfold which
    rw [h r (List.mem_cons_self ..), which_congr l (fun r hr => h r (List.mem_cons_of_mem _ hr))]
/-- EACH POLICY SAYS OF A CALL WHAT IT SAYS OF ITS HOME, by the same rule. -/
theorem which_home {l : List TPol} (h : ∀ p ∈ l, OkPol p) {x : TCall} (hx : x.ok) {p : TPol} (hp : p ∈ l) : which (homeOf l x) p.rules = which x p.rules :=
  which_congr _ fun _ hr => allHold_home h hx hp hr
theorem judged_home {l : List TPol} (h : ∀ p ∈ l, OkPol p) {x : TCall} (hx : x.ok) {p : TPol} (hp : p ∈ l) : judged p (homeOf l x) = judged p x := by
  unfold judged; rw [which_home h hx hp]
theorem ok_home {l : List TPol} (h : ∀ p ∈ l, OkPol p) {x : TCall} (hx : x.ok) : (homeOf l x).ok := by
  refine TCall.ok_of fun k hk => ?_
  rw [get_home l x (by omega) (by omega)]
  exact cuts_range h (homeCut_spec h (ok_get hx (f := k) (by omega) (by omega)).1).1
theorem homeCut_self {l : List TPol} (h : ∀ p ∈ l, OkPol p) {f n : Int} (hn : n ∈ cutsOf l f) : homeCut l f n = n := by
  obtain ⟨a1, a2, a3⟩ := homeCut_spec h (f := f) (n := n) (cuts_range h hn).1
  have := a3 n hn (Int.le_refl _); omega
theorem home_home {l : List TPol} (h : ∀ p ∈ l, OkPol p) {x : TCall} (hx : x.ok) : homeOf l (homeOf l x) = homeOf l x := by
  have g := fun (f : Int) (h0 : 0 ≤ f) (h1 : f < 5) => homeCut_self h (homeCut_spec h (f := f) (ok_get hx h0 h1).1).1
  have g0 := g 0 (by omega) (by omega); have g1 := g 1 (by omega) (by omega); have g2 := g 2 (by omega) (by omega); have g3 := g 3 (by omega) (by omega); have g4 := g 4 (by omega) (by omega)
  simp only [TCall.get] at g0 g1 g2 g3 g4
  simp only [homeOf]
  simp at g0 g1 g2 g3 g4
  rw [g0, g1, g2, g3, g4]

/-! ### points -/
def TCall.set (x : TCall) (k : Nat) (n : Int) : TCall := match k with
  | 0 => { x with a0 := n } | 1 => { x with a1 := n } | 2 => { x with a2 := n } | 3 => { x with a3 := n } | _ => { x with a4 := n }
def stage (l : List TPol) : Nat → List TCall
  | 0 => [⟨0, 0, 0, 0, 0⟩]
  | k + 1 => (stage l k).flatMap fun x => (cutsOf l k).map fun n => x.set k n
def sizes (l : List TPol) : Nat → Nat
  | 0 => 1
  | k + 1 => sizes l k * (cutsOf l k).length
theorem stage_length (l : List TPol) : ∀ k, (stage l k).length = sizes l k
  | 0 => rfl
  | k + 1 => by
    simp only [stage, sizes, List.length_flatMap, List.length_map]
    rw [← stage_length l k]
    generalize (cutsOf l k).length = m
    induction stage l k with
    | nil => simp
    | cons x r ih => simp [ih, Nat.add_mul]; omega
theorem sizes_pos (l : List TPol) : ∀ k, 0 < sizes l k
  | 0 => by simp [sizes]
  | k + 1 => Nat.mul_pos (sizes_pos l k) (cuts_pos l k)
theorem sizes_mono (l : List TPol) (k : Nat) : sizes l k ≤ sizes l (k + 1) := Nat.le_mul_of_pos_right _ (cuts_pos l k)
theorem sizes_le (l : List TPol) {k m : Nat} (h : k ≤ m) : sizes l k ≤ sizes l m := by
  induction h with
  | refl => exact Nat.le_refl _
  | step _ ih => exact Nat.le_trans ih (sizes_mono l _)
/-- chapter 6's Points. -/
def pointsE (l : List TPol) : List TCall × Int := if polsE l ≠ 0 then ([], polsE l) else if 1000 < sizes l 5 then ([], 2) else (stage l 5, 0)
theorem mem_stage {l : List TPol} {y : TCall} : ∀ {k : Nat}, y ∈ stage l (k + 1) ↔ ∃ x ∈ stage l k, ∃ n ∈ cutsOf l k, y = x.set k n := by
  intro k
  simp only [stage, List.mem_flatMap, List.mem_map]
  constructor
  · rintro ⟨x, hx, n, hn, rfl⟩; exact ⟨x, hx, n, hn, rfl⟩
  · rintro ⟨x, hx, n, hn, rfl⟩; exact ⟨x, hx, n, hn, rfl⟩
theorem mem_points {l : List TPol} {y : TCall} : y ∈ stage l 5 ↔ y.a0 ∈ cutsOf l 0 ∧ y.a1 ∈ cutsOf l 1 ∧ y.a2 ∈ cutsOf l 2 ∧ y.a3 ∈ cutsOf l 3 ∧ y.a4 ∈ cutsOf l 4 := by
  constructor
  · intro h
    obtain ⟨x4, h4, n4, m4, rfl⟩ := mem_stage.1 h
    obtain ⟨x3, h3, n3, m3, rfl⟩ := mem_stage.1 h4
    obtain ⟨x2, h2, n2, m2, rfl⟩ := mem_stage.1 h3
    obtain ⟨x1, h1, n1, m1, rfl⟩ := mem_stage.1 h2
    obtain ⟨x0, h0, n0, m0, rfl⟩ := mem_stage.1 h1
    exact ⟨m0, m1, m2, m3, m4⟩
  · rintro ⟨m0, m1, m2, m3, m4⟩
    refine mem_stage.2 ⟨⟨y.a0, y.a1, y.a2, y.a3, 0⟩, mem_stage.2 ⟨⟨y.a0, y.a1, y.a2, 0, 0⟩, mem_stage.2 ⟨⟨y.a0, y.a1, 0, 0, 0⟩, mem_stage.2 ⟨⟨y.a0, 0, 0, 0, 0⟩, mem_stage.2 ⟨⟨0, 0, 0, 0, 0⟩, List.mem_cons_self .., y.a0, m0, rfl⟩, y.a1, m1, rfl⟩, y.a2, m2, rfl⟩, y.a3, m3, rfl⟩, y.a4, m4, rfl⟩
theorem home_point {l : List TPol} (h : ∀ p ∈ l, OkPol p) {x : TCall} (hx : x.ok) : homeOf l x ∈ stage l 5 := by
  have g := fun (f : Int) (h0 : 0 ≤ f) (h1 : f < 5) => (homeCut_spec h (f := f) (ok_get hx h0 h1).1).1
  exact mem_points.2 ⟨g 0 (by omega) (by omega), g 1 (by omega) (by omega), g 2 (by omega) (by omega), g 3 (by omega) (by omega), g 4 (by omega) (by omega)⟩
theorem point_ok {l : List TPol} (h : ∀ p ∈ l, OkPol p) {x : TCall} (hx : x ∈ stage l 5) : x.ok := by
  obtain ⟨m0, m1, m2, m3, m4⟩ := mem_points.1 hx
  exact ⟨cuts_range h m0, cuts_range h m1, cuts_range h m2, cuts_range h m3, cuts_range h m4⟩
theorem pointsE_ok {l : List TPol} (h : (pointsE l).2 = 0) : (∀ p ∈ l, OkPol p) ∧ sizes l 5 ≤ 1000 ∧ pointsE l = (stage l 5, 0) := by
  unfold pointsE at h ⊢
  split at h
  · rename_i h1; exact absurd h h1
  · rename_i h1
    split at h
    · simp at h
    · rename_i h2
      exact ⟨(polsE_iff l).1 (by simpa using h1), by omega, by rw [if_neg h1, if_neg h2]⟩
theorem pointsE_of {l : List TPol} (h : ∀ p ∈ l, OkPol p) (hs : sizes l 5 ≤ 1000) : pointsE l = (stage l 5, 0) := by
  unfold pointsE
  rw [if_neg (by rw [(polsE_iff l).2 h]; simp), if_neg (by omega)]
/-- with fewer conditions there are no more points. -/
theorem cuts_sub {l m : List TPol} {f : Int} (h : ∀ n, n ∈ cutVals l f → n ∈ cutVals m f) : (∀ n ∈ cutsOf l f, n ∈ cutsOf m f) := fun _ hn => mem_cuts.2 ⟨h _ (mem_cuts.1 hn).1, (mem_cuts.1 hn).2⟩
theorem rising_len : ∀ (l m : List Int), Rising l → Rising m → (∀ z ∈ l, z ∈ m) → l.length ≤ m.length
  | [], _, _, _, _ => by simp
  | x :: l, [], _, _, h => by have := h x (List.mem_cons_self ..); simp at this
  | x :: l, y :: m, hl, hm, h => by
    obtain ⟨h1, h2⟩ := List.pairwise_cons.1 hl
    obtain ⟨h3, h4⟩ := List.pairwise_cons.1 hm
    have := rising_len l m h2 h4 fun z hz => by
      rcases List.mem_cons.1 (h z (List.mem_cons_of_mem _ hz)) with rfl | h'
      · rcases List.mem_cons.1 (h x (List.mem_cons_self ..)) with rfl | h''
        · have := h1 _ hz; omega
        · have := h1 _ hz; have := h3 _ h''; omega
      · exact h'
    simp; omega
theorem sizes_sub {l m : List TPol} (h : ∀ f n, n ∈ cutVals l f → n ∈ cutVals m f) : ∀ k, sizes l k ≤ sizes m k
  | 0 => Nat.le_refl _
  | k + 1 => Nat.mul_le_mul (sizes_sub h k) (rising_len _ _ (rising_cuts l k) (rising_cuts m k) (cuts_sub (h k)))
theorem stage_sub {l m : List TPol} (h : ∀ f n, n ∈ cutVals l f → n ∈ cutVals m f) {x : TCall} (hx : x ∈ stage l 5) : x ∈ stage m 5 := by
  obtain ⟨m0, m1, m2, m3, m4⟩ := mem_points.1 hx
  exact mem_points.2 ⟨cuts_sub (h 0) _ m0, cuts_sub (h 1) _ m1, cuts_sub (h 2) _ m2, cuts_sub (h 3) _ m3, cuts_sub (h 4) _ m4⟩
end Go.Proofs.YtmokmmpomgjemaaDoor
