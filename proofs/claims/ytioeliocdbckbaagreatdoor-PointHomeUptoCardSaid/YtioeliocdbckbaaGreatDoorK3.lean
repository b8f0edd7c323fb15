/- Texts laid one behind the other: PointSpec, OrderSpec, Bx, MWhole, ConcatCond, Call, Policy, PolCheck. No condition beyond theirs. -/
import Derived.Test.YtioeliocdbckbaaGreatDoorK2
import Derived.Test.YtioeliocdbckbaaGreatDoorK1
import Derived.Test.YtioeliocdbckbaaGreatDoorProg
import Derived.KernelRfl
import Derived.Deep.LoopGhost
namespace Go.Proofs.YtioeliocdbckbaaGreatDoor

/-! ### rising lists of integers -/
def insU (x : Int) : List Int → List Int
  | [] => [x]
  | y :: l => if x < y then x :: y :: l else if x = y then y :: l else y :: insU x l
def Rising (l : List Int) : Prop := l.Pairwise (· < ·)
theorem mem_insU (x z : Int) : ∀ l : List Int, z ∈ insU x l ↔ z = x ∨ z ∈ l
  | [] => by simp [insU]
  | y :: l => by
    unfold insU
    split
    · simp
    · split
      · rename_i h; subst h; simp
      · simp only [List.mem_cons, mem_insU x z l]
        constructor
        · rintro (h | h | h) <;> simp [h]
        · rintro (h | h | h) <;> simp [h]
theorem rising_insU (x : Int) : ∀ l : List Int, Rising l → Rising (insU x l)
  | [], _ => by simp [insU, Rising]
  | y :: l, h => by
    unfold Rising at h
    obtain ⟨h1, h2⟩ := List.pairwise_cons.1 h
    unfold insU
    split
    · rename_i hlt
      refine List.pairwise_cons.2 ⟨fun z hz => ?_, h⟩
      rcases List.mem_cons.1 hz with rfl | hz
      · exact hlt
      · have := h1 z hz; omega
    · split
      · exact h
      · rename_i h3 h4
        refine List.pairwise_cons.2 ⟨fun z hz => ?_, rising_insU x l h2⟩
        rcases (mem_insU x z l).1 hz with rfl | hz
        · omega
        · exact h1 z hz
def setOf : List Int → List Int
  | [] => []
  | x :: l => insU x (setOf l)
theorem mem_setOf (z : Int) : ∀ l : List Int, z ∈ setOf l ↔ z ∈ l
  | [] => by simp [setOf]
  | x :: l => by simp [setOf, mem_insU, mem_setOf z l]
theorem rising_setOf : ∀ l : List Int, Rising (setOf l)
  | [] => List.Pairwise.nil
  | x :: l => rising_insU x _ (rising_setOf l)
theorem rising_unique : ∀ (l m : List Int), Rising l → Rising m → (∀ z, z ∈ l ↔ z ∈ m) → l = m
  | [], [], _, _, _ => rfl
  | [], y :: m, _, _, h => by have := (h y).2 (List.mem_cons_self ..); simp at this
  | x :: l, [], _, _, h => by have := (h x).1 (List.mem_cons_self ..); simp at this
  | x :: l, y :: m, hl, hm, h => by
    obtain ⟨h1, h2⟩ := List.pairwise_cons.1 hl
    obtain ⟨h3, h4⟩ := List.pairwise_cons.1 hm
    have hxy : x = y := by
      have a := (h x).1 (List.mem_cons_self ..)
      have b := (h y).2 (List.mem_cons_self ..)
      rcases List.mem_cons.1 a with a | a
      · exact a
      · rcases List.mem_cons.1 b with b | b
        · exact b.symm
        · have := h1 _ b; have := h3 _ a; omega
    subst hxy
    rw [rising_unique l m h2 h4 (fun z => ?_)]
    constructor
    · intro hz
      rcases List.mem_cons.1 ((h z).1 (List.mem_cons_of_mem _ hz)) with rfl | hz'
      · have := h1 _ hz; omega
      · exact hz'
    · intro hz
      rcases List.mem_cons.1 ((h z).2 (List.mem_cons_of_mem _ hz)) with rfl | hz'
      · have := h3 _ hz; omega
      · exact hz'
theorem rising_filter {l : List Int} (p : Int → Bool) (h : Rising l) : Rising (l.filter p) := List.Pairwise.sublist (List.filter_sublist) h

/-! ### cuts -/
def condCuts (f : Int) (c : TCond) : List Int := if c.f = f then (if c.op = 1 ∨ c.op = 2 then [c.v, c.v + 1] else [c.v]) else []
def ruleCuts (f : Int) (r : TRule) : List Int := r.conds.flatMap (condCuts f)
def polCuts (f : Int) (p : TPol) : List Int := p.rules.flatMap (ruleCuts f)
def cutVals (l : List TPol) (f : Int) : List Int := 0 :: l.flatMap (polCuts f)
def cutsOf (l : List TPol) (f : Int) : List Int := (setOf (cutVals l f)).filter fun n => decide (n ≤ mostOf f)
theorem rising_cuts (l : List TPol) (f : Int) : Rising (cutsOf l f) := rising_filter _ (rising_setOf _)
theorem mem_cuts {l : List TPol} {f n : Int} : n ∈ cutsOf l f ↔ n ∈ cutVals l f ∧ n ≤ mostOf f := by
  unfold cutsOf; rw [List.mem_filter, mem_setOf]; simp
theorem most_pos (f : Int) : 0 ≤ mostOf f := by unfold mostOf; split <;> (try split) <;> omega
theorem zero_cut (l : List TPol) (f : Int) : 0 ∈ cutsOf l f := mem_cuts.2 ⟨List.mem_cons_self .., most_pos f⟩
theorem cuts_pos (l : List TPol) (f : Int) : 0 < (cutsOf l f).length := List.length_pos_of_mem (zero_cut l f)
theorem mem_vals {l : List TPol} {f n : Int} : n ∈ cutVals l f ↔ n = 0 ∨ ∃ p ∈ l, ∃ r ∈ p.rules, ∃ c ∈ r.conds, n ∈ condCuts f c := by
  unfold cutVals polCuts ruleCuts
  simp only [List.mem_cons, List.mem_flatMap]
theorem mem_condCuts {f n : Int} {c : TCond} : n ∈ condCuts f c ↔ c.f = f ∧ (n = c.v ∨ ((c.op = 1 ∨ c.op = 2) ∧ n = c.v + 1)) := by
  unfold condCuts
  split
  · rename_i h
    split
    · rename_i h'; simp [h, h']
    · rename_i h'; simp [h, h']
  · rename_i h; simp [h]
/-- all right: no error. -/
def polsE : List TPol → Int
  | [] => 0
  | p :: l => if polE p = 0 then polsE l else polE p
theorem polsE_iff : ∀ l : List TPol, polsE l = 0 ↔ ∀ p ∈ l, OkPol p
  | [] => by simp [polsE]
  | p :: l => by
    simp only [polsE, List.mem_cons, forall_eq_or_imp]
    rw [← polsE_iff l, ← okPol_iff p]
    split
    · rename_i h; simp [h]
    · rename_i h; simp [h]
theorem polsE_drop (l : List TPol) (k : Nat) (h : k < l.length) : polsE (l.drop k) = if polE l[k] = 0 then polsE (l.drop (k + 1)) else polE l[k] := by
  rw [List.drop_eq_getElem_cons h]; rfl
theorem cuts_range {l : List TPol} (h : ∀ p ∈ l, OkPol p) {f n : Int} (hn : n ∈ cutsOf l f) : 0 ≤ n ∧ n ≤ mostOf f := by
  obtain ⟨h1, h2⟩ := mem_cuts.1 hn
  refine ⟨?_, h2⟩
  rcases mem_vals.1 h1 with rfl | ⟨p, hp, r, hr, c, hc, hm⟩
  · omega
  · have := ((h p hp).rules r hr).conds c hc
    obtain ⟨_, h | ⟨_, h⟩⟩ := mem_condCuts.1 hm <;> have := this.v0 <;> omega

/-! ### homes -/
/-- the last one that isn't above n. -/
def best (n : Int) : List Int → Int → Int
  | [], b => b
  | m :: l, b => if m ≤ n then best n l m else best n l b
theorem best_spec (n : Int) : ∀ (l : List Int) (b : Int), Rising l → (∀ m ∈ l, b < m) → b ≤ n → (best n l b = b ∨ best n l b ∈ l) ∧ best n l b ≤ n ∧ b ≤ best n l b ∧ ∀ m ∈ l, m ≤ n → m ≤ best n l b
  | [], b, _, _, hb => by simp [best]; exact hb
  | m :: l, b, h, hm, hb => by
    obtain ⟨h1, h2⟩ := List.pairwise_cons.1 h
    unfold best
    split
    · rename_i hle
      obtain ⟨a1, a2, a3, a4⟩ := best_spec n l m h2 h1 hle
      have := hm m (List.mem_cons_self ..)
      refine ⟨?_, a2, by omega, fun z hz hzn => ?_⟩
      · rcases a1 with a1 | a1
        · right; rw [a1]; exact List.mem_cons_self ..
        · right; exact List.mem_cons_of_mem _ a1
      · rcases List.mem_cons.1 hz with rfl | hz
        · exact a3
        · exact a4 z hz hzn
    · rename_i hle
      obtain ⟨a1, a2, a3, a4⟩ := best_spec n l b h2 (fun z hz => hm z (List.mem_cons_of_mem _ hz)) hb
      refine ⟨?_, a2, a3, fun z hz hzn => ?_⟩
      · rcases a1 with a1 | a1
        · exact .inl a1
        · right; exact List.mem_cons_of_mem _ a1
      · rcases List.mem_cons.1 hz with rfl | hz
        · omega
        · exact a4 z hz hzn
/-- the greatest cut that isn't above n. -/
def homeCut (l : List TPol) (f n : Int) : Int := best n (cutsOf l f) 0
theorem best_zero {n : Int} {l : List Int} (hr : Rising l) (h0 : 0 ∈ l) (hp : ∀ m ∈ l, 0 ≤ m) (hn : 0 ≤ n) : best n l 0 ∈ l ∧ best n l 0 ≤ n ∧ ∀ m ∈ l, m ≤ n → m ≤ best n l 0 := by
  cases l with
  | nil => simp at h0
  | cons z l =>
    obtain ⟨h1, h2⟩ := List.pairwise_cons.1 hr
    have hz : z = 0 := by
      rcases List.mem_cons.1 h0 with h | h
      · exact h.symm
      · have := h1 _ h; have := hp z (List.mem_cons_self ..); omega
    subst hz
    obtain ⟨a1, a2, a3, a4⟩ := best_spec n l 0 h2 h1 hn
    have e : best n (0 :: l) 0 = best n l 0 := by
      show (if (0 : Int) ≤ n then _ else _) = _
      rw [if_pos hn]
    rw [e]
    refine ⟨?_, a2, fun m hm hmn => ?_⟩
    · rcases a1 with a1 | a1
      · rw [a1]; exact List.mem_cons_self ..
      · exact List.mem_cons_of_mem _ a1
    · rcases List.mem_cons.1 hm with rfl | hm
      · exact a3
      · exact a4 m hm hmn
theorem homeCut_spec {l : List TPol} (h : ∀ p ∈ l, OkPol p) {f n : Int} (hn : 0 ≤ n) : homeCut l f n ∈ cutsOf l f ∧ homeCut l f n ≤ n ∧ ∀ m ∈ cutsOf l f, m ≤ n → m ≤ homeCut l f n :=
  best_zero (rising_cuts l f) (zero_cut l f) (fun _ hm => (cuts_range h hm).1) hn
def homeOf (l : List TPol) (x : TCall) : TCall := ⟨homeCut l 0 x.a0, homeCut l 1 x.a1, homeCut l 2 x.a2, homeCut l 3 x.a3, homeCut l 4 x.a4⟩
theorem get_home (l : List TPol) (x : TCall) {f : Int} (h0 : 0 ≤ f) (h1 : f < 5) : (homeOf l x).get f = homeCut l f (x.get f) := by
  have hf : f = 0 ∨ f = 1 ∨ f = 2 ∨ f = 3 ∨ f = 4 := by omega
  rcases hf with rfl | rfl | rfl | rfl | rfl <;> rfl
theorem ok_get {x : TCall} (h : x.ok) {f : Int} (h0 : 0 ≤ f) (h1 : f < 5) : 0 ≤ x.get f ∧ x.get f ≤ mostOf f := by
  have := TCall.ok_get h (k := f.toNat) (by omega)
  rwa [Int.toNat_of_nonneg h0] at this
theorem holds_home {l : List TPol} (h : ∀ p ∈ l, OkPol p) {x : TCall} (hx : x.ok) {p : TPol} (hp : p ∈ l) {r : TRule} (hr : r ∈ p.rules) {c : TCond} (hc : c ∈ r.conds) : holdsB c (homeOf l x) = holdsB c x := by
  have ok := ((h p hp).rules r hr).conds c hc
  have hg := ok_get hx ok.f0 ok.f1
  obtain ⟨a1, a2, a3⟩ := homeCut_spec h (f := c.f) hg.1
  have hv : c.v ∈ cutsOf l c.f := mem_cuts.2 ⟨mem_vals.2 (.inr ⟨p, hp, r, hr, c, hc, mem_condCuts.2 ⟨rfl, .inl rfl⟩⟩), ok.v1⟩
  have hv1 : (c.op = 1 ∨ c.op = 2) → c.v + 1 ≤ mostOf c.f → c.v + 1 ∈ cutsOf l c.f := fun ho hle => mem_cuts.2 ⟨mem_vals.2 (.inr ⟨p, hp, r, hr, c, hc, mem_condCuts.2 ⟨rfl, .inr ⟨ho, rfl⟩⟩⟩), hle⟩
  unfold holdsB
  rw [get_home l x ok.f0 ok.f1]
  generalize hn : x.get c.f = n at *
  generalize hh : homeCut l c.f n = m at *
  have key1 : (c.op = 1 ∨ c.op = 2) → (m = c.v ↔ n = c.v) := by
    intro ho
    constructor
    · intro e
      by_cases e' : n = c.v
      · exact e'
      · have := a3 _ (hv1 ho (by omega)) (by omega); omega
    · intro e
      have := a3 _ hv (by omega); omega
  have key2 : (m < c.v ↔ n < c.v) := by
    constructor
    · intro e
      by_cases e' : n < c.v
      · exact e'
      · have := a3 _ hv (by omega); omega
    · intro e; omega
  split
  · rename_i ho
    rw [Bool.eq_iff_iff]; simp [key1 (.inl ho)]
  · split
    · rename_i ho
      rw [Bool.eq_iff_iff]; simp [key1 (.inr ho)]
    · split
      · rw [Bool.eq_iff_iff]; simp [key2]
      · rw [Bool.eq_iff_iff]; simp; omega
theorem allHold_home {l : List TPol} (h : ∀ p ∈ l, OkPol p) {x : TCall} (hx : x.ok) {p : TPol} (hp : p ∈ l) {r : TRule} (hr : r ∈ p.rules) : allHold (homeOf l x) r.conds = allHold x r.conds := by
  unfold allHold
  rw [Bool.eq_iff_iff, List.all_eq_true, List.all_eq_true]
  constructor
  · intro a c hc; rw [← holds_home h hx hp hr hc]; exact a c hc
  · intro a c hc; rw [holds_home h hx hp hr hc]; exact a c hc
theorem which_congr {x y : TCall} : ∀ (l : List TRule), (∀ r ∈ l, allHold x r.conds = allHold y r.conds) → which x l = which y l
  | [], _ => rfl
  | r :: l, h => by
    unfold which
    rw [h r (List.mem_cons_self ..), which_congr l (fun r hr => h r (List.mem_cons_of_mem _ hr))]
/-- EACH POLICY SAYS OF A CALL WHAT IT SAYS OF ITS HOME, by the same rule. -/
theorem which_home {l : List TPol} (h : ∀ p ∈ l, OkPol p) {x : TCall} (hx : x.ok) {p : TPol} (hp : p ∈ l) : which (homeOf l x) p.rules = which x p.rules :=
  which_congr _ fun _ hr => allHold_home h hx hp hr
theorem judged_home {l : List TPol} (h : ∀ p ∈ l, OkPol p) {x : TCall} (hx : x.ok) {p : TPol} (hp : p ∈ l) : judged p (homeOf l x) = judged p x := by
  unfold judged; rw [which_home h hx hp]
theorem ok_home {l : List TPol} (h : ∀ p ∈ l, OkPol p) {x : TCall} (hx : x.ok) : (homeOf l x).ok := by
  refine TCall.ok_of fun k hk => ?_
  rw [get_home l x (by omega) (by omega)]
  exact cuts_range h (homeCut_spec h (ok_get hx (f := k) (by omega) (by omega)).1).1
theorem homeCut_self {l : List TPol} (h : ∀ p ∈ l, OkPol p) {f n : Int} (hn : n ∈ cutsOf l f) : homeCut l f n = n := by
  obtain ⟨a1, a2, a3⟩ := homeCut_spec h (f := f) (n := n) (cuts_range h hn).1
  have := a3 n hn (Int.le_refl _); omega
theorem home_home {l : List TPol} (h : ∀ p ∈ l, OkPol p) {x : TCall} (hx : x.ok) : homeOf l (homeOf l x) = homeOf l x := by
  have g := fun (f : Int) (h0 : 0 ≤ f) (h1 : f < 5) => homeCut_self h (homeCut_spec h (f := f) (ok_get hx h0 h1).1).1
  have g0 := g 0 (by omega) (by omega); have g1 := g 1 (by omega) (by omega); have g2 := g 2 (by omega) (by omega); have g3 := g 3 (by omega) (by omega); have g4 := g 4 (by omega) (by omega)
  simp only [TCall.get] at g0 g1 g2 g3 g4
  simp only [homeOf]
  simp at g0 g1 g2 g3 g4
  rw [g0, g1, g2, g3, g4]

/-! ### points -/
def TCall.set (x : TCall) (k : Nat) (n : Int) : TCall := match k with
  | 0 => { x with a0 := n } | 1 => { x with a1 := n } | 2 => { x with a2 := n } | 3 => { x with a3 := n } | _ => { x with a4 := n }
def stage (l : List TPol) : Nat → List TCall
  | 0 => [⟨0, 0, 0, 0, 0⟩]
  | k + 1 => (stage l k).flatMap fun x => (cutsOf l k).map fun n => x.set k n
def sizes (l : List TPol) : Nat → Nat
  | 0 => 1
  | k + 1 => sizes l k * (cutsOf l k).length
theorem stage_length (l : List TPol) : ∀ k, (stage l k).length = sizes l k
  | 0 => rfl
  | k + 1 => by
    simp only [stage, sizes, List.length_flatMap, List.length_map]
    rw [← stage_length l k]
    generalize (cutsOf l k).length = m
    induction stage l k with
    | nil => simp
    | cons x r ih => simp [ih, Nat.add_mul]; omega
theorem sizes_pos (l : List TPol) : ∀ k, 0 < sizes l k
  | 0 => by simp [sizes]
  | k + 1 => Nat.mul_pos (sizes_pos l k) (cuts_pos l k)
theorem sizes_mono (l : List TPol) (k : Nat) : sizes l k ≤ sizes l (k + 1) := Nat.le_mul_of_pos_right _ (cuts_pos l k)
theorem sizes_le (l : List TPol) {k m : Nat} (h : k ≤ m) : sizes l k ≤ sizes l m := by
  induction h with
  | refl => exact Nat.le_refl _
  | step _ ih => exact Nat.le_trans ih (sizes_mono l _)
/-- chapter 6's Points. -/
def pointsE (l : List TPol) : List TCall × Int := if polsE l ≠ 0 then ([], polsE l) else if 1000 < sizes l 5 then ([], 2) else (stage l 5, 0)
theorem mem_stage {l : List TPol} {y : TCall} : ∀ {k : Nat}, y ∈ stage l (k + 1) ↔ ∃ x ∈ stage l k, ∃ n ∈ cutsOf l k, y = x.set k n := by
  intro k
  simp only [stage, List.mem_flatMap, List.mem_map]
  constructor
  · rintro ⟨x, hx, n, hn, rfl⟩; exact ⟨x, hx, n, hn, rfl⟩
  · rintro ⟨x, hx, n, hn, rfl⟩; exact ⟨x, hx, n, hn, rfl⟩
theorem mem_points {l : List TPol} {y : TCall} : y ∈ stage l 5 ↔ y.a0 ∈ cutsOf l 0 ∧ y.a1 ∈ cutsOf l 1 ∧ y.a2 ∈ cutsOf l 2 ∧ y.a3 ∈ cutsOf l 3 ∧ y.a4 ∈ cutsOf l 4 := by
  constructor
  · intro h
    obtain ⟨x4, h4, n4, m4, rfl⟩ := mem_stage.1 h
    obtain ⟨x3, h3, n3, m3, rfl⟩ := mem_stage.1 h4
    obtain ⟨x2, h2, n2, m2, rfl⟩ := mem_stage.1 h3
    obtain ⟨x1, h1, n1, m1, rfl⟩ := mem_stage.1 h2
    obtain ⟨x0, h0, n0, m0, rfl⟩ := mem_stage.1 h1
    exact ⟨m0, m1, m2, m3, m4⟩
  · rintro ⟨m0, m1, m2, m3, m4⟩
    refine mem_stage.2 ⟨⟨y.a0, y.a1, y.a2, y.a3, 0⟩, mem_stage.2 ⟨⟨y.a0, y.a1, y.a2, 0, 0⟩, mem_stage.2 ⟨⟨y.a0, y.a1, 0, 0, 0⟩, mem_stage.2 ⟨⟨y.a0, 0, 0, 0, 0⟩, mem_stage.2 ⟨⟨0, 0, 0, 0, 0⟩, List.mem_cons_self .., y.a0, m0, rfl⟩, y.a1, m1, rfl⟩, y.a2, m2, rfl⟩, y.a3, m3, rfl⟩, y.a4, m4, rfl⟩
theorem home_point {l : List TPol} (h : ∀ p ∈ l, OkPol p) {x : TCall} (hx : x.ok) : homeOf l x ∈ stage l 5 := by
  have g := fun (f : Int) (h0 : 0 ≤ f) (h1 : f < 5) => (homeCut_spec h (f := f) (ok_get hx h0 h1).1).1
  exact mem_points.2 ⟨g 0 (by omega) (by omega), g 1 (by omega) (by omega), g 2 (by omega) (by omega), g 3 (by omega) (by omega), g 4 (by omega) (by omega)⟩
theorem point_ok {l : List TPol} (h : ∀ p ∈ l, OkPol p) {x : TCall} (hx : x ∈ stage l 5) : x.ok := by
  obtain ⟨m0, m1, m2, m3, m4⟩ := mem_points.1 hx
  exact ⟨cuts_range h m0, cuts_range h m1, cuts_range h m2, cuts_range h m3, cuts_range h m4⟩
theorem pointsE_ok {l : List TPol} (h : (pointsE l).2 = 0) : (∀ p ∈ l, OkPol p) ∧ sizes l 5 ≤ 1000 ∧ pointsE l = (stage l 5, 0) := by
  unfold pointsE at h ⊢
  split at h
  · rename_i h1; exact absurd h h1
  · rename_i h1
    split at h
    · simp at h
    · rename_i h2
      exact ⟨(polsE_iff l).1 (by simpa using h1), by omega, by rw [if_neg h1, if_neg h2]⟩
theorem pointsE_of {l : List TPol} (h : ∀ p ∈ l, OkPol p) (hs : sizes l 5 ≤ 1000) : pointsE l = (stage l 5, 0) := by
  unfold pointsE
  rw [if_neg (by rw [(polsE_iff l).2 h]; simp), if_neg (by omega)]
/-- with fewer conditions there are no more points. -/
theorem cuts_sub {l m : List TPol} {f : Int} (h : ∀ n, n ∈ cutVals l f → n ∈ cutVals m f) : (∀ n ∈ cutsOf l f, n ∈ cutsOf m f) := fun _ hn => mem_cuts.2 ⟨h _ (mem_cuts.1 hn).1, (mem_cuts.1 hn).2⟩
theorem rising_len : ∀ (l m : List Int), Rising l → Rising m → (∀ z ∈ l, z ∈ m) → l.length ≤ m.length
  | [], _, _, _, _ => by simp
  | x :: l, [], _, _, h => by have := h x (List.mem_cons_self ..); simp at this
  | x :: l, y :: m, hl, hm, h => by
    obtain ⟨h1, h2⟩ := List.pairwise_cons.1 hl
    obtain ⟨h3, h4⟩ := List.pairwise_cons.1 hm
    have := rising_len l m h2 h4 fun z hz => by
      rcases List.mem_cons.1 (h z (List.mem_cons_of_mem _ hz)) with rfl | h'
      · rcases List.mem_cons.1 (h x (List.mem_cons_self ..)) with rfl | h''
        · have := h1 _ hz; omega
        · have := h1 _ hz; have := h3 _ h''; omega
      · exact h'
    simp; omega
theorem sizes_sub {l m : List TPol} (h : ∀ f n, n ∈ cutVals l f → n ∈ cutVals m f) : ∀ k, sizes l k ≤ sizes m k
  | 0 => Nat.le_refl _
  | k + 1 => Nat.mul_le_mul (sizes_sub h k) (rising_len _ _ (rising_cuts l k) (rising_cuts m k) (cuts_sub (h k)))
theorem stage_sub {l m : List TPol} (h : ∀ f n, n ∈ cutVals l f → n ∈ cutVals m f) {x : TCall} (hx : x ∈ stage l 5) : x ∈ stage m 5 := by
  obtain ⟨m0, m1, m2, m3, m4⟩ := mem_points.1 hx
  exact mem_points.2 ⟨cuts_sub (h 0) _ m0, cuts_sub (h 1) _ m1, cuts_sub (h 2) _ m2, cuts_sub (h 3) _ m3, cuts_sub (h 4) _ m4⟩
end Go.Proofs.YtioeliocdbckbaaGreatDoor
namespace Go.Proofs.YtioeliocdbckbaaGreatDoor

def zeroCall : TCall := ⟨0, 0, 0, 0, 0⟩
/-- the verdict of a right policy on a right call. -/
def says (p : TPol) (x : TCall) : Int := (judged p x).1
def looserAt (p q : TPol) (x : TCall) : Bool := decide (says q x < says p x)
/-- chapter 7's Looser. -/
def looserE (p q : TPol) : Bool × TCall × Int :=
  if (pointsE [p, q]).2 ≠ 0 then (false, zeroCall, (pointsE [p, q]).2) else match (pointsE [p, q]).1.find? (looserAt p q) with
    | some x => (true, x, 0)
    | none => (false, zeroCall, 0)
/-- chapter 7's Alike. -/
def alikeE (p q : TPol) : Bool × Int := if (looserE p q).2.2 ≠ 0 then (false, (looserE p q).2.2) else (!(looserE p q).1 && !(looserE q p).1, (looserE q p).2.2)
theorem says_home {l : List TPol} (h : ∀ p ∈ l, OkPol p) {x : TCall} (hx : x.ok) {p : TPol} (hp : p ∈ l) : says p (homeOf l x) = says p x := by unfold says; rw [judged_home h hx hp]
theorem verdictAt_range {p : TPol} (h : OkPol p) (k : Nat) : 0 ≤ verdictAt p k ∧ verdictAt p k ≤ 4 := by
  unfold verdictAt
  cases hk : p.rules[k]? with
  | none => exact ⟨h.d0, h.d1⟩
  | some r => exact ⟨(h.rules r (List.mem_of_getElem? hk)).v0, (h.rules r (List.mem_of_getElem? hk)).v1⟩
theorem says_range {p : TPol} (h : OkPol p) (x : TCall) : 0 ≤ says p x ∧ says p x ≤ 4 := verdictAt_range h _
theorem looserE_ok {p q : TPol} (h : (looserE p q).2.2 = 0) : OkPol p ∧ OkPol q ∧ sizes [p, q] 5 ≤ 1000 ∧ pointsE [p, q] = (stage [p, q] 5, 0) := by
  have h0 : (pointsE [p, q]).2 = 0 := by
    unfold looserE at h
    split at h
    · exact h
    · rename_i h'; simpa using h'
  obtain ⟨h1, h2, h3⟩ := pointsE_ok h0
  exact ⟨h1 p (by simp), h1 q (by simp), h2, h3⟩
def looserGo (o : Option TCall) : Bool × TCall × Int := match o with
  | some x => (true, x, 0)
  | none => (false, zeroCall, 0)
theorem looserE_eq {p q : TPol} (h : (looserE p q).2.2 = 0) : looserE p q = looserGo ((stage [p, q] 5).find? (looserAt p q)) := by
  obtain ⟨_, _, _, h3⟩ := looserE_ok h
  unfold looserE
  rw [if_neg (by rw [h3]; simp), h3]
  cases (stage [p, q] 5).find? (looserAt p q) <;> rfl
/-- where it is looser, it is so at the call that is told. -/
theorem looser_at {p q : TPol} (h : (looserE p q).2.2 = 0) (hl : (looserE p q).1 = true) : (looserE p q).2.1.ok ∧ (looserE p q).2.1 ∈ stage [p, q] 5 ∧ says q (looserE p q).2.1 < says p (looserE p q).2.1 := by
  obtain ⟨h1, h2, _, _⟩ := looserE_ok h
  rw [looserE_eq h] at hl ⊢
  cases hf : (stage [p, q] 5).find? (looserAt p q) with
  | none => rw [hf] at hl; simp [looserGo] at hl
  | some x =>
    have hm := List.mem_of_find?_eq_some hf
    have hp := List.find?_some hf
    exact ⟨point_ok (by intro r hr; simp at hr; rcases hr with rfl | rfl <;> assumption) hm, hm, by simpa [looserAt, looserGo] using hp⟩
/-- WHAT ISN'T LOOSER IS SO NOWHERE. -/
theorem looser_not {p q : TPol} (h : (looserE p q).2.2 = 0) (hl : (looserE p q).1 = false) {x : TCall} (hx : x.ok) : says p x ≤ says q x := by
  obtain ⟨h1, h2, _, _⟩ := looserE_ok h
  have hall : ∀ r ∈ [p, q], OkPol r := by intro r hr; simp at hr; rcases hr with rfl | rfl <;> assumption
  rw [looserE_eq h] at hl
  cases hf : (stage [p, q] 5).find? (looserAt p q) with
  | some x => rw [hf] at hl; simp [looserGo] at hl
  | none =>
    have := List.find?_eq_none.1 hf _ (home_point hall hx)
    simp only [looserAt, decide_eq_true_eq] at this
    rw [says_home hall hx (by simp), says_home hall hx (by simp)] at this
    omega
theorem looser_iff {p q : TPol} (h : (looserE p q).2.2 = 0) : (looserE p q).1 = false ↔ ∀ x : TCall, x.ok → says p x ≤ says q x := by
  constructor
  · intro hl x hx; exact looser_not h hl hx
  · intro ha
    cases hl : (looserE p q).1 with
    | false => rfl
    | true =>
      obtain ⟨a, _, c⟩ := looser_at h hl
      have := ha _ a; omega
theorem looser_call {p q : TPol} (hl : (looserE p q).1 = false) : (looserE p q).2.1 = zeroCall := by
  unfold looserE at hl ⊢
  by_cases h1 : (pointsE [p, q]).2 ≠ 0
  · rw [if_pos h1]
  · rw [if_neg h1] at hl ⊢
    cases hf : (pointsE [p, q]).1.find? (looserAt p q) with
    | none => rfl
    | some x => rw [hf] at hl; simp at hl

/-! ### meeting -/
def wholeOf (p : TPol) : List TRule := p.rules ++ [⟨[], p.dflt⟩]
def pairRule (of : Int → Int → Int) (a b : TRule) : TRule := ⟨a.conds ++ b.conds, of a.verdict b.verdict⟩
def pairs (of : Int → Int → Int) (l m : List TRule) : List TRule := l.flatMap fun a => m.map (pairRule of a)
def pairPol (of : Int → Int → Int) (p q : TPol) : TPol := ⟨(pairs of (wholeOf p) (wholeOf q)).dropLast, of p.dflt q.dflt⟩
def zeroPol : TPol := ⟨[], 0⟩
/-- chapter 8's Meet and Except. -/
def pairE (of : Int → Int → Int) (p q : TPol) : TPol × Int := if polsE [p, q] ≠ 0 then (zeroPol, polsE [p, q]) else if polE (pairPol of p q) ≠ 0 then (zeroPol, polE (pairPol of p q)) else (pairPol of p q, 0)
def minOf (a b : Int) : Int := if a ≤ b then a else b
def exceptOf (a b : Int) : Int := if a < b then a else 4
theorem wholeOf_len (p : TPol) : (wholeOf p).length = p.rules.length + 1 := by simp [wholeOf]
theorem pairs_len (of : Int → Int → Int) (l m : List TRule) : (pairs of l m).length = l.length * m.length := by
  unfold pairs
  induction l with
  | nil => simp
  | cons a l ih => simp only [List.flatMap_cons, List.length_append, List.length_map, ih, List.length_cons, Nat.add_mul]; omega
theorem pairs_last (of : Int → Int → Int) (p q : TPol) : pairs of (wholeOf p) (wholeOf q) = (pairPol of p q).rules ++ [⟨[], of p.dflt q.dflt⟩] := by
  have e : pairs of (wholeOf p) (wholeOf q) = (pairs of p.rules (wholeOf q) ++ q.rules.map (pairRule of ⟨[], p.dflt⟩)) ++ [⟨[], of p.dflt q.dflt⟩] := by
    unfold pairs wholeOf
    simp [List.flatMap_append, pairRule]
  show _ = (pairs of (wholeOf p) (wholeOf q)).dropLast ++ _
  rw [e, List.dropLast_concat]
theorem allHold_app (x : TCall) (a b : List TCond) : allHold x (a ++ b) = (allHold x a && allHold x b) := by unfold allHold; rw [List.all_append]
/-- the rule that is the first to hold. -/
def firstOf (x : TCall) (l : List TRule) : Option TRule := l.find? fun r => allHold x r.conds
theorem firstOf_append (x : TCall) (l m : List TRule) : firstOf x (l ++ m) = (firstOf x l).or (firstOf x m) := by unfold firstOf; rw [List.find?_append]
theorem says_first (p : TPol) (x : TCall) : says p x = match firstOf x p.rules with | some r => r.verdict | none => p.dflt := by
  obtain ⟨l, d⟩ := p
  unfold says judged
  dsimp only
  induction l with
  | nil => rfl
  | cons r l ih =>
    unfold which firstOf
    rw [List.find?_cons]
    by_cases h : allHold x r.conds = true
    · rw [if_pos h, h]; rfl
    · rw [if_neg h, Bool.eq_false_iff.2 h]
      exact ih
theorem first_map (of : Int → Int → Int) (x : TCall) (a : TRule) (ha : allHold x a.conds = true) : ∀ m : List TRule, firstOf x (m.map (pairRule of a)) = (firstOf x m).map (pairRule of a)
  | [] => rfl
  | b :: m => by
    have ih := first_map of x a ha m
    unfold firstOf at ih ⊢
    rw [List.map_cons, List.find?_cons, List.find?_cons]
    have e : allHold x (pairRule of a b).conds = allHold x b.conds := by
      show allHold x (a.conds ++ b.conds) = _
      rw [allHold_app, ha, Bool.true_and]
    rw [e]
    cases allHold x b.conds with
    | true => rfl
    | false => exact ih
theorem first_map_no (of : Int → Int → Int) (x : TCall) (a : TRule) (ha : allHold x a.conds = false) : ∀ m : List TRule, firstOf x (m.map (pairRule of a)) = none
  | [] => rfl
  | b :: m => by
    have ih := first_map_no of x a ha m
    unfold firstOf at ih ⊢
    rw [List.map_cons, List.find?_cons]
    have e : allHold x (pairRule of a b).conds = false := by
      show allHold x (a.conds ++ b.conds) = _
      rw [allHold_app, ha, Bool.false_and]
    rw [e]
    exact ih
theorem first_pairs (of : Int → Int → Int) (x : TCall) (m : List TRule) (b : TRule) (hb : firstOf x m = some b) : ∀ l : List TRule, firstOf x (pairs of l m) = (firstOf x l).map fun a => pairRule of a b
  | [] => rfl
  | a :: l => by
    have ih := first_pairs of x m b hb l
    have e : pairs of (a :: l) m = m.map (pairRule of a) ++ pairs of l m := by unfold pairs; rw [List.flatMap_cons]
    rw [e, firstOf_append, ih]
    have e2 : firstOf x (a :: l) = if allHold x a.conds = true then some a else firstOf x l := by
      unfold firstOf
      rw [List.find?_cons]
      cases allHold x a.conds <;> simp
    rw [e2]
    by_cases h : allHold x a.conds = true
    · rw [first_map of x a h, hb, if_pos h]; rfl
    · rw [first_map_no of x a (by simpa using h), if_neg h]; rfl
theorem first_whole (x : TCall) (p : TPol) : ∃ r, firstOf x (wholeOf p) = some r ∧ r.verdict = says p x := by
  rw [says_first]
  unfold wholeOf
  rw [firstOf_append]
  cases firstOf x p.rules with
  | none => exact ⟨⟨[], p.dflt⟩, rfl, rfl⟩
  | some r => exact ⟨r, rfl, rfl⟩
/-- A MEETING SAYS OF EACH CALL what becomes of both verdicts. -/
theorem says_pair (of : Int → Int → Int) (p q : TPol) (x : TCall) : says (pairPol of p q) x = of (says p x) (says q x) := by
  obtain ⟨a, ha, hva⟩ := first_whole x p
  obtain ⟨b, hb, hvb⟩ := first_whole x q
  have h := first_pairs of x (wholeOf q) b hb (wholeOf p)
  rw [ha, pairs_last, firstOf_append] at h
  rw [says_first, ← hva, ← hvb]
  cases hf : firstOf x (pairPol of p q).rules with
  | some r =>
    rw [hf] at h
    simp only [Option.map_some, Option.some_or, Option.some.injEq] at h
    rw [h]; rfl
  | none =>
    rw [hf] at h
    simp only [Option.map_some, Option.none_or] at h
    have h2 : firstOf x [(⟨[], of p.dflt q.dflt⟩ : TRule)] = some ⟨[], of p.dflt q.dflt⟩ := rfl
    rw [h2] at h
    injection h with h
    have := congrArg TRule.verdict h
    exact this
theorem pairPol_len (of : Int → Int → Int) (p q : TPol) : (pairPol of p q).rules.length = (p.rules.length + 1) * (q.rules.length + 1) - 1 := by
  unfold pairPol
  rw [List.length_dropLast, pairs_len, wholeOf_len, wholeOf_len]
theorem pairE_ok {of : Int → Int → Int} {p q : TPol} (h : (pairE of p q).2 = 0) : OkPol p ∧ OkPol q ∧ OkPol (pairPol of p q) ∧ pairE of p q = (pairPol of p q, 0) := by
  unfold pairE at h ⊢
  split at h
  · rename_i h1; exact absurd h h1
  · rename_i h1
    split at h
    · rename_i h2; exact absurd h h2
    · rename_i h2
      have h3 := (polsE_iff _).1 (by simpa using h1)
      exact ⟨h3 p (by simp), h3 q (by simp), (okPol_iff _).1 (by simpa using h2), by rw [if_neg h1, if_neg h2]⟩
theorem pairE_of {of : Int → Int → Int} {p q : TPol} (hp : OkPol p) (hq : OkPol q) (h : OkPol (pairPol of p q)) : pairE of p q = (pairPol of p q, 0) := by
  unfold pairE
  rw [if_neg (by rw [(polsE_iff _).2 (by intro r hr; simp at hr; rcases hr with rfl | rfl <;> assumption)]; simp), if_neg (by rw [(okPol_iff _).2 h]; simp)]
/-- verdicts apart, whether it is right hangs on the conditions alone. -/
theorem rulesGo_conds : ∀ (l m : List TRule), l.map TRule.conds = m.map TRule.conds → (∀ r ∈ l, 0 ≤ r.verdict ∧ r.verdict ≤ 4) → (∀ r ∈ m, 0 ≤ r.verdict ∧ r.verdict ≤ 4) → rulesGo l = rulesGo m
  | [], [], _, _, _ => rfl
  | [], _ :: _, h, _, _ => by simp at h
  | _ :: _, [], h, _, _ => by simp at h
  | a :: l, b :: m, h, h1, h2 => by
    simp only [List.map_cons, List.cons.injEq] at h
    obtain ⟨hc, hr⟩ := h
    have ih := rulesGo_conds l m hr (fun r hr => h1 r (List.mem_cons_of_mem _ hr)) (fun r hr => h2 r (List.mem_cons_of_mem _ hr))
    have e : ruleE a = ruleE b := by
      have := h1 a (List.mem_cons_self ..); have := h2 b (List.mem_cons_self ..)
      unfold ruleE
      rw [hc, if_neg (show ¬ (a.verdict < 0 ∨ 4 < a.verdict) by omega), if_neg (show ¬ (b.verdict < 0 ∨ 4 < b.verdict) by omega)]
    unfold rulesGo
    rw [e, ih]
theorem mem_wholeOf {p : TPol} (h : OkPol p) {r : TRule} (hr : r ∈ wholeOf p) : (0 ≤ r.verdict ∧ r.verdict ≤ 4) ∧ ∀ c ∈ r.conds, OkCond c := by
  unfold wholeOf at hr
  rcases List.mem_append.1 hr with hr | hr
  · have := h.rules r hr; exact ⟨⟨this.v0, this.v1⟩, this.conds⟩
  · simp at hr; subst hr; exact ⟨⟨h.d0, h.d1⟩, fun c hc => by simp at hc⟩
theorem mem_pairs {of : Int → Int → Int} {l m : List TRule} {r : TRule} : r ∈ pairs of l m ↔ ∃ a ∈ l, ∃ b ∈ m, r = pairRule of a b := by
  unfold pairs
  simp only [List.mem_flatMap, List.mem_map]
  constructor
  · rintro ⟨a, ha, b, hb, rfl⟩; exact ⟨a, ha, b, hb, rfl⟩
  · rintro ⟨a, ha, b, hb, rfl⟩; exact ⟨a, ha, b, hb, rfl⟩
def Keeps (of : Int → Int → Int) : Prop := ∀ a b : Int, 0 ≤ a → a ≤ 4 → 0 ≤ b → b ≤ 4 → 0 ≤ of a b ∧ of a b ≤ 4
theorem keeps_min : Keeps minOf := fun a b h0 h1 h2 h3 => by unfold minOf; split <;> omega
theorem keeps_except : Keeps exceptOf := fun a b h0 h1 h2 h3 => by unfold exceptOf; split <;> omega
theorem pair_verdict {of : Int → Int → Int} (hk : Keeps of) {p q : TPol} (hp : OkPol p) (hq : OkPol q) : ∀ r ∈ (pairPol of p q).rules, 0 ≤ r.verdict ∧ r.verdict ≤ 4 := by
  intro r hr
  have hm : r ∈ pairs of (wholeOf p) (wholeOf q) := by rw [pairs_last]; exact List.mem_append_left _ hr
  obtain ⟨a, ha, b, hb, rfl⟩ := mem_pairs.1 hm
  have := mem_wholeOf hp ha; have := mem_wholeOf hq hb
  exact hk _ _ (by omega) (by omega) (by omega) (by omega)
theorem pair_err {of of' : Int → Int → Int} (hk : Keeps of) (hk' : Keeps of') {p q : TPol} : (pairE of p q).2 = (pairE of' p q).2 := by
  unfold pairE
  split
  · rfl
  · rename_i h1
    have h3 := (polsE_iff _).1 (by simpa using h1)
    have hp := h3 p (by simp)
    have hq := h3 q (by simp)
    have e : polE (pairPol of p q) = polE (pairPol of' p q) := by
      have d := hk _ _ hp.d0 hp.d1 hq.d0 hq.d1
      have d' := hk' _ _ hp.d0 hp.d1 hq.d0 hq.d1
      unfold polE
      rw [pairPol_len, pairPol_len, if_neg (show ¬ ((pairPol of p q).dflt < 0 ∨ 4 < (pairPol of p q).dflt) by show ¬ (of p.dflt q.dflt < 0 ∨ 4 < of p.dflt q.dflt); omega), if_neg (show ¬ ((pairPol of' p q).dflt < 0 ∨ 4 < (pairPol of' p q).dflt) by show ¬ (of' p.dflt q.dflt < 0 ∨ 4 < of' p.dflt q.dflt); omega)]
      rw [rulesGo_conds _ (pairPol of' p q).rules _ (pair_verdict hk hp hq) (pair_verdict hk' hp hq)]
      unfold pairPol pairs
      simp only [List.map_dropLast, List.map_flatMap, List.map_map]
      rfl
    rw [e]
    split <;> rfl
/-- the other way round it is as right. -/
theorem pair_turn {of of' : Int → Int → Int} (hk' : Keeps of') {p q : TPol} (h : (pairE of p q).2 = 0) : (pairE of' q p).2 = 0 := by
  obtain ⟨hp, hq, hm, _⟩ := pairE_ok h
  have : OkPol (pairPol of' q p) := by
    have d := hk' _ _ hq.d0 hq.d1 hp.d0 hp.d1
    refine ⟨?_, d.1, d.2, fun r hr => ?_⟩
    · have := hm.len
      rw [pairPol_len] at this ⊢
      rw [Nat.mul_comm]; exact this
    · have hv := pair_verdict hk' hq hp r hr
      have hmem : r ∈ pairs of' (wholeOf q) (wholeOf p) := by rw [pairs_last]; exact List.mem_append_left _ hr
      obtain ⟨a, ha, b, hb, rfl⟩ := mem_pairs.1 hmem
      have hm2 : pairRule of b a ∈ pairs of (wholeOf p) (wholeOf q) := mem_pairs.2 ⟨b, hb, a, ha, rfl⟩
      refine ⟨?_, hv.1, hv.2, fun c hc => ?_⟩
      · rw [pairs_last] at hm2
        rcases List.mem_append.1 hm2 with hm2 | hm2
        · have := (hm.rules _ hm2).len
          simp only [pairRule, List.length_append] at this ⊢; omega
        · simp [pairRule] at hm2
          simp only [pairRule, List.length_append]
          rw [hm2.1.1, hm2.1.2]; simp
      · rcases List.mem_append.1 hc with hc | hc
        · exact (mem_wholeOf hq ha).2 c hc
        · exact (mem_wholeOf hp hb).2 c hc
  rw [pairE_of hq hp this]

/-! ### made shorter -/
def usedRules (ks : List Nat) : List TRule → Nat → List TRule
  | [], _ => []
  | r :: l, i => if ks.contains i then r :: usedRules ks l (i + 1) else usedRules ks l (i + 1)
def trimD (d : Int) : List TRule → List TRule
  | [] => []
  | r :: l => if trimD d l = [] ∧ r.verdict = d then [] else r :: trimD d l
def usedBy (p : TPol) (l : List TCall) : List Nat := l.map fun x => which x p.rules
def shortPol (p : TPol) : TPol := ⟨trimD p.dflt (usedRules (usedBy p (stage [p] 5)) p.rules 0), p.dflt⟩
/-- chapter 8's Short. -/
def shortE (p : TPol) : TPol × Int := if (pointsE [p]).2 ≠ 0 then (zeroPol, (pointsE [p]).2) else (shortPol p, 0)
theorem shortE_ok {p : TPol} (h : (shortE p).2 = 0) : OkPol p ∧ sizes [p] 5 ≤ 1000 ∧ shortE p = (shortPol p, 0) := by
  have h0 : (pointsE [p]).2 = 0 := by
    unfold shortE at h
    split at h
    · exact h
    · rename_i h'; simpa using h'
  obtain ⟨h1, h2, h3⟩ := pointsE_ok h0
  refine ⟨h1 p (by simp), h2, ?_⟩
  unfold shortE
  rw [if_neg (by rw [h0]; simp)]
theorem shortE_of {p : TPol} (h : OkPol p) (hs : sizes [p] 5 ≤ 1000) : shortE p = (shortPol p, 0) := by
  unfold shortE
  rw [if_neg (by rw [pointsE_of (by simpa using h) hs]; simp)]
theorem usedRules_sub (ks : List Nat) : ∀ (l : List TRule) (i : Nat), (usedRules ks l i).Sublist l
  | [], _ => List.Sublist.refl _
  | r :: l, i => by
    unfold usedRules
    split
    · exact (usedRules_sub ks l (i + 1)).cons_cons r
    · exact (usedRules_sub ks l (i + 1)).cons r
theorem trimD_pre (d : Int) : ∀ l : List TRule, trimD d l <+: l
  | [] => List.prefix_refl _
  | r :: l => by
    unfold trimD
    split
    · exact List.nil_prefix
    · exact (List.cons_prefix_cons).2 ⟨rfl, trimD_pre d l⟩
theorem first_used (x : TCall) (ks : List Nat) : ∀ (l : List TRule) (i : Nat), (which x l < l.length → i + which x l ∈ ks) → firstOf x (usedRules ks l i) = firstOf x l
  | [], _, _ => rfl
  | r :: l, i, h => by
    have e2 : ∀ m : List TRule, firstOf x (r :: m) = if allHold x r.conds = true then some r else firstOf x m := fun m => by
      unfold firstOf
      rw [List.find?_cons]
      cases allHold x r.conds <;> simp
    unfold usedRules
    by_cases hr : allHold x r.conds = true
    · have hw : which x (r :: l) = 0 := by unfold which; rw [if_pos hr]
      have hi := h (by rw [hw]; simp)
      rw [hw, Nat.add_zero] at hi
      rw [if_pos (by simpa using hi), e2, e2, if_pos hr, if_pos hr]
    · have hw : which x (r :: l) = which x l + 1 := by conv => lhs; unfold which
                                                       rw [if_neg hr]
      have ih := first_used x ks l (i + 1) (fun hlt => by
        have := h (by rw [hw]; simpa using hlt)
        rw [hw] at this
        rwa [show i + 1 + which x l = i + (which x l + 1) by omega])
      split
      · rw [e2, e2, if_neg hr, if_neg hr, ih]
      · rw [e2, if_neg hr, ih]
def orD (d : Int) : Option TRule → Int
  | some r => r.verdict
  | none => d
theorem says_orD (p : TPol) (x : TCall) : says p x = orD p.dflt (firstOf x p.rules) := by rw [says_first]; rfl
theorem first_trim (x : TCall) (d : Int) : ∀ l : List TRule, orD d (firstOf x (trimD d l)) = orD d (firstOf x l)
  | [] => rfl
  | r :: l => by
    have e2 : ∀ m : List TRule, firstOf x (r :: m) = if allHold x r.conds = true then some r else firstOf x m := fun m => by
      unfold firstOf
      rw [List.find?_cons]
      cases allHold x r.conds <;> simp
    have ih := first_trim x d l
    unfold trimD
    split
    · rename_i h
      rw [h.1] at ih
      rw [e2]
      split
      · show d = r.verdict; exact h.2.symm
      · exact ih
    · rw [e2, e2]
      split
      · rfl
      · exact ih
/-- SHORT SAYS OF EACH CALL WHAT THE POLICY SAYS. -/
theorem says_short {p : TPol} (h : OkPol p) {x : TCall} (hx : x.ok) : says (shortPol p) x = says p x := by
  have hall : ∀ r ∈ [p], OkPol r := by simpa using h
  rw [says_orD, says_orD]
  show orD p.dflt (firstOf x (trimD _ _)) = _
  rw [first_trim, first_used]
  intro _
  rw [Nat.zero_add]
  refine List.mem_map.2 ⟨homeOf [p] x, home_point hall hx, which_home hall hx (by simp)⟩
theorem short_sub (p : TPol) : (shortPol p).rules.Sublist p.rules := (trimD_pre _ _).sublist.trans (usedRules_sub _ _ _)
theorem okPol_sub {p q : TPol} (h : OkPol p) (hs : q.rules.Sublist p.rules) (hd : q.dflt = p.dflt) : OkPol q :=
  ⟨Nat.le_trans hs.length_le h.len, by rw [hd]; exact h.d0, by rw [hd]; exact h.d1, fun r hr => h.rules r (hs.subset hr)⟩
theorem okPol_short {p : TPol} (h : OkPol p) : OkPol (shortPol p) := okPol_sub h (short_sub p) rfl
theorem cutVals_sub {p q : TPol} (hs : q.rules.Sublist p.rules) (f n : Int) (h : n ∈ cutVals [q] f) : n ∈ cutVals [p] f := by
  rcases mem_vals.1 h with rfl | ⟨a, ha, r, hr, c, hc, hm⟩
  · exact mem_vals.2 (.inl rfl)
  · simp at ha; subst ha
    exact mem_vals.2 (.inr ⟨p, by simp, r, hs.subset hr, c, hc, hm⟩)
/-- every rule of a list is the first to hold somewhere among these calls. -/
def AllUsed (p : TPol) (l : List TCall) : Prop := ∀ i, i < p.rules.length → ∃ x ∈ l, which x p.rules = i
theorem used_all (ks : List Nat) : ∀ (l : List TRule) (i : Nat), (∀ j, j < l.length → i + j ∈ ks) → usedRules ks l i = l
  | [], _, _ => rfl
  | r :: l, i, h => by
    unfold usedRules
    rw [if_pos (by have := h 0 (by simp); simpa using this), used_all ks l (i + 1) (fun j hj => by have := h (j + 1) (by simpa using hj); rwa [show i + 1 + j = i + (j + 1) by omega])]
theorem trim_trim (d : Int) : ∀ l : List TRule, trimD d (trimD d l) = trimD d l
  | [] => rfl
  | r :: l => by
    have ih := trim_trim d l
    by_cases h : trimD d l = [] ∧ r.verdict = d
    · have e : trimD d (r :: l) = [] := by unfold trimD; rw [if_pos h]
      rw [e]; rfl
    · have e : trimD d (r :: l) = r :: trimD d l := by conv => lhs; unfold trimD
                                                       rw [if_neg h]
      rw [e]
      conv => lhs; unfold trimD
      rw [ih, if_neg h]
theorem short_of_used {p : TPol} (h : AllUsed p (stage [p] 5)) : shortPol p = ⟨trimD p.dflt p.rules, p.dflt⟩ := by
  unfold shortPol
  rw [used_all]
  intro j hj
  obtain ⟨x, hx, hw⟩ := h j hj
  rw [Nat.zero_add]
  exact List.mem_map.2 ⟨x, hx, hw⟩
/-- the place of a rule that is used, among those that are. -/
theorem used_which (ks : List Nat) : ∀ (l : List TRule) (i j : Nat), j < (usedRules ks l i).length → ∃ k, k < l.length ∧ i + k ∈ ks ∧ ∀ x, which x l = k → which x (usedRules ks l i) = j
  | [], _, _, h => by simp [usedRules] at h
  | r :: l, i, j, h => by
    unfold usedRules at h ⊢
    by_cases hk : ks.contains i = true
    · rw [if_pos hk] at h ⊢
      cases j with
      | zero => exact ⟨0, by simp, by simpa using hk, fun x hx => by
          unfold which at hx ⊢
          split at hx
          · rename_i ha; rw [if_pos ha]
          · omega⟩
      | succ j =>
        obtain ⟨k, h1, h2, h3⟩ := used_which ks l (i + 1) j (by simpa using h)
        refine ⟨k + 1, by simpa using h1, by rwa [show i + (k + 1) = i + 1 + k by omega], fun x hx => ?_⟩
        unfold which at hx ⊢
        split at hx
        · omega
        · rename_i ha; rw [if_neg ha, h3 x (by omega)]
    · rw [if_neg hk] at h ⊢
      obtain ⟨k, h1, h2, h3⟩ := used_which ks l (i + 1) j h
      refine ⟨k + 1, by simpa using h1, by rwa [show i + (k + 1) = i + 1 + k by omega], fun x hx => ?_⟩
      unfold which at hx
      split at hx
      · omega
      · exact h3 x (by omega)
theorem which_pre (x : TCall) : ∀ (l m : List TRule) (j : Nat), l <+: m → which x m = j → j < l.length → which x l = j
  | [], _, _, _, _, h => by simp at h
  | r :: l, m, j, hp, hw, hj => by
    obtain ⟨t, rfl⟩ := hp
    rw [List.cons_append] at hw
    unfold which at hw ⊢
    split at hw
    · rename_i h; rw [if_pos h]; exact hw
    · rename_i h
      rw [if_neg h]
      cases j with
      | zero => omega
      | succ j => rw [which_pre x l (l ++ t) j ⟨t, rfl⟩ (by omega) (by simpa using hj)]
/-- made shorter again it is the same. -/
theorem short_short {p : TPol} (h : OkPol p) : shortPol (shortPol p) = shortPol p := by
  have hall : ∀ r ∈ [p], OkPol r := by simpa using h
  have hs := okPol_short h
  have hsall : ∀ r ∈ [shortPol p], OkPol r := by simpa using hs
  have hu : AllUsed (shortPol p) (stage [shortPol p] 5) := by
    intro j hj
    have hpre : (shortPol p).rules <+: usedRules (usedBy p (stage [p] 5)) p.rules 0 := trimD_pre _ _
    obtain ⟨k, h1, h2, h3⟩ := used_which (usedBy p (stage [p] 5)) p.rules 0 j (Nat.lt_of_lt_of_le hj hpre.length_le)
    rw [Nat.zero_add] at h2
    obtain ⟨x, hx, hw⟩ := List.mem_map.1 h2
    have hxo := point_ok hall hx
    have hj' := which_pre x _ _ j hpre (h3 x hw) hj
    exact ⟨homeOf [shortPol p] x, home_point hsall hxo, by rw [which_home hsall hxo (by simp)]; exact hj'⟩
  rw [short_of_used hu]
  show (⟨trimD p.dflt (trimD p.dflt _), p.dflt⟩ : TPol) = ⟨trimD p.dflt _, p.dflt⟩
  rw [trim_trim]
theorem short_again {p : TPol} (h : (shortE p).2 = 0) : shortE (shortPol p) = (shortPol p, 0) := by
  obtain ⟨h1, h2, _⟩ := shortE_ok h
  rw [shortE_of (okPol_short h1) (Nat.le_trans (sizes_sub (fun f n hn => cutVals_sub (short_sub p) f n hn) 5) h2), short_short h1]

/-! ### chapter 9's Delta -/
def deltaE (p q : TPol) : TPol × Int := if (looserE q p).2.2 ≠ 0 then (zeroPol, (looserE q p).2.2) else if (looserE q p).1 then (zeroPol, 7) else
  if (pairE exceptOf q p).2 ≠ 0 then (zeroPol, (pairE exceptOf q p).2) else shortE (pairPol exceptOf q p)
theorem pointsE_err (l : List TPol) : (pointsE l).2 ≠ 7 := by
  have key : ∀ l : List TPol, polsE l ≠ 7 := by
    have k1 : ∀ c, condE c ≠ 7 := fun c => by unfold condE; split <;> (try split) <;> (try split) <;> omega
    have k2 : ∀ l, condsGo l ≠ 7 := fun l => by
      induction l with
      | nil => simp [condsGo]
      | cons c l ih => unfold condsGo; split; exact ih; exact k1 c
    have k3 : ∀ r, ruleE r ≠ 7 := fun r => by unfold ruleE; split; omega; split; omega; exact k2 _
    have k4 : ∀ l, rulesGo l ≠ 7 := fun l => by
      induction l with
      | nil => simp [rulesGo]
      | cons c l ih => unfold rulesGo; split; exact ih; exact k3 c
    intro l
    induction l with
    | nil => simp [polsE]
    | cons p l ih =>
      unfold polsE; split
      · exact ih
      · unfold polE; split; omega; split; omega; exact k4 _
  unfold pointsE
  split
  · exact key l
  · split <;> simp
theorem polE_err (p : TPol) : polE p ≠ 7 := by
  intro h
  have e : polsE [p] = 7 := by
    unfold polsE
    rw [if_neg (by rw [h]; simp), h]
  have : (pointsE [p]).2 = 7 := by
    unfold pointsE
    rw [if_pos (by rw [e]; simp), e]
  exact pointsE_err [p] this
theorem looserE_err (p q : TPol) : (looserE p q).2.2 ≠ 7 := by
  unfold looserE
  split
  · exact pointsE_err _
  · split <;> simp
theorem pairE_err (of : Int → Int → Int) (p q : TPol) : (pairE of p q).2 ≠ 7 := by
  unfold pairE
  split
  · rename_i h
    show polsE [p, q] ≠ 7
    unfold polsE polsE polsE
    split
    · split
      · simp
      · exact polE_err q
    · exact polE_err p
  · split
    · exact polE_err _
    · simp
theorem shortE_err (p : TPol) : (shortE p).2 ≠ 7 := by
  unfold shortE
  split
  · exact pointsE_err _
  · simp
theorem deltaE_loose {p q : TPol} : (deltaE p q).2 = 7 ↔ ((looserE q p).2.2 = 0 ∧ (looserE q p).1 = true) := by
  unfold deltaE
  constructor
  · intro h
    split at h
    · exact absurd h (looserE_err _ _)
    · rename_i h1
      split at h
      · rename_i h2; exact ⟨by simpa using h1, h2⟩
      · split at h
        · exact absurd h (pairE_err _ _ _)
        · exact absurd h (shortE_err _)
  · rintro ⟨h1, h2⟩
    rw [if_neg (by rw [h1]; simp), if_pos h2]
theorem deltaE_ok {p q : TPol} (h : (deltaE p q).2 = 0) : OkPol p ∧ OkPol q ∧ (looserE q p).2.2 = 0 ∧ (looserE q p).1 = false ∧ OkPol (pairPol exceptOf q p) ∧ deltaE p q = (shortPol (pairPol exceptOf q p), 0) := by
  unfold deltaE at h ⊢
  split at h
  · rename_i h1; exact absurd h h1
  · rename_i h1
    have h1' : (looserE q p).2.2 = 0 := by simpa using h1
    split at h
    · simp at h
    · rename_i h2
      split at h
      · rename_i h3; exact absurd h h3
      · rename_i h3
        obtain ⟨a1, a2, a3, _⟩ := pairE_ok (of := exceptOf) (p := q) (q := p) (by simpa using h3)
        obtain ⟨_, _, b3⟩ := shortE_ok h
        exact ⟨a2, a1, h1', by simpa using h2, a3, by rw [if_neg h1, if_neg h2, if_neg h3]; exact b3⟩
/-- A DELTA allows all of which nothing changes, and says of all else what the stricter policy says. -/
theorem says_delta {p q : TPol} (h : (deltaE p q).2 = 0) {x : TCall} (hx : x.ok) : says (deltaE p q).1 x = exceptOf (says q x) (says p x) := by
  obtain ⟨_, _, _, _, h5, h6⟩ := deltaE_ok h
  rw [h6]
  show says (shortPol _) x = _
  rw [says_short h5 hx, says_pair]
theorem okPol_delta {p q : TPol} (h : (deltaE p q).2 = 0) : OkPol (deltaE p q).1 := by
  obtain ⟨_, _, _, _, h5, h6⟩ := deltaE_ok h
  rw [h6]; exact okPol_short h5
theorem delta_le {p q : TPol} (h : (deltaE p q).2 = 0) {x : TCall} (hx : x.ok) : says q x ≤ says p x := by
  obtain ⟨_, _, h3, h4, _, _⟩ := deltaE_ok h
  exact looser_not h3 h4 hx
theorem trim_all (d : Int) : ∀ l : List TRule, (∀ r ∈ l, r.verdict = d) → trimD d l = []
  | [], _ => rfl
  | r :: l, h => by
    unfold trimD
    rw [if_pos ⟨trim_all d l (fun r hr => h r (List.mem_cons_of_mem _ hr)), h r (List.mem_cons_self ..)⟩]
theorem mem_used (ks : List Nat) : ∀ (l : List TRule) (i : Nat) (r : TRule), r ∈ usedRules ks l i → ∃ k, l[k]? = some r ∧ i + k ∈ ks
  | [], _, _, h => by simp [usedRules] at h
  | a :: l, i, r, h => by
    unfold usedRules at h
    split at h
    · rename_i hk
      rcases List.mem_cons.1 h with rfl | h
      · exact ⟨0, rfl, by simpa using hk⟩
      · obtain ⟨k, h1, h2⟩ := mem_used ks l (i + 1) r h
        exact ⟨k + 1, by simpa using h1, by rwa [show i + (k + 1) = i + 1 + k by omega]⟩
    · obtain ⟨k, h1, h2⟩ := mem_used ks l (i + 1) r h
      exact ⟨k + 1, by simpa using h1, by rwa [show i + (k + 1) = i + 1 + k by omega]⟩
/-- from a policy to itself a delta has no rules. -/
theorem delta_self {p : TPol} (h : (deltaE p p).2 = 0) : (deltaE p p).1.rules = [] := by
  obtain ⟨h1, _, _, _, h5, h6⟩ := deltaE_ok h
  rw [h6]
  show trimD (exceptOf p.dflt p.dflt) _ = []
  have hd : exceptOf p.dflt p.dflt = 4 := by unfold exceptOf; rw [if_neg (by omega)]
  rw [hd]
  refine trim_all 4 _ fun r hr => ?_
  obtain ⟨k, hk, hks⟩ := mem_used _ _ _ _ hr
  rw [Nat.zero_add] at hks
  obtain ⟨x, _, hw⟩ := List.mem_map.1 hks
  have hs := says_pair exceptOf p p x
  have hv : says (pairPol exceptOf p p) x = r.verdict := by
    unfold says judged verdictAt
    dsimp only
    rw [hw, hk]
  rw [hv] at hs
  rw [hs]
  unfold exceptOf
  rw [if_neg (by omega)]
theorem delta_self_not (p : TPol) : (deltaE p p).2 ≠ 7 := by
  intro h
  obtain ⟨h1, h2⟩ := deltaE_loose.1 h
  have := looser_at h1 h2
  omega
theorem looser_self {p : TPol} (h : (looserE p p).2.2 = 0) : (looserE p p).1 = false := (looser_iff h).2 fun _ _ => Int.le_refl _
end Go.Proofs.YtioeliocdbckbaaGreatDoor
namespace Go.Proofs.YtioeliocdbckbaaGreatDoor
open Go.RowKit

/-- W is w with these blocks behind it, and more behind those. -/
structure Bx (w : World) (bs : List Obj) (W : World) : Prop where
  bel : Below w.heap.size w W
  at_ : ∀ (i : Nat) (o : Obj), bs[i]? = some o → W.heap[w.heap.size + i]? = some o
section
variable {w W W' : World} {bs : List Obj}
theorem Bx.nil : Bx w [] w := ⟨Below.refl _ _, fun i o h => by simp at h⟩
theorem Bx.push (h : Bx w bs W) (hs : W.heap.size = w.heap.size + bs.length) (o : Obj) : Bx w (bs ++ [o]) (W.alloc o) := by
  refine ⟨bel_alloc h.bel o, fun i x hx => ?_⟩
  rw [List.getElem?_append] at hx
  split at hx
  · exact blk_old (h.at_ i x hx)
  · rename_i hge
    have hi : i - bs.length = 0 := by
      have := (List.getElem?_eq_some_iff.1 hx).1
      simp at this; exact this
    rw [hi] at hx
    simp at hx
    subst hx
    exact blk_at (by omega)
theorem Bx.two {o o' : Obj} : Bx w [o, o'] ((w.alloc o).alloc o') := (Bx.nil.push (by simp) o).push (by simp) o'
theorem Bx.one {o : Obj} : Bx w [o] (w.alloc o) := Bx.nil.push (by simp) o
theorem Bx.three {o o' o2 : Obj} : Bx w [o, o', o2] (((w.alloc o).alloc o').alloc o2) := Bx.two.push (by simp) o2
theorem Bx.below (h : Bx w bs W) (hb : Below W.heap.size W W') : Bx w bs W' := ⟨bel_call h.bel hb, fun i o ho => blk_below (h.at_ i o ho) hb⟩
theorem Bx.alloc (h : Bx w bs W) (o : Obj) : Bx w bs (W.alloc o) := h.below (bel_alloc (Below.refl _ _) o)
theorem Bx.lift {B : Nat} (h : Bx w bs W) (hb : Below B W W') (hB : w.heap.size + bs.length ≤ B) : Bx w bs W' := ⟨h.bel.trans (hb.mono (by omega)), fun i o ho => (hb.block _ (by have := (List.getElem?_eq_some_iff.1 ho).1; omega)).trans (h.at_ i o ho)⟩
theorem Bx.top (h : Bx w bs W) : w.heap.size + bs.length ≤ W.heap.size := by
  rcases Nat.eq_zero_or_pos bs.length with h0 | h0
  · have := h.bel.size; omega
  · have hl : bs.length - 1 < bs.length := by omega
    have := (Array.getElem?_eq_some_iff.1 (h.at_ (bs.length - 1) _ (List.getElem?_eq_getElem hl))).1
    omega
theorem Bx.drew (h : Bx w bs W) : Bx w bs W.drew := h.below (Below.refl _ _).drew
theorem Bx.cells (h : Bx w bs W) {i : Nat} {cs : Array Value} {T : TypeId} (hi : bs[i]? = some (.cells cs T)) (j : Nat) : W.cell? ⟨w.heap.size + i, j, none⟩ = cs[j]? := cells_of (h.at_ i _ hi) j
theorem Bx.free (h : Bx w bs W) {i : Nat} {cs : Array Value} {T : TypeId} (hi : bs[i]? = some (.cells cs T)) (j : Nat) : W.frozen? ⟨w.heap.size + i, j, none⟩ = false := not_frozen (h.at_ i _ hi) j
theorem Bx.cells0 {cs : Array Value} {T : TypeId} {r : List Obj} (h : Bx w (.cells cs T :: r) W) (j : Nat) : W.cell? ⟨w.heap.size, j, none⟩ = cs[j]? := h.cells (i := 0) rfl j
theorem Bx.cells1 {o : Obj} {cs : Array Value} {T : TypeId} {r : List Obj} (h : Bx w (o :: .cells cs T :: r) W) (j : Nat) : W.cell? ⟨w.heap.size + 1, j, none⟩ = cs[j]? := h.cells (i := 1) rfl j
theorem Bx.cells2 {o o' : Obj} {cs : Array Value} {T : TypeId} {r : List Obj} (h : Bx w (o :: o' :: .cells cs T :: r) W) (j : Nat) : W.cell? ⟨w.heap.size + 1 + 1, j, none⟩ = cs[j]? := h.cells (i := 2) rfl j
theorem Bx.free0 {cs : Array Value} {T : TypeId} {r : List Obj} (h : Bx w (.cells cs T :: r) W) (j : Nat) : W.frozen? ⟨w.heap.size, j, none⟩ = false := h.free (i := 0) rfl j
theorem Bx.free1 {o : Obj} {cs : Array Value} {T : TypeId} {r : List Obj} (h : Bx w (o :: .cells cs T :: r) W) (j : Nat) : W.frozen? ⟨w.heap.size + 1, j, none⟩ = false := h.free (i := 1) rfl j
theorem Bx.size (h : Bx w bs W) {i : Nat} (hi : i < bs.length) : w.heap.size + i < W.heap.size :=
  (Array.getElem?_eq_some_iff.1 (h.at_ i _ (List.getElem?_eq_getElem hi))).1
theorem Bx.set (h : Bx w bs W) {i : Nat} {cs : Array Value} {T : TypeId} (hi : bs[i]? = some (.cells cs T)) (j : Nat) (v : Value) : Bx w (bs.set i (.cells (cs.setIfInBounds j v) T)) (W.setCell ⟨w.heap.size + i, j, none⟩ v) := by
  refine ⟨set_below h.bel (by show w.heap.size ≤ w.heap.size + i; omega), fun k o ho => ?_⟩
  by_cases e : k = i
  · subst e
    have hlt := (List.getElem?_eq_some_iff.1 hi).1
    rw [List.getElem?_set_self hlt] at ho
    injection ho with ho
    subst ho
    exact set_at (h.at_ k _ hi)
  · rw [List.getElem?_set_ne (Ne.symm e)] at ho
    rw [set_other (by show w.heap.size + k ≠ w.heap.size + i; omega)]
    exact h.at_ k o ho
end
/-- a call's box behind 'x = right(x)'. -/
theorem Bx.setCall0 {w W : World} {x y : TCall} {T : TypeId} {r : List Obj} (h : Bx w (.cells #[.int .i64 x.a0, .int .i64 x.a1, .int .i64 x.a2, .int .i64 x.a3, .int .i64 x.a4] T :: r) W) :
    Bx w (.cells #[.int .i64 y.a0, .int .i64 y.a1, .int .i64 y.a2, .int .i64 y.a3, .int .i64 y.a4] T :: r) (((((W.setCell ⟨w.heap.size, 0, none⟩ (.int .i64 y.a0)).setCell ⟨w.heap.size, 1, none⟩ (.int .i64 y.a1)).setCell ⟨w.heap.size, 2, none⟩ (.int .i64 y.a2)).setCell ⟨w.heap.size, 3, none⟩ (.int .i64 y.a3)).setCell ⟨w.heap.size, 4, none⟩ (.int .i64 y.a4)) :=
  ((((h.set (i := 0) rfl 0 (.int .i64 y.a0)).set (i := 0) rfl 1 (.int .i64 y.a1)).set (i := 0) rfl 2 (.int .i64 y.a2)).set (i := 0) rfl 3 (.int .i64 y.a3)).set (i := 0) rfl 4 (.int .i64 y.a4)
theorem Bx.setCall1 {w W : World} {x y : TCall} {T : TypeId} {o : Obj} {r : List Obj} (h : Bx w (o :: .cells #[.int .i64 x.a0, .int .i64 x.a1, .int .i64 x.a2, .int .i64 x.a3, .int .i64 x.a4] T :: r) W) :
    Bx w (o :: .cells #[.int .i64 y.a0, .int .i64 y.a1, .int .i64 y.a2, .int .i64 y.a3, .int .i64 y.a4] T :: r) (((((W.setCell ⟨w.heap.size + 1, 0, none⟩ (.int .i64 y.a0)).setCell ⟨w.heap.size + 1, 1, none⟩ (.int .i64 y.a1)).setCell ⟨w.heap.size + 1, 2, none⟩ (.int .i64 y.a2)).setCell ⟨w.heap.size + 1, 3, none⟩ (.int .i64 y.a3)).setCell ⟨w.heap.size + 1, 4, none⟩ (.int .i64 y.a4)) :=
  ((((h.set (i := 1) rfl 0 (.int .i64 y.a0)).set (i := 1) rfl 1 (.int .i64 y.a1)).set (i := 1) rfl 2 (.int .i64 y.a2)).set (i := 1) rfl 3 (.int .i64 y.a3)).set (i := 1) rfl 4 (.int .i64 y.a4)
theorem Bx.setCall2 {w W : World} {x y : TCall} {T : TypeId} {o o' : Obj} {r : List Obj} (h : Bx w (o :: o' :: .cells #[.int .i64 x.a0, .int .i64 x.a1, .int .i64 x.a2, .int .i64 x.a3, .int .i64 x.a4] T :: r) W) :
    Bx w (o :: o' :: .cells #[.int .i64 y.a0, .int .i64 y.a1, .int .i64 y.a2, .int .i64 y.a3, .int .i64 y.a4] T :: r) (((((W.setCell ⟨w.heap.size + 1 + 1, 0, none⟩ (.int .i64 y.a0)).setCell ⟨w.heap.size + 1 + 1, 1, none⟩ (.int .i64 y.a1)).setCell ⟨w.heap.size + 1 + 1, 2, none⟩ (.int .i64 y.a2)).setCell ⟨w.heap.size + 1 + 1, 3, none⟩ (.int .i64 y.a3)).setCell ⟨w.heap.size + 1 + 1, 4, none⟩ (.int .i64 y.a4)) :=
  ((((h.set (i := 2) rfl 0 (.int .i64 y.a0)).set (i := 2) rfl 1 (.int .i64 y.a1)).set (i := 2) rfl 2 (.int .i64 y.a2)).set (i := 2) rfl 3 (.int .i64 y.a3)).set (i := 2) rfl 4 (.int .i64 y.a4)
theorem Bx.free2 {o o' : Obj} {cs : Array Value} {T : TypeId} {r : List Obj} {w W : World} (h : Bx w (o :: o' :: .cells cs T :: r) W) (j : Nat) : W.frozen? ⟨w.heap.size + 1 + 1, j, none⟩ = false := h.free (i := 2) rfl j
end Go.Proofs.YtioeliocdbckbaaGreatDoor
namespace Go.Proofs.YtioeliocdbckbaaGreatDoor
open Go.RowKit
attribute [local go_sem] gives givesUpon

theorem nil_conds (w : World) (D : Nat → Prop) : RdConds w D (.slice none 0 0) [] := ⟨none, 0, rfl, Nat.le_refl _, by unfold maxLen; simp, fun _ => rfl, fun h => by cases h⟩

set_option maxRecDepth 100000 in
set_option maxHeartbeats 4000000 in
theorem mwhole_any (v : Value) (p : TPol) (D : Nat → Prop) (w : World) (h : RdRules w D v p.rules) (hn : p.rules.length ≤ 120) :
    Calls Tryz.prog 75 #[polV v p.dflt] w fun e w' => ∃ u, e = .returned u ∧ OwnSl w' w.heap.size 58 2 (ruleR w D) u (wholeOf p) ∧ Below w.heap.size w w' := by
  have H := Lib.hid h
  obtain ⟨a, c, rfl, _⟩ := Sl.form h
  clear h
  obtain ⟨i0, hi, hz0, hz1, hz2⟩ := info_parts infocRule
  have Hi := Lib.hid hi
  clear hi
  have HS : Hid (∀ W, Cls (w.heap.size + 1) (w.alloc (.cells #[.slice a p.rules.length c, .int .i64 p.dflt] 24)) W → ∀ j, W.cell? ⟨w.heap.size, j, none⟩ = (#[.slice a p.rules.length c, .int .i64 p.dflt] : Array Value)[j]?) := fun W hW => (Bx.one.lift hW.2 (by simp)).cells0
  have HR : Hid (∀ W, Cls (w.heap.size + 1) (w.alloc (.cells #[.slice a p.rules.length c, .int .i64 p.dflt] 24)) W → Sl W D 2 (ruleR w D) (.slice a p.rules.length c) p.rules) := fun W hW => H.out.belowR ((bel_alloc (Below.refl _ _) _).trans (hW.2.mono (by omega))) (fun _ _ _ h => h)
  go_enter Tryz.func75, Tryz.ntmps75
  go_wp2_with fail
  refine wp_region_ap1 (w.heap.size + 1) (by simp) 2 6 7 (fun v W => OwnSl W (w.heap.size + 1) 58 2 (ruleR w D) v p.rules) (NewRow (w.heap.size + 1) 58 1 #[.slice none 0 0, .int .i64 p.dflt]) (fun v W => OwnSl W (w.heap.size + 1) 58 2 (ruleR w D) v (p.rules ++ [⟨[], p.dflt⟩])) (by kernel_rfl) (by kernel_rfl) _ rfl
    (fun _ _ _ hb h => h.below hb) (fun _ _ _ hb h => h.below hb) (fun _ _ _ hb h => h.below hb) ?_
  iterate 2 (refine rel_ex (fun K hK => ?_); apply Exists.intro; refine ⟨fun done vf W hI h0 hd hn hf R hR => ?_, ?_, ?_⟩; (have hcell := HS.out W hI; clear h0 hd hn hf; go_simp; exact hR _ _ (Cls.step hI (Below.refl _ _)) (fun _ => Below.refl _ _) rfl trivial); exact (fun _ _ _ => rfl); (go_simp; refine hK _ ?_; clear hK K))
  (refine rel_pr (fun K hK => ?_); refine ⟨fun done vf W hI h0 hd hn hf R hR => ?_, ?_⟩; (have hsl := HR.out W hI; clear h0 hd hn hf; go_simp; go_at_call 34; refine (cloneRule_any (ruleR w D) (fun y cs h => ruleR_one y cs h) _ p.rules D W hsl (by omega)).mono ?_; (rintro e w4 ⟨v4, rfl, hr4, hb4⟩; exact ⟨_, rfl, hR _ _ (Cls.step hI hb4) (fun _ => hb4) trivial (fun _ => hr4.base hI.1)⟩)); (go_simp; refine hK _ ?_; clear hK K))
  iterate 3 (refine rel_ex (fun K hK => ?_); apply Exists.intro; refine ⟨fun done vf W hI h0 hd hn hf R hR => ?_, ?_, ?_⟩; (have hcell := HS.out W hI; clear h0 hd hn hf; go_simp; exact hR _ _ (Cls.step hI (Below.refl _ _)) (fun _ => Below.refl _ _) rfl trivial); exact (fun _ _ _ => rfl); (go_simp; refine hK _ ?_; clear hK K))
  (refine rel_pr (fun K hK => ?_); refine ⟨fun done vf W hI h0 hd hn hf R hR => ?_, ?_⟩; (clear h0 hd hn hf; go_simp; exact hR _ _ (Cls.step hI (bel_alloc (Below.refl _ _) _)) (fun _ => bel_alloc (Below.refl _ _) _) trivial (fun _ => ⟨_, rfl, hI.1, heap_last _ _⟩)); (go_simp; refine hK _ ?_; clear hK K))
  (refine rel_pr (fun K hK => ?_); refine ⟨fun done vf W hI h0 hd hn hf R hR => ?_, ?_⟩; (have h2 : OwnSl W (w.heap.size + 1) 58 2 (ruleR w D) (vf 2) p.rules := hf 2 (hd 2 (by decide)) h0; have h6 : NewRow (w.heap.size + 1) 58 1 #[.slice none 0 0, .int .i64 p.dflt] (vf 6) W := hf 6 (hd 6 (by decide)) h0; obtain ⟨bn, hbv, hbn, hcn⟩ := h6; have hblk := h2.block; obtain ⟨rows, hrows, hown⟩ := h2; refine ob_plain rfl ?_; refine gives_append_at (.tmp 5) (.tmp 9) 22 rfl (w.heap.size + 1) 58 i0 _ 2 32 Tryz.underlying22 Hi.out hz0 hz1 hz2 rfl (by omega) (vf 2) p.rules.length rows.flatten (by rfl) hown ⟨bn, 0, none⟩ 1 1 [.slice none 0 0, .int .i64 p.dflt] (by exact hbv) (by rfl) (World.news_of_block hcn) (by simp [Value.oneCell']) (by omega) (by unfold maxLen; omega) (by omega) hI.1 (fun v' w' h1 h2 _ => hR _ _ ⟨Nat.le_trans hI.1 h2.size, Below.grown hI.2 h2 hI.1 hblk⟩ (fun h => absurd rfl h) trivial (OwnSl.app1 hrows ⟨_, rfl, nil_conds _ _⟩ rfl h1 rfl))); (go_simp; refine hK _ ?_; clear hK K))
  (refine rel_ex (fun K hK => ?_); apply Exists.intro; refine ⟨fun done vf W hI h0 hd hn hf R hR => ?_, ?_, ?_⟩; (clear h0 hd hn hf; go_simp; exact hR _ _ (Cls.step hI (Below.refl _ _)) (fun _ => Below.refl _ _) rfl trivial); exact (fun f g h => h 7 (by decide)); (go_simp; refine hK _ ?_; clear hK K))
  intro done vf w3 hd hI hF
  have h7 : OwnSl w3 (w.heap.size + 1) 58 2 (ruleR w D) (vf 7) (p.rules ++ [⟨[], p.dflt⟩]) := hF 7 (by decide)
  have H7 := Lib.hid (h7.base (base' := w.heap.size) (by omega))
  have HB := Lib.hid ((bel_alloc (Below.refl w.heap.size w) (.cells #[.slice a p.rules.length c, .int .i64 p.dflt] 24)).trans (hI.2.mono (by omega)))
  clear hd hI hF h7
  go_wp2
  go_ret
  exact ⟨_, rfl, H7.out, HB.out⟩

theorem min_any (a b : Int) (w : World) : Calls Tryz.prog 49 #[.int .i64 a, .int .i64 b] w fun e w' => e = .returned (.int .i64 (minOf a b)) ∧ w = w' := by
  go_enter Tryz.func49, Tryz.ntmps49
  go_wp2
  all_goals go_ret
  all_goals refine ⟨ret_int ?_, rfl⟩
  all_goals unfold minOf
  all_goals first | rw [if_pos (by omega)] | rw [if_neg (by omega)]
theorem except_any (a b : Int) (w : World) : Calls Tryz.prog 50 #[.int .i64 a, .int .i64 b] w fun e w' => e = .returned (.int .i64 (exceptOf a b)) ∧ w = w' := by
  go_enter Tryz.func50, Tryz.ntmps50
  by_cases h : a < b
  · go_wp2
    go_ret
    exact ⟨ret_int (by unfold exceptOf; rw [if_pos h]), rfl⟩
  · go_wp2
    go_ret
    exact ⟨ret_int (by unfold exceptOf; rw [if_neg (by omega)]), rfl⟩
end Go.Proofs.YtioeliocdbckbaaGreatDoor
namespace Go.Proofs.YtioeliocdbckbaaGreatDoor
open Go.RowKit

theorem infocCond : (Tryz.prog.info? 84).map (fun i => (i.zero, i.size, i.bytes)) = some (some (.agg #[.int .i64 0, .int .i64 0, .int .i64 0]), 3, 24) := by kernel_rfl

set_option maxHeartbeats 1000000 in
theorem growCond_nil (n : Nat) (w : World) (hn : n * 24 ≤ 140737488355328) : Calls Tryz.prog 82 #[.slice none 0 0, .int .i64 n] w fun e w' => ∃ v, e = .returned v ∧ OwnSl w' w.heap.size 84 3 condR v ([] : List TCond) ∧ Below w.heap.size w w' := by
  by_cases h0 : n = 0
  · subst h0
    go_enter Tryz.func82, Tryz.ntmps82
    go_wp2
    go_ret
    exact ⟨_, rfl, OwnSl.nil, Below.refl _ _⟩
  · obtain ⟨i0, hi, hz0, hz1, hz2⟩ := info_parts infocCond
    have hrun := fun (W : World) (ty : TypeId) => Lib.run_append_nil_zeros (P := Tryz.prog) W 56 3 ty 84 i0 (.agg #[.int .i64 0, .int .i64 0, .int .i64 0]) .i64 .i64 Tryz.underlying56 Tryz.underlying3 hi hz0 n (by omega) (by rw [hz1]; omega) (by omega) (by rw [hz2]; omega)
    have hgc : ∀ W : World, grownCap W n 0 84 ≤ maxLen := fun W => grownCap_le_maxLen W n 0 84 (by unfold maxLen; omega)
    have h1 : 0 < (n : Int) := by omega
    have h2 : (n : Int) ≤ 9223372036854775807 := by omega
    have Hrun := Lib.hid hrun
    have Hz := Lib.hid hz1
    clear hrun hi hz0 hz1 hz2 h0 hn
    go_enter Tryz.func82, Tryz.ntmps82
    go_wp2_with (at_builtin; refine Lib.wpList_append_run _ rfl _ _ _ _ rfl _ _ rfl rfl _ _ (Hrun.out _ _) ?_)
    go_ret
    refine ⟨_, rfl, ⟨[], RowsOf.nil, by simp, .inr ⟨w.heap.size, grownCap w n 0 84, _, rfl, Nat.le_refl _, blk_at rfl, by simp, hgc w, ?_, by simp⟩⟩, (bel_alloc (Below.refl _ _) _).drew⟩
    have hge := grownCap_ge w n 0 84
    simp [size_zeroCells]
    omega

theorem oneCond (y : TCond) (cs : List Value) (h : condR y cs) : ∀ c ∈ cs, c.oneCell' = true := by
  unfold condR at h; subst h; simp [Value.oneCell']
/-- a slice of slices. -/
def rowsRCond (w : World) (D : Nat → Prop) (l : List TCond) (cs : List Value) : Prop := ∃ u, cs = [u] ∧ Sl w D 3 condR u l
set_option maxRecDepth 100000 in
set_option maxHeartbeats 2000000 in
theorem concatCond_any (v : Value) (ls : List (List TCond)) (D : Nat → Prop) (w : World) (h : Sl w D 1 (rowsRCond w D) v ls) (hn : lenTo ls ls.length * 24 ≤ 140737488355328) :
    Calls Tryz.prog 57 #[v] w fun e w' => ∃ v', e = .returned v' ∧ OwnSl w' w.heap.size 84 3 condR v' ls.flatten ∧ Below w.heap.size w w' := by
  obtain ⟨a, c, rfl, hlc, hcm, hat⟩ := Sl.form h
  obtain ⟨i0, hi, hz0, hz1, hz2⟩ := info_parts infocCond
  have H := Lib.hid h
  clear h
  have hrow : ∀ k (hk : k < ls.length) b o, a = some ⟨b, o, none⟩ → ∃ (u : Value) (cu : Option Addr × Nat), u = Value.slice cu.1 ls[k].length cu.2 ∧ Sl w D 3 condR u ls[k] ∧ ∀ wr, Below w.heap.size w wr → wr.cell? ⟨b, o + k, none⟩ = some u := fun k hk b o e => by
    subst e
    obtain ⟨cs, hcs, ⟨u, hu, hs⟩, hcell⟩ := Sl.get H.out hk
    obtain ⟨a', c', hv, _⟩ := Sl.form hs
    refine ⟨u, (a', c'), hv, hs, fun wr hb => ?_⟩
    subst hu
    have hc := hcell 0 u rfl
    rw [Nat.mul_one] at hc
    exact (hb.cell (p := ⟨b, o + k, none⟩) (World.block_lt_of_cell? _ _ hc)).trans hc
  have Hrow := Lib.hid hrow
  have Hn := Lib.hid hn
  have hn' : lenTo ls ls.length ≤ 140737488355328 := by omega
  clear hrow hn
  go_enter Tryz.func57, Tryz.ntmps57
  go_wp2_with fail
  go_loop [3, 11] (fun s i => ∃ k : Nat, k ≤ ls.length ∧ i = .int .i64 k ∧ s = .int .i64 (lenTo ls k)) (fun _ i => ls.length - (intOf i).toNat)
  case atStart => exact ⟨0, by omega, rfl, rfl⟩
  case round =>
    obtain ⟨k, hk, rfl, rfl⟩ := hrel
    by_cases hlt : k < ls.length
    · obtain ⟨b, o, rfl, hDb, hb⟩ := hat (by omega)
      obtain ⟨u, ⟨a', c'⟩, rfl, hs, hc⟩ := Hrow.out k hlt b o rfl
      have hcw := hc w (Below.refl _ _)
      have hle := lenTo_le ls (k + 1) (by omega)
      have Hs := Lib.hid (lenTo_succ ls k hlt)
      have hle' : lenTo ls k + ls[k].length ≤ 140737488355328 := by have := Hs.out; omega
      clear hs hc
      go_wp2
      go_round
      case rel => exact ⟨k + 1, by omega, by go_num, by rw [Hs.out]; go_num⟩
      case measure => simp [intOf]; omega
    · obtain rfl : k = ls.length := by omega
      go_wp2_with fail
      refine (growCond_nil (lenTo ls ls.length) _ Hn.out).mono ?_
      rintro e w1 ⟨vg, rfl, hown, hb1⟩
      go_wp2_with fail
      go_loopw [6, 27] (fun s i wr => ∃ (k : Nat) (vs : Value), k ≤ ls.length ∧ i = .int .i64 k ∧ vs = s ∧ OwnSl wr w.heap.size 84 3 condR vs (ls.take k).flatten ∧ Below w.heap.size w wr) (fun _ i _ => ls.length - (intOf i).toNat)
      case atStart => exact ⟨0, vg, by omega, rfl, rfl, by simpa using hown, hb1⟩
      case round =>
        obtain ⟨k, vs, hk, rfl, rfl, hown, hbw⟩ := hrel
        have Hown := Lib.hid hown
        have hsz := hbw.size
        clear hown
        by_cases hlt : k < ls.length
        · obtain ⟨b, o, rfl, hDb, hb⟩ := hat (by omega)
          obtain ⟨u, ⟨a', c'⟩, rfl, hs, hc⟩ := Hrow.out k hlt b o rfl
          have hcw := hc wr hbw
          have hle := lenTo_le ls (k + 1) (by omega)
          have Hl := Lib.hid (lenTo_succ ls k hlt)
          have hs' : Sl wr D 3 condR (.slice a' ls[k].length c') ls[k] := Sl.mono hs (fun _ h _ => h) (fun b _ hlt => hbw.block b hlt) hbw.size (fun _ _ _ h => h)
          have Hs' := Lib.hid hs'
          have Hs := Lib.hid (flat_take_succ ls k hlt)
          clear hs hc hs'
          go_wp2_with (at_builtin; refine wpList_app rfl _ _ 56 rfl w.heap.size 84 i0 _ 3 24 Tryz.underlying56 hi hz0 hz1 hz2 rfl (by decide) _ _ rfl Hown.out _ _ rfl Hs'.out (fun y _ cs h => oneCond y cs h) (by have := Hl.out; unfold lenTo at *; unfold maxLen; omega) (by have := Hn.out; have := Hl.out; unfold lenTo at *; omega) hsz ?_; intro v' w2 hown' hg)
          go_roundw
          case rel => exact ⟨k + 1, v', by omega, by go_num, rfl, by rw [← flat_take_succ ls k hlt]; exact hown', Hown.out.grown hbw hg hsz (Nat.le_refl _)⟩
          case measure => simp [intOf]; omega
        · obtain rfl : k = ls.length := by omega
          have Hf : Hid (OwnSl wr w.heap.size 84 3 condR vs ls.flatten) := by have := Hown.out; rwa [List.take_length] at this
          go_wp2
          go_ret
          exact ⟨_, rfl, Hf.out, hbw⟩
end Go.Proofs.YtioeliocdbckbaaGreatDoor
namespace Go.Proofs.YtioeliocdbckbaaGreatDoor
open Go.RowKit

theorem index5 (x : TCall) (k : Nat) (h : k < 5) (w : World) : (Instr.index 26 (callV x) (.int .i64 (k : Int))).run Tryz.prog w = .ok (.int .i64 (x.get k)) w := by
  have hk : k = 0 ∨ k = 1 ∨ k = 2 ∨ k = 3 ∨ k = 4 := by omega
  rcases hk with rfl | rfl | rfl | rfl | rfl <;> (change _ = _; kernel_rfl)
theorem cell5 (x : TCall) (k : Nat) (h : k < 5) : (#[Value.int .i64 x.a0, .int .i64 x.a1, .int .i64 x.a2, .int .i64 x.a3, .int .i64 x.a4] : Array Value)[k]? = some (.int .i64 (x.get k)) := by
  match k, h with
  | 0, _ => rfl
  | 1, _ => rfl
  | 2, _ => rfl
  | 3, _ => rfl
  | 4, _ => rfl

theorem most_any (k : Int) (w : World) : Calls Tryz.prog 64 #[.int .i64 k] w fun e w' => e = .returned (.int .i64 (mostOf k)) ∧ w = w' := by
  by_cases h0 : k = 0
  · have b0 : (k == 0) = true := by simpa using h0
    have e : mostOf k = 63 := by simp [mostOf, h0]
    rw [e]; clear h0 e
    go_enter Tryz.func64, Tryz.ntmps64
    go_wp2
    go_ret
    exact ⟨rfl, rfl⟩
  · have b0 : (k == 0) = false := by simpa using h0
    by_cases h1 : k = 1
    · have b1 : (k == 1) = true := by simpa using h1
      have e : mostOf k = 3 := by simp [mostOf, h1]
      rw [e]; clear h0 h1 e
      go_enter Tryz.func64, Tryz.ntmps64
      go_wp2
      go_ret
      exact ⟨rfl, rfl⟩
    · have b1 : (k == 1) = false := by simpa using h1
      have e : mostOf k = 65535 := by simp [mostOf, h0, h1]
      rw [e]; clear h0 h1 e
      go_enter Tryz.func64, Tryz.ntmps64
      go_wp2
      go_ret
      exact ⟨rfl, rfl⟩

/-- how many of the first k fields are right, as a loop's word. -/
def okTo (x : TCall) (k : Nat) : Prop := ∀ j : Nat, j < k → 0 ≤ x.get j ∧ x.get j ≤ mostOf j
theorem okTo_all {x : TCall} (h : okTo x 5) : callE x = 0 := if_pos (TCall.ok_of h)
theorem okTo_not {x : TCall} {k : Nat} (hk : k < 5) (h : ¬ (0 ≤ x.get k ∧ x.get k ≤ mostOf k)) : callE x = 3 := if_neg fun hx => h (TCall.ok_get hx hk)

set_option maxHeartbeats 1000000 in
theorem callcheck_any (x : TCall) (w : World) : Calls Tryz.prog 37 #[callV x] w fun e w' => e = .returned (.int .i64 (callE x)) ∧ Below w.heap.size w w' := by
  go_enter Tryz.func37, Tryz.ntmps37
  go_wp2_with fail
  go_loop [6] (fun i => ∃ k : Nat, k ≤ 5 ∧ i = .int .i64 k ∧ Hid (okTo x k)) (fun i => 5 - (intOf i).toNat)
  case atStart => exact ⟨0, by omega, rfl, fun j hj => absurd hj (by omega)⟩
  case round =>
    obtain ⟨k, hk, rfl, hok⟩ := hrel
    by_cases hlt : k < 5
    · have hi := fun W => index5 x k hlt W
      by_cases h1 : x.get k < 0
      · have he := Lib.hid (okTo_not hlt (x := x) (by omega))
        go_wp2_with (go_at_call 64; refine (most_any _ _).mono ?_; rintro e w1 ⟨rfl, rfl⟩)
        go_ret
        exact ⟨ret_int he.out.symm, bel_alloc (Below.refl _ _) _⟩
      · by_cases h2 : mostOf k < x.get k
        · have he := Lib.hid (okTo_not hlt (x := x) (by omega))
          go_wp2_with (go_at_call 64; refine (most_any _ _).mono ?_; rintro e w1 ⟨rfl, rfl⟩)
          go_ret
          exact ⟨ret_int he.out.symm, bel_alloc (Below.refl _ _) _⟩
        · go_wp2_with (go_at_call 64; refine (most_any _ _).mono ?_; rintro e w1 ⟨rfl, rfl⟩)
          go_round
          case rel =>
            refine ⟨k + 1, by omega, by go_num, fun j hj => ?_⟩
            by_cases e : j = k
            · subst e; omega
            · exact hok.out j (by omega)
          case measure => simp [intOf]; omega
    · obtain rfl : k = 5 := by omega
      go_wp2
      go_ret
      exact ⟨ret_int (okTo_all hok.out).symm, bel_alloc (Below.refl _ _) _⟩

def inB (n a b : Int) : Bool := decide (a ≤ n ∧ n ≤ b)
theorem inB_yes {n a b : Int} (h : a ≤ n) (h' : n ≤ b) : inB n a b = true := by simp [inB, h, h']
theorem inB_no {n a b : Int} (h : ¬ (a ≤ n ∧ n ≤ b)) : inB n a b = false := by unfold inB; exact decide_eq_false h
theorem in_any (n a b : Int) (w : World) : Calls Tryz.prog 83 #[.int .i64 n, .int .i64 a, .int .i64 b] w fun e w' => e = .returned (.bool (inB n a b)) ∧ w = w' := by
  go_enter Tryz.func83, Tryz.ntmps83
  go_wp2
  all_goals go_ret
  all_goals refine ⟨ret_bool ?_, rfl⟩
  · rename_i h1; simp [inB, h1]
  · rename_i h1; have h2 : ¬ a ≤ n := by omega
    simp [inB, h2]
def mostMap : Array MapEntry := #[⟨.int .i64 0, .int .i64 63, 0⟩, ⟨.int .i64 1, .int .i64 3, 1⟩]
theorem most_find0 : Instr.findNow (.int .i64) (.int .i64 0) mostMap.toList 0 = some (some (0, .int .i64 63)) := rfl
theorem most_find1 : Instr.findNow (.int .i64) (.int .i64 1) mostMap.toList 0 = some (some (1, .int .i64 3)) := rfl
theorem most_find2 {k : Int} (h0 : k ≠ 0) (h1 : k ≠ 1) : Instr.findNow (.int .i64) (.int .i64 k) mostMap.toList 0 = some none := by
  have b0 : (k == 0) = false := beq_eq_false_iff_ne.2 h0
  have b1 : (k == 1) = false := beq_eq_false_iff_ne.2 h1
  simp [mostMap, Instr.findNow, Instr.sameNow, b0, b1]
theorem mostof_find (k : Int) : ∃ f, Instr.findNow (.int .i64) (.int .i64 k) mostMap.toList 0 = some f ∧ ((f = none ∧ mostOf k = 65535) ∨ ∃ j, f = some (j, .int .i64 (mostOf k))) := by
  by_cases h0 : k = 0
  · subst h0; exact ⟨_, most_find0, .inr ⟨_, rfl⟩⟩
  · by_cases h1 : k = 1
    · subst h1; exact ⟨_, most_find1, .inr ⟨_, rfl⟩⟩
    · exact ⟨_, most_find2 h0 h1, .inl ⟨rfl, by simp [mostOf, h0, h1]⟩⟩

theorem mostof_any (k : Int) (w : World) : Calls Tryz.prog 36 #[.int .i64 k] w fun e w' => e = .returned (.int .i64 (mostOf k)) ∧ Below w.heap.size w w' := by
  have hmm := @run_makeMap Tryz.prog
  have h1 := run_insert_new (P := Tryz.prog) (w := w) (t := 95) (es := #[]) (c := 0) (key := .int .i64 0) (v := .int .i64 63) Tryz.underlying95 Tryz.underlying3 rfl rfl
  have h2 := run_insert_new (P := Tryz.prog) (w := w) (t := 95) (es := #[⟨.int .i64 0, .int .i64 63, 0⟩]) (c := 1) (key := .int .i64 1) (v := .int .i64 3) Tryz.underlying95 Tryz.underlying3 rfl rfl
  have hz : (zeroValue 3).run Tryz.prog (w.alloc (.map mostMap 2)) = .ok (.int .i64 0) (w.alloc (.map mostMap 2)) := by kernel_rfl
  simp only [List.push_toArray, List.nil_append, List.cons_append, Nat.reduceAdd] at h1 h2
  obtain ⟨f, hf, hv⟩ := mostof_find k
  have h3 := run_lookup_ok (key := .int .i64 k) (t := 95) Tryz.underlying95 Tryz.underlying3 (heap_last w (.map mostMap 2)) hz rfl hf
  unfold mostMap at h3
  clear hz hf
  rcases hv with ⟨rfl, hv⟩ | ⟨j, rfl⟩
  · rw [hv]; clear hv
    simp only [Option.map_none, Option.getD_none, Option.isSome_none] at h3
    go_enter Tryz.func36, Tryz.ntmps36
    go_wp2
    go_ret
    exact ⟨rfl, bel_alloc (Below.refl _ _) _⟩
  · simp only [Option.map_some, Option.getD_some, Option.isSome_some] at h3
    go_enter Tryz.func36, Tryz.ntmps36
    go_wp2
    go_ret
    exact ⟨rfl, bel_alloc (Below.refl _ _) _⟩
end Go.Proofs.YtioeliocdbckbaaGreatDoor
namespace Go.Proofs.YtioeliocdbckbaaGreatDoor
open Go.RowKit
attribute [local go_sem] gives givesUpon

set_option maxHeartbeats 2000000 in
theorem cond_any (c : TCond) (w : World) : Calls Tryz.prog 66 #[.agg #[.int .i64 c.f, .int .i64 c.op, .int .i64 c.v]] w fun e w' => e = .returned (.int .i64 (condE c)) ∧ Below w.heap.size w w' := by
  obtain ⟨f, op, v⟩ := c
  dsimp only
  by_cases h1 : f < 0 ∨ 5 ≤ f
  · have he : condE ⟨f, op, v⟩ = 5 := by unfold condE; rw [if_pos h1]
    rw [he]; clear he
    rcases h1 with h1 | h1
    · go_enter Tryz.func66, Tryz.ntmps66
      go_wp2
      go_ret
      exact ⟨rfl, bel_alloc (Below.refl _ _) _⟩
    · have h0 : ¬ f < 0 := by omega
      go_enter Tryz.func66, Tryz.ntmps66
      go_wp2
      go_ret
      exact ⟨rfl, bel_alloc (Below.refl _ _) _⟩
  · by_cases h2 : op < 1 ∨ 4 < op
    · have he : condE ⟨f, op, v⟩ = 4 := by unfold condE; rw [if_neg h1, if_pos h2]
      rw [he]; clear he
      have g0 : ¬ f < 0 := by omega
      have g1 : ¬ 5 ≤ f := by omega
      clear h1
      rcases h2 with h2 | h2
      · go_enter Tryz.func66, Tryz.ntmps66
        go_wp2
        go_ret
        exact ⟨rfl, bel_alloc (Below.refl _ _) _⟩
      · have h0 : ¬ op < 1 := by omega
        go_enter Tryz.func66, Tryz.ntmps66
        go_wp2
        go_ret
        exact ⟨rfl, bel_alloc (Below.refl _ _) _⟩
    · have g0 : ¬ f < 0 := by omega
      have g1 : ¬ 5 ≤ f := by omega
      have g2 : ¬ op < 1 := by omega
      have g3 : ¬ 4 < op := by omega
      have hc : ∀ W, Cls (w.heap.size + 1) (w.alloc (.cells #[.int .i64 f, .int .i64 op, .int .i64 v] 84)) W → ∀ j : Nat, W.cell? ⟨w.heap.size, j, none⟩ = (#[Value.int .i64 f, .int .i64 op, .int .i64 v] : Array Value)[j]? := fun W hW j => box_cells hW.2 j
      have Hc := Lib.hid hc
      have He : Hid (condE ⟨f, op, v⟩ = if v < 0 ∨ mostOf f < v then 3 else 0) := by show condE _ = _; unfold condE; rw [if_neg h1, if_neg h2]
      clear hc h1 h2
      by_cases h3 : v < 0
      · have hv : decide (v < 0) = true := decide_eq_true h3
        rw [He.out, if_pos (.inl h3)]
        go_enter Tryz.func66, Tryz.ntmps66
        go_wp2_with fail
        refine wp_region_exact (w.heap.size + 1) (by simp) (by kernel_rfl) (by kernel_rfl) ?_
        repeat (refine monoE_step (fun K hK => ?_); apply Exists.intro; refine ⟨fun W hC R hR => ?_, ?_⟩; (have hcell := Hc.out W hC; go_simp; exact hR _ _ (Below.refl _ _) rfl); (go_simp; refine hK _ ?_; clear hK K))
        intro w2 hC2
        go_wp2
        go_ret
        exact ⟨rfl, bel_box hC2.2⟩
      · have hv : decide (v < 0) = false := decide_eq_false h3
        by_cases h4 : mostOf f < v
        · have hv4 : decide (mostOf f < v) = true := decide_eq_true h4
          rw [He.out, if_pos (.inr h4)]
          go_enter Tryz.func66, Tryz.ntmps66
          go_wp2_with fail
          refine wp_region_exact (w.heap.size + 1) (by simp) (by kernel_rfl) (by kernel_rfl) ?_
          repeat (refine monoE_step (fun K hK => ?_); apply Exists.intro; refine ⟨fun W hC R hR => ?_, ?_⟩; (first
            | (have hcell := Hc.out W hC; go_simp; refine hR _ _ (Below.refl _ _) rfl)
            | (go_simp; go_at_call 64; refine (most_any _ _).mono ?_; rintro e w1 ⟨rfl, rfl⟩; exact ⟨_, rfl, hR _ _ (Below.refl _ _) rfl⟩)); (go_simp; refine hK _ ?_; clear hK K))
          intro w2 hC2
          go_wp2
          go_ret
          exact ⟨rfl, bel_box hC2.2⟩
        · have hv4 : decide (mostOf f < v) = false := decide_eq_false h4
          rw [He.out, if_neg (by omega)]
          go_enter Tryz.func66, Tryz.ntmps66
          go_wp2_with fail
          refine wp_region_exact (w.heap.size + 1) (by simp) (by kernel_rfl) (by kernel_rfl) ?_
          repeat (refine monoE_step (fun K hK => ?_); apply Exists.intro; refine ⟨fun W hC R hR => ?_, ?_⟩; (first
            | (have hcell := Hc.out W hC; go_simp; refine hR _ _ (Below.refl _ _) rfl)
            | (go_simp; go_at_call 64; refine (most_any _ _).mono ?_; rintro e w1 ⟨rfl, rfl⟩; exact ⟨_, rfl, hR _ _ (Below.refl _ _) rfl⟩)); (go_simp; refine hK _ ?_; clear hK K))
          intro w2 hC2
          go_wp2
          go_ret
          exact ⟨rfl, bel_box hC2.2⟩
end Go.Proofs.YtioeliocdbckbaaGreatDoor
namespace Go.Proofs.YtioeliocdbckbaaGreatDoor
open Go.RowKit

set_option maxHeartbeats 4000000 in
theorem polcheck_any (v : Value) (p : TPol) (D : Nat → Prop) (w : World) (h : RdRules w D v p.rules) : Calls Tryz.prog 41 #[polV v p.dflt] w fun e w' => e = .returned (.int .i64 (polE p)) ∧ Below w.heap.size w w' := by
  obtain ⟨rs, d⟩ := p
  dsimp only at h ⊢
  obtain ⟨a, c, rfl, hlc, hcm, hat⟩ := Sl.form h
  have H := Lib.hid h
  clear h
  by_cases h1 : 120 < rs.length
  · have he : polE ⟨rs, d⟩ = 2 := by unfold polE; rw [if_pos h1]
    have hz : 120 < (rs.length : Int) := by omega
    rw [he]; clear he h1 hat H
    go_enter Tryz.func41, Tryz.ntmps41
    go_wp2
    go_ret
    exact ⟨rfl, bel_alloc (Below.refl _ _) _⟩
  · have hz : ¬ 120 < (rs.length : Int) := by omega
    by_cases h2 : d < 0 ∨ 4 < d
    · have he : polE ⟨rs, d⟩ = 3 := by unfold polE; rw [if_neg h1, if_pos h2]
      rw [he]; clear he hat H h1
      rcases h2 with h2 | h2
      · go_enter Tryz.func41, Tryz.ntmps41
        go_wp2
        go_ret
        exact ⟨rfl, bel_alloc (Below.refl _ _) _⟩
      · have h0 : ¬ d < 0 := by omega
        go_enter Tryz.func41, Tryz.ntmps41
        go_wp2
        go_ret
        exact ⟨rfl, bel_alloc (Below.refl _ _) _⟩
    · have g0 : ¬ d < 0 := by omega
      have g1 : ¬ 4 < d := by omega
      have He := Lib.hid (show polE ⟨rs, d⟩ = rulesGo rs by unfold polE; rw [if_neg h1, if_neg h2])
      clear h1 h2
      go_enter Tryz.func41, Tryz.ntmps41
      go_wp2_with fail
      go_loopw [23] (fun i wr => ∃ k : Nat, k ≤ rs.length ∧ i = .int .i64 k ∧ rulesGo rs = rulesGo (rs.drop k) ∧ Below w.heap.size w wr) (fun i _ => rs.length - (intOf i).toNat)
      case atStart => exact ⟨0, by omega, rfl, rfl, bel_alloc (Below.refl _ _) _⟩
      case round =>
        obtain ⟨k, hk, rfl, hgo, hbw⟩ := hrel
        have Hgo := Lib.hid hgo
        have hsz := hbw.size
        clear hgo
        by_cases hlt : k < rs.length
        · obtain ⟨b, o, rfl, hDb, hb⟩ := hat (by omega)
          obtain ⟨a', c', k0, k1, hr, hlc', hcm', hat'⟩ := RdRules.cells (RdRules.below H.out hbw) hlt
          have Hr := Lib.hid hr
          have bad : ∀ e : Int, ruleE rs[k] = e → e ≠ 0 → ∀ wz, Below w.heap.size w wz → Ending.returned (.int .i64 e) = .returned (.int .i64 (polE ⟨rs, d⟩)) ∧ Below w.heap.size w wz := fun e he h0 wz hz => by
            refine ⟨ret_int ?_, hz⟩
            rw [He.out, Hgo.out, rulesGo_drop rs k hlt, he, if_neg h0]
          have good : ruleE rs[k] = 0 → rulesGo rs = rulesGo (rs.drop (k + 1)) := fun he => by rw [Hgo.out, rulesGo_drop rs k hlt, if_pos he]
          have Hbad := Lib.hid bad
          have Hgood := Lib.hid good
          clear bad good hr
          generalize hX : rs[k] = X at *
          clear hX
          obtain ⟨cs, vd⟩ := X
          dsimp only at k0 k1 hlc' hat'
          have Hr' : Hid (RdConds wr D (.slice a' cs.length c') cs) := Hr
          clear Hr
          by_cases h3 : 10 < cs.length
          · have Hb := Lib.hid (Hbad.out 2 (by unfold ruleE; rw [if_pos h3]) (by decide))
            have hz3 : 10 < (cs.length : Int) := by omega
            clear Hbad Hgood hat' h3
            go_wp2
            go_ret
            exact Hb.out _ (bel_alloc hbw _)
          · have hz3 : ¬ 10 < (cs.length : Int) := by omega
            by_cases h4 : vd < 0 ∨ 4 < vd
            · have Hb := Lib.hid (Hbad.out 3 (by unfold ruleE; rw [if_neg h3, if_pos h4]) (by decide))
              clear Hbad Hgood hat' h3
              rcases h4 with h4 | h4
              · go_wp2
                go_ret
                exact Hb.out _ (bel_alloc hbw _)
              · have h40 : ¬ vd < 0 := by omega
                go_wp2
                go_ret
                exact Hb.out _ (bel_alloc hbw _)
            · have g3 : ¬ vd < 0 := by omega
              have g4 : ¬ 4 < vd := by omega
              have Hre := Lib.hid (show ruleE ⟨cs, vd⟩ = condsGo cs by unfold ruleE; rw [if_neg h3, if_neg h4])
              clear h3 h4
              go_wp2_with fail
              go_loopw [42] (fun i wi => ∃ j : Nat, j ≤ cs.length ∧ i = .int .i64 j ∧ condsGo cs = condsGo (cs.drop j) ∧ Below w.heap.size w wi ∧ Below wr.heap.size wr wi) (fun i _ => cs.length - (intOf i).toNat)
              case atStart => exact ⟨0, by omega, rfl, rfl, bel_alloc hbw _, bel_alloc (Below.refl _ _) _⟩
              case round =>
                obtain ⟨j, hj, rfl, hgo, hbi, hbi'⟩ := hrel
                have Hgi := Lib.hid hgo
                have hszi := hbi.size
                clear hgo
                by_cases hlj : j < cs.length
                · obtain ⟨b', o', rfl, hDb', hb'⟩ := hat' (by omega)
                  obtain ⟨c0, c1, c2⟩ := RdConds.cells (RdConds.below Hr'.out hbi') hlj
                  have Hd := Lib.hid (condsGo_drop cs j hlj)
                  go_wp2_with (go_at_call 66; refine (cond_any cs[j] _).mono ?_; rintro e w1 ⟨rfl, hb1⟩)
                  · rename_i ht
                    have ht' := bne_iff_ne.1 ht
                    go_ret
                    exact Hbad.out _ (by rw [Hre.out, Hgi.out, Hd.out, if_neg ht']) ht' _ (bel_alloc_call hbi hb1)
                  · rename_i ht
                    have ht' := bne_eq_false_iff_eq.1 ht
                    go_roundw
                    case rel => exact ⟨j + 1, by omega, by go_num, by rw [Hgi.out, Hd.out, if_pos ht'], bel_alloc_call hbi hb1, bel_alloc_call hbi' hb1⟩
                    case measure => simp [intOf]; omega
                · obtain rfl : j = cs.length := by omega
                  have Hg := Lib.hid (Hgood.out (by rw [Hre.out, Hgi.out, List.drop_length]; rfl))
                  go_wp2
                  go_roundw
                  case rel => exact ⟨k + 1, by omega, by go_num, Hg.out, hbi⟩
                  case measure => simp [intOf]; omega
        · obtain rfl : k = rs.length := by omega
          go_wp2
          go_ret
          exact ⟨ret_int (by rw [He.out, Hgo.out, List.drop_length]; rfl), hbw⟩
end Go.Proofs.YtioeliocdbckbaaGreatDoor
