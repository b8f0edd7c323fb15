/- A region that draws its order: one lexical walk serves every order, where each operation gives, in every world of a class, what its spec says (an exact value, or a predicate of value and world that the others' steps keep). No condition. -/
import Derived.WalkKit
import Derived.Lib.Hide
namespace Go.Proofs.YtmokmmpomgjemaaDoor
open Go.RowKit

/-- What is asked of one operation's outcome. -/
def givesUpon (P : Program) (R : Value → World → Prop) : Result Next → Prop
  | .ok (.value v) w' => R v w'
  | .ok .skip w' => R undef w'
  | .ok (.enter f args) w' => Calls P f args w' fun e w'' => ∃ v, e = .returned v ∧ R v w''
  | _ => False
def gives (P : Program) (o : Oper) (a : Act) (w : World) (R : Value → World → Prop) : Prop := givesUpon P R ((execOp a.eval o).run P w)

structure Spec where
  exact? : Option Value
  pred : Value → World → Prop
@[reducible] def ex (x : Value) : Spec := ⟨some x, fun v _ => v = x⟩
@[reducible] def pr (p : Value → World → Prop) : Spec := ⟨none, p⟩
def Spec.holds (s : Spec) (v : Value) (w : World) : Prop := match s.exact? with
  | some x => v = x
  | none => s.pred v w
def Spec.fact (s : Spec) (v : Value) (w : World) : Prop := match s.exact? with
  | some _ => True
  | none => s.pred v w
def depFacts (o : Oper) (fs : List (World → Prop)) (w : World) : Prop := ∀ k : Nat, k ∈ o.after.toList.map (fun e => e.on) → (fs.getD k (fun _ : World => True)) w
/-- One operation's part. -/
def monoOb (P : Program) (ops : Array Oper) (C : World → Prop) (T : World → World → Prop) (s : Spec) (o : Oper) (a : Act) (fs : List (World → Prop)) : Prop :=
  ∀ w, C w → depFacts o fs w → ∀ R : Value → World → Prop, (∀ v w', T w w' → s.holds v w' → R v w') →
    if Region.wanted o (yielded ops a.tmps) then gives P o a w R else R undef w
def monoWalk (P : Program) (ops : Array Oper) (C : World → Prop) (T : Nat → World → World → Prop) (Q : Act → World → Prop) :
    List Oper → List Spec → Nat → Act → List (World → Prop) → (World → Prop) → Prop
  | [], _, _, a, _, F => ∀ w : World, C w → F w → Q a w
  | _ :: _, [], _, _, _, _ => False
  | o :: l, s :: ss, i, a, fs, F => monoOb P ops C (T i) s o a fs ∧
      match s.exact? with
      | some x => monoWalk P ops C T Q l ss (i + 1) (a.put o.dst x) (fs ++ [fun _ : World => True]) F
      | none => ∀ v : Value, monoWalk P ops C T Q l ss (i + 1) (a.put o.dst v) (fs ++ [s.pred v]) (fun w : World => F w ∧ s.pred v w)

/-- The lexical act. -/
def lexAct (vals : Nat → Value) : List Oper → Nat → Act → Act
  | [], _, a => a
  | o :: l, i, a => lexAct vals l (i + 1) (a.put o.dst (vals i))
def okVals (vals : Nat → Value) : List Spec → Nat → Prop
  | [], _ => True
  | s :: ss, i => (∀ x, s.exact? = some x → vals i = x) ∧ okVals vals ss (i + 1)
def allFacts (vals : Nat → Value) : List Spec → Nat → World → Prop
  | [], _, _ => True
  | s :: ss, i, w => s.fact (vals i) w ∧ allFacts vals ss (i + 1) w
def factList (vals : Nat → Value) : List Spec → Nat → List (World → Prop)
  | [], _ => []
  | s :: ss, i => (s.fact (vals i)) :: factList vals ss (i + 1)

theorem mono_ext {P : Program} {ops : Array Oper} {C : World → Prop} {T : Nat → World → World → Prop} {Q : Act → World → Prop} (vals : Nat → Value) :
    ∀ (l : List Oper) (ss : List Spec) (i : Nat) (a : Act) (fs : List (World → Prop)) (F : World → Prop), okVals vals ss i → monoWalk P ops C T Q l ss i a fs F →
      (∀ j o s, l[j]? = some o → ss[j]? = some s → monoOb P ops C (T (i + j)) s o (lexAct vals (l.take j) i a) (fs ++ factList vals (ss.take j) i)) ∧
      (∀ w, C w → F w → allFacts vals (ss.take l.length) i w → Q (lexAct vals l i a) w) ∧ l.length ≤ ss.length := by
  intro l
  induction l with
  | nil => intro ss i a fs F _ h; exact ⟨fun j o s hj _ => by simp at hj, fun w hC hF _ => h w hC hF, by simp⟩
  | cons o l ih =>
    intro ss i a fs F hv h
    cases ss with
    | nil => exact h.elim
    | cons s ss =>
      obtain ⟨hx, hv'⟩ := hv
      obtain ⟨hob, hrest⟩ := h
      have key : ∃ F' : World → Prop, monoWalk P ops C T Q l ss (i + 1) (a.put o.dst (vals i)) (fs ++ [s.fact (vals i)]) F' ∧ ∀ w, F w → s.fact (vals i) w → F' w := by
        unfold Spec.fact
        cases he : s.exact? with
        | some x =>
          rw [he] at hrest
          rw [hx x he]
          exact ⟨F, hrest, fun w h _ => h⟩
        | none =>
          rw [he] at hrest
          exact ⟨_, hrest (vals i), fun w h h' => ⟨h, h'⟩⟩
      obtain ⟨F', hk, hF'⟩ := key
      obtain ⟨h1, h2, h3⟩ := ih ss (i + 1) _ _ F' hv' hk
      refine ⟨fun j o' s' hj hs => ?_, fun w hC hF hall => ?_, by simp; omega⟩
      · cases j with
        | zero =>
          simp only [List.getElem?_cons_zero, Option.some.injEq] at hj hs
          subst hj hs
          simpa [lexAct, factList] using hob
        | succ j =>
          have := h1 j o' s' (by simpa using hj) (by simpa using hs)
          simpa [lexAct, factList, List.append_assoc, Nat.add_comm, Nat.add_left_comm, Nat.add_assoc] using this
      · simp only [List.length_cons, List.take_succ_cons, allFacts] at hall
        exact h2 w hC (hF' w hF hall.1) hall.2

theorem lexAct_size (vals : Nat → Value) : ∀ (l : List Oper) (k : Nat) (a : Act), (lexAct vals l k a).tmps.size = a.tmps.size ∧ (lexAct vals l k a).defers = a.defers
  | [], _, _ => ⟨rfl, rfl⟩
  | o :: l, k, a => by
    have h := lexAct_size vals l (k + 1) (a.put o.dst (vals k))
    simp only [lexAct]
    rw [h.1, h.2]
    cases o.dst <;> simp [Act.put]

theorem put_get_other {a : Act} {dst : Option Tmp} {v : Value} {t : Nat} (h : dst ≠ some t) : (a.put dst v).tmps[t]? = a.tmps[t]? := by
  cases dst with
  | none => rfl
  | some d =>
    have hne : d ≠ t := fun e => h (by rw [e])
    simp [Act.put, Array.getElem?_setIfInBounds_ne hne]
theorem put_get_same {a : Act} {t : Nat} {v : Value} (h : t < a.tmps.size) : (a.put (some t) v).tmps[t]? = some v := by
  simp [Act.put, h]

theorem lexAct_other (vals : Nat → Value) {t : Nat} : ∀ (l : List Oper) (k : Nat) (a : Act), (∀ o ∈ l, o.dst ≠ some t) → (lexAct vals l k a).tmps[t]? = a.tmps[t]?
  | [], _, _, _ => rfl
  | o :: l, k, a, h => by
    simp only [lexAct]
    rw [lexAct_other vals l (k + 1) _ (fun o' ho => h o' (List.mem_cons_of_mem _ ho)), put_get_other (h o (List.mem_cons_self ..))]
theorem lexAct_same (vals : Nat → Value) {t : Nat} : ∀ (l : List Oper) (k : Nat) (a : Act) (j : Nat) (o : Oper), l[j]? = some o → o.dst = some t → (∀ (j' : Nat) (o' : Oper), l[j']? = some o' → j' ≠ j → o'.dst ≠ some t) → t < a.tmps.size →
    (lexAct vals l k a).tmps[t]? = some (vals (k + j))
  | [], _, _, _, _, hj, _, _, _ => by simp at hj
  | o :: l, k, a, j, o', hj, hd, hu, hlt => by
    have hsz : (a.put o.dst (vals k)).tmps.size = a.tmps.size := by cases o.dst <;> simp [Act.put]
    simp only [lexAct]
    cases j with
    | zero =>
      simp only [List.getElem?_cons_zero, Option.some.injEq] at hj
      subst hj
      rw [lexAct_other vals l (k + 1) _ (fun o' ho => ?_), hd, put_get_same hlt]
      · rfl
      · obtain ⟨i, hi⟩ := List.getElem?_of_mem ho
        exact hu (i + 1) o' (by simpa using hi) (by omega)
    | succ j =>
      rw [lexAct_same vals l (k + 1) _ j o' (by simpa using hj) hd (fun j' o'' h1 h2 => hu (j' + 1) o'' (by simpa using h1) (by omega)) (by rw [hsz]; exact hlt)]
      congr 2; omega

/-- The Bool over a region: temporaries are written once, by an operation that whoever looks at it waits for. -/
def monoB (l : List Oper) (size : Nat) : Bool :=
  (l.zipIdx.all fun (o, i) =>
    (match o.op with | .select .. => false | _ => true) &&
    o.after.toList.all (fun e => decide (e.on < i) && Region.binds .any e) &&
    (o.looksAt l.toArray).all (fun s => l.zipIdx.all fun (o', j) => o'.dst != some s || (decide (j < i) && (o.after.toList.map (·.on)).contains j)) &&
    (match o.dst with | some d => decide (d < size) && l.zipIdx.all (fun (o', j) => j == i || o'.dst != some d) | none => true))

theorem monoB_spec {l : List Oper} {size : Nat} (h : monoB l size = true) {i : Nat} {o : Oper} (hi : l[i]? = some o) :
    (∀ cs b, o.op ≠ .select cs b) ∧ (∀ e ∈ o.after, e.on < i ∧ Region.binds .any e = true) ∧
    (∀ s ∈ o.looksAt l.toArray, ∀ (j : Nat) (o' : Oper), l[j]? = some o' → o'.dst = some s → j < i ∧ ∃ e ∈ o.after, e.on = j) ∧
    (∀ d, o.dst = some d → d < size ∧ ∀ (j : Nat) (o' : Oper), l[j]? = some o' → j ≠ i → o'.dst ≠ some d) := by
  have hz : ∀ {j : Nat} {o' : Oper}, l[j]? = some o' → (o', j) ∈ l.zipIdx := fun {j o'} hj => by
    rw [List.mem_zipIdx_iff_getElem?]; exact hj
  have h1 := List.all_eq_true.1 h _ (hz hi)
  simp only [Bool.and_eq_true] at h1
  obtain ⟨⟨⟨ha, hb⟩, hc⟩, hd⟩ := h1
  refine ⟨fun cs b e => ?_, fun e he => ?_, fun s hs j o' hj hds => ?_, fun d hd' => ?_⟩
  · rw [e] at ha; simp at ha
  · have := List.all_eq_true.1 hb e (by simpa using he)
    simpa using this
  · have h2 := List.all_eq_true.1 (List.all_eq_true.1 hc s hs) _ (hz hj)
    simp [hds] at h2
    exact ⟨h2.1, h2.2⟩
  · simp only [hd', Bool.and_eq_true, decide_eq_true_eq] at hd
    refine ⟨hd.1, fun j o' hj hne e => ?_⟩
    have := List.all_eq_true.1 hd.2 _ (hz hj)
    simp [hne, e] at this

/-- What holds when the operations that are listed have been done. -/
structure MonoInv (l : List Oper) (ss : List Spec) (C : World → Prop) (a : Act) (vf : Nat → Value) (listed : Array Bool) (a' : Act) (w' : World) : Prop where
  cls : C w'
  lsize : listed.size = l.length
  defers : a'.defers = a.defers
  size : a'.tmps.size = a.tmps.size
  done : ∀ (j : Nat) (o : Oper) (s : Spec), l[j]? = some o → ss[j]? = some s → listed[j]? = some true → s.holds (vf j) w' ∧ ∀ d, o.dst = some d → a'.tmps[d]? = some (vf j)
  rest : ∀ t, (∀ (j : Nat) (o : Oper), l[j]? = some o → listed[j]? = some true → o.dst ≠ some t) → a'.tmps[t]? = a.tmps[t]?

def undone (listed : Array Bool) (n : Nat) : List Nat := (List.range n).filter fun i => listed[i]? != some true
theorem undone_set {listed : Array Bool} {n i : Nat} (hi : i < n) (hn : n ≤ listed.size) (h : listed[i]? ≠ some true) : (undone (listed.setIfInBounds i true) n).length < (undone listed n).length := by
  have e : undone (listed.setIfInBounds i true) n = (undone listed n).filter (fun j => j != i) := by
    unfold undone
    rw [List.filter_filter]
    apply List.filter_congr
    intro j hj
    have hj' := List.mem_range.1 hj
    by_cases e : j = i
    · subst e
      rw [Array.getElem?_setIfInBounds_self_of_lt (by omega)]
      simp
    · rw [Array.getElem?_setIfInBounds_ne (Ne.symm e)]
      simp [e]
  rw [e, List.length_filter_lt_length_iff_exists]
  exact ⟨i, by simp [undone, hi, h], by simp⟩

def fillVals (ss : List Spec) (listed : Array Bool) (vf : Nat → Value) (j : Nat) : Value :=
  if listed[j]? = some true then vf j else match ss[j]? with
    | some s => s.exact?.getD undef
    | none => undef

theorem okVals_of {vals : Nat → Value} : ∀ (ss : List Spec) (i : Nat), (∀ (j : Nat) (s : Spec) (x : Value), ss[j]? = some s → s.exact? = some x → vals (i + j) = x) → okVals vals ss i
  | [], _, _ => trivial
  | s :: ss, i, h => ⟨fun x hx => h 0 s x rfl hx, okVals_of ss (i + 1) (fun j s' x hj hx => by
      have := h (j + 1) s' x (by simpa using hj) hx
      rwa [show i + 1 + j = i + (j + 1) by omega])⟩
theorem allFacts_of {vals : Nat → Value} {w : World} : ∀ (ss : List Spec) (i : Nat), (∀ (j : Nat) (s : Spec), ss[j]? = some s → s.fact (vals (i + j)) w) → allFacts vals ss i w
  | [], _, _ => trivial
  | s :: ss, i, h => ⟨h 0 s rfl, allFacts_of ss (i + 1) (fun j s' hj => by
      have := h (j + 1) s' (by simpa using hj)
      rwa [show i + 1 + j = i + (j + 1) by omega])⟩
theorem factList_get {vals : Nat → Value} : ∀ (ss : List Spec) (i k : Nat) (s : Spec), ss[k]? = some s → (factList vals ss i)[k]? = some (s.fact (vals (i + k)))
  | [], _, _, _, h => by simp at h
  | s :: ss, i, 0, s', h => by simp at h; subst h; rfl
  | s :: ss, i, k + 1, s', h => by
    have := factList_get (vals := vals) ss (i + 1) k s' (by simpa using h)
    simp only [factList, List.getElem?_cons_succ, this]
    congr 3; omega

theorem Spec.fact_of_holds {s : Spec} {v : Value} {w : World} (h : s.holds v w) : s.fact v w := by
  unfold Spec.holds at h; unfold Spec.fact
  split <;> simp_all

theorem wp_of_gives {P : Program} {o : Oper} {a : Act} {w : World} {K : Act → World → Prop} {Q : Exit → Act → World → Prop} {R : Value → World → Prop} (h : gives P o a w R) (hk : ∀ v w', R v w' → K (a.put o.dst v) w') : o.wp P a w K Q := by
  unfold gives at h
  unfold Oper.wp
  generalize (execOp a.eval o).run P w = r at *
  cases r with
  | halt x w' => simp [givesUpon] at h
  | ok n w' =>
    cases n <;> simp only [givesUpon] at h <;> simp only [Oper.upon]
    case value u => exact hk _ _ h
    case skip => exact hk _ _ h
    case enter f args =>
      exact h.mono fun e w'' ⟨v, he, hr⟩ => by subst he; exact hk _ _ hr

section
variable {P : Program} {l : List Oper} {C : World → Prop} {T : Nat → World → World → Prop} {Q : Exit → Act → World → Prop} {a : Act} {ss : List Spec}

theorem wpAny_mono (hB : monoB l a.tmps.size = true) (hCT : ∀ i w w', C w → T i w w' → C w')
    (hst : ∀ (i k : Nat) (s : Spec), i ≠ k → ss[k]? = some s → ∀ v w w', C w → C w' → T i w w' → s.fact v w → s.fact v w')
    (h : monoWalk P l.toArray C T (Q .normal) l ss 0 a [] (fun _ => True)) :
    ∀ (fuel : Nat) (listed : Array Bool) (vf : Nat → Value) (a' : Act) (w' : World), (undone listed l.length).length ≤ fuel → MonoInv l ss C a vf listed a' w' → wpAny P .any l.toArray Q fuel listed a' w' := by
  have hS := fun {i : Nat} {o : Oper} (hi : l[i]? = some o) => monoB_spec hB hi
  -- the values as far as they are there
  have hok : ∀ (listed : Array Bool) (vf : Nat → Value) (a' : Act) (w' : World), MonoInv l ss C a vf listed a' w' → okVals (fillVals ss listed vf) ss 0 := by
    intro listed vf a' w' hI
    refine okVals_of ss 0 fun j s x hj hx => ?_
    rw [Nat.zero_add]
    unfold fillVals
    split
    · rename_i hl
      have hlt : j < l.length := by
        have := (Array.getElem?_eq_some_iff.1 hl).1
        rw [hI.lsize] at this; exact this
      have := (hI.done j l[j] s (List.getElem?_eq_getElem hlt) hj hl).1
      unfold Spec.holds at this
      rw [hx] at this
      exact this
    · rw [hj]; simp [hx]
  have hfill : ∀ (listed : Array Bool) (vf : Nat → Value) (j : Nat), listed[j]? = some true → fillVals ss listed vf j = vf j := fun listed vf j hl => by unfold fillVals; rw [if_pos hl]
  have fin : ∀ (listed : Array Bool) (vf : Nat → Value) (a' : Act) (w' : World), (∀ j, j < l.length → listed[j]? = some true) → MonoInv l ss C a vf listed a' w' → Q .normal a' w' := by
    intro listed vf a' w' hall hI
    obtain ⟨_, h2, h3⟩ := mono_ext (fillVals ss listed vf) l ss 0 a [] _ (hok listed vf a' w' hI) h
    have hq := h2 w' hI.cls trivial (allFacts_of _ 0 fun j s hj => by
      rw [Nat.zero_add]
      have hjl : j < l.length := by
        have := (List.getElem?_eq_some_iff.1 hj).1
        simp at this; omega
      have hj' : ss[j]? = some s := by rw [List.getElem?_take_of_lt hjl] at hj; exact hj
      rw [hfill _ _ _ (hall j hjl)]
      exact Spec.fact_of_holds (hI.done j l[j] s (List.getElem?_eq_getElem hjl) hj' (hall j hjl)).1)
    have ea : a' = lexAct (fillVals ss listed vf) l 0 a := by
      obtain ⟨hz, hd⟩ := lexAct_size (fillVals ss listed vf) l 0 a
      have ht : a'.tmps = (lexAct (fillVals ss listed vf) l 0 a).tmps := by
        apply Array.ext_getElem?
        intro t
        by_cases hex : ∃ (j : Nat) (o : Oper), l[j]? = some o ∧ o.dst = some t
        · obtain ⟨j, o, hj, hdt⟩ := hex
          have hjl := (List.getElem?_eq_some_iff.1 hj).1
          obtain ⟨hlt, huniq⟩ := (hS hj).2.2.2 t hdt
          rw [lexAct_same _ l 0 a j o hj hdt huniq hlt, Nat.zero_add, hfill _ _ _ (hall j hjl)]
          have hjs : ss[j]? = some ss[j] := List.getElem?_eq_getElem (by omega)
          exact (hI.done j o _ hj hjs (hall j hjl)).2 t hdt
        · have hn : ∀ (j : Nat) (o : Oper), l[j]? = some o → o.dst ≠ some t := fun j o hj e => hex ⟨j, o, hj, e⟩
          rw [lexAct_other _ l 0 a (fun o ho => by obtain ⟨j, hj⟩ := List.getElem?_of_mem ho; exact hn j o hj)]
          exact hI.rest t (fun j o hj _ => hn j o hj)
      cases a'; cases hx : lexAct (fillVals ss listed vf) l 0 a
      rw [hx] at ht hd
      have := hI.defers
      simp_all
    rw [ea]; exact hq
  have allIf : ∀ (listed : Array Bool), listed.size = l.length → Region.ready .any l.toArray listed = [] → ∀ j, j < l.length → listed[j]? = some true := by
    intro listed hsz hr j
    induction j using Nat.strongRecOn with
    | ind j ih =>
      intro hj
      have hsome : listed[j]? = some listed[j] := Array.getElem?_eq_getElem (by omega)
      cases hb : listed[j] with
      | true => rw [hsome, hb]
      | false =>
        have : j ∈ Region.ready .any l.toArray listed := by
          rw [mem_ready]
          refine ⟨by simp [Array.getD_eq_getD_getElem?, hsome, hb], l[j], by simp [hj], fun e he _ => ?_⟩
          have h1 := ((hS (List.getElem?_eq_getElem hj)).2.1 e he).1
          have h2 := ih e.on h1 (by omega)
          simp [Array.getD_eq_getD_getElem?, h2]
        rw [hr] at this
        cases this
  intro fuel
  induction fuel with
  | zero =>
    intro listed vf a' w' hf hI
    have hall : ∀ j, j < l.length → listed[j]? = some true := by
      intro j hj
      have h0 : undone listed l.length = [] := List.eq_nil_of_length_eq_zero (by omega)
      unfold undone at h0
      rw [List.filter_eq_nil_iff] at h0
      simpa using h0 j (List.mem_range.2 hj)
    refine ⟨?_, fin _ _ _ _ hall hI⟩
    rw [List.eq_nil_iff_forall_not_mem]
    intro j hj
    obtain ⟨h0, o, ho, _⟩ := mem_ready.1 hj
    have hj' : j < l.length := by
      have := (Array.getElem?_eq_some_iff.1 ho).1
      simpa using this
    simp [Array.getD_eq_getD_getElem?, hall j hj'] at h0
  | succ fuel ih =>
    intro listed vf a' w' hf hI
    refine ⟨fun hr => fin _ _ _ _ (allIf listed hI.lsize hr) hI, fun i hi => ?_⟩
    obtain ⟨h0, o, ho, hdep⟩ := mem_ready.1 hi
    have hil : l[i]? = some o := by simpa using ho
    have hilt : i < l.length := (List.getElem?_eq_some_iff.1 hil).1
    have hnl : listed[i]? ≠ some true := fun e => by simp [Array.getD_eq_getD_getElem?, e] at h0
    obtain ⟨hsel, hafter, hlooks, hdst⟩ := hS hil
    have hdone : ∀ e ∈ o.after, listed[e.on]? = some true := fun e he => by
      have := hdep e he (hafter e he).2
      rw [Array.getD_eq_getD_getElem?] at this
      cases hx : listed[e.on]? with
      | none => simp [hx] at this
      | some b => simp [hx] at this; rw [this]
    obtain ⟨h1, _, h3⟩ := mono_ext (fillVals ss listed vf) l ss 0 a [] _ (hok listed vf a' w' hI) h
    have hsi : ss[i]? = some ss[i] := List.getElem?_eq_getElem (by omega)
    have hob := h1 i o ss[i] hil hsi
    rw [Nat.zero_add, List.nil_append] at hob
    -- the lexical act looks alike to this operation
    have hsame : ∀ t ∈ o.looksAt l.toArray, (lexAct (fillVals ss listed vf) (l.take i) 0 a).tmps[t]? = a'.tmps[t]? := by
      intro t ht
      by_cases hex : ∃ (j : Nat) (o' : Oper), l[j]? = some o' ∧ o'.dst = some t
      · obtain ⟨j, o', hj, hdt⟩ := hex
        obtain ⟨hji, e, he, hej⟩ := hlooks t ht j o' hj hdt
        have hlj : listed[j]? = some true := hej ▸ hdone e he
        obtain ⟨hlt, huniq⟩ := (hS hj).2.2.2 t hdt
        have hjs : ss[j]? = some ss[j] := List.getElem?_eq_getElem (by omega)
        rw [lexAct_same _ (l.take i) 0 a j o' (by rw [List.getElem?_take_of_lt hji]; exact hj) hdt (fun j' o'' hj' hne => huniq j' o'' (by
          have hlt' : j' < i := by
            have := (List.getElem?_eq_some_iff.1 hj').1
            simp at this; omega
          rw [List.getElem?_take_of_lt hlt'] at hj'; exact hj') hne) hlt, Nat.zero_add, hfill _ _ _ hlj]
        exact ((hI.done j o' _ hj hjs hlj).2 t hdt).symm
      · have hn : ∀ (j : Nat) (o : Oper), l[j]? = some o → o.dst ≠ some t := fun j o hj e => hex ⟨j, o, hj, e⟩
        rw [lexAct_other _ (l.take i) 0 a (fun o' ho' => by obtain ⟨j, hj⟩ := List.getElem?_of_mem (List.mem_of_mem_take ho'); exact hn j o' hj)]
        exact (hI.rest t (fun j o hj _ => hn j o hj)).symm
    have hexec : execOp (lexAct (fillVals ss listed vf) (l.take i) 0 a).eval o = execOp a'.eval o := by
      refine execOp_congr o hsel fun x hx => ?_
      cases x with
      | tmp t =>
        have := hsame t (List.mem_append_left _ (List.mem_filterMap.2 ⟨.tmp t, by simpa using hx, rfl⟩))
        simp [Act.eval, Array.getD_eq_getD_getElem?, this]
      | _ => rfl
    have hwant : Region.wanted o (yielded l.toArray (lexAct (fillVals ss listed vf) (l.take i) 0 a).tmps) = Region.wanted o (yielded l.toArray a'.tmps) := by
      unfold Region.wanted
      cases hg : o.guard with
      | none => rfl
      | some gw =>
        obtain ⟨g, want⟩ := gw
        have hy : yielded l.toArray (lexAct (fillVals ss listed vf) (l.take i) 0 a).tmps g = yielded l.toArray a'.tmps g := by
          unfold yielded
          cases ht : (l.toArray[g]?).bind (·.dst) with
          | none => rfl
          | some t =>
            have := hsame t (by simp only [Oper.looksAt, hg, ht]; simp)
            simp only [Option.bind_some, this]
        simp only [hy]
    have hfacts : depFacts o ([] ++ factList (fillVals ss listed vf) (ss.take i) 0) w' := by
      intro k hk
      rw [List.nil_append]
      obtain ⟨e, he, rfl⟩ := List.mem_map.1 hk
      have he' : e ∈ o.after := by simpa using he
      have hlt := (hafter e he').1
      have hlk := hdone e he'
      have hks : ss[e.on]? = some ss[e.on] := List.getElem?_eq_getElem (by omega)
      rw [List.getD_eq_getElem?_getD, factList_get (ss.take i) 0 e.on ss[e.on] (by rw [List.getElem?_take_of_lt hlt]; exact hks), Nat.zero_add, hfill _ _ _ hlk]
      exact Spec.fact_of_holds (hI.done e.on l[e.on] _ (List.getElem?_eq_getElem (by omega)) hks hlk).1
    rw [List.nil_append] at hfacts
    have hres := hob w' hI.cls hfacts (fun v w'' => T i w' w'' ∧ ss[i].holds v w'') (fun v w'' h1 h2 => ⟨h1, h2⟩)
    rw [hwant] at hres
    have next : ∀ v w'', T i w' w'' → ss[i].holds v w'' → wpAny P .any l.toArray Q fuel (listed.setIfInBounds i true) (a'.put o.dst v) w'' := by
      intro v w'' hT hv
      have hu := undone_set hilt (by rw [hI.lsize]; exact Nat.le_refl _) hnl
      refine ih _ (fun j => if j = i then v else vf j) _ _ (by omega) ⟨hCT i _ _ hI.cls hT, by simp [hI.lsize], ?_, ?_, ?_, ?_⟩
      · rw [← hI.defers]; cases o.dst <;> rfl
      · rw [← hI.size]; cases o.dst <;> simp [Act.put]
      · intro j o' s hj hjs hlj
        by_cases e : j = i
        · subst e
          rw [hil] at hj
          obtain rfl : o = o' := by simpa using hj
          rw [hsi] at hjs
          obtain rfl : ss[j] = s := by simpa using hjs
          rw [if_pos rfl]
          refine ⟨hv, fun d hd => ?_⟩
          rw [hd, put_get_same (by rw [hI.size]; exact (hdst d hd).1)]
        · rw [Array.getElem?_setIfInBounds_ne (Ne.symm e)] at hlj
          rw [if_neg e]
          obtain ⟨g1, g2⟩ := hI.done j o' s hj hjs hlj
          refine ⟨?_, fun d hd => ?_⟩
          · have hf := hst i j s (Ne.symm e) hjs (vf j) w' w'' hI.cls (hCT i _ _ hI.cls hT) hT (Spec.fact_of_holds g1)
            unfold Spec.holds at g1 ⊢
            unfold Spec.fact at hf
            split <;> simp_all
          · rw [put_get_other (fun e' => (hdst d e').2 j o' hj e hd)]
            exact g2 d hd
      · intro t ht
        have hti : o.dst ≠ some t := ht i o hil (by rw [Array.getElem?_setIfInBounds_self_of_lt (by rw [hI.lsize]; exact hilt)])
        rw [put_get_other hti]
        refine hI.rest t fun j o' hj hlj => ?_
        by_cases e : j = i
        · subst e; exact absurd hlj hnl
        · exact ht j o' hj (by rw [Array.getElem?_setIfInBounds_ne (Ne.symm e)]; exact hlj)
    unfold wpOp
    rw [ho]
    by_cases hw : Region.wanted o (yielded l.toArray a'.tmps) = true
    · simp only [hw, if_true] at hres ⊢
      refine .inl (wp_of_gives (R := fun v w'' => T i w' w'' ∧ ss[i].holds v w'') ?_ fun v w'' ⟨h1, h2⟩ => next v w'' h1 h2)
      unfold gives at hres ⊢
      rw [← hexec]; exact hres
    · simp only [hw] at hres ⊢
      exact next _ _ hres.1 hres.2

/-- ONE LEXICAL WALK SERVES EVERY ORDER: each operation, in whatever world of the class, gives what its spec says. -/
theorem wp_region_mono {id : Nat} {w : World} (ss : List Spec) (C : World → Prop) (T : Nat → World → World → Prop) (hm : P.follows .mixedOrders = true) (hB : monoB l a.tmps.size = true)
    (hCT : ∀ i w w', C w → T i w w' → C w')
    (hst : ∀ (i k : Nat) (s : Spec), i ≠ k → ss[k]? = some s → ∀ v w w', C w → C w' → T i w w' → s.fact v w → s.fact v w') (hC : C w.drew)
    (h : monoWalk P l.toArray C T (Q .normal) l ss 0 a [] (fun _ => True)) : (Code.region id l.toArray true).wp P Q a w := by
  refine wp_region_any hm (wpAny_mono hB hCT hst h _ _ (fun _ => undef) _ _ ?_ ⟨hC, by simp, rfl, rfl, ?_, fun _ _ => rfl⟩)
  · have := List.length_filter_le (fun i => (Array.replicate l.toArray.size false)[i]? != some true) (List.range l.length)
    simpa [undone] using this
  · intro j o s hj _ hl
    rw [Array.getElem?_replicate] at hl
    split at hl <;> simp at hl
end

/-- The class of a region's worlds: below B all is as it was when the region began. -/
def Cls (B : Nat) (W0 W : World) : Prop := B ≤ W.heap.size ∧ Below B W0 W
def TB (_ : Nat) (w w' : World) : Prop := Below w.heap.size w w'
theorem Cls.refl {B : Nat} {W0 : World} (hB : B ≤ W0.heap.size) : Cls B W0 W0 := ⟨hB, Below.refl _ _⟩
theorem Cls.step {B : Nat} {W0 w w' : World} (h : Cls B W0 w) (h' : Below w.heap.size w w') : Cls B W0 w' := ⟨Nat.le_trans h.1 h'.size, h.2.trans (h'.mono h.1)⟩
def stableB (s : Spec) : Prop := ∀ v w w', Below w.heap.size w w' → s.fact v w → s.fact v w'
theorem stable_ex (x : Value) : stableB (ex x) := fun _ _ _ _ _ => trivial
theorem wp_region_below {P : Program} {l : List Oper} {Q : Exit → Act → World → Prop} {a : Act} {id : Nat} {w : World} (ss : List Spec) (B : Nat) (hBw : B ≤ w.heap.size) (hm : P.follows .mixedOrders = true) (hB : monoB l a.tmps.size = true)
    (hst : ∀ s ∈ ss, stableB s) (h : monoWalk P l.toArray (Cls B w) TB (Q .normal) l ss 0 a [] (fun _ => True)) : (Code.region id l.toArray true).wp P Q a w :=
  wp_region_mono ss (Cls B w) TB hm hB (fun _ _ _ hC hT => hC.step hT) (fun _ _ s _ hk v w1 w2 _ _ hT hf => hst s (List.mem_of_getElem? hk) v w1 w2 hT hf) ⟨hBw, (Below.refl _ _).drew⟩ h

/-- Exact values alone: each is found as its operation is walked. -/
def monoE (P : Program) (ops : Array Oper) (C : World → Prop) (T : Nat → World → World → Prop) (Q : Act → World → Prop) : List Oper → Nat → Act → Prop
  | [], _, a => ∀ w : World, C w → Q a w
  | o :: l, i, a => ∃ x : Value, (∀ w : World, C w → ∀ R : Value → World → Prop, (∀ (v : Value) (w' : World), T i w w' → v = x → R v w') → if Region.wanted o (yielded ops a.tmps) then gives P o a w R else R undef w) ∧
      monoE P ops C T Q l (i + 1) (a.put o.dst x)
theorem monoE_step {P : Program} {ops : Array Oper} {C : World → Prop} {T : Nat → World → World → Prop} {Q : Act → World → Prop} {o : Oper} {l : List Oper} {i : Nat} {a : Act}
    (h : ∀ K : Act → Prop, (∀ a, monoE P ops C T Q l (i + 1) a → K a) → ∃ x : Value, (∀ w : World, C w → ∀ R : Value → World → Prop, (∀ (v : Value) (w' : World), T i w w' → v = x → R v w') → if Region.wanted o (yielded ops a.tmps) then gives P o a w R else R undef w) ∧ K (a.put o.dst x)) :
    monoE P ops C T Q (o :: l) i a := h _ (fun _ h => h)
theorem monoE_list {P : Program} {ops : Array Oper} {C : World → Prop} {T : Nat → World → World → Prop} {Q : Act → World → Prop} : ∀ (l : List Oper) (i : Nat) (a : Act) (fs : List (World → Prop)),
    monoE P ops C T Q l i a → ∃ xs : List Value, monoWalk P ops C T Q l (xs.map ex) i a fs (fun _ => True)
  | [], _, _, _, h => ⟨[], fun w hC _ => h w hC⟩
  | o :: l, i, a, fs, ⟨x, hob, hrest⟩ => by
    obtain ⟨xs, hx⟩ := monoE_list l (i + 1) _ (fs ++ [fun _ : World => True]) hrest
    exact ⟨x :: xs, fun w hC _ R hR => hob w hC R hR, hx⟩
theorem wp_region_exact {P : Program} {l : List Oper} {Q : Exit → Act → World → Prop} {a : Act} {id : Nat} {w : World} (B : Nat) (hBw : B ≤ w.heap.size) (hm : P.follows .mixedOrders = true) (hB : monoB l a.tmps.size = true)
    (h : monoE P l.toArray (Cls B w) TB (Q .normal) l 0 a) : (Code.region id l.toArray true).wp P Q a w := by
  obtain ⟨xs, hx⟩ := monoE_list l 0 a [] h
  refine wp_region_below (xs.map ex) B hBw hm hB (fun s hs => ?_) hx
  obtain ⟨x, _, rfl⟩ := List.mem_map.1 hs
  exact stable_ex x
end Go.Proofs.YtmokmmpomgjemaaDoor
