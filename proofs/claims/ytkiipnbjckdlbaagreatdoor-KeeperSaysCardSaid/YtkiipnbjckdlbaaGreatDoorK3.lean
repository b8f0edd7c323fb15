/- Texts laid one behind the other: Done, Prune, App, Rel, Init, Chain. No condition beyond theirs. -/
import Derived.Test.YtkiipnbjckdlbaaGreatDoorK1
import Derived.Deep.AppendLies
import Derived.Test.YtkiipnbjckdlbaaGreatDoorK2
namespace Go.Proofs.YtkiipnbjckdlbaaGreatDoor
open Go.RowKit

/-- all that operation k waits for, at whatever distance. -/
def befores : List Oper → List (List Nat) → List (List Nat)
  | [], acc => acc
  | o :: l, acc => befores l (acc ++ [o.after.toList.flatMap fun e => e.on :: acc.getD e.on []])
def updDone (done : Nat → Bool) (i : Nat) : Nat → Bool := fun k => if k = i then true else done k
def doneOb (P : Program) (ops : Array Oper) (Inv : (Nat → Bool) → World → Prop) (T : World → World → Prop) (s : Spec) (i : Nat) (bs : List (List Nat)) (o : Oper) (a : Act) (fs : List (World → Prop)) : Prop :=
  ∀ (done : Nat → Bool) (w : World), Inv done w → done i = false → (∀ k ∈ o.after.toList.map (fun e => e.on), done k = true) → (∀ k : Nat, i ∈ bs.getD k [] → done k = false) → depFacts o fs w → ∀ R : Value → World → Prop, (∀ (v : Value) (w' : World), Inv (updDone done i) w' → T w w' → s.holds v w' → R v w') →
    if Region.wanted o (yielded ops a.tmps) then gives P o a w R else R undef w
def doneWalk (P : Program) (ops : Array Oper) (Inv : (Nat → Bool) → World → Prop) (T : Nat → World → World → Prop) (bs : List (List Nat)) (Q : Act → World → Prop) (n : Nat) :
    List Oper → List Spec → Nat → Act → List (World → Prop) → (World → Prop) → Prop
  | [], _, _, a, _, F => ∀ (done : Nat → Bool) (w : World), (∀ k, k < n → done k = true) → Inv done w → F w → Q a w
  | _ :: _, [], _, _, _, _ => False
  | o :: l, s :: ss, i, a, fs, F => doneOb P ops Inv (T i) s i bs o a fs ∧
      match s.exact? with
      | some x => doneWalk P ops Inv T bs Q n l ss (i + 1) (a.put o.dst x) (fs ++ [fun _ : World => True]) F
      | none => ∀ v : Value, doneWalk P ops Inv T bs Q n l ss (i + 1) (a.put o.dst v) (fs ++ [s.pred v]) (fun w : World => F w ∧ s.pred v w)

theorem done_ext {P : Program} {ops : Array Oper} {Inv : (Nat → Bool) → World → Prop} {T : Nat → World → World → Prop} {bs : List (List Nat)} {n : Nat} {Q : Act → World → Prop} (vals : Nat → Value) :
    ∀ (l : List Oper) (ss : List Spec) (i : Nat) (a : Act) (fs : List (World → Prop)) (F : World → Prop), okVals vals ss i → doneWalk P ops Inv T bs Q n l ss i a fs F →
      (∀ j o s, l[j]? = some o → ss[j]? = some s → doneOb P ops Inv (T (i + j)) s (i + j) bs o (lexAct vals (l.take j) i a) (fs ++ factList vals (ss.take j) i)) ∧
      (∀ (done : Nat → Bool) (w : World), (∀ k, k < n → done k = true) → Inv done w → F w → allFacts vals (ss.take l.length) i w → Q (lexAct vals l i a) w) ∧ l.length ≤ ss.length := by
  intro l
  induction l with
  | nil => intro ss i a fs F _ h; exact ⟨fun j o s hj _ => by simp at hj, fun done w hd hC hF _ => h done w hd hC hF, by simp⟩
  | cons o l ih =>
    intro ss i a fs F hv h
    cases ss with
    | nil => exact h.elim
    | cons s ss =>
      obtain ⟨hx, hv'⟩ := hv
      obtain ⟨hob, hrest⟩ := h
      have key : ∃ F' : World → Prop, doneWalk P ops Inv T bs Q n l ss (i + 1) (a.put o.dst (vals i)) (fs ++ [s.fact (vals i)]) F' ∧ ∀ w, F w → s.fact (vals i) w → F' w := by
        unfold Spec.fact
        cases he : s.exact? with
        | some x =>
          rw [he] at hrest
          rw [hx x he]
          exact ⟨F, hrest, fun w h _ => h⟩
        | none =>
          rw [he] at hrest
          exact ⟨_, hrest (vals i), fun w h h' => ⟨h, h'⟩⟩
      obtain ⟨F', hk, hF'⟩ := key
      obtain ⟨h1, h2, h3⟩ := ih ss (i + 1) _ _ F' hv' hk
      refine ⟨fun j o' s' hj hs => ?_, fun done w hd hC hF hall => ?_, by simp; omega⟩
      · cases j with
        | zero =>
          simp only [List.getElem?_cons_zero, Option.some.injEq] at hj hs
          subst hj hs
          simpa [lexAct, factList] using hob
        | succ j =>
          have := h1 j o' s' (by simpa using hj) (by simpa using hs)
          simpa [lexAct, factList, List.append_assoc, Nat.add_comm, Nat.add_left_comm, Nat.add_assoc] using this
      · simp only [List.length_cons, List.take_succ_cons, allFacts] at hall
        exact h2 done w hd hC (hF' w hF hall.1) hall.2

/-- What holds when the operations that are listed have been done. -/
structure DoneInv (l : List Oper) (ss : List Spec) (Inv : (Nat → Bool) → World → Prop) (a : Act) (vf : Nat → Value) (listed : Array Bool) (a' : Act) (w' : World) : Prop where
  cls : Inv (fun k => listed[k]? == some true) w'
  down : ∀ (j : Nat) (o : Oper), l[j]? = some o → listed[j]? = some true → ∀ e ∈ o.after, listed[e.on]? = some true
  lsize : listed.size = l.length
  defers : a'.defers = a.defers
  size : a'.tmps.size = a.tmps.size
  done : ∀ (j : Nat) (o : Oper) (s : Spec), l[j]? = some o → ss[j]? = some s → listed[j]? = some true → s.holds (vf j) w' ∧ ∀ d, o.dst = some d → a'.tmps[d]? = some (vf j)
  rest : ∀ t, (∀ (j : Nat) (o : Oper), l[j]? = some o → listed[j]? = some true → o.dst ≠ some t) → a'.tmps[t]? = a.tmps[t]?


theorem befores_spec : ∀ (l : List Oper) (acc : List (List Nat)) (P : Nat → Nat → Prop), (∀ k i, i ∈ acc.getD k [] → P k i) → (∀ (j : Nat) (o : Oper) (e : Edge), l[j]? = some o → e ∈ o.after → P (acc.length + j) e.on) →
    (∀ a b c, P a b → P b c → P a c) → ∀ k i, i ∈ (befores l acc).getD k [] → P k i
  | [], _, _, h, _, _ => h
  | o :: l, acc, P, h, he, ht => by
    refine befores_spec l _ P ?_ (fun j o' e hj hm => by
      have := he (j + 1) o' e (by simpa using hj) hm
      rwa [List.length_append, List.length_singleton, Nat.add_assoc, Nat.add_comm 1 j]) ht
    intro k i hi
    rw [List.getD_eq_getElem?_getD, List.getElem?_append] at hi
    split at hi
    · exact h k i (by rw [List.getD_eq_getElem?_getD]; exact hi)
    · rename_i hge
      have hk : k = acc.length := by
        rcases Nat.lt_or_ge acc.length k with hlt | hle
        · have : ([o.after.toList.flatMap fun e => e.on :: acc.getD e.on []] : List (List Nat))[k - acc.length]? = none := List.getElem?_eq_none (by simp; omega)
          rw [this] at hi; simp at hi
        · omega
      subst hk
      simp only [Nat.sub_self, List.getElem?_cons_zero, Option.getD_some, List.mem_flatMap] at hi
      obtain ⟨e, hm, hi⟩ := hi
      have h1 := he 0 o e rfl (by simpa using hm)
      rw [Nat.add_zero] at h1
      rcases List.mem_cons.1 hi with rfl | hi
      · exact h1
      · exact ht _ _ _ h1 (h e.on i hi)

/-- The Bool over a region: temporaries are written once, by an operation that whoever looks at it waits for. -/
def monoB2 (l : List Oper) (size : Nat) : Bool :=
  (l.zipIdx.all fun (o, i) =>
    (match o.op with | .select .. => false | _ => true) &&
    o.after.toList.all (fun e => decide (e.on < i) && Region.binds .any e) &&
    (o.looksAt l.toArray).all (fun s => l.zipIdx.all fun (o', j) => o'.dst != some s || (decide (j < i) && (o.after.toList.map (·.on)).contains j) || ((befores l []).getD j []).contains i) &&
    (match o.dst with | some d => decide (d < size) && l.zipIdx.all (fun (o', j) => j == i || o'.dst != some d) | none => true))

theorem monoB2_spec {l : List Oper} {size : Nat} (h : monoB2 l size = true) {i : Nat} {o : Oper} (hi : l[i]? = some o) :
    (∀ cs b, o.op ≠ .select cs b) ∧ (∀ e ∈ o.after, e.on < i ∧ Region.binds .any e = true) ∧
    (∀ s ∈ o.looksAt l.toArray, ∀ (j : Nat) (o' : Oper), l[j]? = some o' → o'.dst = some s → (j < i ∧ ∃ e ∈ o.after, e.on = j) ∨ i ∈ (befores l []).getD j []) ∧
    (∀ d, o.dst = some d → d < size ∧ ∀ (j : Nat) (o' : Oper), l[j]? = some o' → j ≠ i → o'.dst ≠ some d) := by
  have hz : ∀ {j : Nat} {o' : Oper}, l[j]? = some o' → (o', j) ∈ l.zipIdx := fun {j o'} hj => by
    rw [List.mem_zipIdx_iff_getElem?]; exact hj
  have h1 := List.all_eq_true.1 h _ (hz hi)
  simp only [Bool.and_eq_true] at h1
  obtain ⟨⟨⟨ha, hb⟩, hc⟩, hd⟩ := h1
  refine ⟨fun cs b e => ?_, fun e he => ?_, fun s hs j o' hj hds => ?_, fun d hd' => ?_⟩
  · rw [e] at ha; simp at ha
  · have := List.all_eq_true.1 hb e (by simpa using he)
    simpa using this
  · have h2 := List.all_eq_true.1 (List.all_eq_true.1 hc s hs) _ (hz hj)
    simp only [hds, bne_self_eq_false, Bool.false_or, Bool.or_eq_true, Bool.and_eq_true, decide_eq_true_eq, List.contains_eq_mem] at h2
    rcases h2 with h2 | h2
    · refine .inl ⟨h2.1, ?_⟩
      have := h2.2
      simpa using this
    · exact .inr (by simpa using h2)
  · simp only [hd', Bool.and_eq_true, decide_eq_true_eq] at hd
    refine ⟨hd.1, fun j o' hj hne e => ?_⟩
    have := List.all_eq_true.1 hd.2 _ (hz hj)
    simp [hne, e] at this

section
variable {P : Program} {l : List Oper} {Inv : (Nat → Bool) → World → Prop} {T : Nat → World → World → Prop} {Q : Exit → Act → World → Prop} {a : Act} {ss : List Spec}

theorem wpAny_done (hB : monoB2 l a.tmps.size = true) (hst : ∀ (i k : Nat) (s : Spec), i ≠ k → ss[k]? = some s → ∀ v done w w', Inv done w → T i w w' → s.fact v w → s.fact v w')
    (h : doneWalk P l.toArray Inv T (befores l []) (Q .normal) l.length l ss 0 a [] (fun _ => True)) :
    ∀ (fuel : Nat) (listed : Array Bool) (vf : Nat → Value) (a' : Act) (w' : World), (undone listed l.length).length ≤ fuel → DoneInv l ss Inv a vf listed a' w' → wpAny P .any l.toArray Q fuel listed a' w' := by
  have hS := fun {i : Nat} {o : Oper} (hi : l[i]? = some o) => monoB2_spec hB hi
  -- the values as far as they are there
  have hok : ∀ (listed : Array Bool) (vf : Nat → Value) (a' : Act) (w' : World), DoneInv l ss Inv a vf listed a' w' → okVals (fillVals ss listed vf) ss 0 := by
    intro listed vf a' w' hI
    refine okVals_of ss 0 fun j s x hj hx => ?_
    rw [Nat.zero_add]
    unfold fillVals
    split
    · rename_i hl
      have hlt : j < l.length := by
        have := (Array.getElem?_eq_some_iff.1 hl).1
        rw [hI.lsize] at this; exact this
      have := (hI.done j l[j] s (List.getElem?_eq_getElem hlt) hj hl).1
      unfold Spec.holds at this
      rw [hx] at this
      exact this
    · rw [hj]; simp [hx]
  have hfill : ∀ (listed : Array Bool) (vf : Nat → Value) (j : Nat), listed[j]? = some true → fillVals ss listed vf j = vf j := fun listed vf j hl => by unfold fillVals; rw [if_pos hl]
  have fin : ∀ (listed : Array Bool) (vf : Nat → Value) (a' : Act) (w' : World), (∀ j, j < l.length → listed[j]? = some true) → DoneInv l ss Inv a vf listed a' w' → Q .normal a' w' := by
    intro listed vf a' w' hall hI
    obtain ⟨_, h2, h3⟩ := done_ext (fillVals ss listed vf) l ss 0 a [] _ (hok listed vf a' w' hI) h
    have hq := h2 _ w' (fun k hk => by simp [hall k hk]) hI.cls trivial (allFacts_of _ 0 fun j s hj => by
      rw [Nat.zero_add]
      have hjl : j < l.length := by
        have := (List.getElem?_eq_some_iff.1 hj).1
        simp at this; omega
      have hj' : ss[j]? = some s := by rw [List.getElem?_take_of_lt hjl] at hj; exact hj
      rw [hfill _ _ _ (hall j hjl)]
      exact Spec.fact_of_holds (hI.done j l[j] s (List.getElem?_eq_getElem hjl) hj' (hall j hjl)).1)
    have ea : a' = lexAct (fillVals ss listed vf) l 0 a := by
      obtain ⟨hz, hd⟩ := lexAct_size (fillVals ss listed vf) l 0 a
      have ht : a'.tmps = (lexAct (fillVals ss listed vf) l 0 a).tmps := by
        apply Array.ext_getElem?
        intro t
        by_cases hex : ∃ (j : Nat) (o : Oper), l[j]? = some o ∧ o.dst = some t
        · obtain ⟨j, o, hj, hdt⟩ := hex
          have hjl := (List.getElem?_eq_some_iff.1 hj).1
          obtain ⟨hlt, huniq⟩ := (hS hj).2.2.2 t hdt
          rw [lexAct_same _ l 0 a j o hj hdt huniq hlt, Nat.zero_add, hfill _ _ _ (hall j hjl)]
          have hjs : ss[j]? = some ss[j] := List.getElem?_eq_getElem (by omega)
          exact (hI.done j o _ hj hjs (hall j hjl)).2 t hdt
        · have hn : ∀ (j : Nat) (o : Oper), l[j]? = some o → o.dst ≠ some t := fun j o hj e => hex ⟨j, o, hj, e⟩
          rw [lexAct_other _ l 0 a (fun o ho => by obtain ⟨j, hj⟩ := List.getElem?_of_mem ho; exact hn j o hj)]
          exact hI.rest t (fun j o hj _ => hn j o hj)
      cases a'; cases hx : lexAct (fillVals ss listed vf) l 0 a
      rw [hx] at ht hd
      have := hI.defers
      simp_all
    rw [ea]; exact hq
  have allIf : ∀ (listed : Array Bool), listed.size = l.length → Region.ready .any l.toArray listed = [] → ∀ j, j < l.length → listed[j]? = some true := by
    intro listed hsz hr j
    induction j using Nat.strongRecOn with
    | ind j ih =>
      intro hj
      have hsome : listed[j]? = some listed[j] := Array.getElem?_eq_getElem (by omega)
      cases hb : listed[j] with
      | true => rw [hsome, hb]
      | false =>
        have : j ∈ Region.ready .any l.toArray listed := by
          rw [mem_ready]
          refine ⟨by simp [Array.getD_eq_getD_getElem?, hsome, hb], l[j], by simp [hj], fun e he _ => ?_⟩
          have h1 := ((hS (List.getElem?_eq_getElem hj)).2.1 e he).1
          have h2 := ih e.on h1 (by omega)
          simp [Array.getD_eq_getD_getElem?, h2]
        rw [hr] at this
        cases this
  intro fuel
  induction fuel with
  | zero =>
    intro listed vf a' w' hf hI
    have hall : ∀ j, j < l.length → listed[j]? = some true := by
      intro j hj
      have h0 : undone listed l.length = [] := List.eq_nil_of_length_eq_zero (by omega)
      unfold undone at h0
      rw [List.filter_eq_nil_iff] at h0
      simpa using h0 j (List.mem_range.2 hj)
    refine ⟨?_, fin _ _ _ _ hall hI⟩
    rw [List.eq_nil_iff_forall_not_mem]
    intro j hj
    obtain ⟨h0, o, ho, _⟩ := mem_ready.1 hj
    have hj' : j < l.length := by
      have := (Array.getElem?_eq_some_iff.1 ho).1
      simpa using this
    simp [Array.getD_eq_getD_getElem?, hall j hj'] at h0
  | succ fuel ih =>
    intro listed vf a' w' hf hI
    refine ⟨fun hr => fin _ _ _ _ (allIf listed hI.lsize hr) hI, fun i hi => ?_⟩
    obtain ⟨h0, o, ho, hdep⟩ := mem_ready.1 hi
    have hil : l[i]? = some o := by simpa using ho
    have hilt : i < l.length := (List.getElem?_eq_some_iff.1 hil).1
    have hnl : listed[i]? ≠ some true := fun e => by simp [Array.getD_eq_getD_getElem?, e] at h0
    obtain ⟨hsel, hafter, hlooks, hdst⟩ := hS hil
    have hdone : ∀ e ∈ o.after, listed[e.on]? = some true := fun e he => by
      have := hdep e he (hafter e he).2
      rw [Array.getD_eq_getD_getElem?] at this
      cases hx : listed[e.on]? with
      | none => simp [hx] at this
      | some b => simp [hx] at this; rw [this]
    obtain ⟨h1, _, h3⟩ := done_ext (fillVals ss listed vf) l ss 0 a [] _ (hok listed vf a' w' hI) h
    have hsi : ss[i]? = some ss[i] := List.getElem?_eq_getElem (by omega)
    have hob := h1 i o ss[i] hil hsi
    rw [Nat.zero_add, List.nil_append] at hob
    -- the lexical act looks alike to this operation
    have hsame : ∀ t ∈ o.looksAt l.toArray, (lexAct (fillVals ss listed vf) (l.take i) 0 a).tmps[t]? = a'.tmps[t]? := by
      intro t ht
      by_cases hex : ∃ (j : Nat) (o' : Oper), l[j]? = some o' ∧ o'.dst = some t
      · obtain ⟨j, o', hj, hdt⟩ := hex
        rcases hlooks t ht j o' hj hdt with ⟨hji, e, he, hej⟩ | hbef
        rotate_left
        · have hij : i < j := befores_spec l [] (fun k i => i < k) (fun k i h => by simp at h) (fun j o' e hj he => by
            have := ((hS (show l[j]? = some o' from hj)).2.1 e he).1; simpa using this) (fun a b c h1 h2 => Nat.lt_trans h2 h1) j i hbef
          have hnj : listed[j]? ≠ some true := fun hlj => hnl (befores_spec l [] (fun k i => listed[k]? = some true → listed[i]? = some true) (fun k i h => by simp at h) (fun j o' e hj he hlj => by
            simp at hlj; exact hI.down j o' hj hlj e he) (fun a b c h1 h2 h3 => h2 (h1 h3)) j i hbef hlj)
          obtain ⟨_, huniq⟩ := (hS hj).2.2.2 t hdt
          rw [lexAct_other _ (l.take i) 0 a (fun o'' ho'' => by
            obtain ⟨k, hk⟩ := List.getElem?_of_mem ho''
            have hki : k < i := by have := (List.getElem?_eq_some_iff.1 hk).1; simp at this; omega
            rw [List.getElem?_take_of_lt hki] at hk
            exact huniq k o'' hk (by omega))]
          refine (hI.rest t fun k o'' hk hlk => ?_).symm
          by_cases hkj : k = j
          · subst hkj; exact absurd hlk hnj
          · exact huniq k o'' hk hkj
        have hlj : listed[j]? = some true := hej ▸ hdone e he
        obtain ⟨hlt, huniq⟩ := (hS hj).2.2.2 t hdt
        have hjs : ss[j]? = some ss[j] := List.getElem?_eq_getElem (by omega)
        rw [lexAct_same _ (l.take i) 0 a j o' (by rw [List.getElem?_take_of_lt hji]; exact hj) hdt (fun j' o'' hj' hne => huniq j' o'' (by
          have hlt' : j' < i := by
            have := (List.getElem?_eq_some_iff.1 hj').1
            simp at this; omega
          rw [List.getElem?_take_of_lt hlt'] at hj'; exact hj') hne) hlt, Nat.zero_add, hfill _ _ _ hlj]
        exact ((hI.done j o' _ hj hjs hlj).2 t hdt).symm
      · have hn : ∀ (j : Nat) (o : Oper), l[j]? = some o → o.dst ≠ some t := fun j o hj e => hex ⟨j, o, hj, e⟩
        rw [lexAct_other _ (l.take i) 0 a (fun o' ho' => by obtain ⟨j, hj⟩ := List.getElem?_of_mem (List.mem_of_mem_take ho'); exact hn j o' hj)]
        exact (hI.rest t (fun j o hj _ => hn j o hj)).symm
    have hexec : execOp (lexAct (fillVals ss listed vf) (l.take i) 0 a).eval o = execOp a'.eval o := by
      refine execOp_congr o hsel fun x hx => ?_
      cases x with
      | tmp t =>
        have := hsame t (List.mem_append_left _ (List.mem_filterMap.2 ⟨.tmp t, by simpa using hx, rfl⟩))
        simp [Act.eval, Array.getD_eq_getD_getElem?, this]
      | _ => rfl
    have hwant : Region.wanted o (yielded l.toArray (lexAct (fillVals ss listed vf) (l.take i) 0 a).tmps) = Region.wanted o (yielded l.toArray a'.tmps) := by
      unfold Region.wanted
      cases hg : o.guard with
      | none => rfl
      | some gw =>
        obtain ⟨g, want⟩ := gw
        have hy : yielded l.toArray (lexAct (fillVals ss listed vf) (l.take i) 0 a).tmps g = yielded l.toArray a'.tmps g := by
          unfold yielded
          cases ht : (l.toArray[g]?).bind (·.dst) with
          | none => rfl
          | some t =>
            have := hsame t (by simp only [Oper.looksAt, hg, ht]; simp)
            simp only [Option.bind_some, this]
        simp only [hy]
    have hfacts : depFacts o ([] ++ factList (fillVals ss listed vf) (ss.take i) 0) w' := by
      intro k hk
      rw [List.nil_append]
      obtain ⟨e, he, rfl⟩ := List.mem_map.1 hk
      have he' : e ∈ o.after := by simpa using he
      have hlt := (hafter e he').1
      have hlk := hdone e he'
      have hks : ss[e.on]? = some ss[e.on] := List.getElem?_eq_getElem (by omega)
      rw [List.getD_eq_getElem?_getD, factList_get (ss.take i) 0 e.on ss[e.on] (by rw [List.getElem?_take_of_lt hlt]; exact hks), Nat.zero_add, hfill _ _ _ hlk]
      exact Spec.fact_of_holds (hI.done e.on l[e.on] _ (List.getElem?_eq_getElem (by omega)) hks hlk).1
    rw [List.nil_append] at hfacts
    have hnot : ∀ k : Nat, i ∈ (befores l []).getD k [] → ((fun k => listed[k]? == some true) k) = false := by
      intro k hk
      have hP := befores_spec l [] (fun k i => listed[k]? = some true → listed[i]? = some true) (fun k i h => by simp at h) (fun j o' e hj he hlj => by
        simp at hlj; exact hI.down j o' hj hlj e he) (fun a b c h1 h2 h3 => h2 (h1 h3)) k i hk
      cases hx : (listed[k]? == some true) with
      | false => exact hx
      | true => exact absurd (hP (by simpa using hx)) hnl
    have hres := hob _ w' hI.cls (by simpa using hnl) (fun k hk => by
      obtain ⟨e, he, rfl⟩ := List.mem_map.1 hk
      simp [hdone e (by simpa using he)]) hnot hfacts (fun v w'' => Inv (updDone (fun k => listed[k]? == some true) i) w'' ∧ T i w' w'' ∧ ss[i].holds v w'') (fun v w'' h0 h1 h2 => ⟨h0, h1, h2⟩)
    rw [hwant] at hres
    have next : ∀ v w'', Inv (updDone (fun k => listed[k]? == some true) i) w'' → T i w' w'' → ss[i].holds v w'' → wpAny P .any l.toArray Q fuel (listed.setIfInBounds i true) (a'.put o.dst v) w'' := by
      intro v w'' hIv hT hv
      have hu := undone_set hilt (by rw [hI.lsize]; exact Nat.le_refl _) hnl
      refine ih _ (fun j => if j = i then v else vf j) _ _ (by omega) ⟨?_, ?_, by simp [hI.lsize], ?_, ?_, ?_, ?_⟩
      · refine (congrArg (fun d => Inv d w'') ?_).mp hIv
        funext k
        unfold updDone
        by_cases e : k = i
        · subst e; rw [if_pos rfl, Array.getElem?_setIfInBounds_self_of_lt (by rw [hI.lsize]; exact hilt)]; simp
        · rw [if_neg e, Array.getElem?_setIfInBounds_ne (Ne.symm e)]
      · intro j o' hj hlj e he
        by_cases hje : j = i
        · subst hje
          rw [hil] at hj
          obtain rfl : o = o' := by simpa using hj
          have := hdone e he
          by_cases hei : e.on = j
          · rw [hei, Array.getElem?_setIfInBounds_self_of_lt (by rw [hI.lsize]; exact hilt)]
          · rw [Array.getElem?_setIfInBounds_ne (Ne.symm hei)]; exact this
        · rw [Array.getElem?_setIfInBounds_ne (Ne.symm hje)] at hlj
          have := hI.down j o' hj hlj e he
          by_cases hei : e.on = i
          · rw [hei, Array.getElem?_setIfInBounds_self_of_lt (by rw [hI.lsize]; exact hilt)]
          · rw [Array.getElem?_setIfInBounds_ne (Ne.symm hei)]; exact this
      · rw [← hI.defers]; cases o.dst <;> rfl
      · rw [← hI.size]; cases o.dst <;> simp [Act.put]
      · intro j o' s hj hjs hlj
        by_cases e : j = i
        · subst e
          rw [hil] at hj
          obtain rfl : o = o' := by simpa using hj
          rw [hsi] at hjs
          obtain rfl : ss[j] = s := by simpa using hjs
          rw [if_pos rfl]
          refine ⟨hv, fun d hd => ?_⟩
          rw [hd, put_get_same (by rw [hI.size]; exact (hdst d hd).1)]
        · rw [Array.getElem?_setIfInBounds_ne (Ne.symm e)] at hlj
          rw [if_neg e]
          obtain ⟨g1, g2⟩ := hI.done j o' s hj hjs hlj
          refine ⟨?_, fun d hd => ?_⟩
          · have hf := hst i j s (Ne.symm e) hjs (vf j) _ w' w'' hI.cls hT (Spec.fact_of_holds g1)
            unfold Spec.holds at g1 ⊢
            unfold Spec.fact at hf
            split <;> simp_all
          · rw [put_get_other (fun e' => (hdst d e').2 j o' hj e hd)]
            exact g2 d hd
      · intro t ht
        have hti : o.dst ≠ some t := ht i o hil (by rw [Array.getElem?_setIfInBounds_self_of_lt (by rw [hI.lsize]; exact hilt)])
        rw [put_get_other hti]
        refine hI.rest t fun j o' hj hlj => ?_
        by_cases e : j = i
        · subst e; exact absurd hlj hnl
        · exact ht j o' hj (by rw [Array.getElem?_setIfInBounds_ne (Ne.symm e)]; exact hlj)
    unfold wpOp
    rw [ho]
    by_cases hw : Region.wanted o (yielded l.toArray a'.tmps) = true
    · simp only [hw, if_true] at hres ⊢
      refine .inl (wp_of_gives (R := fun v w'' => Inv (updDone (fun k => listed[k]? == some true) i) w'' ∧ T i w' w'' ∧ ss[i].holds v w'') ?_ fun v w'' ⟨h0, h1, h2⟩ => next v w'' h0 h1 h2)
      unfold gives at hres ⊢
      rw [← hexec]; exact hres
    · simp only [hw] at hres ⊢
      exact next _ _ hres.1 hres.2.1 hres.2.2

/-- ONE LEXICAL WALK SERVES EVERY ORDER, stores among the operations. -/
theorem wp_region_done {id : Nat} {w : World} (ss : List Spec) (Inv : (Nat → Bool) → World → Prop) (T : Nat → World → World → Prop) (hm : P.follows .mixedOrders = true) (hB : monoB2 l a.tmps.size = true)
    (hst : ∀ (i k : Nat) (s : Spec), i ≠ k → ss[k]? = some s → ∀ v done w w', Inv done w → T i w w' → s.fact v w → s.fact v w') (hC : Inv (fun _ => false) w.drew)
    (h : doneWalk P l.toArray Inv T (befores l []) (Q .normal) l.length l ss 0 a [] (fun _ => True)) : (Code.region id l.toArray true).wp P Q a w := by
  refine wp_region_any hm (wpAny_done hB hst h _ _ (fun _ => undef) _ _ ?_ ⟨?_, ?_, by simp, rfl, rfl, ?_, fun _ _ => rfl⟩)
  · have := List.length_filter_le (fun i => (Array.replicate l.toArray.size false)[i]? != some true) (List.range l.length)
    simpa [undone] using this
  · refine (congrArg (fun d => Inv d _) ?_).mp hC
    funext k
    rw [Array.getElem?_replicate]
    split <;> simp
  · intro j o hj hl
    rw [Array.getElem?_replicate] at hl
    split at hl <;> simp at hl
  · intro j o s hj _ hl
    rw [Array.getElem?_replicate] at hl
    split at hl <;> simp at hl
end

/-- Exact values alone: each is found as its operation is walked. -/
def doneE (P : Program) (ops : Array Oper) (Inv : (Nat → Bool) → World → Prop) (bs : List (List Nat)) (Q : Act → World → Prop) (n : Nat) : List Oper → Nat → Act → Prop
  | [], _, a => ∀ (done : Nat → Bool) (w : World), (∀ k, k < n → done k = true) → Inv done w → Q a w
  | o :: l, i, a => ∃ x : Value, (∀ (done : Nat → Bool) (w : World), Inv done w → done i = false → (∀ k ∈ o.after.toList.map (fun e => e.on), done k = true) → (∀ k : Nat, i ∈ bs.getD k [] → done k = false) →
      ∀ R : Value → World → Prop, (∀ (v : Value) (w' : World), Inv (updDone done i) w' → v = x → R v w') → if Region.wanted o (yielded ops a.tmps) then gives P o a w R else R undef w) ∧
      doneE P ops Inv bs Q n l (i + 1) (a.put o.dst x)
theorem doneE_step {P : Program} {ops : Array Oper} {Inv : (Nat → Bool) → World → Prop} {bs : List (List Nat)} {Q : Act → World → Prop} {n : Nat} {o : Oper} {l : List Oper} {i : Nat} {a : Act}
    (h : ∀ K : Act → Prop, (∀ a, doneE P ops Inv bs Q n l (i + 1) a → K a) → ∃ x : Value, (∀ (done : Nat → Bool) (w : World), Inv done w → done i = false → (∀ k ∈ o.after.toList.map (fun e => e.on), done k = true) → (∀ k : Nat, i ∈ bs.getD k [] → done k = false) →
      ∀ R : Value → World → Prop, (∀ (v : Value) (w' : World), Inv (updDone done i) w' → v = x → R v w') → if Region.wanted o (yielded ops a.tmps) then gives P o a w R else R undef w) ∧ K (a.put o.dst x)) :
    doneE P ops Inv bs Q n (o :: l) i a := h _ (fun _ h => h)
theorem doneE_list {P : Program} {ops : Array Oper} {Inv : (Nat → Bool) → World → Prop} {bs : List (List Nat)} {Q : Act → World → Prop} {n : Nat} : ∀ (l : List Oper) (i : Nat) (a : Act) (fs : List (World → Prop)),
    doneE P ops Inv bs Q n l i a → ∃ xs : List Value, doneWalk P ops Inv (fun _ _ _ => True) bs Q n l (xs.map ex) i a fs (fun _ => True)
  | [], _, _, _, h => ⟨[], fun d w hd hC _ => h d w hd hC⟩
  | o :: l, i, a, fs, ⟨x, hob, hrest⟩ => by
    obtain ⟨xs, hx⟩ := doneE_list l (i + 1) _ (fs ++ [fun _ : World => True]) hrest
    exact ⟨x :: xs, fun d w hC h0 h1 h2 _ R hR => hob d w hC h0 h1 h2 R (fun v w' hI hv => hR v w' hI trivial hv), hx⟩
theorem wp_region_stores {P : Program} {l : List Oper} {Q : Exit → Act → World → Prop} {a : Act} {id : Nat} {w : World} (Inv : (Nat → Bool) → World → Prop) (hm : P.follows .mixedOrders = true) (hB : monoB2 l a.tmps.size = true) (hC : Inv (fun _ => false) w.drew)
    (bs : List (List Nat)) (hbs : befores l [] = bs) (h : doneE P l.toArray Inv bs (Q .normal) l.length l 0 a) : (Code.region id l.toArray true).wp P Q a w := by
  subst hbs
  obtain ⟨xs, hx⟩ := doneE_list l 0 a [] h
  refine wp_region_done (xs.map ex) Inv (fun _ _ _ => True) hm hB (fun i k s _ hk v done w1 w2 _ _ _ => ?_) hC hx
  obtain ⟨x, _, rfl⟩ := List.mem_map.1 (List.mem_of_getElem? hk)
  trivial

/-- As wp_region_exact, where a temporary may be read ahead of being written. -/
theorem wp_region_exact2 {P : Program} {l : List Oper} {Q : Exit → Act → World → Prop} {a : Act} {id : Nat} {w : World} (B : Nat) (hBw : B ≤ w.heap.size) (hm : P.follows .mixedOrders = true) (hB : monoB2 l a.tmps.size = true)
    (h : monoE P l.toArray (Cls B w) TB (Q .normal) l 0 a) : (Code.region id l.toArray true).wp P Q a w := by
  have conv : ∀ (l' : List Oper) (i : Nat) (a' : Act), monoE P l.toArray (Cls B w) TB (Q .normal) l' i a' → doneE P l.toArray (fun _ => Cls B w) (befores l []) (Q .normal) l.length l' i a' := by
    intro l'
    induction l' with
    | nil => intro i a' h _ W _ hC; exact h W hC
    | cons o l' ih =>
      intro i a' h
      obtain ⟨x, h1, h2⟩ := h
      exact ⟨x, fun _ W hC _ _ _ R hR => h1 W hC R (fun v w' hT hv => hR v w' (hC.step hT) hv), ih _ _ h2⟩
  exact wp_region_stores (fun _ => Cls B w) hm hB ⟨hBw, (Below.refl _ _).drew⟩ _ rfl (conv l 0 a h)
end Go.Proofs.YtkiipnbjckdlbaaGreatDoor
namespace Go.Proofs.YtkiipnbjckdlbaaGreatDoor
open Go.RowKit

def prune (o : Oper) : Oper := { o with after := o.after.filter (Region.binds .any) }
theorem prune_get (l : List Oper) (i : Nat) : (l.map prune).toArray[i]? = (l.toArray[i]?).map prune := by simp
theorem all_prune (p q : Edge → Bool) (es : Array Edge) : ((es.filter p).all fun e => !p e || q e) = es.all fun e => !p e || q e := by
  rw [Bool.eq_iff_iff]
  simp only [Array.all_eq_true_iff_forall_mem, Array.mem_filter]
  constructor
  · intro h e he
    cases hp : p e with
    | false => rfl
    | true => have := h e ⟨he, hp⟩; rwa [hp] at this
  · intro h e he
    exact h e he.1
theorem ready_prune (l : List Oper) (listed : Array Bool) : Region.ready .any (l.map prune).toArray listed = Region.ready .any l.toArray listed := by
  unfold Region.ready
  have hs : (l.map prune).toArray.size = l.toArray.size := by simp
  rw [hs]
  congr 1
  funext i
  rw [prune_get, Option.map_map]
  congr 2
  congr 1
  funext o
  exact all_prune _ _ _
theorem yielded_prune (l : List Oper) (t : Array Value) : yielded (l.map prune).toArray t = yielded l.toArray t := by
  funext j
  unfold yielded
  rw [prune_get]
  cases l.toArray[j]? <;> rfl
theorem wpOp_prune {P : Program} {l : List Oper} {Q : Exit → Act → World → Prop} {i : Nat} {K : Act → World → Prop} {a : Act} {w : World} (h : wpOp P (l.map prune).toArray Q i K a w) : wpOp P l.toArray Q i K a w := by
  unfold wpOp at h ⊢
  rw [prune_get] at h
  cases ho : l.toArray[i]? with
  | none => rw [ho] at h; exact h
  | some o => rw [ho, yielded_prune] at h; exact h
theorem wpAny_prune {P : Program} {l : List Oper} {Q : Exit → Act → World → Prop} : ∀ (fuel : Nat) (listed : Array Bool) (a : Act) (w : World), wpAny P .any (l.map prune).toArray Q fuel listed a w → wpAny P .any l.toArray Q fuel listed a w
  | 0, listed, a, w, h => by unfold wpAny at h ⊢; rwa [ready_prune] at h
  | fuel + 1, listed, a, w, h => by
    unfold wpAny at h ⊢
    rw [ready_prune] at h
    exact ⟨h.1, fun i hi => wpOp_mono (fun a' w' h' => wpAny_prune fuel _ a' w' h') (wpOp_prune (h.2 i hi))⟩
theorem monoE_prune {P : Program} {ops : List Oper} {C : World → Prop} {T : Nat → World → World → Prop} {Q : Act → World → Prop} : ∀ (l : List Oper) (i : Nat) (a : Act), monoE P ops.toArray C T Q l i a → monoE P (ops.map prune).toArray C T Q (l.map prune) i a
  | [], _, _, h => h
  | o :: l, i, a, ⟨x, h1, h2⟩ => by
    refine ⟨x, fun w hC R hR => ?_, monoE_prune l _ _ h2⟩
    have := h1 w hC R hR
    rw [← yielded_prune] at this
    exact this

/-- As wp_region_exact: edges that bind no order are left out, and a temporary may be read ahead of being written. -/
theorem wp_region_exact3 {P : Program} {l : List Oper} {Q : Exit → Act → World → Prop} {a : Act} {id : Nat} {w : World} (B : Nat) (hBw : B ≤ w.heap.size) (hm : P.follows .mixedOrders = true) (hB : monoB2 (l.map prune) a.tmps.size = true)
    (h : monoE P l.toArray (Cls B w) TB (Q .normal) l 0 a) : (Code.region id l.toArray true).wp P Q a w := by
  have h' := monoE_prune (ops := l) l 0 a h
  generalize hl : l.map prune = l' at hB h'
  have conv : ∀ (l'' : List Oper) (i : Nat) (a' : Act), monoE P l'.toArray (Cls B w) TB (Q .normal) l'' i a' → doneE P l'.toArray (fun _ => Cls B w) (befores l' []) (Q .normal) l'.length l'' i a' := by
    intro l''
    induction l'' with
    | nil => intro i a' h _ W _ hC; exact h W hC
    | cons o l'' ih =>
      intro i a' h
      obtain ⟨x, h1, h2⟩ := h
      exact ⟨x, fun _ W hC _ _ _ R hR => h1 W hC R (fun v w' hT hv => hR v w' (hC.step hT) hv), ih _ _ h2⟩
  obtain ⟨xs, hx⟩ := doneE_list l' 0 a [] (conv l' 0 a h')
  refine wp_region_any hm (wpAny_prune _ _ _ _ ?_)
  rw [hl]
  refine wpAny_done (Inv := fun _ => Cls B w) (T := fun _ _ _ => True) (ss := xs.map ex) hB (fun i k s _ hk v done w1 w2 _ _ _ => ?_) hx _ _ (fun _ => undef) _ _ ?_ ⟨⟨hBw, (Below.refl _ _).drew⟩, ?_, by simp [← hl], rfl, rfl, ?_, fun _ _ => rfl⟩
  · obtain ⟨x, _, rfl⟩ := List.mem_map.1 (List.mem_of_getElem? hk)
    trivial
  · have := List.length_filter_le (fun i => (Array.replicate l.toArray.size false)[i]? != some true) (List.range l'.length)
    simpa [undone, ← hl] using this
  · intro j o hj hl
    rw [Array.getElem?_replicate] at hl
    split at hl <;> simp at hl
  · intro j o s hj _ hl
    rw [Array.getElem?_replicate] at hl
    split at hl <;> simp at hl
end Go.Proofs.YtkiipnbjckdlbaaGreatDoor
namespace Go.Proofs.YtkiipnbjckdlbaaGreatDoor
open Go.RowKit

section
variable {P : Program} {ops : Array Oper} {Inv : (Nat → Bool) → World → Prop} {T : Nat → World → World → Prop} {bs : List (List Nat)} {Q : Act → World → Prop} {n : Nat} {o : Oper} {l : List Oper} {ss : List Spec} {i : Nat} {a : Act} {fs : List (World → Prop)} {F : World → Prop}
/-- As doneOb, but that the edges that bind no order are left out. -/
def obP (P : Program) (ops : Array Oper) (Inv : (Nat → Bool) → World → Prop) (T : World → World → Prop) (s : Spec) (i : Nat) (bs : List (List Nat)) (o : Oper) (a : Act) (fs : List (World → Prop)) : Prop :=
  ∀ (done : Nat → Bool) (w : World), Inv done w → done i = false → (∀ k ∈ (prune o).after.toList.map (fun e => e.on), done k = true) → (∀ k : Nat, i ∈ bs.getD k [] → done k = false) → depFacts (prune o) fs w → ∀ R : Value → World → Prop, (∀ (v : Value) (w' : World), Inv (updDone done i) w' → T w w' → s.holds v w' → R v w') →
    if Region.wanted o (yielded ops a.tmps) then gives P o a w R else R undef w
def walkP (P : Program) (ops : Array Oper) (Inv : (Nat → Bool) → World → Prop) (T : Nat → World → World → Prop) (bs : List (List Nat)) (Q : Act → World → Prop) (n : Nat) :
    List Oper → List Spec → Nat → Act → List (World → Prop) → (World → Prop) → Prop
  | [], _, _, a, _, F => ∀ (done : Nat → Bool) (w : World), (∀ k, k < n → done k = true) → Inv done w → F w → Q a w
  | _ :: _, [], _, _, _, _ => False
  | o :: l, s :: ss, i, a, fs, F => obP P ops Inv (T i) s i bs o a fs ∧
      match s.exact? with
      | some x => walkP P ops Inv T bs Q n l ss (i + 1) (a.put o.dst x) (fs ++ [fun _ : World => True]) F
      | none => ∀ v : Value, walkP P ops Inv T bs Q n l ss (i + 1) (a.put o.dst v) (fs ++ [s.pred v]) (fun w : World => F w ∧ s.pred v w)
theorem walk_prune {ops' : List Oper} : ∀ (l : List Oper) (ss : List Spec) (i : Nat) (a : Act) (fs : List (World → Prop)) (F : World → Prop), walkP P ops'.toArray Inv T bs Q n l ss i a fs F → doneWalk P (ops'.map prune).toArray Inv T bs Q n (l.map prune) ss i a fs F
  | [], _, _, _, _, _, h => h
  | _ :: _, [], _, _, _, _, h => h.elim
  | o :: l, s :: ss, i, a, fs, F, h => by
    obtain ⟨h1, h2⟩ := h
    refine ⟨fun done w hI h0 hd hn hf R hR => ?_, ?_⟩
    · have := h1 done w hI h0 hd hn hf R hR
      rw [← yielded_prune] at this
      exact this
    · revert h2
      show (match s.exact? with | some x => _ | none => _) → (match s.exact? with | some x => _ | none => _)
      cases s.exact? with
      | some x => exact fun h2 => walk_prune l ss (i + 1) _ _ _ h2
      | none => exact fun h2 v => walk_prune l ss (i + 1) _ _ _ (h2 v)
theorem walkP_ex {x : Value} (h : ∀ K : Act → Prop, (∀ a', walkP P ops Inv T bs Q n l ss (i + 1) a' (fs ++ [fun _ : World => True]) F → K a') → obP P ops Inv (T i) (ex x) i bs o a fs ∧ K (a.put o.dst x)) :
    walkP P ops Inv T bs Q n (o :: l) (ex x :: ss) i a fs F := h _ (fun _ h => h)
theorem walkP_pr {p : Value → World → Prop} (h : ∀ K : Value → Act → Prop, (∀ v a', walkP P ops Inv T bs Q n l ss (i + 1) a' (fs ++ [p v]) (fun w : World => F w ∧ p v w) → K v a') → obP P ops Inv (T i) (pr p) i bs o a fs ∧ ∀ v, K v (a.put o.dst v)) :
    walkP P ops Inv T bs Q n (o :: l) (pr p :: ss) i a fs F := h _ (fun _ _ h => h)
end

theorem wp_region_done3 {P : Program} {l : List Oper} {Q : Exit → Act → World → Prop} {a : Act} {id : Nat} {w : World} (ss : List Spec) (Inv : (Nat → Bool) → World → Prop) (T : Nat → World → World → Prop) (hm : P.follows .mixedOrders = true) (hB : monoB2 (l.map prune) a.tmps.size = true)
    (hst : ∀ (i k : Nat) (s : Spec), i ≠ k → ss[k]? = some s → ∀ v done w w', Inv done w → T i w w' → s.fact v w → s.fact v w') (hC : Inv (fun _ => false) w.drew)
    (bs : List (List Nat)) (hbs : befores (l.map prune) [] = bs) (h : walkP P l.toArray Inv T bs (Q .normal) l.length l ss 0 a [] (fun _ => True)) : (Code.region id l.toArray true).wp P Q a w := by
  subst hbs
  have h' := walk_prune (ops' := l) l ss 0 a [] _ h
  rw [show l.length = (l.map prune).length by simp] at h'
  refine wp_region_any hm (wpAny_prune _ _ _ _ (wpAny_done hB hst h' _ _ (fun _ => undef) _ _ ?_ ⟨?_, ?_, by simp, rfl, rfl, ?_, fun _ _ => rfl⟩))
  · have := List.length_filter_le (fun i => (Array.replicate l.toArray.size false)[i]? != some true) (List.range (l.map prune).length)
    simpa [undone] using this
  · refine (congrArg (fun d => Inv d _) ?_).mp hC
    funext k
    rw [Array.getElem?_replicate]
    split <;> simp
  · intro j o hj hl
    rw [Array.getElem?_replicate] at hl
    split at hl <;> simp at hl
  · intro j o s hj _ hl
    rw [Array.getElem?_replicate] at hl
    split at hl <;> simp at hl

theorem ob_plain {o : Oper} {y : Nat → Option Bool} {A B : Prop} (h : o.guard = none) (hA : A) : if Region.wanted o y then A else B := by
  have : Region.wanted o y = true := by simp [Region.wanted, h]
  rw [if_pos this]; exact hA

/-- The operation append. -/
theorem gives_append {P : Program} {w : World} {o : Oper} {a : Act} {R : Value → World → Prop} (s x : Operand) (t : TypeId)
    (ho : o.op = .call { callee := .builtin .append, args := #[s, x], argTypes := #[t, t] })
    (base : Nat) (e : TypeId) (i : TypeInfo) (z : Value) (size bytes : Nat) (ht : P.underlying t = some (.slice e)) (hi : P.info? e = some i) (hz : i.zero = some z)
    (hsize : i.size = size) (hby : i.bytes = bytes) (hzs : z.cells.size = size) (hsz : 0 < size)
    (v : Value) (n : Nat) (xs : List Value) (hs : a.eval s = v) (hown : w.ownsRow base e size v n xs)
    (ad : Addr) (m c : Nat) (news : List Value) (hx : a.eval x = .slice (some ad) m c) (hl : news.length = m * size) (hnews : ∀ j u, news[j]? = some u → w.cell? (ad.add j) = some u) (h1 : ∀ u ∈ news, u.oneCell' = true)
    (hm : 0 < m) (h63 : n + m ≤ maxLen) (hbytes : (n + m) * bytes ≤ 140737488355328) (hbase : base ≤ w.heap.size)
    (h : ∀ v' w', w'.ownsRow base e size v' (n + m) (xs ++ news) → w.grownBy w' v.ownBlock → R v' w') : gives P o a w R := by
  obtain ⟨g, cap, w', hr, h2, h3, _, _⟩ := run_append_lies (P := P) w t o.type base e i z size bytes ht hi hz hsize hby hzs hsz v n xs hown ad m c news hl hnews h1 hm h63 hbytes hbase _ rfl
  unfold gives execOp
  simp only [ho, resolve, invoke, builtin, Sem.run_bind, Sem.run_pure, Result.andThen_ok, List.map_toArray, List.map_cons, List.map_nil, hs, hx, hr]
  exact h _ _ h2 h3

/-- The worlds of such a region: w0 is the world at its head; β the box (its cells, the slice at offset off); cv the slice, with n elements; news: the cells of what is appended; ia, is: the numbers of the append and of the store. -/
structure AppInv (w0 : World) (β : Nat) (T : TypeId) (box : Array Value) (off base : Nat) (E : TypeId) (sz : Nat) (cv : Value) (n : Nat) (cells : List Value) (m : Nat) (news : List Value) (ia is : Nat) (done : Nat → Bool) (W : World) : Prop where
  os : W.os = w0.os
  tape : W.tape = w0.tape
  output : W.output = w0.output
  size : w0.heap.size ≤ W.heap.size
  blk : ∀ b, b < w0.heap.size → b ≠ β → some b ≠ cv.ownBlock → W.heap[b]? = w0.heap[b]?
  before : done is = false → W.heap[β]? = some (.cells box T)
  own : done ia = false → W.ownsRow base E sz cv n cells
  after : done is = true → ∃ v, W.heap[β]? = some (.cells (box.setIfInBounds off v) T) ∧ W.ownsRow base E sz v (n + m) (cells ++ news)
def AppT (β : Nat) (cv : Value) (ia : Nat) (i : Nat) (w w' : World) : Prop := w.heap.size ≤ w'.heap.size ∧ ∀ b, b < w.heap.size → b ≠ β → (i = ia → some b ≠ cv.ownBlock) → w'.heap[b]? = w.heap[b]?
/-- what buildSlice lays. -/
def NewP (B : Nat) (E : TypeId) (m : Nat) (cs : Array Value) (v : Value) (W : World) : Prop := ∃ b, v = .slice (some ⟨b, 0, none⟩) m m ∧ B ≤ b ∧ W.heap[b]? = some (.cells cs E)
def OwnP (base : Nat) (E : TypeId) (sz n : Nat) (cells : List Value) (v : Value) (W : World) : Prop := W.ownsRow base E sz v n cells

theorem NewP.stable {B β m ia i : Nat} {E : TypeId} {cs : Array Value} {cv v : Value} {w w' : World} (hβ : β < B) (hcv : ∀ g, cv.ownBlock = some g → g < B) (hT : AppT β cv ia i w w') (h : NewP B E m cs v w) : NewP B E m cs v w' := by
  obtain ⟨b, hv, hb, hc⟩ := h
  have hlt : b < w.heap.size := (Array.getElem?_eq_some_iff.1 hc).1
  refine ⟨b, hv, hb, ?_⟩
  rw [hT.2 b hlt (by omega) (fun _ e => by have := hcv b e.symm; omega)]
  exact hc
theorem ownsRow_keep1 {w w' : World} {base : Nat} {E : TypeId} {sz n : Nat} {v : Value} {cells : List Value} (h : w.ownsRow base E sz v n cells) (hb : ∀ b, base ≤ b → b < w.heap.size → v.ownBlock = some b → w'.heap[b]? = w.heap[b]?) : w'.ownsRow base E sz v n cells := by
  obtain ⟨h1, h2⟩ := h
  refine ⟨h1, ?_⟩
  rcases h2 with h2 | ⟨g, cap, cur, hv, hg, hh, r⟩
  · exact .inl h2
  · exact .inr ⟨g, cap, cur, hv, hg, by rw [hb g hg (Array.getElem?_eq_some_iff.1 hh).1 (by rw [hv]; rfl)]; exact hh, r⟩
theorem OwnP.stable {base β sz n ia i : Nat} {E : TypeId} {cells : List Value} {cv v : Value} {w w' : World} (hβ : β < base) (hi : i ≠ ia) (hT : AppT β cv ia i w w') (h : OwnP base E sz n cells v w) : OwnP base E sz n cells v w' :=
  ownsRow_keep1 h fun b hb hlt _ => hT.2 b hlt (by omega) (fun e => absurd e hi)

section
variable {w0 W W' : World} {β : Nat} {T : TypeId} {box : Array Value} {off base : Nat} {E : TypeId} {sz n m ia is i : Nat} {cv : Value} {cells news : List Value} {done : Nat → Bool}
theorem AppInv.start (h : w0.heap[β]? = some (.cells box T)) (ho : w0.ownsRow base E sz cv n cells) : AppInv w0 β T box off base E sz cv n cells m news ia is (fun _ => false) w0.drew :=
  ⟨rfl, rfl, rfl, Nat.le_refl _, fun _ _ _ _ => rfl, fun _ => h, fun _ => by exact ownsRow_keep1 ho fun _ _ _ _ => rfl, fun h => by cases h⟩
/-- an operation that leaves the world alone, or lays blocks alone. -/
theorem AppInv.step (h : AppInv w0 β T box off base E sz cv n cells m news ia is done W) (hb : Below W.heap.size W W') (h1 : i ≠ ia) (h2 : i ≠ is) : AppInv w0 β T box off base E sz cv n cells m news ia is (updDone done i) W' where
  os := hb.os.trans h.os
  tape := hb.tape.trans h.tape
  output := hb.output.trans h.output
  size := Nat.le_trans h.size hb.size
  blk := fun b hlt hn ho => (hb.block b (Nat.lt_of_lt_of_le hlt h.size)).trans (h.blk b hlt hn ho)
  before := fun hd => by
    have : done is = false := by simpa [updDone, Ne.symm h2] using hd
    exact blk_below (h.before this) hb
  own := fun hd => by
    have : done ia = false := by simpa [updDone, Ne.symm h1] using hd
    exact ownsRow_keep1 (h.own this) fun b _ hlt _ => hb.block b hlt
  after := fun hd => by
    have : done is = true := by simpa [updDone, Ne.symm h2] using hd
    obtain ⟨v, h1, h2⟩ := h.after this
    exact ⟨v, blk_below h1 hb, ownsRow_keep1 h2 fun b _ hlt _ => hb.block b hlt⟩
theorem AppT.of_below (hb : Below W.heap.size W W') : AppT β cv ia i W W' := ⟨hb.size, fun b hlt _ _ => hb.block b hlt⟩
/-- the append. -/
theorem AppInv.appended (h : AppInv w0 β T box off base E sz cv n cells m news ia is done W) (hd : done is = false) (hne : ia ≠ is) (hcv : ∀ g, cv.ownBlock = some g → g ≠ β) (hg : W.grownBy W' cv.ownBlock) (hβ : β < w0.heap.size) : AppInv w0 β T box off base E sz cv n cells m news ia is (updDone done ia) W' where
  os := hg.os.trans h.os
  tape := hg.tape.trans h.tape
  output := hg.output.trans h.output
  size := Nat.le_trans h.size hg.size
  blk := fun b hlt hn ho => (hg.block b (Nat.lt_of_lt_of_le hlt h.size) ho).trans (h.blk b hlt hn ho)
  before := fun _ => by rw [hg.block β (Nat.lt_of_lt_of_le hβ h.size) (fun e => hcv β e.symm rfl)]; exact h.before hd
  own := fun hd => by simp [updDone] at hd
  after := fun hd' => by simp [updDone, Ne.symm hne, hd] at hd'
theorem AppT.of_grown (hg : W.grownBy W' cv.ownBlock) : AppT β cv ia ia W W' := ⟨hg.size, fun b hlt _ h => hg.block b hlt (h rfl)⟩
/-- the store. -/
theorem AppInv.stored {v : Value} (h : AppInv w0 β T box off base E sz cv n cells m news ia is done W) (hd : done is = false) (hda : done ia = true) (hne : is ≠ ia) (hv : W.ownsRow base E sz v (n + m) (cells ++ news)) (hβ : β < base) :
    AppInv w0 β T box off base E sz cv n cells m news ia is (updDone done is) (W.setCell ⟨β, off, none⟩ v) where
  os := h.os
  tape := h.tape
  output := h.output
  size := by show _ ≤ (W.heap.modify _ _).size; rw [Array.size_modify]; exact h.size
  blk := fun b hlt hn ho => by
    have : (W.setCell ⟨β, off, none⟩ v).heap[b]? = W.heap[b]? := by
      show (W.heap.modify β _)[b]? = _
      rw [Array.getElem?_modify, if_neg (fun e => hn e.symm)]
    rw [this]; exact h.blk b hlt hn ho
  before := fun hd => by simp [updDone] at hd
  own := fun hd' => by simp [updDone, Ne.symm hne, hda] at hd'
  after := fun _ => by
    refine ⟨v, ?_, ownsRow_keep1 hv fun b hb _ _ => ?_⟩
    · show (W.heap.modify β _)[β]? = _
      rw [Array.getElem?_modify, if_pos rfl, h.before hd]
      rfl
    · show (W.heap.modify β _)[b]? = _
      rw [Array.getElem?_modify, if_neg (by omega)]
theorem AppT.of_store {v : Value} : AppT β cv ia i W (W.setCell ⟨β, off, none⟩ v) :=
  ⟨by show _ ≤ (W.heap.modify _ _).size; rw [Array.size_modify]; exact Nat.le_refl _, fun b _ hn _ => by
    show (W.heap.modify β _)[b]? = _
    rw [Array.getElem?_modify, if_neg (fun e => hn e.symm)]⟩
theorem AppInv.below {w : World} {B : Nat} (h : AppInv w0 β T box off base E sz cv n cells m news ia is done W) (hb : Below B w w0) (hβ : B ≤ β) (ho : ∀ g, cv.ownBlock = some g → B ≤ g) (hB : B ≤ w0.heap.size) : Below B w W :=
  hb.trans ⟨h.os, h.tape, h.output, h.size, fun b hlt => h.blk b (by omega) (by omega) (fun e => by have := ho b e.symm; omega)⟩
def goodSpecs (N O : Value → World → Prop) (ia : Nat) : List Spec → Nat → Prop
  | [], _ => True
  | s :: r, k => ((∃ x, s = ex x) ∨ s = pr N ∨ (k = ia ∧ s = pr O)) ∧ goodSpecs N O ia r (k + 1)
theorem goodSpecs_get {N O : Value → World → Prop} {ia : Nat} : ∀ (ss : List Spec) (k0 : Nat), goodSpecs N O ia ss k0 → ∀ (k : Nat) (s : Spec), ss[k]? = some s → (∃ x, s = ex x) ∨ s = pr N ∨ (k0 + k = ia ∧ s = pr O)
  | [], _, _, _, _, h => by simp at h
  | s0 :: r, k0, hg, 0, s, h => by simp at h; subst h; exact hg.1
  | s0 :: r, k0, hg, k + 1, s, h => by
    have := goodSpecs_get r (k0 + 1) hg.2 k s (by simpa using h)
    rw [show k0 + (k + 1) = k0 + 1 + k by omega]; exact this
/-- THE LAW of such a region. -/
theorem wp_region_app {P : Program} {l : List Oper} {Q : Exit → Act → World → Prop} {a : Act} {id : Nat} (β : Nat) (T : TypeId) (box : Array Value) (off base : Nat) (E : TypeId) (sz : Nat) (cv : Value) (n : Nat) (cells : List Value) (m : Nat) (news : List Value) (ia is : Nat)
    (hm : P.follows .mixedOrders = true) (hB : monoB2 (l.map prune) a.tmps.size = true) (hbox : w0.heap[β]? = some (.cells box T)) (hown : w0.ownsRow base E sz cv n cells) (hβ : β < base) (hβ' : β < w0.heap.size)
    (bs : List (List Nat)) (hbs : befores (l.map prune) [] = bs) (ss : List Spec)
    (h : walkP P l.toArray (AppInv w0 β T box off base E sz cv n cells m news ia is) (AppT β cv ia) bs (Q .normal) l.length l ss 0 a [] (fun _ => True))
    (hss : goodSpecs (NewP w0.heap.size E m news.toArray) (OwnP base E sz (n + m) (cells ++ news)) ia ss 0) : (Code.region id l.toArray true).wp P Q a w0 := by
  refine wp_region_done3 ss _ (AppT β cv ia) hm hB (fun i k s hik hk v done w w' _ hT hf => ?_) (AppInv.start hbox hown) bs hbs h
  have hlt : ∀ g, cv.ownBlock = some g → g < w0.heap.size := fun g hg => (hown.lt g hg).2
  rcases goodSpecs_get ss 0 hss k s hk with ⟨x, rfl⟩ | rfl | ⟨hka, rfl⟩
  · trivial
  · exact NewP.stable hβ' hlt hT hf
  · exact OwnP.stable hβ (by omega) hT hf
end
end Go.Proofs.YtkiipnbjckdlbaaGreatDoor
namespace Go.Proofs.YtkiipnbjckdlbaaGreatDoor
open Go.RowKit

def valOr (X : Option ((Nat → Value) → Value)) (vf : Nat → Value) (k : Nat) : Value := match X with
  | some X => X vf
  | none => vf k
def valsOf (Xs : Nat → Option ((Nat → Value) → Value)) (vf : Nat → Value) (k : Nat) : Value := valOr (Xs k) vf k
def updVal (vf : Nat → Value) (i : Nat) (v : Value) : Nat → Value := fun j => if j = i then v else vf j
def Proper (bs : List (List Nat)) (i : Nat) (X : (Nat → Value) → Value) : Prop := ∀ f g : Nat → Value, (∀ m ∈ bs.getD i [], f m = g m) → X f = X g
section
variable (P : Program) (ops : Array Oper) (Inv : (Nat → Bool) → World → Prop) (T : Nat → (Nat → Value) → World → World → Prop) (F : Nat → (Nat → Bool) → (Nat → Value) → World → Prop) (bs : List (List Nat)) (Q : Act → World → Prop) (n : Nat)
def relOb (i : Nat) (o : Oper) (av : (Nat → Value) → Act) (E : (Nat → Value) → Value → Prop) : Prop :=
  ∀ (done : Nat → Bool) (vf : Nat → Value) (w : World), Inv done w → done i = false → (∀ k ∈ (prune o).after.toList.map (fun e => e.on), done k = true) → (∀ k : Nat, i ∈ bs.getD k [] → done k = false) → (∀ k, done k = true → F k done vf w) →
    ∀ R : Value → World → Prop, (∀ (v : Value) (w' : World), Inv (updDone done i) w' → T i vf w w' → E vf v → F i (updDone done i) (updVal vf i v) w' → R v w') → if Region.wanted o (yielded ops (av vf).tmps) then gives P o (av vf) w R else R undef w
def relWalk : List Oper → Nat → ((Nat → Value) → Act) → Prop
  | [], _, av => ∀ (done : Nat → Bool) (vf : Nat → Value) (w : World), (∀ k, k < n → done k = true) → Inv done w → (∀ k, k < n → F k done vf w) → Q (av vf) w
  | o :: l, i, av => (∃ X : (Nat → Value) → Value, Proper bs i X ∧ relOb P ops Inv T F bs i o av (fun vf v => v = X vf) ∧ relWalk l (i + 1) (fun vf => (av vf).put o.dst (X vf))) ∨
      (relOb P ops Inv T F bs i o av (fun _ _ => True) ∧ relWalk l (i + 1) (fun vf => (av vf).put o.dst (vf i)))
end
section
variable {P : Program} {ops : Array Oper} {Inv : (Nat → Bool) → World → Prop} {T : Nat → (Nat → Value) → World → World → Prop} {F : Nat → (Nat → Bool) → (Nat → Value) → World → Prop} {bs : List (List Nat)} {Q : Act → World → Prop} {n : Nat} {o : Oper} {l : List Oper} {i : Nat} {av : (Nat → Value) → Act}
/-- an operation whose value is told. -/
theorem rel_ex (h : ∀ K : ((Nat → Value) → Act) → Prop, (∀ a', relWalk P ops Inv T F bs Q n l (i + 1) a' → K a') → ∃ X : (Nat → Value) → Value, relOb P ops Inv T F bs i o av (fun vf v => v = X vf) ∧ Proper bs i X ∧ K (fun vf => (av vf).put o.dst (X vf))) : relWalk P ops Inv T F bs Q n (o :: l) i av := by
  obtain ⟨X, h1, h2, h3⟩ := h _ (fun _ h => h)
  exact .inl ⟨X, h2, h1, h3⟩
/-- an operation whose value meets a fact. -/
theorem rel_pr (h : ∀ K : ((Nat → Value) → Act) → Prop, (∀ a', relWalk P ops Inv T F bs Q n l (i + 1) a' → K a') → relOb P ops Inv T F bs i o av (fun _ _ => True) ∧ K (fun vf => (av vf).put o.dst (vf i))) : relWalk P ops Inv T F bs Q n (o :: l) i av := by
  exact .inr (h _ (fun _ h => h))
end
theorem lexAct_congr {f g : Nat → Value} : ∀ (l : List Oper) (i : Nat) (a : Act), (∀ k, i ≤ k → f k = g k) → lexAct f l i a = lexAct g l i a
  | [], _, _, _ => rfl
  | o :: l, i, a, h => by
    simp only [lexAct]
    rw [h i (Nat.le_refl _)]
    exact lexAct_congr l (i + 1) _ (fun k hk => h k (by omega))
def exOf (X : Option ((Nat → Value) → Value)) (vf : Nat → Value) (v : Value) : Prop := ∀ Y, X = some Y → v = Y vf
section
variable {P : Program} {ops : Array Oper} {Inv : (Nat → Bool) → World → Prop} {T : Nat → (Nat → Value) → World → World → Prop} {F : Nat → (Nat → Bool) → (Nat → Value) → World → Prop} {bs : List (List Nat)} {Q : Act → World → Prop} {n : Nat}
theorem rel_ext : ∀ (l : List Oper) (i : Nat) (av : (Nat → Value) → Act), relWalk P ops Inv T F bs Q n l i av → ∃ Xs : Nat → Option ((Nat → Value) → Value),
    (∀ k X, Xs k = some X → Proper bs k X) ∧ (∀ j o, l[j]? = some o → relOb P ops Inv T F bs (i + j) o (fun vf => lexAct (valsOf Xs vf) (l.take j) i (av vf)) (exOf (Xs (i + j)))) ∧
    (∀ (done : Nat → Bool) (vf : Nat → Value) (w : World), (∀ k, k < n → done k = true) → Inv done w → (∀ k, k < n → F k done vf w) → Q (lexAct (valsOf Xs vf) l i (av vf)) w)
  | [], i, av, h => ⟨fun _ => none, (fun _ _ h => by cases h), (fun j o hj => by simp at hj), h⟩
  | o :: l, i, av, h => by
    have main : ∀ (X0 : Option ((Nat → Value) → Value)), (∀ X, X0 = some X → Proper bs i X) → relOb P ops Inv T F bs i o av (exOf X0) →
        (∃ Xs : Nat → Option ((Nat → Value) → Value), (∀ k X, Xs k = some X → Proper bs k X) ∧ (∀ j o', l[j]? = some o' → relOb P ops Inv T F bs (i + 1 + j) o' (fun vf => lexAct (valsOf Xs vf) (l.take j) (i + 1) ((av vf).put o.dst (valOr X0 vf i))) (exOf (Xs (i + 1 + j)))) ∧
          (∀ (done : Nat → Bool) (vf : Nat → Value) (w : World), (∀ k, k < n → done k = true) → Inv done w → (∀ k, k < n → F k done vf w) → Q (lexAct (valsOf Xs vf) l (i + 1) ((av vf).put o.dst (valOr X0 vf i))) w)) →
        ∃ Xs : Nat → Option ((Nat → Value) → Value), (∀ k X, Xs k = some X → Proper bs k X) ∧ (∀ j o', (o :: l)[j]? = some o' → relOb P ops Inv T F bs (i + j) o' (fun vf => lexAct (valsOf Xs vf) ((o :: l).take j) i (av vf)) (exOf (Xs (i + j)))) ∧
          (∀ (done : Nat → Bool) (vf : Nat → Value) (w : World), (∀ k, k < n → done k = true) → Inv done w → (∀ k, k < n → F k done vf w) → Q (lexAct (valsOf Xs vf) (o :: l) i (av vf)) w) := by
      rintro X0 hp0 hob ⟨Xs, hp, hobs, hend⟩
      let Ys : Nat → Option ((Nat → Value) → Value) := fun k => if k = i then X0 else Xs k
      have yi : Ys i = X0 := if_pos rfl
      have yk : ∀ k, i + 1 ≤ k → Ys k = Xs k := fun k hk => if_neg (by omega)
      have hv : ∀ vf, valsOf Ys vf i = (valOr X0 vf i) := fun vf => by unfold valsOf; rw [yi]
      have hc : ∀ (m : List Oper) (vf : Nat → Value) (a : Act), lexAct (valsOf Ys vf) m (i + 1) a = lexAct (valsOf Xs vf) m (i + 1) a := fun m vf a => lexAct_congr m (i + 1) a fun k hk => by unfold valsOf; rw [yk k hk]
      refine ⟨Ys, fun k X hk => ?_, fun j o' hj => ?_, fun done vf w hd hI hF => ?_⟩
      · by_cases e : k = i
        · subst e; rw [yi] at hk; exact hp0 X hk
        · have : Ys k = Xs k := if_neg e
          rw [this] at hk; exact hp k X hk
      · cases j with
        | zero =>
          simp only [List.getElem?_cons_zero, Option.some.injEq] at hj
          subst hj
          rw [Nat.add_zero, yi]
          exact hob
        | succ j =>
          have := hobs j o' (by simpa using hj)
          rw [show i + (j + 1) = i + 1 + j by omega, yk _ (by omega)]
          refine (congrArg (fun a => relOb P ops Inv T F bs (i + 1 + j) o' a (exOf (Xs (i + 1 + j)))) ?_).mp this
          funext vf
          simp only [List.take_succ_cons, lexAct, hv]
          exact (hc _ _ _).symm
      · simp only [lexAct, hv]
        rw [hc]
        exact hend done vf w hd hI hF
    rcases h with ⟨X, hp, hob, hw⟩ | ⟨hob, hw⟩
    · exact main (some X) (fun Y e => by injection e with e; subst e; exact hp) (fun done vf w h1 h2 h3 h4 h5 R hR => hob done vf w h1 h2 h3 h4 h5 R fun v w' a b c d => hR v w' a b (fun Y e => by injection e with e; subst e; exact c) d) (rel_ext l (i + 1) _ hw)
    · exact main none (fun Y e => by cases e) (fun done vf w h1 h2 h3 h4 h5 R hR => hob done vf w h1 h2 h3 h4 h5 R fun v w' a b _ d => hR v w' a b (fun Y e => by cases e) d) (rel_ext l (i + 1) _ hw)
end

/-- What holds when the operations that are listed have been done. -/
structure RelInv (l : List Oper) (Xs : Nat → Option ((Nat → Value) → Value)) (Inv : (Nat → Bool) → World → Prop) (F : Nat → (Nat → Bool) → (Nat → Value) → World → Prop) (a : Act) (vf : Nat → Value) (listed : Array Bool) (a' : Act) (w' : World) : Prop where
  cls : Inv (fun k => listed[k]? == some true) w'
  down : ∀ (j : Nat) (o : Oper), l[j]? = some o → listed[j]? = some true → ∀ e ∈ o.after, listed[e.on]? = some true
  lsize : listed.size = l.length
  defers : a'.defers = a.defers
  size : a'.tmps.size = a.tmps.size
  vals : ∀ j, listed[j]? = some true → vf j = valsOf Xs vf j
  facts : ∀ j, listed[j]? = some true → F j (fun k => listed[k]? == some true) vf w'
  slots : ∀ (j : Nat) (o : Oper), l[j]? = some o → listed[j]? = some true → ∀ d, o.dst = some d → a'.tmps[d]? = some (vf j)
  rest : ∀ t, (∀ (j : Nat) (o : Oper), l[j]? = some o → listed[j]? = some true → o.dst ≠ some t) → a'.tmps[t]? = a.tmps[t]?

section
variable {P : Program} {l : List Oper} {Inv : (Nat → Bool) → World → Prop} {T : Nat → (Nat → Value) → World → World → Prop} {F : Nat → (Nat → Bool) → (Nat → Value) → World → Prop} {Q : Exit → Act → World → Prop} {a : Act}
theorem wpAny_rel (hB : monoB2 l a.tmps.size = true) (hpr : ∀ o ∈ l, prune o = o)
    (hst : ∀ (i : Nat) (done : Nat → Bool) (vf : Nat → Value) (w w' : World), Inv done w → done i = false → (∀ m ∈ (befores l []).getD i [], done m = true) → (∀ m, done m = true → F m done vf w) → T i vf w w' → ∀ k, done k = true → F k (updDone done i) vf w')
    (hF : ∀ (k : Nat) (done : Nat → Bool) (f g : Nat → Value) (w : World), (∀ m ∈ (befores l []).getD k [], f m = g m) → f k = g k → F k done f w → F k done g w)
    (h : relWalk P l.toArray Inv T F (befores l []) (Q .normal) l.length l 0 (fun _ => a)) :
    ∃ Xs, ∀ (fuel : Nat) (listed : Array Bool) (vf : Nat → Value) (a' : Act) (w' : World), (undone listed l.length).length ≤ fuel → RelInv l Xs Inv F a vf listed a' w' → wpAny P .any l.toArray Q fuel listed a' w' := by
  obtain ⟨Xs, hpX, hobs, hend⟩ := rel_ext l 0 _ h
  refine ⟨Xs, ?_⟩
  have hS := fun {i : Nat} {o : Oper} (hi : l[i]? = some o) => monoB2_spec hB hi
  have fin : ∀ (listed : Array Bool) (vf : Nat → Value) (a' : Act) (w' : World), (∀ j, j < l.length → listed[j]? = some true) → RelInv l Xs Inv F a vf listed a' w' → Q .normal a' w' := by
    intro listed vf a' w' hall hI
    have hq := hend _ vf w' (fun k hk => by simp [hall k hk]) hI.cls (fun k hk => hI.facts k (hall k hk))
    have ea : a' = lexAct (valsOf Xs vf) l 0 a := by
      obtain ⟨hz, hd⟩ := lexAct_size (valsOf Xs vf) l 0 a
      have ht : a'.tmps = (lexAct (valsOf Xs vf) l 0 a).tmps := by
        apply Array.ext_getElem?
        intro t
        by_cases hex : ∃ (j : Nat) (o : Oper), l[j]? = some o ∧ o.dst = some t
        · obtain ⟨j, o, hj, hdt⟩ := hex
          have hjl := (List.getElem?_eq_some_iff.1 hj).1
          obtain ⟨hlt, huniq⟩ := (hS hj).2.2.2 t hdt
          rw [lexAct_same _ l 0 a j o hj hdt huniq hlt, Nat.zero_add, ← hI.vals j (hall j hjl)]
          exact hI.slots j o hj (hall j hjl) t hdt
        · have hn : ∀ (j : Nat) (o : Oper), l[j]? = some o → o.dst ≠ some t := fun j o hj e => hex ⟨j, o, hj, e⟩
          rw [lexAct_other _ l 0 a (fun o ho => by obtain ⟨j, hj⟩ := List.getElem?_of_mem ho; exact hn j o hj)]
          exact hI.rest t (fun j o hj _ => hn j o hj)
      cases a'; cases hx : lexAct (valsOf Xs vf) l 0 a
      rw [hx] at ht hd
      have := hI.defers
      simp_all
    rw [ea]; exact hq
  have allIf : ∀ (listed : Array Bool), listed.size = l.length → Region.ready .any l.toArray listed = [] → ∀ j, j < l.length → listed[j]? = some true := by
    intro listed hsz hr j
    induction j using Nat.strongRecOn with
    | ind j ih =>
      intro hj
      have hsome : listed[j]? = some listed[j] := Array.getElem?_eq_getElem (by omega)
      cases hb : listed[j] with
      | true => rw [hsome, hb]
      | false =>
        have : j ∈ Region.ready .any l.toArray listed := by
          rw [mem_ready]
          refine ⟨by simp [Array.getD_eq_getD_getElem?, hsome, hb], l[j], by simp [hj], fun e he _ => ?_⟩
          have h1 := ((hS (List.getElem?_eq_getElem hj)).2.1 e he).1
          have h2 := ih e.on h1 (by omega)
          simp [Array.getD_eq_getD_getElem?, h2]
        rw [hr] at this
        cases this
  intro fuel
  induction fuel with
  | zero =>
    intro listed vf a' w' hf hI
    have hall : ∀ j, j < l.length → listed[j]? = some true := by
      intro j hj
      have h0 : undone listed l.length = [] := List.eq_nil_of_length_eq_zero (by omega)
      unfold undone at h0
      rw [List.filter_eq_nil_iff] at h0
      simpa using h0 j (List.mem_range.2 hj)
    refine ⟨?_, fin _ _ _ _ hall hI⟩
    rw [List.eq_nil_iff_forall_not_mem]
    intro j hj
    obtain ⟨h0, o, ho, _⟩ := mem_ready.1 hj
    have hj' : j < l.length := by
      have := (Array.getElem?_eq_some_iff.1 ho).1
      simpa using this
    simp [Array.getD_eq_getD_getElem?, hall j hj'] at h0
  | succ fuel ih =>
    intro listed vf a' w' hf hI
    refine ⟨fun hr => fin _ _ _ _ (allIf listed hI.lsize hr) hI, fun i hi => ?_⟩
    obtain ⟨h0, o, ho, hdep⟩ := mem_ready.1 hi
    have hil : l[i]? = some o := by simpa using ho
    have hilt : i < l.length := (List.getElem?_eq_some_iff.1 hil).1
    have hnl : listed[i]? ≠ some true := fun e => by simp [Array.getD_eq_getD_getElem?, e] at h0
    obtain ⟨hsel, hafter, hlooks, hdst⟩ := hS hil
    have hdone : ∀ e ∈ o.after, listed[e.on]? = some true := fun e he => by
      have := hdep e he (hafter e he).2
      rw [Array.getD_eq_getD_getElem?] at this
      cases hx : listed[e.on]? with
      | none => simp [hx] at this
      | some b => simp [hx] at this; rw [this]
    have hob := hobs i o hil
    rw [Nat.zero_add] at hob
    have hclosed : ∀ k m : Nat, m ∈ (befores l []).getD k [] → listed[k]? = some true → listed[m]? = some true := fun k m hk hlk =>
      befores_spec l [] (fun k i => listed[k]? = some true → listed[i]? = some true) (fun k i h => by simp at h) (fun j o' e hj he hlj => by
        simp at hlj; exact hI.down j o' hj hlj e he) (fun a b c h1 h2 h3 => h2 (h1 h3)) k m hk hlk
    have hsame : ∀ t ∈ o.looksAt l.toArray, (lexAct (valsOf Xs vf) (l.take i) 0 a).tmps[t]? = a'.tmps[t]? := by
      intro t ht
      by_cases hex : ∃ (j : Nat) (o' : Oper), l[j]? = some o' ∧ o'.dst = some t
      · obtain ⟨j, o', hj, hdt⟩ := hex
        rcases hlooks t ht j o' hj hdt with ⟨hji, e, he, hej⟩ | hbef
        rotate_left
        · have hij : i < j := befores_spec l [] (fun k i => i < k) (fun k i h => by simp at h) (fun j o' e hj he => by
            have := ((hS (show l[j]? = some o' from hj)).2.1 e he).1; simpa using this) (fun a b c h1 h2 => Nat.lt_trans h2 h1) j i hbef
          have hnj : listed[j]? ≠ some true := fun hlj => hnl (hclosed j i hbef hlj)
          obtain ⟨_, huniq⟩ := (hS hj).2.2.2 t hdt
          rw [lexAct_other _ (l.take i) 0 a (fun o'' ho'' => by
            obtain ⟨k, hk⟩ := List.getElem?_of_mem ho''
            have hki : k < i := by have := (List.getElem?_eq_some_iff.1 hk).1; simp at this; omega
            rw [List.getElem?_take_of_lt hki] at hk
            exact huniq k o'' hk (by omega))]
          refine (hI.rest t fun k o'' hk hlk => ?_).symm
          by_cases hkj : k = j
          · subst hkj; exact absurd hlk hnj
          · exact huniq k o'' hk hkj
        have hlj : listed[j]? = some true := hej ▸ hdone e he
        obtain ⟨hlt, huniq⟩ := (hS hj).2.2.2 t hdt
        rw [lexAct_same _ (l.take i) 0 a j o' (by rw [List.getElem?_take_of_lt hji]; exact hj) hdt (fun j' o'' hj' hne => huniq j' o'' (by
          have hlt' : j' < i := by
            have := (List.getElem?_eq_some_iff.1 hj').1
            simp at this; omega
          rw [List.getElem?_take_of_lt hlt'] at hj'; exact hj') hne) hlt, Nat.zero_add, ← hI.vals j hlj]
        exact (hI.slots j o' hj hlj t hdt).symm
      · have hn : ∀ (j : Nat) (o : Oper), l[j]? = some o → o.dst ≠ some t := fun j o hj e => hex ⟨j, o, hj, e⟩
        rw [lexAct_other _ (l.take i) 0 a (fun o' ho' => by obtain ⟨j, hj⟩ := List.getElem?_of_mem (List.mem_of_mem_take ho'); exact hn j o' hj)]
        exact (hI.rest t (fun j o hj _ => hn j o hj)).symm
    have hexec : execOp (lexAct (valsOf Xs vf) (l.take i) 0 a).eval o = execOp a'.eval o := by
      refine execOp_congr o hsel fun x hx => ?_
      cases x with
      | tmp t =>
        have := hsame t (List.mem_append_left _ (List.mem_filterMap.2 ⟨.tmp t, by simpa using hx, rfl⟩))
        simp [Act.eval, Array.getD_eq_getD_getElem?, this]
      | _ => rfl
    have hwant : Region.wanted o (yielded l.toArray (lexAct (valsOf Xs vf) (l.take i) 0 a).tmps) = Region.wanted o (yielded l.toArray a'.tmps) := by
      unfold Region.wanted
      cases hg : o.guard with
      | none => rfl
      | some gw =>
        obtain ⟨g, want⟩ := gw
        have hy : yielded l.toArray (lexAct (valsOf Xs vf) (l.take i) 0 a).tmps g = yielded l.toArray a'.tmps g := by
          unfold yielded
          cases ht : (l.toArray[g]?).bind (·.dst) with
          | none => rfl
          | some t =>
            have := hsame t (by simp only [Oper.looksAt, hg, ht]; simp)
            simp only [Option.bind_some, this]
        simp only [hy]
    have hnot : ∀ k : Nat, i ∈ (befores l []).getD k [] → ((fun k => listed[k]? == some true) k) = false := by
      intro k hk
      cases hx : (listed[k]? == some true) with
      | false => exact hx
      | true => exact absurd (hclosed k i hk (by simpa using hx)) hnl
    have hbi : ∀ m ∈ (befores l []).getD i [], listed[m]? = some true := fun m hm => by
      have hmi : m < i := befores_spec l [] (fun k i => i < k) (fun k i h => by simp at h) (fun j o' e hj he => by
          have := ((hS (show l[j]? = some o' from hj)).2.1 e he).1; simpa using this) (fun a b c h1 h2 => Nat.lt_trans h2 h1) i m hm
      have key := befores_spec l [] (fun k m => (k = i ∨ listed[k]? = some true) → (m = i ∨ listed[m]? = some true)) (fun k m h => by simp at h) (fun j o' e hj he hlj => by
        rw [List.length_nil, Nat.zero_add] at hlj
        rcases hlj with rfl | hlj
        · rw [hil] at hj
          obtain rfl : o = o' := by simpa using hj
          exact .inr (hdone e he)
        · exact .inr (hI.down j o' hj hlj e he)) (fun a b c h1 h2 h3 => h2 (h1 h3)) i m hm (.inl rfl)
      rcases key with h | h
      · omega
      · exact h
    have hres := hob _ vf w' hI.cls (by simpa using hnl) (fun k hk => by
      rw [hpr o (List.mem_of_getElem? hil)] at hk
      obtain ⟨e, he, rfl⟩ := List.mem_map.1 hk
      simp [hdone e (by simpa using he)]) hnot (fun k hk => hI.facts k (by simpa using hk))
      (fun v w'' => Inv (updDone (fun k => listed[k]? == some true) i) w'' ∧ T i vf w' w'' ∧ exOf (Xs i) vf v ∧ F i (updDone (fun k => listed[k]? == some true) i) (updVal vf i v) w'') (fun v w'' h0 h1 h2 h3 => ⟨h0, h1, h2, h3⟩)
    rw [hwant] at hres
    have next : ∀ v w'', Inv (updDone (fun k => listed[k]? == some true) i) w'' → T i vf w' w'' → exOf (Xs i) vf v → F i (updDone (fun k => listed[k]? == some true) i) (updVal vf i v) w'' → wpAny P .any l.toArray Q fuel (listed.setIfInBounds i true) (a'.put o.dst v) w'' := by
      intro v w'' hIv hT hE hFv
      have hu := undone_set hilt (by rw [hI.lsize]; exact Nat.le_refl _) hnl
      have hset : ∀ j, (listed.setIfInBounds i true)[j]? = some true → j = i ∨ (j ≠ i ∧ listed[j]? = some true) := fun j hj => by
        by_cases e : j = i
        · exact .inl e
        · rw [Array.getElem?_setIfInBounds_ne (Ne.symm e)] at hj
          exact .inr ⟨e, hj⟩
      have hagree : ∀ j, listed[j]? = some true → ∀ m ∈ (befores l []).getD j [], vf m = updVal vf i v m := fun j hj m hm => by
        have hm' := hclosed j m hm hj
        unfold updVal
        rw [if_neg (fun e : m = i => hnl (e ▸ hm'))]
      have hagreei : ∀ m ∈ (befores l []).getD i [], vf m = updVal vf i v m := fun m hm => by
        have hmi : m < i := befores_spec l [] (fun k i => i < k) (fun k i h => by simp at h) (fun j o' e hj he => by
            have := ((hS (show l[j]? = some o' from hj)).2.1 e he).1; simpa using this) (fun a b c h1 h2 => Nat.lt_trans h2 h1) i m hm
        unfold updVal
        rw [if_neg (by omega)]
      have hfun : updDone (fun k => listed[k]? == some true) i = fun k => (listed.setIfInBounds i true)[k]? == some true := by
        funext k
        unfold updDone
        by_cases e : k = i
        · subst e; rw [if_pos rfl, Array.getElem?_setIfInBounds_self_of_lt (by rw [hI.lsize]; exact hilt)]; simp
        · rw [if_neg e, Array.getElem?_setIfInBounds_ne (Ne.symm e)]
      refine ih _ (updVal vf i v) _ _ (by omega) ⟨?_, ?_, by simp [hI.lsize], ?_, ?_, ?_, ?_, ?_, ?_⟩
      · rw [← hfun]; exact hIv
      · intro j o' hj hlj e he
        by_cases hje : j = i
        · subst hje
          rw [hil] at hj
          obtain rfl : o = o' := by simpa using hj
          have := hdone e he
          by_cases hei : e.on = j
          · rw [hei, Array.getElem?_setIfInBounds_self_of_lt (by rw [hI.lsize]; exact hilt)]
          · rw [Array.getElem?_setIfInBounds_ne (Ne.symm hei)]; exact this
        · rw [Array.getElem?_setIfInBounds_ne (Ne.symm hje)] at hlj
          have := hI.down j o' hj hlj e he
          by_cases hei : e.on = i
          · rw [hei, Array.getElem?_setIfInBounds_self_of_lt (by rw [hI.lsize]; exact hilt)]
          · rw [Array.getElem?_setIfInBounds_ne (Ne.symm hei)]; exact this
      · rw [← hI.defers]; cases o.dst <;> rfl
      · rw [← hI.size]; cases o.dst <;> simp [Act.put]
      · intro j hj
        rcases hset j hj with rfl | ⟨hne, hj'⟩
        · have e1 : updVal vf j v j = v := if_pos rfl
          rw [e1]
          unfold valsOf
          cases hx : Xs j with
          | none => exact e1.symm
          | some X => exact (hE X hx).trans (hpX j X hx _ _ hagreei)
        · have e1 : updVal vf i v j = vf j := if_neg hne
          rw [e1, hI.vals j hj']
          unfold valsOf
          cases hx : Xs j with
          | none => exact e1.symm
          | some X => exact hpX j X hx _ _ (hagree j hj')
      · intro j hj
        rw [← hfun]
        rcases hset j hj with rfl | ⟨hne, hj'⟩
        · exact hFv
        · refine hF j _ vf _ w'' (hagree j hj') (by unfold updVal; rw [if_neg hne]) ?_
          exact hst i _ vf w' w'' hI.cls (by simpa using hnl) (fun m hm => by simpa using hbi m hm) (fun m hm => hI.facts m (by simpa using hm)) hT j (by simpa using hj')
      · intro j o' hj hlj d hd
        rcases hset j hlj with rfl | ⟨hne, hj'⟩
        · rw [hil] at hj
          obtain rfl : o = o' := by simpa using hj
          rw [hd, put_get_same (by rw [hI.size]; exact (hdst d hd).1)]
          unfold updVal; rw [if_pos rfl]
        · rw [put_get_other (fun e' => (hdst d e').2 j o' hj hne hd)]
          unfold updVal; rw [if_neg hne]
          exact hI.slots j o' hj hj' d hd
      · intro t ht
        have hti : o.dst ≠ some t := ht i o hil (by rw [Array.getElem?_setIfInBounds_self_of_lt (by rw [hI.lsize]; exact hilt)])
        rw [put_get_other hti]
        refine hI.rest t fun j o' hj hlj => ?_
        by_cases e : j = i
        · subst e; exact absurd hlj hnl
        · exact ht j o' hj (by rw [Array.getElem?_setIfInBounds_ne (Ne.symm e)]; exact hlj)
    unfold wpOp
    rw [ho]
    by_cases hw : Region.wanted o (yielded l.toArray a'.tmps) = true
    · simp only [hw, if_true] at hres ⊢
      refine .inl (wp_of_gives (R := fun v w'' => Inv (updDone (fun k => listed[k]? == some true) i) w'' ∧ T i vf w' w'' ∧ exOf (Xs i) vf v ∧ F i (updDone (fun k => listed[k]? == some true) i) (updVal vf i v) w'') ?_ fun v w'' ⟨h0, h1, h2, h3⟩ => next v w'' h0 h1 h2 h3)
      unfold gives at hres ⊢
      rw [← hexec]; exact hres
    · simp only [hw] at hres ⊢
      exact next _ _ hres.1 hres.2.1 hres.2.2.1 hres.2.2.2
end
theorem prune_prune (o : Oper) : prune (prune o) = prune o := by
  unfold prune
  simp only [Array.filter_filter, Bool.and_self]
theorem rel_prune {P : Program} {Inv : (Nat → Bool) → World → Prop} {T : Nat → (Nat → Value) → World → World → Prop} {F : Nat → (Nat → Bool) → (Nat → Value) → World → Prop} {bs : List (List Nat)} {Q : Act → World → Prop} {n : Nat} {ops' : List Oper} :
    ∀ (l : List Oper) (i : Nat) (av : (Nat → Value) → Act), relWalk P ops'.toArray Inv T F bs Q n l i av → relWalk P (ops'.map prune).toArray Inv T F bs Q n (l.map prune) i av
  | [], _, _, h => h
  | o :: l, i, av, h => by
    have one : ∀ E, relOb P ops'.toArray Inv T F bs i o av E → relOb P (ops'.map prune).toArray Inv T F bs i (prune o) av E := fun E h1 done vf w a b c d e R hR => by
      rw [prune_prune] at c
      have := h1 done vf w a b c d e R hR
      rw [← yielded_prune] at this
      exact this
    rcases h with ⟨X, hp, h1, h2⟩ | ⟨h1, h2⟩
    · exact .inl ⟨X, hp, one _ h1, rel_prune l (i + 1) _ h2⟩
    · exact .inr ⟨one _ h1, rel_prune l (i + 1) _ h2⟩
/-- THE LAW. -/
theorem wp_region_rel {P : Program} {l : List Oper} {Q : Exit → Act → World → Prop} {a : Act} {id : Nat} {w : World} (Inv : (Nat → Bool) → World → Prop) (T : Nat → (Nat → Value) → World → World → Prop) (F : Nat → (Nat → Bool) → (Nat → Value) → World → Prop)
    (hm : P.follows .mixedOrders = true) (hB : monoB2 (l.map prune) a.tmps.size = true) (bs : List (List Nat)) (hbs : befores (l.map prune) [] = bs)
    (hst : ∀ (i : Nat) (done : Nat → Bool) (vf : Nat → Value) (w w' : World), Inv done w → done i = false → (∀ m ∈ bs.getD i [], done m = true) → (∀ m, done m = true → F m done vf w) → T i vf w w' → ∀ k, done k = true → F k (updDone done i) vf w')
    (hF : ∀ (k : Nat) (done : Nat → Bool) (f g : Nat → Value) (w : World), (∀ m ∈ bs.getD k [], f m = g m) → f k = g k → F k done f w → F k done g w)
    (hC : Inv (fun _ => false) w.drew) (h : relWalk P l.toArray Inv T F bs (Q .normal) l.length l 0 (fun _ => a)) : (Code.region id l.toArray true).wp P Q a w := by
  subst hbs
  have h' := rel_prune (ops' := l) l 0 _ h
  rw [show l.length = (l.map prune).length by simp] at h'
  obtain ⟨Xs, hX⟩ := wpAny_rel hB (fun o ho => by obtain ⟨o', _, rfl⟩ := List.mem_map.1 ho; exact prune_prune o') hst hF h'
  refine wp_region_any hm (wpAny_prune _ _ _ _ (hX _ _ (fun _ => undef) _ _ ?_ ⟨?_, ?_, by simp, rfl, rfl, ?_, ?_, ?_, fun _ _ => rfl⟩))
  · have := List.length_filter_le (fun i => (Array.replicate l.toArray.size false)[i]? != some true) (List.range (l.map prune).length)
    simpa [undone] using this
  · refine (congrArg (fun d => Inv d _) ?_).mp hC
    funext k
    rw [Array.getElem?_replicate]
    split <;> simp
  · intro j o hj hl
    rw [Array.getElem?_replicate] at hl
    split at hl <;> simp at hl
  · intro j hl
    rw [Array.getElem?_replicate] at hl
    split at hl <;> simp at hl
  · intro j hl
    rw [Array.getElem?_replicate] at hl
    split at hl <;> simp at hl
  · intro j o hj hl
    rw [Array.getElem?_replicate] at hl
    split at hl <;> simp at hl
end Go.Proofs.YtkiipnbjckdlbaaGreatDoor
namespace Go.Proofs.YtkiipnbjckdlbaaGreatDoor
open Go.RowKit

def Typed (T0 : TypeId) (o : Obj) : Prop := ∃ cs fr, o = .cells cs T0 fr
/-- what may become of a world: blocks stay, but for those of the types ts. -/
structure InitT (ts : List TypeId) (w w' : World) : Prop where
  size : w.heap.size ≤ w'.heap.size
  keep : ∀ (k : Nat) (o : Obj), w.heap[k]? = some o → (∀ T ∈ ts, ¬ Typed T o) → w'.heap[k]? = some o
theorem InitT.of_below {ts : List TypeId} {w w' : World} (h : Below w.heap.size w w') : InitT ts w w' := ⟨h.size, fun _ _ hk _ => blk_below hk h⟩
theorem InitT.of_set {T0 : TypeId} {ts : List TypeId} (hT : T0 ∈ ts) {w : World} {b o : Nat} {v : Value} {cs : Array Value} {fr : Nat × Nat} (h : w.heap[b]? = some (.cells cs T0 fr)) : InitT ts w (w.setCell ⟨b, o, none⟩ v) := by
  refine ⟨by rw [set_size]; exact Nat.le_refl _, fun k o' hk hn => ?_⟩
  rw [set_other (fun e => by subst e; rw [h] at hk; injection hk with hk; exact hn T0 hT ⟨_, _, hk.symm⟩)]
  exact hk
theorem InitT.of_grown {T0 : TypeId} {ts : List TypeId} (hT : T0 ∈ ts) {w w' : World} {own : Option Nat} (hg : w.grownBy w' own) (ho : ∀ g, own = some g → ∃ o, w.heap[g]? = some o ∧ Typed T0 o) : InitT ts w w' := by
  refine ⟨hg.size, fun k o hk hn => ?_⟩
  rw [hg.block k (Array.getElem?_eq_some_iff.1 hk).1 (fun e => by
    obtain ⟨o', h1, h2⟩ := ho k e.symm
    rw [hk] at h1; injection h1 with h1; subst h1; exact hn T0 hT h2)]
  exact hk
theorem OwnSl.init {α : Type} {ts : List TypeId} {w w' : World} {base : Nat} {e : TypeId} {sz : Nat} {R : α → List Value → Prop} {v : Value} {xs : List α} (h : OwnSl w base e sz R v xs) (hi : InitT ts w w') (hne : e ∉ ts) : OwnSl w' base e sz R v xs := by
  obtain ⟨rows, hr, h1, h2⟩ := h
  refine ⟨rows, hr, h1, ?_⟩
  rcases h2 with h2 | ⟨g, cap, cur, hv, hg, hh, r⟩
  · exact .inl h2
  · refine .inr ⟨g, cap, cur, hv, hg, hi.keep g _ hh (fun T hT => ?_), r⟩
    rintro ⟨cs, fr, e'⟩
    injection e' with _ e2 _
    exact hne (e2 ▸ hT)
theorem OwnSl.set {α : Type} {w : World} {base : Nat} {e : TypeId} {sz : Nat} {R : α → List Value → Prop} {v x : Value} {xs : List α} {a : Addr} (h : OwnSl w base e sz R v xs) (hb : v.ownBlock ≠ some a.block) : OwnSl (w.setCell a x) base e sz R v xs := by
  obtain ⟨rows, hr, ho⟩ := h
  exact ⟨rows, hr, ownsRow_keep1 ho fun b _ _ hv => set_other (fun e => hb (by rw [← e]; exact hv))⟩
theorem OwnSl.base {α : Type} {w : World} {base base' : Nat} {e : TypeId} {sz : Nat} {R : α → List Value → Prop} {v : Value} {xs : List α} (h : OwnSl w base e sz R v xs) (hb : base' ≤ base) : OwnSl w base' e sz R v xs := by
  obtain ⟨rows, hr, h1, h2⟩ := h
  refine ⟨rows, hr, h1, ?_⟩
  rcases h2 with h2 | ⟨g, cap, cur, hv, hg, r⟩
  · exact .inl h2
  · exact .inr ⟨g, cap, cur, hv, Nat.le_trans hb hg, r⟩
/-- a cell put anew. -/
theorem OwnSl.put {α : Type} {w : World} {base b n c : Nat} {e : TypeId} {sz : Nat} {R : α → List Value → Prop} {xs : List α} (h : OwnSl w base e sz R (.slice (some ⟨b, 0, none⟩) n c) xs) {i j : Nat} (hi : i < xs.length) (hj : j < sz) {y : α} {u : Value} (hR : ∀ r, R xs[i] r → R y (r.set j u)) :
    OwnSl (w.setCell ⟨b, i * sz + j, none⟩ u) base e sz R (.slice (some ⟨b, 0, none⟩) n c) (xs.set i y) := by
  obtain ⟨rows, hr, h1, h2⟩ := h
  rcases h2 with ⟨h0, _⟩ | ⟨g, cap, cur, hv, hg, hh, hnc, hcm, hcs, htk⟩
  · cases h0
  injection hv with ha hn hc
  injection ha with ha; injection ha with ha
  subst ha hn hc
  have hir : i < rows.length := by rw [hr.len]; exact hi
  have hsz := hr.size _ (List.getElem_mem hir)
  have hrows : RowsOf sz R (xs.set i y) (rows.set i (rows[i].set j u)) := by
    refine ⟨by simp [hr.len], fun r hrm => ?_, fun k x r hx hk => ?_⟩
    · rcases List.mem_or_eq_of_mem_set hrm with h | h
      · exact hr.size r h
      · rw [h, List.length_set]; exact hsz
    · by_cases e : i = k
      · subst e
        rw [List.getElem?_set_self hi] at hx
        rw [List.getElem?_set_self hir] at hk
        injection hx with hx; injection hk with hk
        subst hx hk
        exact hR _ (hr.rel i _ _ (List.getElem?_eq_getElem hi) (List.getElem?_eq_getElem hir))
      · rw [List.getElem?_set_ne e] at hx hk
        exact hr.rel k x r hx hk
  have hfl := flat_len _ hrows.size
  have hlen : (rows.set i (rows[i].set j u)).length = xs.length := by simp [hr.len]
  refine ⟨_, hrows, by rw [hfl, hlen, List.length_set], .inr ⟨b, c, cur.setIfInBounds (i * sz + j) u, by simp, hg, set_at hh, by simpa using hnc, hcm, by simp [hcs], ?_⟩⟩
  rw [List.length_set]
  have hlt : i * sz + j < xs.length * sz := by
    calc i * sz + j < i * sz + sz := by omega
      _ = (i + 1) * sz := by rw [Nat.add_mul]; omega
      _ ≤ xs.length * sz := Nat.mul_le_mul_right _ hi
  apply List.ext_getElem?
  intro k
  by_cases hk : k < xs.length * sz
  · rw [List.getElem?_take_of_lt hk, Array.getElem?_toList]
    have hsz0 : 0 < sz := by omega
    have hdm : k / sz * sz + k % sz = k := by rw [Nat.mul_comm]; exact Nat.div_add_mod k sz
    have hm : k % sz < sz := Nat.mod_lt _ hsz0
    have hd : k / sz < xs.length := (Nat.div_lt_iff_lt_mul hsz0).2 hk
    have g1 : (rows.set i (rows[i].set j u)).flatten[k]? = (rows.set i (rows[i].set j u))[k / sz]?.bind fun r => r[k % sz]? := by
      have hlt2 : k / sz < (rows.set i (rows[i].set j u)).length := by rw [hlen]; exact hd
      have h := flat_get _ (k / sz) _ hrows.size (List.getElem?_eq_getElem hlt2) (k % sz) hm
      rw [hdm] at h
      rw [h, List.getElem?_eq_getElem hlt2]; rfl
    have g2 : rows.flatten[k]? = rows[k / sz]?.bind fun r => r[k % sz]? := by
      have hlt2 : k / sz < rows.length := by rw [hr.len]; exact hd
      have h := flat_get _ (k / sz) _ hr.size (List.getElem?_eq_getElem hlt2) (k % sz) hm
      rw [hdm] at h
      rw [h, List.getElem?_eq_getElem hlt2]; rfl
    rw [g1]
    by_cases e : k = i * sz + j
    · subst e
      have e1 : (i * sz + j) / sz = i := by rw [Nat.mul_comm, Nat.mul_add_div hsz0, Nat.div_eq_of_lt hj, Nat.add_zero]
      have e2 : (i * sz + j) % sz = j := by rw [Nat.mul_comm, Nat.mul_add_mod, Nat.mod_eq_of_lt hj]
      rw [Array.getElem?_setIfInBounds_self_of_lt (by rw [hcs]; exact Nat.lt_of_lt_of_le hlt (Nat.mul_le_mul_right _ hnc)), e1, e2, List.getElem?_set_self hir]
      show some u = (rows[i].set j u)[j]?
      rw [List.getElem?_set_self (by omega)]
    · rw [Array.getElem?_setIfInBounds_ne (Ne.symm e), ← Array.getElem?_toList, ← List.getElem?_take_of_lt (l := cur.toList) hk, htk, g2]
      by_cases ei : i = k / sz
      · rw [← ei, List.getElem?_set_self hir, List.getElem?_eq_getElem hir]
        show rows[i][k % sz]? = (rows[i].set j u)[k % sz]?
        rw [List.getElem?_set_ne (fun ej => e (by rw [← hdm, ← ei, ← ej]))]
      · rw [List.getElem?_set_ne ei]
  · rw [List.getElem?_eq_none (by rw [List.length_take]; omega), List.getElem?_eq_none (by rw [hfl, hlen]; omega)]
theorem OwnSl.slice {α : Type} {w : World} {base : Nat} {e : TypeId} {sz : Nat} {R : α → List Value → Prop} {v : Value} {xs : List α} (h : OwnSl w base e sz R v xs) : ∃ a c, v = .slice a xs.length c := by
  obtain ⟨rows, _, _, h2⟩ := h
  rcases h2 with ⟨hv, hn⟩ | ⟨g, cap, cur, hv, _⟩
  · exact ⟨_, _, by rw [hv, hn]⟩
  · exact ⟨_, _, hv⟩
theorem OwnSl.addr {α : Type} {w : World} {base : Nat} {e : TypeId} {sz n c : Nat} {a : Option Addr} {R : α → List Value → Prop} {xs : List α} (h : OwnSl w base e sz R (.slice a n c) xs) (h0 : 0 < xs.length) : ∃ b, a = some ⟨b, 0, none⟩ ∧ base ≤ b ∧ b < w.heap.size ∧ ∃ cur, w.heap[b]? = some (.cells cur e) := by
  obtain ⟨rows, _, h1, h2⟩ := h
  rcases h2 with ⟨_, hn⟩ | ⟨g, cap, cur, hv, hg, hh, _⟩
  · omega
  · injection hv with ha hn hc
    exact ⟨g, ha, hg, (Array.getElem?_eq_some_iff.1 hh).1, cur, hh⟩
theorem OwnSl.typed {α : Type} {w : World} {base : Nat} {e : TypeId} {sz : Nat} {R : α → List Value → Prop} {v : Value} {xs : List α} (h : OwnSl w base e sz R v xs) : ∀ g, v.ownBlock = some g → ∃ o, w.heap[g]? = some o ∧ Typed e o := by
  obtain ⟨rows, _, _, h2⟩ := h
  intro g hg
  rcases h2 with ⟨hv, _⟩ | ⟨g', cap, cur, hv, _, hh, _⟩
  · subst hv; simp [Value.ownBlock] at hg
  · subst hv; simp [Value.ownBlock] at hg; subst hg; exact ⟨_, hh, _, _, rfl⟩
theorem InitT.trans {ts : List TypeId} {w w' w'' : World} (h : InitT ts w w') (h' : InitT ts w' w'') : InitT ts w w'' := ⟨Nat.le_trans h.size h'.size, fun k o hk hn => h'.keep k o (h.keep k o hk hn) hn⟩
theorem two_cells {cs : Array Value} (h : cs.size = 2) : ∃ c0 c1, cs = #[c0, c1] := by
  obtain ⟨l⟩ := cs
  match l, h with
  | [c0, c1], _ => exact ⟨c0, c1, rfl⟩
theorem five_cells {cs : Array Value} (h : cs.size = 5) : ∃ c0 c1 c2 c3 c4, cs = #[c0, c1, c2, c3, c4] := by
  obtain ⟨l⟩ := cs
  match l, h with
  | [c0, c1, c2, c3, c4], _ => exact ⟨c0, c1, c2, c3, c4, rfl⟩
theorem InitT.of_sets5 {T0 : TypeId} {w : World} {b : Nat} {v0 v1 v2 v3 v4 : Value} {cs : Array Value} (h : w.heap[b]? = some (.cells cs T0)) :
    InitT [T0] w (((((w.setCell ⟨b, 0, none⟩ v0).setCell ⟨b, 1, none⟩ v1).setCell ⟨b, 2, none⟩ v2).setCell ⟨b, 3, none⟩ v3).setCell ⟨b, 4, none⟩ v4) :=
  have m : T0 ∈ [T0] := by simp
  InitT.trans (InitT.trans (InitT.trans (InitT.trans (.of_set m h) (.of_set m (set_at h))) (.of_set m (set_at (set_at h)))) (.of_set m (set_at (set_at (set_at h))))) (.of_set m (set_at (set_at (set_at (set_at h)))))
theorem blk_init {ts : List TypeId} {w w' : World} {b : Nat} {cs : Array Value} {T : TypeId} (h : w.heap[b]? = some (.cells cs T)) (hi : InitT ts w w') (hT : T ∉ ts) : w'.heap[b]? = some (.cells cs T) :=
  hi.keep b _ h fun T' hT' => by
    rintro ⟨cs', fr, e'⟩
    injection e' with _ e2 _
    exact hT (e2 ▸ hT')
def VarAt (B : Nat) (T0 : TypeId) (sz : Nat) (v : Value) (w : World) : Prop := ∃ b, v = .pointer (some ⟨b, 0, none⟩) ∧ B ≤ b ∧ ∃ cs, cs.size = sz ∧ w.heap[b]? = some (.cells cs T0)
def VarIs (T0 : TypeId) (v : Value) (cs : Array Value) (w : World) : Prop := ∃ b, v = .pointer (some ⟨b, 0, none⟩) ∧ w.heap[b]? = some (.cells cs T0)
def initF (B : Nat) (T0 : TypeId) (sz : Nat) (ia is : Nat) (news : (Nat → Value) → Array Value) (G : Nat → (Nat → Bool) → (Nat → Value) → World → Prop) (k : Nat) (done : Nat → Bool) (vf : Nat → Value) (w : World) : Prop :=
  if k = ia then VarAt B T0 sz (vf ia) w else if k = is then VarIs T0 (vf ia) (news vf) w else G k done vf w
def initT (T0 : TypeId) (ts : Nat → List TypeId) (ia is : Nat) (news : (Nat → Value) → Array Value) (i : Nat) (vf : Nat → Value) (w w' : World) : Prop :=
  InitT (if i = is then [T0] else ts i) w w' ∧ (i = is → VarIs T0 (vf ia) (news vf) w')
def initI (B : Nat) (w0 : World) (_ : Nat → Bool) (w : World) : Prop := Cls B w0 w
theorem initT.plain {T0 : TypeId} {ts : Nat → List TypeId} {ia is i : Nat} {news : (Nat → Value) → Array Value} {vf : Nat → Value} {w w' : World} (h : Below w.heap.size w w') (hi : i ≠ is) : initT T0 ts ia is news i vf w w' := ⟨.of_below h, fun e => absurd e hi⟩
theorem initT.other {T0 : TypeId} {ts : Nat → List TypeId} {ia is i : Nat} {news : (Nat → Value) → Array Value} {vf : Nat → Value} {w w' : World} (h : InitT (ts i) w w') (hi : i ≠ is) : initT T0 ts ia is news i vf w w' := ⟨by rw [if_neg hi]; exact h, fun e => absurd e hi⟩
/-- THE LAW: operation ia lays the variable, is stores into it. -/
theorem wp_region_init {P : Program} {l : List Oper} {Q : Exit → Act → World → Prop} {a : Act} {id : Nat} {w : World} (B : Nat) (hBw : B ≤ w.heap.size) (T0 : TypeId) (sz : Nat) (ts : Nat → List TypeId) (ia is : Nat) (news : (Nat → Value) → Array Value) (G : Nat → (Nat → Bool) → (Nat → Value) → World → Prop)
    (hm : P.follows .mixedOrders = true) (hB : monoB2 (l.map prune) a.tmps.size = true) (bs : List (List Nat)) (hbs : befores (l.map prune) [] = bs) (hia : ia ∈ bs.getD is []) (hts : ∀ i, T0 ∉ ts i) (hsz : ∀ vf, (news vf).size = sz)
    (hG : ∀ (i k : Nat) (done : Nat → Bool) (vf : Nat → Value) (w w' : World), k ≠ i → done i = false → (∀ m ∈ bs.getD i [], done m = true) → done k = true → InitT (if i = is then [T0] else ts i) w w' → G k done vf w → G k (updDone done i) vf w')
    (hGp : ∀ (k : Nat) (done : Nat → Bool) (f g : Nat → Value) (w : World), (∀ m ∈ bs.getD k [], f m = g m) → f k = g k → G k done f w → G k done g w) (hN : ∀ f g : Nat → Value, (∀ m ∈ bs.getD is [], f m = g m) → news f = news g)
    (h : relWalk P l.toArray (initI B w) (initT T0 ts ia is news) (initF B T0 sz ia is news G) bs (Q .normal) l.length l 0 (fun _ => a)) : (Code.region id l.toArray true).wp P Q a w := by
  refine wp_region_rel _ _ _ hm hB bs hbs (fun i done vf w1 w2 _ hd hbf hf hT k hk => ?_) (fun k done f g w1 hfg hk hF => ?_) ⟨hBw, (Below.refl _ _).drew⟩ h
  · have hki : k ≠ i := fun e => by rw [e, hd] at hk; cases hk
    have hF := hf k hk
    unfold initF at hF ⊢
    split
    · rename_i e
      rw [if_pos e] at hF
      obtain ⟨b, hv, hb, cs, hs, hc⟩ := hF
      by_cases ei : i = is
      · obtain ⟨b', hv', hc'⟩ := hT.2 ei
        rw [hv] at hv'
        injection hv' with hv'; injection hv' with hv'; injection hv' with hv'
        subst hv'
        exact ⟨b, hv, hb, _, hsz vf, hc'⟩
      · have h1 := hT.1
        rw [if_neg ei] at h1
        exact ⟨b, hv, hb, cs, hs, blk_init hc h1 (hts i)⟩
    · rename_i e
      rw [if_neg e] at hF
      split
      · rename_i e2
        rw [if_pos e2] at hF
        obtain ⟨b, hv, hc⟩ := hF
        have h1 := hT.1
        rw [if_neg (fun e' => hki (e2.trans e'.symm))] at h1
        exact ⟨b, hv, blk_init hc h1 (hts i)⟩
      · rename_i e2
        rw [if_neg e2] at hF
        exact hG i k done vf _ _ hki hd hbf hk hT.1 hF
  · unfold initF at hF ⊢
    split
    · rename_i e
      subst e
      rw [if_pos rfl, hk] at hF
      exact hF
    · rename_i e
      rw [if_neg e] at hF
      split
      · rename_i e2
        subst e2
        rw [if_pos rfl, hN f g hfg, hfg ia hia] at hF
        exact hF
      · rename_i e2
        rw [if_neg e2] at hF
        exact hGp k done f g w1 hfg hk hF
end Go.Proofs.YtkiipnbjckdlbaaGreatDoor
namespace Go.Proofs.YtkiipnbjckdlbaaGreatDoor
open Go.RowKit

def chainR (w : World) (D : Nat → Prop) (f : List TIns) (cs : List Value) : Prop := ∃ u, cs = [u] ∧ RdCode w D u f
def RdChain (w : World) (D : Nat → Prop) (v : Value) (l : List (List TIns)) : Prop := Sl w D 1 (chainR w D) v l
theorem RdChain.keep {w w' : World} {D D' : Nat → Prop} {v : Value} {l : List (List TIns)} (h : RdChain w D v l) (hD : ∀ b, D b → b < w.heap.size → D' b)
    (hw : ∀ b, D b → b < w.heap.size → w'.heap[b]? = w.heap[b]?) (hs : w.heap.size ≤ w'.heap.size) : RdChain w' D' v l :=
  Sl.mono h hD hw hs (fun _ _ _ ⟨u, h1, h2⟩ => ⟨u, h1, h2.keep hD hw hs⟩)
theorem RdChain.below {w w' : World} {D : Nat → Prop} {v : Value} {l : List (List TIns)} (h : RdChain w D v l) (hb : Below w.heap.size w w') : RdChain w' D v l :=
  h.keep (fun _ h _ => h) (fun b _ hlt => hb.block b hlt) hb.size
theorem RdChain.cells {w : World} {D : Nat → Prop} {b o n c : Nat} {s : Option Nat} {l : List (List TIns)} (h : RdChain w D (.slice (some ⟨b, o, s⟩) n c) l) {i : Nat} (hi : i < l.length) :
    ∃ (a' : Option Addr) (c' : Nat), w.cell? ⟨b, o + i, none⟩ = some (.slice a' l[i].length c') ∧ RdCode w D (.slice a' l[i].length c') l[i] := by
  obtain ⟨cs, _, ⟨u, hu, hr⟩, hcell⟩ := Sl.get h hi
  obtain ⟨a', c', hv, _⟩ := Sl.form hr
  subst hv hu
  have h1 := hcell 0 _ rfl
  rw [Nat.mul_one] at h1
  exact ⟨a', c', h1, hr⟩

set_option maxHeartbeats 4000000 in
theorem chcheck_any (v : Value) (l : List (List TIns)) (D : Nat → Prop) (w : World) (h : RdChain w D v l) :
    Calls Tryz.prog 22 #[v] w fun e w' => e = .returned (.int .i64 (chainE l)) ∧ Below w.heap.size w w' := by
  obtain ⟨a, c, rfl, hlc, hcm, hat⟩ := Sl.form h
  have H := Lib.hid h
  clear h
  go_enter Tryz.func22, Tryz.ntmps22
  by_cases h6 : 6 < l.length
  · have hE : chainE l = 2 := by unfold chainE; rw [if_pos h6]
    rw [hE]
    go_wp2
    go_ret
    exact ⟨rfl, Below.refl _ _⟩
  · have HE : Hid (chainE l = codesGo l) := by show chainE l = _; unfold chainE; rw [if_neg h6]
    go_wp2_with fail
    go_loopw [11] (fun kv wr => ∃ k : Nat, kv = .int .i64 k ∧ k ≤ l.length ∧ codesGo l = codesGo (l.drop k) ∧ Below w.heap.size w wr) (fun kv _ => l.length - (intOf kv).toNat)
    case atStart => exact ⟨0, rfl, by omega, rfl, Below.refl _ _⟩
    case round =>
      obtain ⟨k, rfl, hk, hd, hb⟩ := hrel
      have Hd := Lib.hid hd
      have Hb := Lib.hid hb
      clear hd hb
      by_cases hlt : k < l.length
      · obtain ⟨b, o, rfl, _, _⟩ := hat (by omega)
        obtain ⟨a', c', hc, hr⟩ := RdChain.cells (H.out.below Hb.out) hlt
        have Hr := Lib.hid hr
        have Hdk := Lib.hid (codesGo_drop l k hlt)
        obtain ⟨f, hf⟩ : ∃ f, l[k] = f := ⟨_, rfl⟩
        rw [hf] at hc Hr Hdk
        clear hr hf
        go_wp2_with fail
        refine (codecheck_any _ f _ _ Hr.out).mono ?_
        rintro e w1 ⟨rfl, hb1⟩
        have Hb1 := Lib.hid (bel_call Hb.out hb1)
        clear hb1 hc
        by_cases h0 : codeE f = 0
        · have Hn : Hid (codesGo l = codesGo (l.drop (k + 1))) := by show _ = _; rw [Hd.out, Hdk.out, if_pos h0]
          rw [h0]
          clear h0
          go_wp2
          go_roundw
          case rel => exact ⟨k + 1, by go_num, by omega, Hn.out, Hb1.out⟩
          case measure => simp [intOf]; omega
        · have Hn : Hid (chainE l = codeE f) := by show _ = _; rw [HE.out, Hd.out, Hdk.out, if_neg h0]
          have hb0 : (codeE f != 0) = true := bne_iff_ne.2 h0
          clear h0
          go_wp2
          go_ret
          exact ⟨ret_int Hn.out.symm, Hb1.out⟩
      · obtain rfl : k = l.length := by omega
        have Hn : Hid (chainE l = 0) := by show _ = _; rw [HE.out, Hd.out, List.drop_length]; rfl
        go_wp2
        go_ret
        exact ⟨ret_int Hn.out.symm, Hb.out⟩

theorem askGo_drop (x : TCall) (l : List (List TIns)) (k : Nat) (v : Int) (h : k < l.length) : askGo x (l.drop k) v = askGo x (l.drop (k + 1)) (minOf v (run l[k] x).1) := by
  rw [List.drop_eq_getElem_cons h]; rfl
theorem runE_of {f : List TIns} (h : codeE f = 0) {x : TCall} (hx : x.ok) : runE f x = ((run f x).1, ((run f x).2 : Int), 0) := by
  unfold runE
  rw [if_neg (by rw [h]; simp), if_pos hx]

set_option maxHeartbeats 4000000 in
theorem ask_any (v : Value) (l : List (List TIns)) (x : TCall) (D : Nat → Prop) (w : World) (h : RdChain w D v l) :
    Calls Tryz.prog 12 #[v, callV x] w fun e w' => e = .returned (.tuple #[.int .i64 (askE l x).1, .int .i64 (askE l x).2]) ∧ Below w.heap.size w w' := by
  obtain ⟨a, c, rfl, hlc, hcm, hat⟩ := Sl.form h
  have H := Lib.hid h
  clear h
  go_enter Tryz.func12, Tryz.ntmps12
  go_wp2_with fail
  have HB := Lib.hid (Bx.one (w := w) (o := .cells #[.int .i64 x.a0, .int .i64 x.a1, .int .i64 x.a2, .int .i64 x.a3, .int .i64 x.a4] 24))
  refine (chcheck_any _ l D _ (H.out.below HB.out.bel)).mono ?_
  rintro e w1 ⟨rfl, hb1⟩
  have HB1 := Lib.hid (HB.out.below hb1)
  clear hb1
  by_cases h0 : chainE l = 0
  · obtain ⟨hl6, hcodes⟩ := (chainE_iff l).1 h0
    have Hcd := Lib.hid hcodes
    have H0 := Lib.hid h0
    rw [h0]
    have hc0 := HB1.out.cells0
    clear h0 hcodes
    go_wp2_with fail
    refine (callcheck_any x _).mono ?_
    rintro e w2 ⟨rfl, hb2⟩
    have HB2 := Lib.hid (HB1.out.below hb2)
    clear hb2 hc0
    by_cases hx : x.ok
    · have Hx := Lib.hid hx
      have he : callE x = 0 := by unfold callE; rw [if_pos hx]
      rw [he]
      have HA : Hid (askE l x = (asked l x, 0)) := by show askE l x = _; unfold askE; rw [if_neg (by rw [H0.out]; simp), if_pos hx]
      clear hx he
      go_wp2_with fail
      go_loopw [8, 26] (fun vv kv wr => ∃ (k : Nat) (t : Int), kv = .int .i64 k ∧ vv = .int .i64 t ∧ k ≤ l.length ∧ asked l x = askGo x (l.drop k) t ∧ Bx w [.cells #[.int .i64 x.a0, .int .i64 x.a1, .int .i64 x.a2, .int .i64 x.a3, .int .i64 x.a4] 24] wr) (fun _ kv _ => l.length - (intOf kv).toNat)
      case atStart => exact ⟨0, 4, rfl, rfl, by omega, rfl, HB2.out⟩
      case round =>
        obtain ⟨k, t, rfl, rfl, hk, hd, hb⟩ := hrel
        have Hd := Lib.hid hd
        have HBr := Lib.hid hb
        clear hd hb
        by_cases hlt : k < l.length
        · obtain ⟨b, o, rfl, _, _⟩ := hat (by omega)
          obtain ⟨a', c', hc, hr⟩ := RdChain.cells (H.out.below HBr.out.bel) hlt
          have Hr := Lib.hid hr
          have Hck := Lib.hid (Hcd.out l[k] (List.getElem_mem hlt))
          have Hdk := Lib.hid (askGo_drop x l k t hlt)
          obtain ⟨f, hf⟩ : ∃ f, l[k] = f := ⟨_, rfl⟩
          rw [hf] at hc Hr Hdk Hck
          have hc0 := HBr.out.cells0
          clear hr hf
          go_wp2_with fail
          refine (run_any _ f x _ _ Hr.out).mono ?_
          rw [runE_of Hck.out Hx.out]
          rintro e w3 ⟨rfl, hb3⟩
          have HB3 := Lib.hid (HBr.out.below hb3)
          clear hb3 hc hc0
          obtain ⟨u, hu⟩ : ∃ u, (run f x).1 = u := ⟨_, rfl⟩
          rw [hu] at Hdk ⊢
          have Hn : Hid (asked l x = askGo x (l.drop (k + 1)) (minOf t u)) := by show _ = _; rw [Hd.out, Hdk.out]
          by_cases htu : t ≤ u
          · have e1 : minOf t u = t := by unfold minOf; rw [if_pos htu]
            rw [e1] at Hn
            go_wp2
            go_roundw
            case rel => exact ⟨k + 1, t, by go_num, (by first | rfl | (congr 1; omega)), by omega, Hn.out, HB3.out⟩
            case measure => simp [intOf]; omega
          · have e1 : minOf t u = u := by unfold minOf; rw [if_neg htu]
            rw [e1] at Hn
            go_wp2
            go_roundw
            case rel => exact ⟨k + 1, u, by go_num, (by first | rfl | (congr 1; omega)), by omega, Hn.out, HB3.out⟩
            case measure => simp [intOf]; omega
        · obtain rfl : k = l.length := by omega
          have Hn : Hid (asked l x = t) := by show _ = _; rw [Hd.out, List.drop_length]; rfl
          have HBf := Lib.hid HBr.out.bel
          go_wp2
          go_ret2
          exact ⟨by rw [HA.out, Hn.out] <;> rfl, HBf.out⟩
    · have he : callE x = 3 := by unfold callE; rw [if_neg hx]
      have HA : Hid (askE l x = (0, 3)) := by show askE l x = _; unfold askE; rw [if_neg (by rw [H0.out]; simp), if_neg hx]
      have HBf := Lib.hid HB2.out.bel
      rw [he]
      clear hx
      go_wp2
      go_ret2
      exact ⟨by rw [HA.out] <;> rfl, HBf.out⟩
  · have HA : Hid (askE l x = (0, chainE l)) := by show askE l x = _; unfold askE; rw [if_pos h0]
    have hb0 : (chainE l != 0) = true := bne_iff_ne.2 h0
    have HBf := Lib.hid HB1.out.bel
    clear h0
    go_wp2
    go_ret2
    exact ⟨by rw [HA.out] <;> rfl, HBf.out⟩
end Go.Proofs.YtkiipnbjckdlbaaGreatDoor
