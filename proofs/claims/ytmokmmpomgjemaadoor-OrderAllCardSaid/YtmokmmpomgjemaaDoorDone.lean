/- A region that draws its order and STORES: as XMono's law, the class of worlds being told by which operations have been done; an operation knows that whoever waits for it has not been done. No condition. -/
import Derived.Test.YtmokmmpomgjemaaDoorMono
namespace Go.Proofs.YtmokmmpomgjemaaDoor
open Go.RowKit

/-- all that operation k waits for, at whatever distance. -/
def befores : List Oper → List (List Nat) → List (List Nat)
  | [], acc => acc
  | o :: l, acc => befores l (acc ++ [o.after.toList.flatMap fun e => e.on :: acc.getD e.on []])
def updDone (done : Nat → Bool) (i : Nat) : Nat → Bool := fun k => if k = i then true else done k
def doneOb (P : Program) (ops : Array Oper) (Inv : (Nat → Bool) → World → Prop) (T : World → World → Prop) (s : Spec) (i : Nat) (bs : List (List Nat)) (o : Oper) (a : Act) (fs : List (World → Prop)) : Prop :=
  ∀ (done : Nat → Bool) (w : World), Inv done w → done i = false → (∀ k ∈ o.after.toList.map (fun e => e.on), done k = true) → (∀ k : Nat, i ∈ bs.getD k [] → done k = false) → depFacts o fs w → ∀ R : Value → World → Prop, (∀ (v : Value) (w' : World), Inv (updDone done i) w' → T w w' → s.holds v w' → R v w') →
    if Region.wanted o (yielded ops a.tmps) then gives P o a w R else R undef w
def doneWalk (P : Program) (ops : Array Oper) (Inv : (Nat → Bool) → World → Prop) (T : Nat → World → World → Prop) (bs : List (List Nat)) (Q : Act → World → Prop) (n : Nat) :
    List Oper → List Spec → Nat → Act → List (World → Prop) → (World → Prop) → Prop
  | [], _, _, a, _, F => ∀ (done : Nat → Bool) (w : World), (∀ k, k < n → done k = true) → Inv done w → F w → Q a w
  | _ :: _, [], _, _, _, _ => False
  | o :: l, s :: ss, i, a, fs, F => doneOb P ops Inv (T i) s i bs o a fs ∧
      match s.exact? with
      | some x => doneWalk P ops Inv T bs Q n l ss (i + 1) (a.put o.dst x) (fs ++ [fun _ : World => True]) F
      | none => ∀ v : Value, doneWalk P ops Inv T bs Q n l ss (i + 1) (a.put o.dst v) (fs ++ [s.pred v]) (fun w : World => F w ∧ s.pred v w)

theorem done_ext {P : Program} {ops : Array Oper} {Inv : (Nat → Bool) → World → Prop} {T : Nat → World → World → Prop} {bs : List (List Nat)} {n : Nat} {Q : Act → World → Prop} (vals : Nat → Value) :
    ∀ (l : List Oper) (ss : List Spec) (i : Nat) (a : Act) (fs : List (World → Prop)) (F : World → Prop), okVals vals ss i → doneWalk P ops Inv T bs Q n l ss i a fs F →
      (∀ j o s, l[j]? = some o → ss[j]? = some s → doneOb P ops Inv (T (i + j)) s (i + j) bs o (lexAct vals (l.take j) i a) (fs ++ factList vals (ss.take j) i)) ∧
      (∀ (done : Nat → Bool) (w : World), (∀ k, k < n → done k = true) → Inv done w → F w → allFacts vals (ss.take l.length) i w → Q (lexAct vals l i a) w) ∧ l.length ≤ ss.length := by
  intro l
  induction l with
  | nil => intro ss i a fs F _ h; exact ⟨fun j o s hj _ => by simp at hj, fun done w hd hC hF _ => h done w hd hC hF, by simp⟩
  | cons o l ih =>
    intro ss i a fs F hv h
    cases ss with
    | nil => exact h.elim
    | cons s ss =>
      obtain ⟨hx, hv'⟩ := hv
      obtain ⟨hob, hrest⟩ := h
      have key : ∃ F' : World → Prop, doneWalk P ops Inv T bs Q n l ss (i + 1) (a.put o.dst (vals i)) (fs ++ [s.fact (vals i)]) F' ∧ ∀ w, F w → s.fact (vals i) w → F' w := by
        unfold Spec.fact
        cases he : s.exact? with
        | some x =>
          rw [he] at hrest
          rw [hx x he]
          exact ⟨F, hrest, fun w h _ => h⟩
        | none =>
          rw [he] at hrest
          exact ⟨_, hrest (vals i), fun w h h' => ⟨h, h'⟩⟩
      obtain ⟨F', hk, hF'⟩ := key
      obtain ⟨h1, h2, h3⟩ := ih ss (i + 1) _ _ F' hv' hk
      refine ⟨fun j o' s' hj hs => ?_, fun done w hd hC hF hall => ?_, by simp; omega⟩
      · cases j with
        | zero =>
          simp only [List.getElem?_cons_zero, Option.some.injEq] at hj hs
          subst hj hs
          simpa [lexAct, factList] using hob
        | succ j =>
          have := h1 j o' s' (by simpa using hj) (by simpa using hs)
          simpa [lexAct, factList, List.append_assoc, Nat.add_comm, Nat.add_left_comm, Nat.add_assoc] using this
      · simp only [List.length_cons, List.take_succ_cons, allFacts] at hall
        exact h2 done w hd hC (hF' w hF hall.1) hall.2

/-- What holds when the operations that are listed have been done. -/
structure DoneInv (l : List Oper) (ss : List Spec) (Inv : (Nat → Bool) → World → Prop) (a : Act) (vf : Nat → Value) (listed : Array Bool) (a' : Act) (w' : World) : Prop where
  cls : Inv (fun k => listed[k]? == some true) w'
  down : ∀ (j : Nat) (o : Oper), l[j]? = some o → listed[j]? = some true → ∀ e ∈ o.after, listed[e.on]? = some true
  lsize : listed.size = l.length
  defers : a'.defers = a.defers
  size : a'.tmps.size = a.tmps.size
  done : ∀ (j : Nat) (o : Oper) (s : Spec), l[j]? = some o → ss[j]? = some s → listed[j]? = some true → s.holds (vf j) w' ∧ ∀ d, o.dst = some d → a'.tmps[d]? = some (vf j)
  rest : ∀ t, (∀ (j : Nat) (o : Oper), l[j]? = some o → listed[j]? = some true → o.dst ≠ some t) → a'.tmps[t]? = a.tmps[t]?


theorem befores_spec : ∀ (l : List Oper) (acc : List (List Nat)) (P : Nat → Nat → Prop), (∀ k i, i ∈ acc.getD k [] → P k i) → (∀ (j : Nat) (o : Oper) (e : Edge), l[j]? = some o → e ∈ o.after → P (acc.length + j) e.on) →
    (∀ a b c, P a b → P b c → P a c) → ∀ k i, i ∈ (befores l acc).getD k [] → P k i
  | [], _, _, h, _, _ => h
  | o :: l, acc, P, h, he, ht => by
    refine befores_spec l _ P ?_ (fun j o' e hj hm => by
      have := he (j + 1) o' e (by simpa using hj) hm
      rwa [List.length_append, List.length_singleton, Nat.add_assoc, Nat.add_comm 1 j]) ht
    intro k i hi
    rw [List.getD_eq_getElem?_getD, List.getElem?_append] at hi
    split at hi
    · exact h k i (by rw [List.getD_eq_getElem?_getD]; exact hi)
    · rename_i hge
      have hk : k = acc.length := by
        rcases Nat.lt_or_ge acc.length k with hlt | hle
        · have : ([o.after.toList.flatMap fun e => e.on :: acc.getD e.on []] : List (List Nat))[k - acc.length]? = none := List.getElem?_eq_none (by simp; omega)
          rw [this] at hi; simp at hi
        · omega
      subst hk
      simp only [Nat.sub_self, List.getElem?_cons_zero, Option.getD_some, List.mem_flatMap] at hi
      obtain ⟨e, hm, hi⟩ := hi
      have h1 := he 0 o e rfl (by simpa using hm)
      rw [Nat.add_zero] at h1
      rcases List.mem_cons.1 hi with rfl | hi
      · exact h1
      · exact ht _ _ _ h1 (h e.on i hi)

/-- The Bool over a region: temporaries are written once, by an operation that whoever looks at it waits for. -/
def monoB2 (l : List Oper) (size : Nat) : Bool :=
  (l.zipIdx.all fun (o, i) =>
    (match o.op with | .select .. => false | _ => true) &&
    o.after.toList.all (fun e => decide (e.on < i) && Region.binds .any e) &&
    (o.looksAt l.toArray).all (fun s => l.zipIdx.all fun (o', j) => o'.dst != some s || (decide (j < i) && (o.after.toList.map (·.on)).contains j) || ((befores l []).getD j []).contains i) &&
    (match o.dst with | some d => decide (d < size) && l.zipIdx.all (fun (o', j) => j == i || o'.dst != some d) | none => true))

theorem monoB2_spec {l : List Oper} {size : Nat} (h : monoB2 l size = true) {i : Nat} {o : Oper} (hi : l[i]? = some o) :
    (∀ cs b, o.op ≠ .select cs b) ∧ (∀ e ∈ o.after, e.on < i ∧ Region.binds .any e = true) ∧
    (∀ s ∈ o.looksAt l.toArray, ∀ (j : Nat) (o' : Oper), l[j]? = some o' → o'.dst = some s → (j < i ∧ ∃ e ∈ o.after, e.on = j) ∨ i ∈ (befores l []).getD j []) ∧
    (∀ d, o.dst = some d → d < size ∧ ∀ (j : Nat) (o' : Oper), l[j]? = some o' → j ≠ i → o'.dst ≠ some d) := by
  have hz : ∀ {j : Nat} {o' : Oper}, l[j]? = some o' → (o', j) ∈ l.zipIdx := fun {j o'} hj => by
    rw [List.mem_zipIdx_iff_getElem?]; exact hj
  have h1 := List.all_eq_true.1 h _ (hz hi)
  simp only [Bool.and_eq_true] at h1
  obtain ⟨⟨⟨ha, hb⟩, hc⟩, hd⟩ := h1
  refine ⟨fun cs b e => ?_, fun e he => ?_, fun s hs j o' hj hds => ?_, fun d hd' => ?_⟩
  · rw [e] at ha; simp at ha
  · have := List.all_eq_true.1 hb e (by simpa using he)
    simpa using this
  · have h2 := List.all_eq_true.1 (List.all_eq_true.1 hc s hs) _ (hz hj)
    simp only [hds, bne_self_eq_false, Bool.false_or, Bool.or_eq_true, Bool.and_eq_true, decide_eq_true_eq, List.contains_eq_mem] at h2
    rcases h2 with h2 | h2
    · refine .inl ⟨h2.1, ?_⟩
      have := h2.2
      simpa using this
    · exact .inr (by simpa using h2)
  · simp only [hd', Bool.and_eq_true, decide_eq_true_eq] at hd
    refine ⟨hd.1, fun j o' hj hne e => ?_⟩
    have := List.all_eq_true.1 hd.2 _ (hz hj)
    simp [hne, e] at this

section
variable {P : Program} {l : List Oper} {Inv : (Nat → Bool) → World → Prop} {T : Nat → World → World → Prop} {Q : Exit → Act → World → Prop} {a : Act} {ss : List Spec}

theorem wpAny_done (hB : monoB2 l a.tmps.size = true) (hst : ∀ (i k : Nat) (s : Spec), i ≠ k → ss[k]? = some s → ∀ v done w w', Inv done w → T i w w' → s.fact v w → s.fact v w')
    (h : doneWalk P l.toArray Inv T (befores l []) (Q .normal) l.length l ss 0 a [] (fun _ => True)) :
    ∀ (fuel : Nat) (listed : Array Bool) (vf : Nat → Value) (a' : Act) (w' : World), (undone listed l.length).length ≤ fuel → DoneInv l ss Inv a vf listed a' w' → wpAny P .any l.toArray Q fuel listed a' w' := by
  have hS := fun {i : Nat} {o : Oper} (hi : l[i]? = some o) => monoB2_spec hB hi
  -- the values as far as they are there
  have hok : ∀ (listed : Array Bool) (vf : Nat → Value) (a' : Act) (w' : World), DoneInv l ss Inv a vf listed a' w' → okVals (fillVals ss listed vf) ss 0 := by
    intro listed vf a' w' hI
    refine okVals_of ss 0 fun j s x hj hx => ?_
    rw [Nat.zero_add]
    unfold fillVals
    split
    · rename_i hl
      have hlt : j < l.length := by
        have := (Array.getElem?_eq_some_iff.1 hl).1
        rw [hI.lsize] at this; exact this
      have := (hI.done j l[j] s (List.getElem?_eq_getElem hlt) hj hl).1
      unfold Spec.holds at this
      rw [hx] at this
      exact this
    · rw [hj]; simp [hx]
  have hfill : ∀ (listed : Array Bool) (vf : Nat → Value) (j : Nat), listed[j]? = some true → fillVals ss listed vf j = vf j := fun listed vf j hl => by unfold fillVals; rw [if_pos hl]
  have fin : ∀ (listed : Array Bool) (vf : Nat → Value) (a' : Act) (w' : World), (∀ j, j < l.length → listed[j]? = some true) → DoneInv l ss Inv a vf listed a' w' → Q .normal a' w' := by
    intro listed vf a' w' hall hI
    obtain ⟨_, h2, h3⟩ := done_ext (fillVals ss listed vf) l ss 0 a [] _ (hok listed vf a' w' hI) h
    have hq := h2 _ w' (fun k hk => by simp [hall k hk]) hI.cls trivial (allFacts_of _ 0 fun j s hj => by
      rw [Nat.zero_add]
      have hjl : j < l.length := by
        have := (List.getElem?_eq_some_iff.1 hj).1
        simp at this; omega
      have hj' : ss[j]? = some s := by rw [List.getElem?_take_of_lt hjl] at hj; exact hj
      rw [hfill _ _ _ (hall j hjl)]
      exact Spec.fact_of_holds (hI.done j l[j] s (List.getElem?_eq_getElem hjl) hj' (hall j hjl)).1)
    have ea : a' = lexAct (fillVals ss listed vf) l 0 a := by
      obtain ⟨hz, hd⟩ := lexAct_size (fillVals ss listed vf) l 0 a
      have ht : a'.tmps = (lexAct (fillVals ss listed vf) l 0 a).tmps := by
        apply Array.ext_getElem?
        intro t
        by_cases hex : ∃ (j : Nat) (o : Oper), l[j]? = some o ∧ o.dst = some t
        · obtain ⟨j, o, hj, hdt⟩ := hex
          have hjl := (List.getElem?_eq_some_iff.1 hj).1
          obtain ⟨hlt, huniq⟩ := (hS hj).2.2.2 t hdt
          rw [lexAct_same _ l 0 a j o hj hdt huniq hlt, Nat.zero_add, hfill _ _ _ (hall j hjl)]
          have hjs : ss[j]? = some ss[j] := List.getElem?_eq_getElem (by omega)
          exact (hI.done j o _ hj hjs (hall j hjl)).2 t hdt
        · have hn : ∀ (j : Nat) (o : Oper), l[j]? = some o → o.dst ≠ some t := fun j o hj e => hex ⟨j, o, hj, e⟩
          rw [lexAct_other _ l 0 a (fun o ho => by obtain ⟨j, hj⟩ := List.getElem?_of_mem ho; exact hn j o hj)]
          exact hI.rest t (fun j o hj _ => hn j o hj)
      cases a'; cases hx : lexAct (fillVals ss listed vf) l 0 a
      rw [hx] at ht hd
      have := hI.defers
      simp_all
    rw [ea]; exact hq
  have allIf : ∀ (listed : Array Bool), listed.size = l.length → Region.ready .any l.toArray listed = [] → ∀ j, j < l.length → listed[j]? = some true := by
    intro listed hsz hr j
    induction j using Nat.strongRecOn with
    | ind j ih =>
      intro hj
      have hsome : listed[j]? = some listed[j] := Array.getElem?_eq_getElem (by omega)
      cases hb : listed[j] with
      | true => rw [hsome, hb]
      | false =>
        have : j ∈ Region.ready .any l.toArray listed := by
          rw [mem_ready]
          refine ⟨by simp [Array.getD_eq_getD_getElem?, hsome, hb], l[j], by simp [hj], fun e he _ => ?_⟩
          have h1 := ((hS (List.getElem?_eq_getElem hj)).2.1 e he).1
          have h2 := ih e.on h1 (by omega)
          simp [Array.getD_eq_getD_getElem?, h2]
        rw [hr] at this
        cases this
  intro fuel
  induction fuel with
  | zero =>
    intro listed vf a' w' hf hI
    have hall : ∀ j, j < l.length → listed[j]? = some true := by
      intro j hj
      have h0 : undone listed l.length = [] := List.eq_nil_of_length_eq_zero (by omega)
      unfold undone at h0
      rw [List.filter_eq_nil_iff] at h0
      simpa using h0 j (List.mem_range.2 hj)
    refine ⟨?_, fin _ _ _ _ hall hI⟩
    rw [List.eq_nil_iff_forall_not_mem]
    intro j hj
    obtain ⟨h0, o, ho, _⟩ := mem_ready.1 hj
    have hj' : j < l.length := by
      have := (Array.getElem?_eq_some_iff.1 ho).1
      simpa using this
    simp [Array.getD_eq_getD_getElem?, hall j hj'] at h0
  | succ fuel ih =>
    intro listed vf a' w' hf hI
    refine ⟨fun hr => fin _ _ _ _ (allIf listed hI.lsize hr) hI, fun i hi => ?_⟩
    obtain ⟨h0, o, ho, hdep⟩ := mem_ready.1 hi
    have hil : l[i]? = some o := by simpa using ho
    have hilt : i < l.length := (List.getElem?_eq_some_iff.1 hil).1
    have hnl : listed[i]? ≠ some true := fun e => by simp [Array.getD_eq_getD_getElem?, e] at h0
    obtain ⟨hsel, hafter, hlooks, hdst⟩ := hS hil
    have hdone : ∀ e ∈ o.after, listed[e.on]? = some true := fun e he => by
      have := hdep e he (hafter e he).2
      rw [Array.getD_eq_getD_getElem?] at this
      cases hx : listed[e.on]? with
      | none => simp [hx] at this
      | some b => simp [hx] at this; rw [this]
    obtain ⟨h1, _, h3⟩ := done_ext (fillVals ss listed vf) l ss 0 a [] _ (hok listed vf a' w' hI) h
    have hsi : ss[i]? = some ss[i] := List.getElem?_eq_getElem (by omega)
    have hob := h1 i o ss[i] hil hsi
    rw [Nat.zero_add, List.nil_append] at hob
    -- the lexical act looks alike to this operation
    have hsame : ∀ t ∈ o.looksAt l.toArray, (lexAct (fillVals ss listed vf) (l.take i) 0 a).tmps[t]? = a'.tmps[t]? := by
      intro t ht
      by_cases hex : ∃ (j : Nat) (o' : Oper), l[j]? = some o' ∧ o'.dst = some t
      · obtain ⟨j, o', hj, hdt⟩ := hex
        rcases hlooks t ht j o' hj hdt with ⟨hji, e, he, hej⟩ | hbef
        rotate_left
        · have hij : i < j := befores_spec l [] (fun k i => i < k) (fun k i h => by simp at h) (fun j o' e hj he => by
            have := ((hS (show l[j]? = some o' from hj)).2.1 e he).1; simpa using this) (fun a b c h1 h2 => Nat.lt_trans h2 h1) j i hbef
          have hnj : listed[j]? ≠ some true := fun hlj => hnl (befores_spec l [] (fun k i => listed[k]? = some true → listed[i]? = some true) (fun k i h => by simp at h) (fun j o' e hj he hlj => by
            simp at hlj; exact hI.down j o' hj hlj e he) (fun a b c h1 h2 h3 => h2 (h1 h3)) j i hbef hlj)
          obtain ⟨_, huniq⟩ := (hS hj).2.2.2 t hdt
          rw [lexAct_other _ (l.take i) 0 a (fun o'' ho'' => by
            obtain ⟨k, hk⟩ := List.getElem?_of_mem ho''
            have hki : k < i := by have := (List.getElem?_eq_some_iff.1 hk).1; simp at this; omega
            rw [List.getElem?_take_of_lt hki] at hk
            exact huniq k o'' hk (by omega))]
          refine (hI.rest t fun k o'' hk hlk => ?_).symm
          by_cases hkj : k = j
          · subst hkj; exact absurd hlk hnj
          · exact huniq k o'' hk hkj
        have hlj : listed[j]? = some true := hej ▸ hdone e he
        obtain ⟨hlt, huniq⟩ := (hS hj).2.2.2 t hdt
        have hjs : ss[j]? = some ss[j] := List.getElem?_eq_getElem (by omega)
        rw [lexAct_same _ (l.take i) 0 a j o' (by rw [List.getElem?_take_of_lt hji]; exact hj) hdt (fun j' o'' hj' hne => huniq j' o'' (by
          have hlt' : j' < i := by
            have := (List.getElem?_eq_some_iff.1 hj').1
            simp at this; omega
          rw [List.getElem?_take_of_lt hlt'] at hj'; exact hj') hne) hlt, Nat.zero_add, hfill _ _ _ hlj]
        exact ((hI.done j o' _ hj hjs hlj).2 t hdt).symm
      · have hn : ∀ (j : Nat) (o : Oper), l[j]? = some o → o.dst ≠ some t := fun j o hj e => hex ⟨j, o, hj, e⟩
        rw [lexAct_other _ (l.take i) 0 a (fun o' ho' => by obtain ⟨j, hj⟩ := List.getElem?_of_mem (List.mem_of_mem_take ho'); exact hn j o' hj)]
        exact (hI.rest t (fun j o hj _ => hn j o hj)).symm
    have hexec : execOp (lexAct (fillVals ss listed vf) (l.take i) 0 a).eval o = execOp a'.eval o := by
      refine execOp_congr o hsel fun x hx => ?_
      cases x with
      | tmp t =>
        have := hsame t (List.mem_append_left _ (List.mem_filterMap.2 ⟨.tmp t, by simpa using hx, rfl⟩))
        simp [Act.eval, Array.getD_eq_getD_getElem?, this]
      | _ => rfl
    have hwant : Region.wanted o (yielded l.toArray (lexAct (fillVals ss listed vf) (l.take i) 0 a).tmps) = Region.wanted o (yielded l.toArray a'.tmps) := by
      unfold Region.wanted
      cases hg : o.guard with
      | none => rfl
      | some gw =>
        obtain ⟨g, want⟩ := gw
        have hy : yielded l.toArray (lexAct (fillVals ss listed vf) (l.take i) 0 a).tmps g = yielded l.toArray a'.tmps g := by
          unfold yielded
          cases ht : (l.toArray[g]?).bind (·.dst) with
          | none => rfl
          | some t =>
            have := hsame t (by simp only [Oper.looksAt, hg, ht]; simp)
            simp only [Option.bind_some, this]
        simp only [hy]
    have hfacts : depFacts o ([] ++ factList (fillVals ss listed vf) (ss.take i) 0) w' := by
      intro k hk
      rw [List.nil_append]
      obtain ⟨e, he, rfl⟩ := List.mem_map.1 hk
      have he' : e ∈ o.after := by simpa using he
      have hlt := (hafter e he').1
      have hlk := hdone e he'
      have hks : ss[e.on]? = some ss[e.on] := List.getElem?_eq_getElem (by omega)
      rw [List.getD_eq_getElem?_getD, factList_get (ss.take i) 0 e.on ss[e.on] (by rw [List.getElem?_take_of_lt hlt]; exact hks), Nat.zero_add, hfill _ _ _ hlk]
      exact Spec.fact_of_holds (hI.done e.on l[e.on] _ (List.getElem?_eq_getElem (by omega)) hks hlk).1
    rw [List.nil_append] at hfacts
    have hnot : ∀ k : Nat, i ∈ (befores l []).getD k [] → ((fun k => listed[k]? == some true) k) = false := by
      intro k hk
      have hP := befores_spec l [] (fun k i => listed[k]? = some true → listed[i]? = some true) (fun k i h => by simp at h) (fun j o' e hj he hlj => by
        simp at hlj; exact hI.down j o' hj hlj e he) (fun a b c h1 h2 h3 => h2 (h1 h3)) k i hk
      cases hx : (listed[k]? == some true) with
      | false => exact hx
      | true => exact absurd (hP (by simpa using hx)) hnl
    have hres := hob _ w' hI.cls (by simpa using hnl) (fun k hk => by
      obtain ⟨e, he, rfl⟩ := List.mem_map.1 hk
      simp [hdone e (by simpa using he)]) hnot hfacts (fun v w'' => Inv (updDone (fun k => listed[k]? == some true) i) w'' ∧ T i w' w'' ∧ ss[i].holds v w'') (fun v w'' h0 h1 h2 => ⟨h0, h1, h2⟩)
    rw [hwant] at hres
    have next : ∀ v w'', Inv (updDone (fun k => listed[k]? == some true) i) w'' → T i w' w'' → ss[i].holds v w'' → wpAny P .any l.toArray Q fuel (listed.setIfInBounds i true) (a'.put o.dst v) w'' := by
      intro v w'' hIv hT hv
      have hu := undone_set hilt (by rw [hI.lsize]; exact Nat.le_refl _) hnl
      refine ih _ (fun j => if j = i then v else vf j) _ _ (by omega) ⟨?_, ?_, by simp [hI.lsize], ?_, ?_, ?_, ?_⟩
      · refine (congrArg (fun d => Inv d w'') ?_).mp hIv
        funext k
        unfold updDone
        by_cases e : k = i
        · subst e; rw [if_pos rfl, Array.getElem?_setIfInBounds_self_of_lt (by rw [hI.lsize]; exact hilt)]; simp
        · rw [if_neg e, Array.getElem?_setIfInBounds_ne (Ne.symm e)]
      · intro j o' hj hlj e he
        by_cases hje : j = i
        · subst hje
          rw [hil] at hj
          obtain rfl : o = o' := by simpa using hj
          have := hdone e he
          by_cases hei : e.on = j
          · rw [hei, Array.getElem?_setIfInBounds_self_of_lt (by rw [hI.lsize]; exact hilt)]
          · rw [Array.getElem?_setIfInBounds_ne (Ne.symm hei)]; exact this
        · rw [Array.getElem?_setIfInBounds_ne (Ne.symm hje)] at hlj
          have := hI.down j o' hj hlj e he
          by_cases hei : e.on = i
          · rw [hei, Array.getElem?_setIfInBounds_self_of_lt (by rw [hI.lsize]; exact hilt)]
          · rw [Array.getElem?_setIfInBounds_ne (Ne.symm hei)]; exact this
      · rw [← hI.defers]; cases o.dst <;> rfl
      · rw [← hI.size]; cases o.dst <;> simp [Act.put]
      · intro j o' s hj hjs hlj
        by_cases e : j = i
        · subst e
          rw [hil] at hj
          obtain rfl : o = o' := by simpa using hj
          rw [hsi] at hjs
          obtain rfl : ss[j] = s := by simpa using hjs
          rw [if_pos rfl]
          refine ⟨hv, fun d hd => ?_⟩
          rw [hd, put_get_same (by rw [hI.size]; exact (hdst d hd).1)]
        · rw [Array.getElem?_setIfInBounds_ne (Ne.symm e)] at hlj
          rw [if_neg e]
          obtain ⟨g1, g2⟩ := hI.done j o' s hj hjs hlj
          refine ⟨?_, fun d hd => ?_⟩
          · have hf := hst i j s (Ne.symm e) hjs (vf j) _ w' w'' hI.cls hT (Spec.fact_of_holds g1)
            unfold Spec.holds at g1 ⊢
            unfold Spec.fact at hf
            split <;> simp_all
          · rw [put_get_other (fun e' => (hdst d e').2 j o' hj e hd)]
            exact g2 d hd
      · intro t ht
        have hti : o.dst ≠ some t := ht i o hil (by rw [Array.getElem?_setIfInBounds_self_of_lt (by rw [hI.lsize]; exact hilt)])
        rw [put_get_other hti]
        refine hI.rest t fun j o' hj hlj => ?_
        by_cases e : j = i
        · subst e; exact absurd hlj hnl
        · exact ht j o' hj (by rw [Array.getElem?_setIfInBounds_ne (Ne.symm e)]; exact hlj)
    unfold wpOp
    rw [ho]
    by_cases hw : Region.wanted o (yielded l.toArray a'.tmps) = true
    · simp only [hw, if_true] at hres ⊢
      refine .inl (wp_of_gives (R := fun v w'' => Inv (updDone (fun k => listed[k]? == some true) i) w'' ∧ T i w' w'' ∧ ss[i].holds v w'') ?_ fun v w'' ⟨h0, h1, h2⟩ => next v w'' h0 h1 h2)
      unfold gives at hres ⊢
      rw [← hexec]; exact hres
    · simp only [hw] at hres ⊢
      exact next _ _ hres.1 hres.2.1 hres.2.2

/-- ONE LEXICAL WALK SERVES EVERY ORDER, stores among the operations. -/
theorem wp_region_done {id : Nat} {w : World} (ss : List Spec) (Inv : (Nat → Bool) → World → Prop) (T : Nat → World → World → Prop) (hm : P.follows .mixedOrders = true) (hB : monoB2 l a.tmps.size = true)
    (hst : ∀ (i k : Nat) (s : Spec), i ≠ k → ss[k]? = some s → ∀ v done w w', Inv done w → T i w w' → s.fact v w → s.fact v w') (hC : Inv (fun _ => false) w.drew)
    (h : doneWalk P l.toArray Inv T (befores l []) (Q .normal) l.length l ss 0 a [] (fun _ => True)) : (Code.region id l.toArray true).wp P Q a w := by
  refine wp_region_any hm (wpAny_done hB hst h _ _ (fun _ => undef) _ _ ?_ ⟨?_, ?_, by simp, rfl, rfl, ?_, fun _ _ => rfl⟩)
  · have := List.length_filter_le (fun i => (Array.replicate l.toArray.size false)[i]? != some true) (List.range l.length)
    simpa [undone] using this
  · refine (congrArg (fun d => Inv d _) ?_).mp hC
    funext k
    rw [Array.getElem?_replicate]
    split <;> simp
  · intro j o hj hl
    rw [Array.getElem?_replicate] at hl
    split at hl <;> simp at hl
  · intro j o s hj _ hl
    rw [Array.getElem?_replicate] at hl
    split at hl <;> simp at hl
end

/-- Exact values alone: each is found as its operation is walked. -/
def doneE (P : Program) (ops : Array Oper) (Inv : (Nat → Bool) → World → Prop) (bs : List (List Nat)) (Q : Act → World → Prop) (n : Nat) : List Oper → Nat → Act → Prop
  | [], _, a => ∀ (done : Nat → Bool) (w : World), (∀ k, k < n → done k = true) → Inv done w → Q a w
  | o :: l, i, a => ∃ x : Value, (∀ (done : Nat → Bool) (w : World), Inv done w → done i = false → (∀ k ∈ o.after.toList.map (fun e => e.on), done k = true) → (∀ k : Nat, i ∈ bs.getD k [] → done k = false) →
      ∀ R : Value → World → Prop, (∀ (v : Value) (w' : World), Inv (updDone done i) w' → v = x → R v w') → if Region.wanted o (yielded ops a.tmps) then gives P o a w R else R undef w) ∧
      doneE P ops Inv bs Q n l (i + 1) (a.put o.dst x)
theorem doneE_step {P : Program} {ops : Array Oper} {Inv : (Nat → Bool) → World → Prop} {bs : List (List Nat)} {Q : Act → World → Prop} {n : Nat} {o : Oper} {l : List Oper} {i : Nat} {a : Act}
    (h : ∀ K : Act → Prop, (∀ a, doneE P ops Inv bs Q n l (i + 1) a → K a) → ∃ x : Value, (∀ (done : Nat → Bool) (w : World), Inv done w → done i = false → (∀ k ∈ o.after.toList.map (fun e => e.on), done k = true) → (∀ k : Nat, i ∈ bs.getD k [] → done k = false) →
      ∀ R : Value → World → Prop, (∀ (v : Value) (w' : World), Inv (updDone done i) w' → v = x → R v w') → if Region.wanted o (yielded ops a.tmps) then gives P o a w R else R undef w) ∧ K (a.put o.dst x)) :
    doneE P ops Inv bs Q n (o :: l) i a := h _ (fun _ h => h)
theorem doneE_list {P : Program} {ops : Array Oper} {Inv : (Nat → Bool) → World → Prop} {bs : List (List Nat)} {Q : Act → World → Prop} {n : Nat} : ∀ (l : List Oper) (i : Nat) (a : Act) (fs : List (World → Prop)),
    doneE P ops Inv bs Q n l i a → ∃ xs : List Value, doneWalk P ops Inv (fun _ _ _ => True) bs Q n l (xs.map ex) i a fs (fun _ => True)
  | [], _, _, _, h => ⟨[], fun d w hd hC _ => h d w hd hC⟩
  | o :: l, i, a, fs, ⟨x, hob, hrest⟩ => by
    obtain ⟨xs, hx⟩ := doneE_list l (i + 1) _ (fs ++ [fun _ : World => True]) hrest
    exact ⟨x :: xs, fun d w hC h0 h1 h2 _ R hR => hob d w hC h0 h1 h2 R (fun v w' hI hv => hR v w' hI trivial hv), hx⟩
theorem wp_region_stores {P : Program} {l : List Oper} {Q : Exit → Act → World → Prop} {a : Act} {id : Nat} {w : World} (Inv : (Nat → Bool) → World → Prop) (hm : P.follows .mixedOrders = true) (hB : monoB2 l a.tmps.size = true) (hC : Inv (fun _ => false) w.drew)
    (bs : List (List Nat)) (hbs : befores l [] = bs) (h : doneE P l.toArray Inv bs (Q .normal) l.length l 0 a) : (Code.region id l.toArray true).wp P Q a w := by
  subst hbs
  obtain ⟨xs, hx⟩ := doneE_list l 0 a [] h
  refine wp_region_done (xs.map ex) Inv (fun _ _ _ => True) hm hB (fun i k s _ hk v done w1 w2 _ _ _ => ?_) hC hx
  obtain ⟨x, _, rfl⟩ := List.mem_map.1 (List.mem_of_getElem? hk)
  trivial

/-- As wp_region_exact, where a temporary may be read ahead of being written. -/
theorem wp_region_exact2 {P : Program} {l : List Oper} {Q : Exit → Act → World → Prop} {a : Act} {id : Nat} {w : World} (B : Nat) (hBw : B ≤ w.heap.size) (hm : P.follows .mixedOrders = true) (hB : monoB2 l a.tmps.size = true)
    (h : monoE P l.toArray (Cls B w) TB (Q .normal) l 0 a) : (Code.region id l.toArray true).wp P Q a w := by
  have conv : ∀ (l' : List Oper) (i : Nat) (a' : Act), monoE P l.toArray (Cls B w) TB (Q .normal) l' i a' → doneE P l.toArray (fun _ => Cls B w) (befores l []) (Q .normal) l.length l' i a' := by
    intro l'
    induction l' with
    | nil => intro i a' h _ W _ hC; exact h W hC
    | cons o l' ih =>
      intro i a' h
      obtain ⟨x, h1, h2⟩ := h
      exact ⟨x, fun _ W hC _ _ _ R hR => h1 W hC R (fun v w' hT hv => hR v w' (hC.step hT) hv), ih _ _ h2⟩
  exact wp_region_stores (fun _ => Cls B w) hm hB ⟨hBw, (Below.refl _ _).drew⟩ _ rfl (conv l 0 a h)
end Go.Proofs.YtmokmmpomgjemaaDoor
