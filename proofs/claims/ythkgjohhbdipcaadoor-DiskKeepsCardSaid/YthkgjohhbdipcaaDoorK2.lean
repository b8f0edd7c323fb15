/- Texts laid one behind the other: Done, Prune, App, LastOp, Shelf, Whole, Laid, ShelfText, PolSpec, ReadSpec. No condition beyond theirs. -/
import Derived.Test.YthkgjohhbdipcaaDoorK1
import Derived.Deep.AppendLies
import Derived.Shelf.Strings.Builder1
import Derived.Shelf.Small.Utf8
import Derived.Shelf.Small.Strs
import Derived.Shelf.Utf8.RuneCount
import Derived.Shelf.Strconv.Atoi
import Derived.Shelf.Strconv.Itoa0
import Derived.Shelf.Strconv.Itoa1
import Derived.Shelf.LaysM
import Derived.Shelf.Strconv.Itoa2
import Derived.Shelf.Strconv.Itoa3
import Derived.Shelf.Strconv.Itoa4
import Derived.Shelf.Strconv.AtoiErrFast
import Derived.Shelf.Strconv.ParseIntEmpty
import Derived.Shelf.Strconv.AtoiFail
import Derived.Shelf.Strconv.Clone
import Derived.Shelf.Strconv.SyntaxError
import Derived.Shelf.LaysC
import Derived.Shelf.Strconv.ToError
import Derived.Shelf.Strconv.Lower
import Derived.Shelf.Strconv.ParseUint10
import Derived.Shelf.Strconv.ParseUint10Empty
import Derived.Shelf.Strconv.ParseUint10Any
import Derived.Shelf.Strconv.ParseInt10
import Derived.Shelf.Strconv.AtoiLong
import Derived.Shelf.Strconv.AtoiInnerAll
import Derived.Shelf.Strconv.RangeError
import Derived.Shelf.Strconv.ToErrorRange
import Derived.Shelf.Strconv.AtoiAll
import Derived.Shelf.Strconv.ParseUintEmpty
import Derived.Shelf.Strconv.ParseUint10b64
import Derived.Shelf.Strconv.ParseUint10b32
import Derived.Shelf.Strconv.ParseUint10b16
import Derived.Shelf.Strconv.ParseUint10b8
import Derived.Shelf.Strconv.ParseUint10At
import Derived.Shelf.Strconv.ParseInt10At64
import Derived.Shelf.Strconv.ParseInt10At32
import Derived.Shelf.Strconv.ParseInt10At16
import Derived.Shelf.Strconv.ParseInt10At8
import Derived.Shelf.Strconv.ParseInt10All
import Derived.Shelf.Strconv.ParseIntPublic10
import Derived.Shelf.Strconv.ErrVarParseInt
import Derived.Shelf.Strings.Search1
import Derived.Shelf.Strings.Search2
import Derived.Shelf.Strings.Search3
import Derived.Shelf.Strings.Cut
import Derived.Shelf.Strings.Count
import Derived.Shelf.Strings.Shaped
import Derived.Shelf.Strings.Split
import Derived.Shelf.Strings.Fields
import Derived.Shelf.Strings.SplitShaped
import Derived.Shelf.Unicode.Latin
import Derived.Shelf.Unicode.Decode
import Derived.Shelf.Strings.Runes
import Derived.Shelf.Strings.RuneCount
import Derived.Shelf.Strings.IndexAny
import Derived.Shelf.Strings.AsciiSet
import Derived.Shelf.Strings.IndexAnyAll
import Derived.Shelf.Strings.Explode
import Derived.Shelf.Unicode.DecodeSlow
import Derived.Shelf.Unicode.DecodeAny
import Derived.Shelf.Unicode.Is16White
import Derived.Shelf.Unicode.IsSpaceAny
import Derived.Shelf.Unicode.Is16Any
import Derived.Shelf.Unicode.Is32Any
import Derived.Shelf.Unicode.ExclAny
import Derived.Shelf.Slices.Turned
import Derived.Test.YthkgjohhbdipcaaDoorProg
import Derived.Lib.ParseIntB
import Derived.Lib.ItoaMem
import Derived.Lib.SmallJoins
import Derived.Lib.QuietBelow
import Derived.KernelRfl
import Derived.Lib.Split
set_option linter.all false
namespace Go.Proofs.YthkgjohhbdipcaaDoor
open Go.RowKit

/-- all that operation k waits for, at whatever distance. -/
def befores : List Oper → List (List Nat) → List (List Nat)
  | [], acc => acc
  | o :: l, acc => befores l (acc ++ [o.after.toList.flatMap fun e => e.on :: acc.getD e.on []])
def updDone (done : Nat → Bool) (i : Nat) : Nat → Bool := fun k => if k = i then true else done k
def doneOb (P : Program) (ops : Array Oper) (Inv : (Nat → Bool) → World → Prop) (T : World → World → Prop) (s : Spec) (i : Nat) (bs : List (List Nat)) (o : Oper) (a : Act) (fs : List (World → Prop)) : Prop :=
  ∀ (done : Nat → Bool) (w : World), Inv done w → done i = false → (∀ k ∈ o.after.toList.map (fun e => e.on), done k = true) → (∀ k : Nat, i ∈ bs.getD k [] → done k = false) → depFacts o fs w → ∀ R : Value → World → Prop, (∀ (v : Value) (w' : World), Inv (updDone done i) w' → T w w' → s.holds v w' → R v w') →
    if Region.wanted o (yielded ops a.tmps) then gives P o a w R else R undef w
def doneWalk (P : Program) (ops : Array Oper) (Inv : (Nat → Bool) → World → Prop) (T : Nat → World → World → Prop) (bs : List (List Nat)) (Q : Act → World → Prop) (n : Nat) :
    List Oper → List Spec → Nat → Act → List (World → Prop) → (World → Prop) → Prop
  | [], _, _, a, _, F => ∀ (done : Nat → Bool) (w : World), (∀ k, k < n → done k = true) → Inv done w → F w → Q a w
  | _ :: _, [], _, _, _, _ => False
  | o :: l, s :: ss, i, a, fs, F => doneOb P ops Inv (T i) s i bs o a fs ∧
      match s.exact? with
      | some x => doneWalk P ops Inv T bs Q n l ss (i + 1) (a.put o.dst x) (fs ++ [fun _ : World => True]) F
      | none => ∀ v : Value, doneWalk P ops Inv T bs Q n l ss (i + 1) (a.put o.dst v) (fs ++ [s.pred v]) (fun w : World => F w ∧ s.pred v w)

theorem done_ext {P : Program} {ops : Array Oper} {Inv : (Nat → Bool) → World → Prop} {T : Nat → World → World → Prop} {bs : List (List Nat)} {n : Nat} {Q : Act → World → Prop} (vals : Nat → Value) :
    ∀ (l : List Oper) (ss : List Spec) (i : Nat) (a : Act) (fs : List (World → Prop)) (F : World → Prop), okVals vals ss i → doneWalk P ops Inv T bs Q n l ss i a fs F →
      (∀ j o s, l[j]? = some o → ss[j]? = some s → doneOb P ops Inv (T (i + j)) s (i + j) bs o (lexAct vals (l.take j) i a) (fs ++ factList vals (ss.take j) i)) ∧
      (∀ (done : Nat → Bool) (w : World), (∀ k, k < n → done k = true) → Inv done w → F w → allFacts vals (ss.take l.length) i w → Q (lexAct vals l i a) w) ∧ l.length ≤ ss.length := by
  intro l
  induction l with
  | nil => intro ss i a fs F _ h; exact ⟨fun j o s hj _ => by simp at hj, fun done w hd hC hF _ => h done w hd hC hF, by simp⟩
  | cons o l ih =>
    intro ss i a fs F hv h
    cases ss with
    | nil => exact h.elim
    | cons s ss =>
      obtain ⟨hx, hv'⟩ := hv
      obtain ⟨hob, hrest⟩ := h
      have key : ∃ F' : World → Prop, doneWalk P ops Inv T bs Q n l ss (i + 1) (a.put o.dst (vals i)) (fs ++ [s.fact (vals i)]) F' ∧ ∀ w, F w → s.fact (vals i) w → F' w := by
        unfold Spec.fact
        cases he : s.exact? with
        | some x =>
          rw [he] at hrest
          rw [hx x he]
          exact ⟨F, hrest, fun w h _ => h⟩
        | none =>
          rw [he] at hrest
          exact ⟨_, hrest (vals i), fun w h h' => ⟨h, h'⟩⟩
      obtain ⟨F', hk, hF'⟩ := key
      obtain ⟨h1, h2, h3⟩ := ih ss (i + 1) _ _ F' hv' hk
      refine ⟨fun j o' s' hj hs => ?_, fun done w hd hC hF hall => ?_, by simp; omega⟩
      · cases j with
        | zero =>
          simp only [List.getElem?_cons_zero, Option.some.injEq] at hj hs
          subst hj hs
          simpa [lexAct, factList] using hob
        | succ j =>
          have := h1 j o' s' (by simpa using hj) (by simpa using hs)
          simpa [lexAct, factList, List.append_assoc, Nat.add_comm, Nat.add_left_comm, Nat.add_assoc] using this
      · simp only [List.length_cons, List.take_succ_cons, allFacts] at hall
        exact h2 done w hd hC (hF' w hF hall.1) hall.2

/-- What holds when the operations that are listed have been done. -/
structure DoneInv (l : List Oper) (ss : List Spec) (Inv : (Nat → Bool) → World → Prop) (a : Act) (vf : Nat → Value) (listed : Array Bool) (a' : Act) (w' : World) : Prop where
  cls : Inv (fun k => listed[k]? == some true) w'
  down : ∀ (j : Nat) (o : Oper), l[j]? = some o → listed[j]? = some true → ∀ e ∈ o.after, listed[e.on]? = some true
  lsize : listed.size = l.length
  defers : a'.defers = a.defers
  size : a'.tmps.size = a.tmps.size
  done : ∀ (j : Nat) (o : Oper) (s : Spec), l[j]? = some o → ss[j]? = some s → listed[j]? = some true → s.holds (vf j) w' ∧ ∀ d, o.dst = some d → a'.tmps[d]? = some (vf j)
  rest : ∀ t, (∀ (j : Nat) (o : Oper), l[j]? = some o → listed[j]? = some true → o.dst ≠ some t) → a'.tmps[t]? = a.tmps[t]?


theorem befores_spec : ∀ (l : List Oper) (acc : List (List Nat)) (P : Nat → Nat → Prop), (∀ k i, i ∈ acc.getD k [] → P k i) → (∀ (j : Nat) (o : Oper) (e : Edge), l[j]? = some o → e ∈ o.after → P (acc.length + j) e.on) →
    (∀ a b c, P a b → P b c → P a c) → ∀ k i, i ∈ (befores l acc).getD k [] → P k i
  | [], _, _, h, _, _ => h
  | o :: l, acc, P, h, he, ht => by
    refine befores_spec l _ P ?_ (fun j o' e hj hm => by
      have := he (j + 1) o' e (by simpa using hj) hm
      rwa [List.length_append, List.length_singleton, Nat.add_assoc, Nat.add_comm 1 j]) ht
    intro k i hi
    rw [List.getD_eq_getElem?_getD, List.getElem?_append] at hi
    split at hi
    · exact h k i (by rw [List.getD_eq_getElem?_getD]; exact hi)
    · rename_i hge
      have hk : k = acc.length := by
        rcases Nat.lt_or_ge acc.length k with hlt | hle
        · have : ([o.after.toList.flatMap fun e => e.on :: acc.getD e.on []] : List (List Nat))[k - acc.length]? = none := List.getElem?_eq_none (by simp; omega)
          rw [this] at hi; simp at hi
        · omega
      subst hk
      simp only [Nat.sub_self, List.getElem?_cons_zero, Option.getD_some, List.mem_flatMap] at hi
      obtain ⟨e, hm, hi⟩ := hi
      have h1 := he 0 o e rfl (by simpa using hm)
      rw [Nat.add_zero] at h1
      rcases List.mem_cons.1 hi with rfl | hi
      · exact h1
      · exact ht _ _ _ h1 (h e.on i hi)

/-- The Bool over a region: temporaries are written once, by an operation that whoever looks at it waits for. -/
def monoB2 (l : List Oper) (size : Nat) : Bool :=
  (l.zipIdx.all fun (o, i) =>
    (match o.op with | .select .. => false | _ => true) &&
    o.after.toList.all (fun e => decide (e.on < i) && Region.binds .any e) &&
    (o.looksAt l.toArray).all (fun s => l.zipIdx.all fun (o', j) => o'.dst != some s || (decide (j < i) && (o.after.toList.map (·.on)).contains j) || ((befores l []).getD j []).contains i) &&
    (match o.dst with | some d => decide (d < size) && l.zipIdx.all (fun (o', j) => j == i || o'.dst != some d) | none => true))

theorem monoB2_spec {l : List Oper} {size : Nat} (h : monoB2 l size = true) {i : Nat} {o : Oper} (hi : l[i]? = some o) :
    (∀ cs b, o.op ≠ .select cs b) ∧ (∀ e ∈ o.after, e.on < i ∧ Region.binds .any e = true) ∧
    (∀ s ∈ o.looksAt l.toArray, ∀ (j : Nat) (o' : Oper), l[j]? = some o' → o'.dst = some s → (j < i ∧ ∃ e ∈ o.after, e.on = j) ∨ i ∈ (befores l []).getD j []) ∧
    (∀ d, o.dst = some d → d < size ∧ ∀ (j : Nat) (o' : Oper), l[j]? = some o' → j ≠ i → o'.dst ≠ some d) := by
  have hz : ∀ {j : Nat} {o' : Oper}, l[j]? = some o' → (o', j) ∈ l.zipIdx := fun {j o'} hj => by
    rw [List.mem_zipIdx_iff_getElem?]; exact hj
  have h1 := List.all_eq_true.1 h _ (hz hi)
  simp only [Bool.and_eq_true] at h1
  obtain ⟨⟨⟨ha, hb⟩, hc⟩, hd⟩ := h1
  refine ⟨fun cs b e => ?_, fun e he => ?_, fun s hs j o' hj hds => ?_, fun d hd' => ?_⟩
  · rw [e] at ha; simp at ha
  · have := List.all_eq_true.1 hb e (by simpa using he)
    simpa using this
  · have h2 := List.all_eq_true.1 (List.all_eq_true.1 hc s hs) _ (hz hj)
    simp only [hds, bne_self_eq_false, Bool.false_or, Bool.or_eq_true, Bool.and_eq_true, decide_eq_true_eq, List.contains_eq_mem] at h2
    rcases h2 with h2 | h2
    · refine .inl ⟨h2.1, ?_⟩
      have := h2.2
      simpa using this
    · exact .inr (by simpa using h2)
  · simp only [hd', Bool.and_eq_true, decide_eq_true_eq] at hd
    refine ⟨hd.1, fun j o' hj hne e => ?_⟩
    have := List.all_eq_true.1 hd.2 _ (hz hj)
    simp [hne, e] at this

section
variable {P : Program} {l : List Oper} {Inv : (Nat → Bool) → World → Prop} {T : Nat → World → World → Prop} {Q : Exit → Act → World → Prop} {a : Act} {ss : List Spec}

theorem wpAny_done (hB : monoB2 l a.tmps.size = true) (hst : ∀ (i k : Nat) (s : Spec), i ≠ k → ss[k]? = some s → ∀ v done w w', Inv done w → T i w w' → s.fact v w → s.fact v w')
    (h : doneWalk P l.toArray Inv T (befores l []) (Q .normal) l.length l ss 0 a [] (fun _ => True)) :
    ∀ (fuel : Nat) (listed : Array Bool) (vf : Nat → Value) (a' : Act) (w' : World), (undone listed l.length).length ≤ fuel → DoneInv l ss Inv a vf listed a' w' → wpAny P .any l.toArray Q fuel listed a' w' := by
  have hS := fun {i : Nat} {o : Oper} (hi : l[i]? = some o) => monoB2_spec hB hi
  -- the values as far as they are there
  have hok : ∀ (listed : Array Bool) (vf : Nat → Value) (a' : Act) (w' : World), DoneInv l ss Inv a vf listed a' w' → okVals (fillVals ss listed vf) ss 0 := by
    intro listed vf a' w' hI
    refine okVals_of ss 0 fun j s x hj hx => ?_
    rw [Nat.zero_add]
    unfold fillVals
    split
    · rename_i hl
      have hlt : j < l.length := by
        have := (Array.getElem?_eq_some_iff.1 hl).1
        rw [hI.lsize] at this; exact this
      have := (hI.done j l[j] s (List.getElem?_eq_getElem hlt) hj hl).1
      unfold Spec.holds at this
      rw [hx] at this
      exact this
    · rw [hj]; simp [hx]
  have hfill : ∀ (listed : Array Bool) (vf : Nat → Value) (j : Nat), listed[j]? = some true → fillVals ss listed vf j = vf j := fun listed vf j hl => by unfold fillVals; rw [if_pos hl]
  have fin : ∀ (listed : Array Bool) (vf : Nat → Value) (a' : Act) (w' : World), (∀ j, j < l.length → listed[j]? = some true) → DoneInv l ss Inv a vf listed a' w' → Q .normal a' w' := by
    intro listed vf a' w' hall hI
    obtain ⟨_, h2, h3⟩ := done_ext (fillVals ss listed vf) l ss 0 a [] _ (hok listed vf a' w' hI) h
    have hq := h2 _ w' (fun k hk => by simp [hall k hk]) hI.cls trivial (allFacts_of _ 0 fun j s hj => by
      rw [Nat.zero_add]
      have hjl : j < l.length := by
        have := (List.getElem?_eq_some_iff.1 hj).1
        simp at this; omega
      have hj' : ss[j]? = some s := by rw [List.getElem?_take_of_lt hjl] at hj; exact hj
      rw [hfill _ _ _ (hall j hjl)]
      exact Spec.fact_of_holds (hI.done j l[j] s (List.getElem?_eq_getElem hjl) hj' (hall j hjl)).1)
    have ea : a' = lexAct (fillVals ss listed vf) l 0 a := by
      obtain ⟨hz, hd⟩ := lexAct_size (fillVals ss listed vf) l 0 a
      have ht : a'.tmps = (lexAct (fillVals ss listed vf) l 0 a).tmps := by
        apply Array.ext_getElem?
        intro t
        by_cases hex : ∃ (j : Nat) (o : Oper), l[j]? = some o ∧ o.dst = some t
        · obtain ⟨j, o, hj, hdt⟩ := hex
          have hjl := (List.getElem?_eq_some_iff.1 hj).1
          obtain ⟨hlt, huniq⟩ := (hS hj).2.2.2 t hdt
          rw [lexAct_same _ l 0 a j o hj hdt huniq hlt, Nat.zero_add, hfill _ _ _ (hall j hjl)]
          have hjs : ss[j]? = some ss[j] := List.getElem?_eq_getElem (by omega)
          exact (hI.done j o _ hj hjs (hall j hjl)).2 t hdt
        · have hn : ∀ (j : Nat) (o : Oper), l[j]? = some o → o.dst ≠ some t := fun j o hj e => hex ⟨j, o, hj, e⟩
          rw [lexAct_other _ l 0 a (fun o ho => by obtain ⟨j, hj⟩ := List.getElem?_of_mem ho; exact hn j o hj)]
          exact hI.rest t (fun j o hj _ => hn j o hj)
      cases a'; cases hx : lexAct (fillVals ss listed vf) l 0 a
      rw [hx] at ht hd
      have := hI.defers
      simp_all
    rw [ea]; exact hq
  have allIf : ∀ (listed : Array Bool), listed.size = l.length → Region.ready .any l.toArray listed = [] → ∀ j, j < l.length → listed[j]? = some true := by
    intro listed hsz hr j
    induction j using Nat.strongRecOn with
    | ind j ih =>
      intro hj
      have hsome : listed[j]? = some listed[j] := Array.getElem?_eq_getElem (by omega)
      cases hb : listed[j] with
      | true => rw [hsome, hb]
      | false =>
        have : j ∈ Region.ready .any l.toArray listed := by
          rw [mem_ready]
          refine ⟨by simp [Array.getD_eq_getD_getElem?, hsome, hb], l[j], by simp [hj], fun e he _ => ?_⟩
          have h1 := ((hS (List.getElem?_eq_getElem hj)).2.1 e he).1
          have h2 := ih e.on h1 (by omega)
          simp [Array.getD_eq_getD_getElem?, h2]
        rw [hr] at this
        cases this
  intro fuel
  induction fuel with
  | zero =>
    intro listed vf a' w' hf hI
    have hall : ∀ j, j < l.length → listed[j]? = some true := by
      intro j hj
      have h0 : undone listed l.length = [] := List.eq_nil_of_length_eq_zero (by omega)
      unfold undone at h0
      rw [List.filter_eq_nil_iff] at h0
      simpa using h0 j (List.mem_range.2 hj)
    refine ⟨?_, fin _ _ _ _ hall hI⟩
    rw [List.eq_nil_iff_forall_not_mem]
    intro j hj
    obtain ⟨h0, o, ho, _⟩ := mem_ready.1 hj
    have hj' : j < l.length := by
      have := (Array.getElem?_eq_some_iff.1 ho).1
      simpa using this
    simp [Array.getD_eq_getD_getElem?, hall j hj'] at h0
  | succ fuel ih =>
    intro listed vf a' w' hf hI
    refine ⟨fun hr => fin _ _ _ _ (allIf listed hI.lsize hr) hI, fun i hi => ?_⟩
    obtain ⟨h0, o, ho, hdep⟩ := mem_ready.1 hi
    have hil : l[i]? = some o := by simpa using ho
    have hilt : i < l.length := (List.getElem?_eq_some_iff.1 hil).1
    have hnl : listed[i]? ≠ some true := fun e => by simp [Array.getD_eq_getD_getElem?, e] at h0
    obtain ⟨hsel, hafter, hlooks, hdst⟩ := hS hil
    have hdone : ∀ e ∈ o.after, listed[e.on]? = some true := fun e he => by
      have := hdep e he (hafter e he).2
      rw [Array.getD_eq_getD_getElem?] at this
      cases hx : listed[e.on]? with
      | none => simp [hx] at this
      | some b => simp [hx] at this; rw [this]
    obtain ⟨h1, _, h3⟩ := done_ext (fillVals ss listed vf) l ss 0 a [] _ (hok listed vf a' w' hI) h
    have hsi : ss[i]? = some ss[i] := List.getElem?_eq_getElem (by omega)
    have hob := h1 i o ss[i] hil hsi
    rw [Nat.zero_add, List.nil_append] at hob
    -- the lexical act looks alike to this operation
    have hsame : ∀ t ∈ o.looksAt l.toArray, (lexAct (fillVals ss listed vf) (l.take i) 0 a).tmps[t]? = a'.tmps[t]? := by
      intro t ht
      by_cases hex : ∃ (j : Nat) (o' : Oper), l[j]? = some o' ∧ o'.dst = some t
      · obtain ⟨j, o', hj, hdt⟩ := hex
        rcases hlooks t ht j o' hj hdt with ⟨hji, e, he, hej⟩ | hbef
        rotate_left
        · have hij : i < j := befores_spec l [] (fun k i => i < k) (fun k i h => by simp at h) (fun j o' e hj he => by
            have := ((hS (show l[j]? = some o' from hj)).2.1 e he).1; simpa using this) (fun a b c h1 h2 => Nat.lt_trans h2 h1) j i hbef
          have hnj : listed[j]? ≠ some true := fun hlj => hnl (befores_spec l [] (fun k i => listed[k]? = some true → listed[i]? = some true) (fun k i h => by simp at h) (fun j o' e hj he hlj => by
            simp at hlj; exact hI.down j o' hj hlj e he) (fun a b c h1 h2 h3 => h2 (h1 h3)) j i hbef hlj)
          obtain ⟨_, huniq⟩ := (hS hj).2.2.2 t hdt
          rw [lexAct_other _ (l.take i) 0 a (fun o'' ho'' => by
            obtain ⟨k, hk⟩ := List.getElem?_of_mem ho''
            have hki : k < i := by have := (List.getElem?_eq_some_iff.1 hk).1; simp at this; omega
            rw [List.getElem?_take_of_lt hki] at hk
            exact huniq k o'' hk (by omega))]
          refine (hI.rest t fun k o'' hk hlk => ?_).symm
          by_cases hkj : k = j
          · subst hkj; exact absurd hlk hnj
          · exact huniq k o'' hk hkj
        have hlj : listed[j]? = some true := hej ▸ hdone e he
        obtain ⟨hlt, huniq⟩ := (hS hj).2.2.2 t hdt
        have hjs : ss[j]? = some ss[j] := List.getElem?_eq_getElem (by omega)
        rw [lexAct_same _ (l.take i) 0 a j o' (by rw [List.getElem?_take_of_lt hji]; exact hj) hdt (fun j' o'' hj' hne => huniq j' o'' (by
          have hlt' : j' < i := by
            have := (List.getElem?_eq_some_iff.1 hj').1
            simp at this; omega
          rw [List.getElem?_take_of_lt hlt'] at hj'; exact hj') hne) hlt, Nat.zero_add, hfill _ _ _ hlj]
        exact ((hI.done j o' _ hj hjs hlj).2 t hdt).symm
      · have hn : ∀ (j : Nat) (o : Oper), l[j]? = some o → o.dst ≠ some t := fun j o hj e => hex ⟨j, o, hj, e⟩
        rw [lexAct_other _ (l.take i) 0 a (fun o' ho' => by obtain ⟨j, hj⟩ := List.getElem?_of_mem (List.mem_of_mem_take ho'); exact hn j o' hj)]
        exact (hI.rest t (fun j o hj _ => hn j o hj)).symm
    have hexec : execOp (lexAct (fillVals ss listed vf) (l.take i) 0 a).eval o = execOp a'.eval o := by
      refine execOp_congr o hsel fun x hx => ?_
      cases x with
      | tmp t =>
        have := hsame t (List.mem_append_left _ (List.mem_filterMap.2 ⟨.tmp t, by simpa using hx, rfl⟩))
        simp [Act.eval, Array.getD_eq_getD_getElem?, this]
      | _ => rfl
    have hwant : Region.wanted o (yielded l.toArray (lexAct (fillVals ss listed vf) (l.take i) 0 a).tmps) = Region.wanted o (yielded l.toArray a'.tmps) := by
      unfold Region.wanted
      cases hg : o.guard with
      | none => rfl
      | some gw =>
        obtain ⟨g, want⟩ := gw
        have hy : yielded l.toArray (lexAct (fillVals ss listed vf) (l.take i) 0 a).tmps g = yielded l.toArray a'.tmps g := by
          unfold yielded
          cases ht : (l.toArray[g]?).bind (·.dst) with
          | none => rfl
          | some t =>
            have := hsame t (by simp only [Oper.looksAt, hg, ht]; simp)
            simp only [Option.bind_some, this]
        simp only [hy]
    have hfacts : depFacts o ([] ++ factList (fillVals ss listed vf) (ss.take i) 0) w' := by
      intro k hk
      rw [List.nil_append]
      obtain ⟨e, he, rfl⟩ := List.mem_map.1 hk
      have he' : e ∈ o.after := by simpa using he
      have hlt := (hafter e he').1
      have hlk := hdone e he'
      have hks : ss[e.on]? = some ss[e.on] := List.getElem?_eq_getElem (by omega)
      rw [List.getD_eq_getElem?_getD, factList_get (ss.take i) 0 e.on ss[e.on] (by rw [List.getElem?_take_of_lt hlt]; exact hks), Nat.zero_add, hfill _ _ _ hlk]
      exact Spec.fact_of_holds (hI.done e.on l[e.on] _ (List.getElem?_eq_getElem (by omega)) hks hlk).1
    rw [List.nil_append] at hfacts
    have hnot : ∀ k : Nat, i ∈ (befores l []).getD k [] → ((fun k => listed[k]? == some true) k) = false := by
      intro k hk
      have hP := befores_spec l [] (fun k i => listed[k]? = some true → listed[i]? = some true) (fun k i h => by simp at h) (fun j o' e hj he hlj => by
        simp at hlj; exact hI.down j o' hj hlj e he) (fun a b c h1 h2 h3 => h2 (h1 h3)) k i hk
      cases hx : (listed[k]? == some true) with
      | false => exact hx
      | true => exact absurd (hP (by simpa using hx)) hnl
    have hres := hob _ w' hI.cls (by simpa using hnl) (fun k hk => by
      obtain ⟨e, he, rfl⟩ := List.mem_map.1 hk
      simp [hdone e (by simpa using he)]) hnot hfacts (fun v w'' => Inv (updDone (fun k => listed[k]? == some true) i) w'' ∧ T i w' w'' ∧ ss[i].holds v w'') (fun v w'' h0 h1 h2 => ⟨h0, h1, h2⟩)
    rw [hwant] at hres
    have next : ∀ v w'', Inv (updDone (fun k => listed[k]? == some true) i) w'' → T i w' w'' → ss[i].holds v w'' → wpAny P .any l.toArray Q fuel (listed.setIfInBounds i true) (a'.put o.dst v) w'' := by
      intro v w'' hIv hT hv
      have hu := undone_set hilt (by rw [hI.lsize]; exact Nat.le_refl _) hnl
      refine ih _ (fun j => if j = i then v else vf j) _ _ (by omega) ⟨?_, ?_, by simp [hI.lsize], ?_, ?_, ?_, ?_⟩
      · refine (congrArg (fun d => Inv d w'') ?_).mp hIv
        funext k
        unfold updDone
        by_cases e : k = i
        · subst e; rw [if_pos rfl, Array.getElem?_setIfInBounds_self_of_lt (by rw [hI.lsize]; exact hilt)]; simp
        · rw [if_neg e, Array.getElem?_setIfInBounds_ne (Ne.symm e)]
      · intro j o' hj hlj e he
        by_cases hje : j = i
        · subst hje
          rw [hil] at hj
          obtain rfl : o = o' := by simpa using hj
          have := hdone e he
          by_cases hei : e.on = j
          · rw [hei, Array.getElem?_setIfInBounds_self_of_lt (by rw [hI.lsize]; exact hilt)]
          · rw [Array.getElem?_setIfInBounds_ne (Ne.symm hei)]; exact this
        · rw [Array.getElem?_setIfInBounds_ne (Ne.symm hje)] at hlj
          have := hI.down j o' hj hlj e he
          by_cases hei : e.on = i
          · rw [hei, Array.getElem?_setIfInBounds_self_of_lt (by rw [hI.lsize]; exact hilt)]
          · rw [Array.getElem?_setIfInBounds_ne (Ne.symm hei)]; exact this
      · rw [← hI.defers]; cases o.dst <;> rfl
      · rw [← hI.size]; cases o.dst <;> simp [Act.put]
      · intro j o' s hj hjs hlj
        by_cases e : j = i
        · subst e
          rw [hil] at hj
          obtain rfl : o = o' := by simpa using hj
          rw [hsi] at hjs
          obtain rfl : ss[j] = s := by simpa using hjs
          rw [if_pos rfl]
          refine ⟨hv, fun d hd => ?_⟩
          rw [hd, put_get_same (by rw [hI.size]; exact (hdst d hd).1)]
        · rw [Array.getElem?_setIfInBounds_ne (Ne.symm e)] at hlj
          rw [if_neg e]
          obtain ⟨g1, g2⟩ := hI.done j o' s hj hjs hlj
          refine ⟨?_, fun d hd => ?_⟩
          · have hf := hst i j s (Ne.symm e) hjs (vf j) _ w' w'' hI.cls hT (Spec.fact_of_holds g1)
            unfold Spec.holds at g1 ⊢
            unfold Spec.fact at hf
            split <;> simp_all
          · rw [put_get_other (fun e' => (hdst d e').2 j o' hj e hd)]
            exact g2 d hd
      · intro t ht
        have hti : o.dst ≠ some t := ht i o hil (by rw [Array.getElem?_setIfInBounds_self_of_lt (by rw [hI.lsize]; exact hilt)])
        rw [put_get_other hti]
        refine hI.rest t fun j o' hj hlj => ?_
        by_cases e : j = i
        · subst e; exact absurd hlj hnl
        · exact ht j o' hj (by rw [Array.getElem?_setIfInBounds_ne (Ne.symm e)]; exact hlj)
    unfold wpOp
    rw [ho]
    by_cases hw : Region.wanted o (yielded l.toArray a'.tmps) = true
    · simp only [hw, if_true] at hres ⊢
      refine .inl (wp_of_gives (R := fun v w'' => Inv (updDone (fun k => listed[k]? == some true) i) w'' ∧ T i w' w'' ∧ ss[i].holds v w'') ?_ fun v w'' ⟨h0, h1, h2⟩ => next v w'' h0 h1 h2)
      unfold gives at hres ⊢
      rw [← hexec]; exact hres
    · simp only [hw] at hres ⊢
      exact next _ _ hres.1 hres.2.1 hres.2.2

/-- ONE LEXICAL WALK SERVES EVERY ORDER, stores among the operations. -/
theorem wp_region_done {id : Nat} {w : World} (ss : List Spec) (Inv : (Nat → Bool) → World → Prop) (T : Nat → World → World → Prop) (hm : P.follows .mixedOrders = true) (hB : monoB2 l a.tmps.size = true)
    (hst : ∀ (i k : Nat) (s : Spec), i ≠ k → ss[k]? = some s → ∀ v done w w', Inv done w → T i w w' → s.fact v w → s.fact v w') (hC : Inv (fun _ => false) w.drew)
    (h : doneWalk P l.toArray Inv T (befores l []) (Q .normal) l.length l ss 0 a [] (fun _ => True)) : (Code.region id l.toArray true).wp P Q a w := by
  refine wp_region_any hm (wpAny_done hB hst h _ _ (fun _ => undef) _ _ ?_ ⟨?_, ?_, by simp, rfl, rfl, ?_, fun _ _ => rfl⟩)
  · have := List.length_filter_le (fun i => (Array.replicate l.toArray.size false)[i]? != some true) (List.range l.length)
    simpa [undone] using this
  · refine (congrArg (fun d => Inv d _) ?_).mp hC
    funext k
    rw [Array.getElem?_replicate]
    split <;> simp
  · intro j o hj hl
    rw [Array.getElem?_replicate] at hl
    split at hl <;> simp at hl
  · intro j o s hj _ hl
    rw [Array.getElem?_replicate] at hl
    split at hl <;> simp at hl
end

/-- Exact values alone: each is found as its operation is walked. -/
def doneE (P : Program) (ops : Array Oper) (Inv : (Nat → Bool) → World → Prop) (bs : List (List Nat)) (Q : Act → World → Prop) (n : Nat) : List Oper → Nat → Act → Prop
  | [], _, a => ∀ (done : Nat → Bool) (w : World), (∀ k, k < n → done k = true) → Inv done w → Q a w
  | o :: l, i, a => ∃ x : Value, (∀ (done : Nat → Bool) (w : World), Inv done w → done i = false → (∀ k ∈ o.after.toList.map (fun e => e.on), done k = true) → (∀ k : Nat, i ∈ bs.getD k [] → done k = false) →
      ∀ R : Value → World → Prop, (∀ (v : Value) (w' : World), Inv (updDone done i) w' → v = x → R v w') → if Region.wanted o (yielded ops a.tmps) then gives P o a w R else R undef w) ∧
      doneE P ops Inv bs Q n l (i + 1) (a.put o.dst x)
theorem doneE_step {P : Program} {ops : Array Oper} {Inv : (Nat → Bool) → World → Prop} {bs : List (List Nat)} {Q : Act → World → Prop} {n : Nat} {o : Oper} {l : List Oper} {i : Nat} {a : Act}
    (h : ∀ K : Act → Prop, (∀ a, doneE P ops Inv bs Q n l (i + 1) a → K a) → ∃ x : Value, (∀ (done : Nat → Bool) (w : World), Inv done w → done i = false → (∀ k ∈ o.after.toList.map (fun e => e.on), done k = true) → (∀ k : Nat, i ∈ bs.getD k [] → done k = false) →
      ∀ R : Value → World → Prop, (∀ (v : Value) (w' : World), Inv (updDone done i) w' → v = x → R v w') → if Region.wanted o (yielded ops a.tmps) then gives P o a w R else R undef w) ∧ K (a.put o.dst x)) :
    doneE P ops Inv bs Q n (o :: l) i a := h _ (fun _ h => h)
theorem doneE_list {P : Program} {ops : Array Oper} {Inv : (Nat → Bool) → World → Prop} {bs : List (List Nat)} {Q : Act → World → Prop} {n : Nat} : ∀ (l : List Oper) (i : Nat) (a : Act) (fs : List (World → Prop)),
    doneE P ops Inv bs Q n l i a → ∃ xs : List Value, doneWalk P ops Inv (fun _ _ _ => True) bs Q n l (xs.map ex) i a fs (fun _ => True)
  | [], _, _, _, h => ⟨[], fun d w hd hC _ => h d w hd hC⟩
  | o :: l, i, a, fs, ⟨x, hob, hrest⟩ => by
    obtain ⟨xs, hx⟩ := doneE_list l (i + 1) _ (fs ++ [fun _ : World => True]) hrest
    exact ⟨x :: xs, fun d w hC h0 h1 h2 _ R hR => hob d w hC h0 h1 h2 R (fun v w' hI hv => hR v w' hI trivial hv), hx⟩
theorem wp_region_stores {P : Program} {l : List Oper} {Q : Exit → Act → World → Prop} {a : Act} {id : Nat} {w : World} (Inv : (Nat → Bool) → World → Prop) (hm : P.follows .mixedOrders = true) (hB : monoB2 l a.tmps.size = true) (hC : Inv (fun _ => false) w.drew)
    (bs : List (List Nat)) (hbs : befores l [] = bs) (h : doneE P l.toArray Inv bs (Q .normal) l.length l 0 a) : (Code.region id l.toArray true).wp P Q a w := by
  subst hbs
  obtain ⟨xs, hx⟩ := doneE_list l 0 a [] h
  refine wp_region_done (xs.map ex) Inv (fun _ _ _ => True) hm hB (fun i k s _ hk v done w1 w2 _ _ _ => ?_) hC hx
  obtain ⟨x, _, rfl⟩ := List.mem_map.1 (List.mem_of_getElem? hk)
  trivial

/-- As wp_region_exact, where a temporary may be read ahead of being written. -/
theorem wp_region_exact2 {P : Program} {l : List Oper} {Q : Exit → Act → World → Prop} {a : Act} {id : Nat} {w : World} (B : Nat) (hBw : B ≤ w.heap.size) (hm : P.follows .mixedOrders = true) (hB : monoB2 l a.tmps.size = true)
    (h : monoE P l.toArray (Cls B w) TB (Q .normal) l 0 a) : (Code.region id l.toArray true).wp P Q a w := by
  have conv : ∀ (l' : List Oper) (i : Nat) (a' : Act), monoE P l.toArray (Cls B w) TB (Q .normal) l' i a' → doneE P l.toArray (fun _ => Cls B w) (befores l []) (Q .normal) l.length l' i a' := by
    intro l'
    induction l' with
    | nil => intro i a' h _ W _ hC; exact h W hC
    | cons o l' ih =>
      intro i a' h
      obtain ⟨x, h1, h2⟩ := h
      exact ⟨x, fun _ W hC _ _ _ R hR => h1 W hC R (fun v w' hT hv => hR v w' (hC.step hT) hv), ih _ _ h2⟩
  exact wp_region_stores (fun _ => Cls B w) hm hB ⟨hBw, (Below.refl _ _).drew⟩ _ rfl (conv l 0 a h)
end Go.Proofs.YthkgjohhbdipcaaDoor
namespace Go.Proofs.YthkgjohhbdipcaaDoor
open Go.RowKit

def prune (o : Oper) : Oper := { o with after := o.after.filter (Region.binds .any) }
theorem prune_get (l : List Oper) (i : Nat) : (l.map prune).toArray[i]? = (l.toArray[i]?).map prune := by simp
theorem all_prune (p q : Edge → Bool) (es : Array Edge) : ((es.filter p).all fun e => !p e || q e) = es.all fun e => !p e || q e := by
  rw [Bool.eq_iff_iff]
  simp only [Array.all_eq_true_iff_forall_mem, Array.mem_filter]
  constructor
  · intro h e he
    cases hp : p e with
    | false => rfl
    | true => have := h e ⟨he, hp⟩; rwa [hp] at this
  · intro h e he
    exact h e he.1
theorem ready_prune (l : List Oper) (listed : Array Bool) : Region.ready .any (l.map prune).toArray listed = Region.ready .any l.toArray listed := by
  unfold Region.ready
  have hs : (l.map prune).toArray.size = l.toArray.size := by simp
  rw [hs]
  congr 1
  funext i
  rw [prune_get, Option.map_map]
  congr 2
  congr 1
  funext o
  exact all_prune _ _ _
theorem yielded_prune (l : List Oper) (t : Array Value) : yielded (l.map prune).toArray t = yielded l.toArray t := by
  funext j
  unfold yielded
  rw [prune_get]
  cases l.toArray[j]? <;> rfl
theorem wpOp_prune {P : Program} {l : List Oper} {Q : Exit → Act → World → Prop} {i : Nat} {K : Act → World → Prop} {a : Act} {w : World} (h : wpOp P (l.map prune).toArray Q i K a w) : wpOp P l.toArray Q i K a w := by
  unfold wpOp at h ⊢
  rw [prune_get] at h
  cases ho : l.toArray[i]? with
  | none => rw [ho] at h; exact h
  | some o => rw [ho, yielded_prune] at h; exact h
theorem wpAny_prune {P : Program} {l : List Oper} {Q : Exit → Act → World → Prop} : ∀ (fuel : Nat) (listed : Array Bool) (a : Act) (w : World), wpAny P .any (l.map prune).toArray Q fuel listed a w → wpAny P .any l.toArray Q fuel listed a w
  | 0, listed, a, w, h => by unfold wpAny at h ⊢; rwa [ready_prune] at h
  | fuel + 1, listed, a, w, h => by
    unfold wpAny at h ⊢
    rw [ready_prune] at h
    exact ⟨h.1, fun i hi => wpOp_mono (fun a' w' h' => wpAny_prune fuel _ a' w' h') (wpOp_prune (h.2 i hi))⟩
theorem monoE_prune {P : Program} {ops : List Oper} {C : World → Prop} {T : Nat → World → World → Prop} {Q : Act → World → Prop} : ∀ (l : List Oper) (i : Nat) (a : Act), monoE P ops.toArray C T Q l i a → monoE P (ops.map prune).toArray C T Q (l.map prune) i a
  | [], _, _, h => h
  | o :: l, i, a, ⟨x, h1, h2⟩ => by
    refine ⟨x, fun w hC R hR => ?_, monoE_prune l _ _ h2⟩
    have := h1 w hC R hR
    rw [← yielded_prune] at this
    exact this

/-- As wp_region_exact: edges that bind no order are left out, and a temporary may be read ahead of being written. -/
theorem wp_region_exact3 {P : Program} {l : List Oper} {Q : Exit → Act → World → Prop} {a : Act} {id : Nat} {w : World} (B : Nat) (hBw : B ≤ w.heap.size) (hm : P.follows .mixedOrders = true) (hB : monoB2 (l.map prune) a.tmps.size = true)
    (h : monoE P l.toArray (Cls B w) TB (Q .normal) l 0 a) : (Code.region id l.toArray true).wp P Q a w := by
  have h' := monoE_prune (ops := l) l 0 a h
  generalize hl : l.map prune = l' at hB h'
  have conv : ∀ (l'' : List Oper) (i : Nat) (a' : Act), monoE P l'.toArray (Cls B w) TB (Q .normal) l'' i a' → doneE P l'.toArray (fun _ => Cls B w) (befores l' []) (Q .normal) l'.length l'' i a' := by
    intro l''
    induction l'' with
    | nil => intro i a' h _ W _ hC; exact h W hC
    | cons o l'' ih =>
      intro i a' h
      obtain ⟨x, h1, h2⟩ := h
      exact ⟨x, fun _ W hC _ _ _ R hR => h1 W hC R (fun v w' hT hv => hR v w' (hC.step hT) hv), ih _ _ h2⟩
  obtain ⟨xs, hx⟩ := doneE_list l' 0 a [] (conv l' 0 a h')
  refine wp_region_any hm (wpAny_prune _ _ _ _ ?_)
  rw [hl]
  refine wpAny_done (Inv := fun _ => Cls B w) (T := fun _ _ _ => True) (ss := xs.map ex) hB (fun i k s _ hk v done w1 w2 _ _ _ => ?_) hx _ _ (fun _ => undef) _ _ ?_ ⟨⟨hBw, (Below.refl _ _).drew⟩, ?_, by simp [← hl], rfl, rfl, ?_, fun _ _ => rfl⟩
  · obtain ⟨x, _, rfl⟩ := List.mem_map.1 (List.mem_of_getElem? hk)
    trivial
  · have := List.length_filter_le (fun i => (Array.replicate l.toArray.size false)[i]? != some true) (List.range l'.length)
    simpa [undone, ← hl] using this
  · intro j o hj hl
    rw [Array.getElem?_replicate] at hl
    split at hl <;> simp at hl
  · intro j o s hj _ hl
    rw [Array.getElem?_replicate] at hl
    split at hl <;> simp at hl
end Go.Proofs.YthkgjohhbdipcaaDoor
namespace Go.Proofs.YthkgjohhbdipcaaDoor
open Go.RowKit

section
variable {P : Program} {ops : Array Oper} {Inv : (Nat → Bool) → World → Prop} {T : Nat → World → World → Prop} {bs : List (List Nat)} {Q : Act → World → Prop} {n : Nat} {o : Oper} {l : List Oper} {ss : List Spec} {i : Nat} {a : Act} {fs : List (World → Prop)} {F : World → Prop}
/-- As doneOb, but that the edges that bind no order are left out. -/
def obP (P : Program) (ops : Array Oper) (Inv : (Nat → Bool) → World → Prop) (T : World → World → Prop) (s : Spec) (i : Nat) (bs : List (List Nat)) (o : Oper) (a : Act) (fs : List (World → Prop)) : Prop :=
  ∀ (done : Nat → Bool) (w : World), Inv done w → done i = false → (∀ k ∈ (prune o).after.toList.map (fun e => e.on), done k = true) → (∀ k : Nat, i ∈ bs.getD k [] → done k = false) → depFacts (prune o) fs w → ∀ R : Value → World → Prop, (∀ (v : Value) (w' : World), Inv (updDone done i) w' → T w w' → s.holds v w' → R v w') →
    if Region.wanted o (yielded ops a.tmps) then gives P o a w R else R undef w
def walkP (P : Program) (ops : Array Oper) (Inv : (Nat → Bool) → World → Prop) (T : Nat → World → World → Prop) (bs : List (List Nat)) (Q : Act → World → Prop) (n : Nat) :
    List Oper → List Spec → Nat → Act → List (World → Prop) → (World → Prop) → Prop
  | [], _, _, a, _, F => ∀ (done : Nat → Bool) (w : World), (∀ k, k < n → done k = true) → Inv done w → F w → Q a w
  | _ :: _, [], _, _, _, _ => False
  | o :: l, s :: ss, i, a, fs, F => obP P ops Inv (T i) s i bs o a fs ∧
      match s.exact? with
      | some x => walkP P ops Inv T bs Q n l ss (i + 1) (a.put o.dst x) (fs ++ [fun _ : World => True]) F
      | none => ∀ v : Value, walkP P ops Inv T bs Q n l ss (i + 1) (a.put o.dst v) (fs ++ [s.pred v]) (fun w : World => F w ∧ s.pred v w)
theorem walk_prune {ops' : List Oper} : ∀ (l : List Oper) (ss : List Spec) (i : Nat) (a : Act) (fs : List (World → Prop)) (F : World → Prop), walkP P ops'.toArray Inv T bs Q n l ss i a fs F → doneWalk P (ops'.map prune).toArray Inv T bs Q n (l.map prune) ss i a fs F
  | [], _, _, _, _, _, h => h
  | _ :: _, [], _, _, _, _, h => h.elim
  | o :: l, s :: ss, i, a, fs, F, h => by
    obtain ⟨h1, h2⟩ := h
    refine ⟨fun done w hI h0 hd hn hf R hR => ?_, ?_⟩
    · have := h1 done w hI h0 hd hn hf R hR
      rw [← yielded_prune] at this
      exact this
    · revert h2
      show (match s.exact? with | some x => _ | none => _) → (match s.exact? with | some x => _ | none => _)
      cases s.exact? with
      | some x => exact fun h2 => walk_prune l ss (i + 1) _ _ _ h2
      | none => exact fun h2 v => walk_prune l ss (i + 1) _ _ _ (h2 v)
theorem walkP_ex {x : Value} (h : ∀ K : Act → Prop, (∀ a', walkP P ops Inv T bs Q n l ss (i + 1) a' (fs ++ [fun _ : World => True]) F → K a') → obP P ops Inv (T i) (ex x) i bs o a fs ∧ K (a.put o.dst x)) :
    walkP P ops Inv T bs Q n (o :: l) (ex x :: ss) i a fs F := h _ (fun _ h => h)
theorem walkP_pr {p : Value → World → Prop} (h : ∀ K : Value → Act → Prop, (∀ v a', walkP P ops Inv T bs Q n l ss (i + 1) a' (fs ++ [p v]) (fun w : World => F w ∧ p v w) → K v a') → obP P ops Inv (T i) (pr p) i bs o a fs ∧ ∀ v, K v (a.put o.dst v)) :
    walkP P ops Inv T bs Q n (o :: l) (pr p :: ss) i a fs F := h _ (fun _ _ h => h)
end

theorem wp_region_done3 {P : Program} {l : List Oper} {Q : Exit → Act → World → Prop} {a : Act} {id : Nat} {w : World} (ss : List Spec) (Inv : (Nat → Bool) → World → Prop) (T : Nat → World → World → Prop) (hm : P.follows .mixedOrders = true) (hB : monoB2 (l.map prune) a.tmps.size = true)
    (hst : ∀ (i k : Nat) (s : Spec), i ≠ k → ss[k]? = some s → ∀ v done w w', Inv done w → T i w w' → s.fact v w → s.fact v w') (hC : Inv (fun _ => false) w.drew)
    (bs : List (List Nat)) (hbs : befores (l.map prune) [] = bs) (h : walkP P l.toArray Inv T bs (Q .normal) l.length l ss 0 a [] (fun _ => True)) : (Code.region id l.toArray true).wp P Q a w := by
  subst hbs
  have h' := walk_prune (ops' := l) l ss 0 a [] _ h
  rw [show l.length = (l.map prune).length by simp] at h'
  refine wp_region_any hm (wpAny_prune _ _ _ _ (wpAny_done hB hst h' _ _ (fun _ => undef) _ _ ?_ ⟨?_, ?_, by simp, rfl, rfl, ?_, fun _ _ => rfl⟩))
  · have := List.length_filter_le (fun i => (Array.replicate l.toArray.size false)[i]? != some true) (List.range (l.map prune).length)
    simpa [undone] using this
  · refine (congrArg (fun d => Inv d _) ?_).mp hC
    funext k
    rw [Array.getElem?_replicate]
    split <;> simp
  · intro j o hj hl
    rw [Array.getElem?_replicate] at hl
    split at hl <;> simp at hl
  · intro j o s hj _ hl
    rw [Array.getElem?_replicate] at hl
    split at hl <;> simp at hl

theorem ob_plain {o : Oper} {y : Nat → Option Bool} {A B : Prop} (h : o.guard = none) (hA : A) : if Region.wanted o y then A else B := by
  have : Region.wanted o y = true := by simp [Region.wanted, h]
  rw [if_pos this]; exact hA

/-- The operation append. -/
theorem gives_append {P : Program} {w : World} {o : Oper} {a : Act} {R : Value → World → Prop} (s x : Operand) (t : TypeId)
    (ho : o.op = .call { callee := .builtin .append, args := #[s, x], argTypes := #[t, t] })
    (base : Nat) (e : TypeId) (i : TypeInfo) (z : Value) (size bytes : Nat) (ht : P.underlying t = some (.slice e)) (hi : P.info? e = some i) (hz : i.zero = some z)
    (hsize : i.size = size) (hby : i.bytes = bytes) (hzs : z.cells.size = size) (hsz : 0 < size)
    (v : Value) (n : Nat) (xs : List Value) (hs : a.eval s = v) (hown : w.ownsRow base e size v n xs)
    (ad : Addr) (m c : Nat) (news : List Value) (hx : a.eval x = .slice (some ad) m c) (hl : news.length = m * size) (hnews : ∀ j u, news[j]? = some u → w.cell? (ad.add j) = some u) (h1 : ∀ u ∈ news, u.oneCell' = true)
    (hm : 0 < m) (h63 : n + m ≤ maxLen) (hbytes : (n + m) * bytes ≤ 140737488355328) (hbase : base ≤ w.heap.size)
    (h : ∀ v' w', w'.ownsRow base e size v' (n + m) (xs ++ news) → w.grownBy w' v.ownBlock → R v' w') : gives P o a w R := by
  obtain ⟨g, cap, w', hr, h2, h3, _, _⟩ := run_append_lies (P := P) w t o.type base e i z size bytes ht hi hz hsize hby hzs hsz v n xs hown ad m c news hl hnews h1 hm h63 hbytes hbase _ rfl
  unfold gives execOp
  simp only [ho, resolve, invoke, builtin, Sem.run_bind, Sem.run_pure, Result.andThen_ok, List.map_toArray, List.map_cons, List.map_nil, hs, hx, hr]
  exact h _ _ h2 h3

/-- The worlds of such a region: w0 is the world at its head; β the box (its cells, the slice at offset off); cv the slice, with n elements; news: the cells of what is appended; ia, is: the numbers of the append and of the store. -/
structure AppInv (w0 : World) (β : Nat) (T : TypeId) (box : Array Value) (off base : Nat) (E : TypeId) (sz : Nat) (cv : Value) (n : Nat) (cells : List Value) (m : Nat) (news : List Value) (ia is : Nat) (done : Nat → Bool) (W : World) : Prop where
  os : W.os = w0.os
  tape : W.tape = w0.tape
  output : W.output = w0.output
  size : w0.heap.size ≤ W.heap.size
  blk : ∀ b, b < w0.heap.size → b ≠ β → some b ≠ cv.ownBlock → W.heap[b]? = w0.heap[b]?
  before : done is = false → W.heap[β]? = some (.cells box T)
  own : done ia = false → W.ownsRow base E sz cv n cells
  after : done is = true → ∃ v, W.heap[β]? = some (.cells (box.setIfInBounds off v) T) ∧ W.ownsRow base E sz v (n + m) (cells ++ news)
def AppT (β : Nat) (cv : Value) (ia : Nat) (i : Nat) (w w' : World) : Prop := w.heap.size ≤ w'.heap.size ∧ ∀ b, b < w.heap.size → b ≠ β → (i = ia → some b ≠ cv.ownBlock) → w'.heap[b]? = w.heap[b]?
/-- what buildSlice lays. -/
def NewP (B : Nat) (E : TypeId) (m : Nat) (cs : Array Value) (v : Value) (W : World) : Prop := ∃ b, v = .slice (some ⟨b, 0, none⟩) m m ∧ B ≤ b ∧ W.heap[b]? = some (.cells cs E)
def OwnP (base : Nat) (E : TypeId) (sz n : Nat) (cells : List Value) (v : Value) (W : World) : Prop := W.ownsRow base E sz v n cells

theorem NewP.stable {B β m ia i : Nat} {E : TypeId} {cs : Array Value} {cv v : Value} {w w' : World} (hβ : β < B) (hcv : ∀ g, cv.ownBlock = some g → g < B) (hT : AppT β cv ia i w w') (h : NewP B E m cs v w) : NewP B E m cs v w' := by
  obtain ⟨b, hv, hb, hc⟩ := h
  have hlt : b < w.heap.size := (Array.getElem?_eq_some_iff.1 hc).1
  refine ⟨b, hv, hb, ?_⟩
  rw [hT.2 b hlt (by omega) (fun _ e => by have := hcv b e.symm; omega)]
  exact hc
theorem ownsRow_keep1 {w w' : World} {base : Nat} {E : TypeId} {sz n : Nat} {v : Value} {cells : List Value} (h : w.ownsRow base E sz v n cells) (hb : ∀ b, base ≤ b → b < w.heap.size → v.ownBlock = some b → w'.heap[b]? = w.heap[b]?) : w'.ownsRow base E sz v n cells := by
  obtain ⟨h1, h2⟩ := h
  refine ⟨h1, ?_⟩
  rcases h2 with h2 | ⟨g, cap, cur, hv, hg, hh, r⟩
  · exact .inl h2
  · exact .inr ⟨g, cap, cur, hv, hg, by rw [hb g hg (Array.getElem?_eq_some_iff.1 hh).1 (by rw [hv]; rfl)]; exact hh, r⟩
theorem OwnP.stable {base β sz n ia i : Nat} {E : TypeId} {cells : List Value} {cv v : Value} {w w' : World} (hβ : β < base) (hi : i ≠ ia) (hT : AppT β cv ia i w w') (h : OwnP base E sz n cells v w) : OwnP base E sz n cells v w' :=
  ownsRow_keep1 h fun b hb hlt _ => hT.2 b hlt (by omega) (fun e => absurd e hi)

section
variable {w0 W W' : World} {β : Nat} {T : TypeId} {box : Array Value} {off base : Nat} {E : TypeId} {sz n m ia is i : Nat} {cv : Value} {cells news : List Value} {done : Nat → Bool}
theorem AppInv.start (h : w0.heap[β]? = some (.cells box T)) (ho : w0.ownsRow base E sz cv n cells) : AppInv w0 β T box off base E sz cv n cells m news ia is (fun _ => false) w0.drew :=
  ⟨rfl, rfl, rfl, Nat.le_refl _, fun _ _ _ _ => rfl, fun _ => h, fun _ => by exact ownsRow_keep1 ho fun _ _ _ _ => rfl, fun h => by cases h⟩
/-- an operation that leaves the world alone, or lays blocks alone. -/
theorem AppInv.step (h : AppInv w0 β T box off base E sz cv n cells m news ia is done W) (hb : Below W.heap.size W W') (h1 : i ≠ ia) (h2 : i ≠ is) : AppInv w0 β T box off base E sz cv n cells m news ia is (updDone done i) W' where
  os := hb.os.trans h.os
  tape := hb.tape.trans h.tape
  output := hb.output.trans h.output
  size := Nat.le_trans h.size hb.size
  blk := fun b hlt hn ho => (hb.block b (Nat.lt_of_lt_of_le hlt h.size)).trans (h.blk b hlt hn ho)
  before := fun hd => by
    have : done is = false := by simpa [updDone, Ne.symm h2] using hd
    exact blk_below (h.before this) hb
  own := fun hd => by
    have : done ia = false := by simpa [updDone, Ne.symm h1] using hd
    exact ownsRow_keep1 (h.own this) fun b _ hlt _ => hb.block b hlt
  after := fun hd => by
    have : done is = true := by simpa [updDone, Ne.symm h2] using hd
    obtain ⟨v, h1, h2⟩ := h.after this
    exact ⟨v, blk_below h1 hb, ownsRow_keep1 h2 fun b _ hlt _ => hb.block b hlt⟩
theorem AppT.of_below (hb : Below W.heap.size W W') : AppT β cv ia i W W' := ⟨hb.size, fun b hlt _ _ => hb.block b hlt⟩
/-- the append. -/
theorem AppInv.appended (h : AppInv w0 β T box off base E sz cv n cells m news ia is done W) (hd : done is = false) (hne : ia ≠ is) (hcv : ∀ g, cv.ownBlock = some g → g ≠ β) (hg : W.grownBy W' cv.ownBlock) (hβ : β < w0.heap.size) : AppInv w0 β T box off base E sz cv n cells m news ia is (updDone done ia) W' where
  os := hg.os.trans h.os
  tape := hg.tape.trans h.tape
  output := hg.output.trans h.output
  size := Nat.le_trans h.size hg.size
  blk := fun b hlt hn ho => (hg.block b (Nat.lt_of_lt_of_le hlt h.size) ho).trans (h.blk b hlt hn ho)
  before := fun _ => by rw [hg.block β (Nat.lt_of_lt_of_le hβ h.size) (fun e => hcv β e.symm rfl)]; exact h.before hd
  own := fun hd => by simp [updDone] at hd
  after := fun hd' => by simp [updDone, Ne.symm hne, hd] at hd'
theorem AppT.of_grown (hg : W.grownBy W' cv.ownBlock) : AppT β cv ia ia W W' := ⟨hg.size, fun b hlt _ h => hg.block b hlt (h rfl)⟩
/-- the store. -/
theorem AppInv.stored {v : Value} (h : AppInv w0 β T box off base E sz cv n cells m news ia is done W) (hd : done is = false) (hda : done ia = true) (hne : is ≠ ia) (hv : W.ownsRow base E sz v (n + m) (cells ++ news)) (hβ : β < base) :
    AppInv w0 β T box off base E sz cv n cells m news ia is (updDone done is) (W.setCell ⟨β, off, none⟩ v) where
  os := h.os
  tape := h.tape
  output := h.output
  size := by show _ ≤ (W.heap.modify _ _).size; rw [Array.size_modify]; exact h.size
  blk := fun b hlt hn ho => by
    have : (W.setCell ⟨β, off, none⟩ v).heap[b]? = W.heap[b]? := by
      show (W.heap.modify β _)[b]? = _
      rw [Array.getElem?_modify, if_neg (fun e => hn e.symm)]
    rw [this]; exact h.blk b hlt hn ho
  before := fun hd => by simp [updDone] at hd
  own := fun hd' => by simp [updDone, Ne.symm hne, hda] at hd'
  after := fun _ => by
    refine ⟨v, ?_, ownsRow_keep1 hv fun b hb _ _ => ?_⟩
    · show (W.heap.modify β _)[β]? = _
      rw [Array.getElem?_modify, if_pos rfl, h.before hd]
      rfl
    · show (W.heap.modify β _)[b]? = _
      rw [Array.getElem?_modify, if_neg (by omega)]
theorem AppT.of_store {v : Value} : AppT β cv ia i W (W.setCell ⟨β, off, none⟩ v) :=
  ⟨by show _ ≤ (W.heap.modify _ _).size; rw [Array.size_modify]; exact Nat.le_refl _, fun b _ hn _ => by
    show (W.heap.modify β _)[b]? = _
    rw [Array.getElem?_modify, if_neg (fun e => hn e.symm)]⟩
theorem AppInv.below {w : World} {B : Nat} (h : AppInv w0 β T box off base E sz cv n cells m news ia is done W) (hb : Below B w w0) (hβ : B ≤ β) (ho : ∀ g, cv.ownBlock = some g → B ≤ g) (hB : B ≤ w0.heap.size) : Below B w W :=
  hb.trans ⟨h.os, h.tape, h.output, h.size, fun b hlt => h.blk b (by omega) (by omega) (fun e => by have := ho b e.symm; omega)⟩
def goodSpecs (N O : Value → World → Prop) (ia : Nat) : List Spec → Nat → Prop
  | [], _ => True
  | s :: r, k => ((∃ x, s = ex x) ∨ s = pr N ∨ (k = ia ∧ s = pr O)) ∧ goodSpecs N O ia r (k + 1)
theorem goodSpecs_get {N O : Value → World → Prop} {ia : Nat} : ∀ (ss : List Spec) (k0 : Nat), goodSpecs N O ia ss k0 → ∀ (k : Nat) (s : Spec), ss[k]? = some s → (∃ x, s = ex x) ∨ s = pr N ∨ (k0 + k = ia ∧ s = pr O)
  | [], _, _, _, _, h => by simp at h
  | s0 :: r, k0, hg, 0, s, h => by simp at h; subst h; exact hg.1
  | s0 :: r, k0, hg, k + 1, s, h => by
    have := goodSpecs_get r (k0 + 1) hg.2 k s (by simpa using h)
    rw [show k0 + (k + 1) = k0 + 1 + k by omega]; exact this
/-- THE LAW of such a region. -/
theorem wp_region_app {P : Program} {l : List Oper} {Q : Exit → Act → World → Prop} {a : Act} {id : Nat} (β : Nat) (T : TypeId) (box : Array Value) (off base : Nat) (E : TypeId) (sz : Nat) (cv : Value) (n : Nat) (cells : List Value) (m : Nat) (news : List Value) (ia is : Nat)
    (hm : P.follows .mixedOrders = true) (hB : monoB2 (l.map prune) a.tmps.size = true) (hbox : w0.heap[β]? = some (.cells box T)) (hown : w0.ownsRow base E sz cv n cells) (hβ : β < base) (hβ' : β < w0.heap.size)
    (bs : List (List Nat)) (hbs : befores (l.map prune) [] = bs) (ss : List Spec)
    (h : walkP P l.toArray (AppInv w0 β T box off base E sz cv n cells m news ia is) (AppT β cv ia) bs (Q .normal) l.length l ss 0 a [] (fun _ => True))
    (hss : goodSpecs (NewP w0.heap.size E m news.toArray) (OwnP base E sz (n + m) (cells ++ news)) ia ss 0) : (Code.region id l.toArray true).wp P Q a w0 := by
  refine wp_region_done3 ss _ (AppT β cv ia) hm hB (fun i k s hik hk v done w w' _ hT hf => ?_) (AppInv.start hbox hown) bs hbs h
  have hlt : ∀ g, cv.ownBlock = some g → g < w0.heap.size := fun g hg => (hown.lt g hg).2
  rcases goodSpecs_get ss 0 hss k s hk with ⟨x, rfl⟩ | rfl | ⟨hka, rfl⟩
  · trivial
  · exact NewP.stable hβ' hlt hT hf
  · exact OwnP.stable hβ (by omega) hT hf
end
end Go.Proofs.YthkgjohhbdipcaaDoor
namespace Go.Proofs.YthkgjohhbdipcaaDoor
open Go.RowKit

/-- until operation n is done the worlds are w0's with blocks behind it; then Fin holds. -/
def LastI (n : Nat) (w0 : World) (Fin : World → Prop) (done : Nat → Bool) (W : World) : Prop := if done n = true then Fin W else Cls w0.heap.size w0 W
section
variable {n k : Nat} {w0 W W' : World} {Fin : World → Prop} {done : Nat → Bool}
theorem LastI.start : LastI n w0 Fin (fun _ => false) w0.drew := by
  unfold LastI
  rw [if_neg (by simp)]
  exact ⟨Nat.le_refl _, (Below.refl _ _).drew⟩
theorem LastI.before (h : LastI n w0 Fin done W) (hd : done n = false) : Cls w0.heap.size w0 W := by
  unfold LastI at h
  rw [if_neg (by rw [hd]; simp)] at h
  exact h
theorem LastI.step (h : LastI n w0 Fin done W) (hd : done n = false) (hk : n ≠ k) (hb : Below W.heap.size W W') : LastI n w0 Fin (updDone done k) W' := by
  have hC := h.before hd
  unfold LastI updDone
  rw [if_neg hk, hd, if_neg (by simp)]
  exact hC.step hb
theorem LastI.at_ (h : Fin W) : LastI n w0 Fin (updDone done n) W := by
  unfold LastI updDone
  rw [if_pos rfl, if_pos rfl]
  exact h
theorem LastI.after (h : LastI n w0 Fin done W) (hd : done n = true) : Fin W := by
  unfold LastI at h
  rw [if_pos hd] at h
  exact h
end
def stableK (B : Nat) (p : Value → World → Prop) : Prop := ∀ v w w', KeepFrom B w w' → p v w → p v w'
def stablesK (B : Nat) : List Spec → Prop
  | [] => True
  | s :: r => ((∃ x, s = ex x) ∨ ∃ p, s = pr p ∧ stableK B p) ∧ stablesK B r
theorem stablesK_get {B : Nat} : ∀ (ss : List Spec), stablesK B ss → ∀ s ∈ ss, ∀ v w w', KeepFrom B w w' → s.fact v w → s.fact v w'
  | [], _, s, h => by cases h
  | s0 :: r, h, s, hm => by
    rcases List.mem_cons.1 hm with rfl | hm
    · rcases h.1 with ⟨x, rfl⟩ | ⟨p, rfl, hp⟩
      · exact fun _ _ _ _ _ => trivial
      · exact fun v w w' hg hf => hp v w w' hg hf
    · exact stablesK_get r h.2 s hm
/-- THE LAW. -/
theorem wp_region_lastop {P : Program} {l : List Oper} {Q : Exit → Act → World → Prop} {a : Act} {id : Nat} {w : World} (n B : Nat) (ss : List Spec) (Fin : World → Prop) (hm : P.follows .mixedOrders = true) (hB : monoB2 (l.map prune) a.tmps.size = true)
    (hst : stablesK B ss) (bs : List (List Nat)) (hbs : befores (l.map prune) [] = bs) (h : walkP P l.toArray (LastI n w Fin) (fun _ W W' => KeepFrom B W W') bs (Q .normal) l.length l ss 0 a [] (fun _ => True)) : (Code.region id l.toArray true).wp P Q a w :=
  wp_region_done3 ss (LastI n w Fin) (fun _ W W' => KeepFrom B W W') hm hB (fun _ _ s _ hk v _ w1 w2 _ hT hf => stablesK_get ss hst s (List.mem_of_getElem? hk) v w1 w2 hT hf) LastI.start bs hbs h

/-- a slice over a new block that is known whole. -/
def VRow (B : Nat) (T : TypeId) (cells : Array Value) (n : Nat) (v : Value) (W : World) : Prop := ∃ b, v = .slice (some ⟨b, 0, none⟩) n n ∧ B ≤ b ∧ W.heap[b]? = some (.cells cells T)
/-- the address of a cell of it. -/
def VAt (B : Nat) (T : TypeId) (cells : Array Value) (k : Nat) (v : Value) (W : World) : Prop := ∃ b, v = .pointer (some ⟨b, k, none⟩) ∧ B ≤ b ∧ W.heap[b]? = some (.cells cells T)
theorem VRow.stable {B n : Nat} {T : TypeId} {cells : Array Value} : stableK B (VRow B T cells n) := fun v w w' h ⟨b, hv, hB, hb⟩ => ⟨b, hv, hB, (h.2 b hB (Array.getElem?_eq_some_iff.1 hb).1).trans hb⟩
theorem VAt.stable {B k : Nat} {T : TypeId} {cells : Array Value} : stableK B (VAt B T cells k) := fun v w w' h ⟨b, hv, hB, hb⟩ => ⟨b, hv, hB, (h.2 b hB (Array.getElem?_eq_some_iff.1 hb).1).trans hb⟩
end Go.Proofs.YthkgjohhbdipcaaDoor
namespace Go.Proofs
open Go.Shelf
def Tryd.laysM173_ren : Go.Shelf.Ren := ⟨fun | 173 => 69 | 246 => 72 | 283 => 85 | 284 => 86 | 285 => 87 | 286 => 88 | 129 => 106 | 317 => 105 | 318 => 107 | 319 => 108 | 320 => 109 | 337 => 117 | 338 => 118 | n => n, fun | 2 => 2 | 3 => 3 | 9 => 9 | 4 => 4 | 171 => 132 | 0 => 0 | 53 => 133 | 37 => 41 | 5 => 5 | 173 => 136 | 212 => 162 | 51 => 129 | 20 => 20 | 213 => 163 | 46 => 142 | 232 => 182 | 233 => 183 | n => n, fun | 17 => 3 | 18 => 8 | 19 => 9 | n => n⟩
theorem Tryd.laysM173 : Go.Proofs.LaysM.n173 Tryd.prog Tryd.laysM173_ren := {
  mixed := by kernel_rfl
  f129 := Tryd.func106.trans (congrArg some (by kernel_rfl))
  f173 := Tryd.func69.trans (congrArg some (by kernel_rfl))
  f246 := Tryd.func72.trans (congrArg some (by kernel_rfl))
  f283 := Tryd.func85.trans (congrArg some (by kernel_rfl))
  f284 := Tryd.func86.trans (congrArg some (by kernel_rfl))
  f285 := Tryd.func87.trans (congrArg some (by kernel_rfl))
  f286 := Tryd.func88.trans (congrArg some (by kernel_rfl))
  f317 := Tryd.func105.trans (congrArg some (by kernel_rfl))
  f318 := Tryd.func107.trans (congrArg some (by kernel_rfl))
  f319 := Tryd.func108.trans (congrArg some (by kernel_rfl))
  f320 := Tryd.func109.trans (congrArg some (by kernel_rfl))
  f337 := Tryd.func117.trans (congrArg some (by kernel_rfl))
  f338 := Tryd.func118.trans (congrArg some (by kernel_rfl))
  t0 := Tryd.underlying0
  a0 := Tryd.isAgg0
  z0 := Tryd.sizeOf0
  v0 := Tryd.zeroValue0
  t2 := Tryd.underlying2
  a2 := Tryd.isAgg2
  z2 := Tryd.sizeOf2
  v2 := Tryd.zeroValue2
  t3 := Tryd.underlying3
  a3 := Tryd.isAgg3
  z3 := Tryd.sizeOf3
  v3 := Tryd.zeroValue3
  t4 := Tryd.underlying4
  a4 := Tryd.isAgg4
  z4 := Tryd.sizeOf4
  v4 := Tryd.zeroValue4
  t5 := Tryd.underlying5
  a5 := Tryd.isAgg5
  z5 := Tryd.sizeOf5
  v5 := Tryd.zeroValue5
  t9 := Tryd.underlying9
  a9 := Tryd.isAgg9
  z9 := Tryd.sizeOf9
  v9 := Tryd.zeroValue9
  t20 := Tryd.underlying20
  a20 := Tryd.isAgg20
  z20 := Tryd.sizeOf20
  v20 := Tryd.zeroValue20
  t37 := Tryd.underlying41
  a37 := Tryd.isAgg41
  z37 := Tryd.sizeOf41
  v37 := Tryd.zeroValue41
  t46 := Tryd.underlying142
  a46 := Tryd.isAgg142
  z46 := Tryd.sizeOf142
  v46 := Tryd.zeroValue142
  t51 := Tryd.underlying129
  a51 := Tryd.isAgg129
  z51 := Tryd.sizeOf129
  v51 := Tryd.zeroValue129
  t53 := Tryd.underlying133
  a53 := Tryd.isAgg133
  z53 := Tryd.sizeOf133
  v53 := Tryd.zeroValue133
  t171 := Tryd.underlying132
  a171 := Tryd.isAgg132
  z171 := Tryd.sizeOf132
  v171 := Tryd.zeroValue132
  t173 := Tryd.underlying136
  a173 := Tryd.isAgg136
  z173 := Tryd.sizeOf136
  v173 := Tryd.zeroValue136
  t212 := Tryd.underlying162
  a212 := Tryd.isAgg162
  z212 := Tryd.sizeOf162
  v212 := Tryd.zeroValue162
  t213 := Tryd.underlying163
  a213 := Tryd.isAgg163
  z213 := Tryd.sizeOf163
  t232 := Tryd.underlying182
  a232 := Tryd.isAgg182
  z232 := Tryd.sizeOf182
  v232 := Tryd.zeroValue182
  t233 := Tryd.underlying183
  a233 := Tryd.isAgg183
  z233 := Tryd.sizeOf183
  v233 := Tryd.zeroValue183
  g17 := by kernel_rfl
  g18 := by kernel_rfl
  g19 := by kernel_rfl
  i0 := by kernel_rfl
  i2 := by kernel_rfl
  i3 := by kernel_rfl
  i4 := by kernel_rfl
  i5 := by kernel_rfl
  i9 := by kernel_rfl
  i20 := by kernel_rfl
  i37 := by kernel_rfl
  i46 := by kernel_rfl
  i51 := by kernel_rfl
  i53 := by kernel_rfl
  i171 := by kernel_rfl
  i173 := by kernel_rfl
  i212 := by kernel_rfl
  i232 := by kernel_rfl
  i233 := by kernel_rfl
  m17 := by kernel_rfl
  m18 := by kernel_rfl
  m19 := by kernel_rfl }
open Go.RowKit Go.Sort Go.Lib in
theorem Tryd.strconv_FormatInt_10 (n : Int) (h0 : -9223372036854775808 ≤ n) (h1 : n ≤ 9223372036854775807) (w : World) (htab : Lib.TabIs Tryd.prog w "internal/strconv.uint64pow10" .u64 Lib.pow10Tab) :
    Calls Tryd.prog 69 #[.int .i64 n, .int .i64 10] w fun e w' => e = .returned (.string ⟨(Lib.itoa n).toArray⟩) ∧ ∃ k os, w' = grow (w.drewN k) os := Any.strconv_FormatInt_10 Tryd.laysM173 n h0 h1 w htab
def Tryd.laysC174_ren : Go.Shelf.Ren := ⟨fun | 174 => 68 | 247 => 84 | 245 => 81 | 287 => 104 | 279 => 96 | 280 => 97 | 281 => 98 | 282 => 99 | 321 => 115 | 322 => 116 | 316 => 111 | 171 => 34 | 205 => 112 | 243 => 60 | 246 => 72 | 283 => 85 | 284 => 86 | 285 => 87 | 286 => 88 | 129 => 106 | 317 => 105 | 318 => 107 | 319 => 108 | 320 => 109 | 337 => 117 | 338 => 118 | n => n, fun | 9 => 9 | 3 => 3 | 2 => 2 | 75 => 66 | 85 => 112 | 4 => 4 | 167 => 144 | 5 => 5 | 53 => 133 | 175 => 159 | 46 => 142 | 168 => 145 | 37 => 41 | 0 => 0 | 210 => 167 | 21 => 21 | 127 => 103 | 145 => 181 | 143 => 179 | 171 => 132 | 173 => 136 | 212 => 162 | 51 => 129 | 20 => 20 | 213 => 163 | 232 => 182 | 233 => 183 | 80 => 74 | n => n, fun | 15 => 4 | 16 => 5 | 17 => 3 | 18 => 8 | 19 => 9 | n => n⟩
theorem Tryd.laysC174 : Go.Proofs.LaysC.n174 Tryd.prog Tryd.laysC174_ren := {
  mixed := by kernel_rfl
  f129 := Tryd.func106.trans (congrArg some (by kernel_rfl))
  f171 := Tryd.func34.trans (congrArg some (by kernel_rfl))
  f174 := Tryd.func68.trans (congrArg some (by kernel_rfl))
  f205 := Tryd.func112.trans (congrArg some (by kernel_rfl))
  f243 := Tryd.func60.trans (congrArg some (by kernel_rfl))
  f245 := Tryd.func81.trans (congrArg some (by kernel_rfl))
  f246 := Tryd.func72.trans (congrArg some (by kernel_rfl))
  f247 := Tryd.func84.trans (congrArg some (by kernel_rfl))
  f279 := Tryd.func96.trans (congrArg some (by kernel_rfl))
  f280 := Tryd.func97.trans (congrArg some (by kernel_rfl))
  f281 := Tryd.func98.trans (congrArg some (by kernel_rfl))
  f282 := Tryd.func99.trans (congrArg some (by kernel_rfl))
  f283 := Tryd.func85.trans (congrArg some (by kernel_rfl))
  f284 := Tryd.func86.trans (congrArg some (by kernel_rfl))
  f285 := Tryd.func87.trans (congrArg some (by kernel_rfl))
  f286 := Tryd.func88.trans (congrArg some (by kernel_rfl))
  f287 := Tryd.func104.trans (congrArg some (by kernel_rfl))
  f316 := Tryd.func111.trans (congrArg some (by kernel_rfl))
  f317 := Tryd.func105.trans (congrArg some (by kernel_rfl))
  f318 := Tryd.func107.trans (congrArg some (by kernel_rfl))
  f319 := Tryd.func108.trans (congrArg some (by kernel_rfl))
  f320 := Tryd.func109.trans (congrArg some (by kernel_rfl))
  f321 := Tryd.func115.trans (congrArg some (by kernel_rfl))
  f322 := Tryd.func116.trans (congrArg some (by kernel_rfl))
  f337 := Tryd.func117.trans (congrArg some (by kernel_rfl))
  f338 := Tryd.func118.trans (congrArg some (by kernel_rfl))
  t0 := Tryd.underlying0
  a0 := Tryd.isAgg0
  z0 := Tryd.sizeOf0
  v0 := Tryd.zeroValue0
  t2 := Tryd.underlying2
  a2 := Tryd.isAgg2
  z2 := Tryd.sizeOf2
  v2 := Tryd.zeroValue2
  t3 := Tryd.underlying3
  a3 := Tryd.isAgg3
  z3 := Tryd.sizeOf3
  v3 := Tryd.zeroValue3
  t4 := Tryd.underlying4
  a4 := Tryd.isAgg4
  z4 := Tryd.sizeOf4
  v4 := Tryd.zeroValue4
  t5 := Tryd.underlying5
  a5 := Tryd.isAgg5
  z5 := Tryd.sizeOf5
  v5 := Tryd.zeroValue5
  t9 := Tryd.underlying9
  a9 := Tryd.isAgg9
  z9 := Tryd.sizeOf9
  v9 := Tryd.zeroValue9
  t20 := Tryd.underlying20
  a20 := Tryd.isAgg20
  z20 := Tryd.sizeOf20
  v20 := Tryd.zeroValue20
  t21 := Tryd.underlying21
  a21 := Tryd.isAgg21
  z21 := Tryd.sizeOf21
  v21 := Tryd.zeroValue21
  t37 := Tryd.underlying41
  a37 := Tryd.isAgg41
  z37 := Tryd.sizeOf41
  v37 := Tryd.zeroValue41
  t46 := Tryd.underlying142
  a46 := Tryd.isAgg142
  z46 := Tryd.sizeOf142
  v46 := Tryd.zeroValue142
  t51 := Tryd.underlying129
  a51 := Tryd.isAgg129
  z51 := Tryd.sizeOf129
  v51 := Tryd.zeroValue129
  t53 := Tryd.underlying133
  a53 := Tryd.isAgg133
  z53 := Tryd.sizeOf133
  v53 := Tryd.zeroValue133
  t75 := Tryd.underlying66
  a75 := Tryd.isAgg66
  z75 := Tryd.sizeOf66
  v75 := Tryd.zeroValue66
  t85 := Tryd.underlying112
  a85 := Tryd.isAgg112
  z85 := Tryd.sizeOf112
  v85 := Tryd.zeroValue112
  t127 := Tryd.underlying103
  a127 := Tryd.isAgg103
  z127 := Tryd.sizeOf103
  v127 := Tryd.zeroValue103
  t143 := Tryd.underlying179
  a143 := Tryd.isAgg179
  z143 := Tryd.sizeOf179
  v143 := Tryd.zeroValue179
  t145 := Tryd.underlying181
  a145 := Tryd.isAgg181
  z145 := Tryd.sizeOf181
  v145 := Tryd.zeroValue181
  t167 := Tryd.underlying144
  a167 := Tryd.isAgg144
  z167 := Tryd.sizeOf144
  v167 := Tryd.zeroValue144
  t168 := Tryd.underlying145
  a168 := Tryd.isAgg145
  z168 := Tryd.sizeOf145
  v168 := Tryd.zeroValue145
  t171 := Tryd.underlying132
  a171 := Tryd.isAgg132
  z171 := Tryd.sizeOf132
  v171 := Tryd.zeroValue132
  t173 := Tryd.underlying136
  a173 := Tryd.isAgg136
  z173 := Tryd.sizeOf136
  v173 := Tryd.zeroValue136
  t175 := Tryd.underlying159
  a175 := Tryd.isAgg159
  z175 := Tryd.sizeOf159
  v175 := Tryd.zeroValue159
  t210 := Tryd.underlying167
  a210 := Tryd.isAgg167
  z210 := Tryd.sizeOf167
  v210 := Tryd.zeroValue167
  t212 := Tryd.underlying162
  a212 := Tryd.isAgg162
  z212 := Tryd.sizeOf162
  v212 := Tryd.zeroValue162
  t213 := Tryd.underlying163
  a213 := Tryd.isAgg163
  z213 := Tryd.sizeOf163
  t232 := Tryd.underlying182
  a232 := Tryd.isAgg182
  z232 := Tryd.sizeOf182
  v232 := Tryd.zeroValue182
  t233 := Tryd.underlying183
  a233 := Tryd.isAgg183
  z233 := Tryd.sizeOf183
  v233 := Tryd.zeroValue183
  g15 := by kernel_rfl
  g16 := by kernel_rfl
  g17 := by kernel_rfl
  g18 := by kernel_rfl
  g19 := by kernel_rfl
  t80 := Tryd.underlying74
  a80 := Tryd.isAgg74
  z80 := Tryd.sizeOf74
  v80 := Tryd.zeroValue74
  i0 := by kernel_rfl
  i2 := by kernel_rfl
  i3 := by kernel_rfl
  i4 := by kernel_rfl
  i5 := by kernel_rfl
  i9 := by kernel_rfl
  i20 := by kernel_rfl
  i21 := by kernel_rfl
  i37 := by kernel_rfl
  i46 := by kernel_rfl
  i51 := by kernel_rfl
  i53 := by kernel_rfl
  i75 := by kernel_rfl
  i80 := by kernel_rfl
  i85 := by kernel_rfl
  i127 := by kernel_rfl
  i143 := by kernel_rfl
  i145 := by kernel_rfl
  i167 := by kernel_rfl
  i168 := by kernel_rfl
  i171 := by kernel_rfl
  i173 := by kernel_rfl
  i175 := by kernel_rfl
  i210 := by kernel_rfl
  i212 := by kernel_rfl
  i232 := by kernel_rfl
  i233 := by kernel_rfl
  m15 := by kernel_rfl
  m16 := by kernel_rfl
  m17 := by kernel_rfl
  m18 := by kernel_rfl
  m19 := by kernel_rfl
  c0 := by kernel_rfl
  c2 := by kernel_rfl
  c3 := by kernel_rfl
  c4 := by kernel_rfl
  c5 := by kernel_rfl
  c9 := by kernel_rfl
  c20 := by kernel_rfl
  c21 := by kernel_rfl
  c37 := by kernel_rfl
  c46 := by kernel_rfl
  c51 := by kernel_rfl
  c53 := by kernel_rfl
  c75 := by kernel_rfl
  c80 := by kernel_rfl
  c85 := by kernel_rfl
  c127 := by kernel_rfl
  c143 := by kernel_rfl
  c145 := by kernel_rfl
  c167 := by kernel_rfl
  c168 := by kernel_rfl
  c171 := by kernel_rfl
  c173 := by kernel_rfl
  c175 := by kernel_rfl
  c210 := by kernel_rfl
  c212 := by kernel_rfl
  c213 := by kernel_rfl
  c232 := by kernel_rfl
  c233 := by kernel_rfl }
open Go.RowKit in
theorem Tryd.strconv_ParseInt_10_at64_ok (s : ByteArray) (hmax : s.size ≤ 9223372036854775806) (v : Int) (h : Lib.parseIntB 64 s.data.toList = .ok v) (w : World) :
    Calls Tryd.prog 68 #[.string s, .int .i64 10, .int .i64 64] w fun e w' => e = .returned (.tuple #[.int .i64 v, .nilIface]) ∧ (w' = w ∨ ∃ t, w' = Lib.bytesWorld w 5 t) := Any.strconv_ParseInt_10_at64_ok Tryd.laysC174 s hmax v h w
open Go.RowKit in
theorem Tryd.strconv_ParseInt_10_at64_range (s : ByteArray) (hlim : s.size ≤ 281474976710656) (h : Lib.parseIntB 64 s.data.toList = .range) (ev : Value) (w : World) (hv : w.cell? ⟨5, 0, none⟩ = some ev) (hev : ev = .nilIface ∨ ∃ te pe, ev = .iface te pe) :
    Calls Tryd.prog 68 #[.string s, .int .i64 10, .int .i64 64] w fun e w' => ∃ N, e = .returned (.tuple #[.int .i64 (Lib.intSat 64 s.data.toList), .iface 145 (.pointer (some ⟨N, 0, none⟩))]) ∧ w.heap.size ≤ N ∧ w'.heap[N]? = some (.cells #[.string ⟨#[80, 97, 114, 115, 101, 73, 110, 116]⟩, .string s, ev] 167 (0, 0)) ∧ Below w.heap.size w w' := Any.strconv_ParseInt_10_at64_range Tryd.laysC174 s hlim h ev w hv hev
def Tryd.lays145_ren : Go.Shelf.Ren := ⟨fun | 145 => 45 | 220 => 64 | 219 => 82 | 217 => 100 | 225 => 95 | 224 => 94 | 267 => 101 | 266 => 113 | 314 => 114 | n => n, fun | 9 => 9 | 4 => 4 | 59 => 84 | 3 => 3 | 5 => 5 | 46 => 142 | 146 => 169 | 51 => 129 | n => n, fun | 1 => 2 | n => n⟩
theorem Tryd.lays145 : Go.Proofs.Lays.n145 Tryd.prog Tryd.lays145_ren := {
  mixed := by kernel_rfl
  f145 := Tryd.func45.trans (congrArg some (by kernel_rfl))
  f217 := Tryd.func100.trans (congrArg some (by kernel_rfl))
  f219 := Tryd.func82.trans (congrArg some (by kernel_rfl))
  f220 := Tryd.func64.trans (congrArg some (by kernel_rfl))
  f224 := Tryd.func94.trans (congrArg some (by kernel_rfl))
  f225 := Tryd.func95.trans (congrArg some (by kernel_rfl))
  f266 := Tryd.func113.trans (congrArg some (by kernel_rfl))
  f267 := Tryd.func101.trans (congrArg some (by kernel_rfl))
  f314 := Tryd.func114.trans (congrArg some (by kernel_rfl))
  t3 := Tryd.underlying3
  a3 := Tryd.isAgg3
  z3 := Tryd.sizeOf3
  v3 := Tryd.zeroValue3
  t4 := Tryd.underlying4
  a4 := Tryd.isAgg4
  z4 := Tryd.sizeOf4
  v4 := Tryd.zeroValue4
  t5 := Tryd.underlying5
  a5 := Tryd.isAgg5
  z5 := Tryd.sizeOf5
  v5 := Tryd.zeroValue5
  t9 := Tryd.underlying9
  a9 := Tryd.isAgg9
  z9 := Tryd.sizeOf9
  v9 := Tryd.zeroValue9
  t46 := Tryd.underlying142
  a46 := Tryd.isAgg142
  z46 := Tryd.sizeOf142
  v46 := Tryd.zeroValue142
  t51 := Tryd.underlying129
  a51 := Tryd.isAgg129
  z51 := Tryd.sizeOf129
  v51 := Tryd.zeroValue129
  t59 := Tryd.underlying84
  a59 := Tryd.isAgg84
  z59 := Tryd.sizeOf84
  v59 := Tryd.zeroValue84
  t146 := Tryd.underlying169
  a146 := Tryd.isAgg169
  z146 := Tryd.sizeOf169
  v146 := Tryd.zeroValue169
  g1 := by kernel_rfl }
open Go.RowKit Go.Lib in
theorem Tryd.strings_Cut (s sep : ByteArray) (m : Int) (w : World) (hs : s.size < 4294967281) (hm : w.cell? ⟨2, 0, none⟩ = some (.int .i64 m)) :
    Calls Tryd.prog 45 #[.string s, .string sep] w fun e w' => e = .returned (.tuple #[.string ⟨(Lib.cut s.data.toList sep.data.toList).1.toArray⟩, .string ⟨(Lib.cut s.data.toList sep.data.toList).2.1.toArray⟩, .bool (Lib.cut s.data.toList sep.data.toList).2.2]) ∧ ∃ n, w' = w.drewN n := Any.strings_Cut Tryd.lays145 s sep m w hs hm
def Tryd.lays146_ren : Go.Shelf.Ren := ⟨fun | 146 => 40 | 221 => 61 | 268 => 73 | 138 => 74 | 143 => 75 | 195 => 89 | 197 => 90 | 218 => 91 | 219 => 82 | 260 => 110 | 217 => 100 | 225 => 95 | 224 => 94 | 267 => 101 | 266 => 113 | 314 => 114 | n => n, fun | 9 => 9 | 31 => 69 | 3 => 3 | 4 => 4 | 0 => 0 | 105 => 139 | 21 => 21 | 5 => 5 | 46 => 142 | 119 => 109 | 139 => 178 | 138 => 177 | 146 => 169 | 51 => 129 | n => n, fun | 1 => 2 | 3 => 6 | 4 => 7 | n => n⟩
theorem Tryd.lays146 : Go.Proofs.Lays.n146 Tryd.prog Tryd.lays146_ren := {
  mixed := by kernel_rfl
  f138 := Tryd.func74.trans (congrArg some (by kernel_rfl))
  f143 := Tryd.func75.trans (congrArg some (by kernel_rfl))
  f146 := Tryd.func40.trans (congrArg some (by kernel_rfl))
  f195 := Tryd.func89.trans (congrArg some (by kernel_rfl))
  f197 := Tryd.func90.trans (congrArg some (by kernel_rfl))
  f217 := Tryd.func100.trans (congrArg some (by kernel_rfl))
  f218 := Tryd.func91.trans (congrArg some (by kernel_rfl))
  f219 := Tryd.func82.trans (congrArg some (by kernel_rfl))
  f221 := Tryd.func61.trans (congrArg some (by kernel_rfl))
  f224 := Tryd.func94.trans (congrArg some (by kernel_rfl))
  f225 := Tryd.func95.trans (congrArg some (by kernel_rfl))
  f260 := Tryd.func110.trans (congrArg some (by kernel_rfl))
  f266 := Tryd.func113.trans (congrArg some (by kernel_rfl))
  f267 := Tryd.func101.trans (congrArg some (by kernel_rfl))
  f268 := Tryd.func73.trans (congrArg some (by kernel_rfl))
  f314 := Tryd.func114.trans (congrArg some (by kernel_rfl))
  t0 := Tryd.underlying0
  a0 := Tryd.isAgg0
  z0 := Tryd.sizeOf0
  v0 := Tryd.zeroValue0
  t3 := Tryd.underlying3
  a3 := Tryd.isAgg3
  z3 := Tryd.sizeOf3
  v3 := Tryd.zeroValue3
  t4 := Tryd.underlying4
  a4 := Tryd.isAgg4
  z4 := Tryd.sizeOf4
  v4 := Tryd.zeroValue4
  t5 := Tryd.underlying5
  a5 := Tryd.isAgg5
  z5 := Tryd.sizeOf5
  v5 := Tryd.zeroValue5
  t9 := Tryd.underlying9
  a9 := Tryd.isAgg9
  z9 := Tryd.sizeOf9
  v9 := Tryd.zeroValue9
  t21 := Tryd.underlying21
  a21 := Tryd.isAgg21
  z21 := Tryd.sizeOf21
  v21 := Tryd.zeroValue21
  t31 := Tryd.underlying69
  a31 := Tryd.isAgg69
  z31 := Tryd.sizeOf69
  v31 := Tryd.zeroValue69
  t46 := Tryd.underlying142
  a46 := Tryd.isAgg142
  z46 := Tryd.sizeOf142
  v46 := Tryd.zeroValue142
  t51 := Tryd.underlying129
  a51 := Tryd.isAgg129
  z51 := Tryd.sizeOf129
  v51 := Tryd.zeroValue129
  t105 := Tryd.underlying139
  a105 := Tryd.isAgg139
  z105 := Tryd.sizeOf139
  v105 := Tryd.zeroValue139
  t119 := Tryd.underlying109
  a119 := Tryd.isAgg109
  z119 := Tryd.sizeOf109
  t138 := Tryd.underlying177
  a138 := Tryd.isAgg177
  z138 := Tryd.sizeOf177
  v138 := Tryd.zeroValue177
  t139 := Tryd.underlying178
  a139 := Tryd.isAgg178
  z139 := Tryd.sizeOf178
  v139 := Tryd.zeroValue178
  t146 := Tryd.underlying169
  a146 := Tryd.isAgg169
  z146 := Tryd.sizeOf169
  v146 := Tryd.zeroValue169
  g1 := by kernel_rfl
  g3 := by kernel_rfl
  g4 := by kernel_rfl }
open Go.RowKit Go.Lib in
theorem Tryd.strings_Split (s sep : ByteArray) (m : Int) (w : World) (hs : s.size < 4294967281) (hm : w.cell? ⟨2, 0, none⟩ = some (.int .i64 m)) (h1 : 1 ≤ sep.size) :
    Calls Tryd.prog 40 #[.string s, .string sep] w fun e w' =>
      e = .returned (.slice (some ⟨w.heap.size, 0, none⟩) (Lib.countB s sep + 1) (Lib.countB s sep + 1)) ∧ w' = w.alloc (.cells ((Lib.splitB sep 0 (Lib.countB s sep) s).map Value.string).toArray 9) := Any.strings_Split Tryd.lays146 (by kernel_rfl) s sep m w hs hm h1
end Go.Proofs
namespace Go.Proofs.YthkgjohhbdipcaaDoor

/-- a whole number of a word, and is it one? -/
def wholeS (l : List UInt8) : Int × Bool := match Lib.parseIntB 64 l with
  | .ok v => (v, Lib.itoa v == l)
  | .range => (Lib.intSat 64 l, false)
  | _ => (0, false)
theorem parse_in {l : List UInt8} {v : Int} (h : Lib.parseIntB 64 l = .ok v) : -9223372036854775808 ≤ v ∧ v ≤ 9223372036854775807 := by
  unfold Lib.parseIntB at h
  split at h
  · cases h
  · rename_i c r
    dsimp only at h
    split at h
    · cases h
    · cases h
    · rename_i u _
      split at h
      · cases h
      · rename_i h1
        split at h
        · cases h
        · rename_i h2
          injection h with h
          subst h
          simp only [Nat.reducePow, Nat.reduceSub] at h1 h2
          split <;> rename_i hn <;> simp [hn] at h1 h2 <;> omega

/-! ### numerals -/
def valOf (acc : Nat) (l : List UInt8) : Nat := l.foldl (fun a c => a * 10 + (c.toNat - 48)) acc
theorem valOf_ge : ∀ (l : List UInt8) (acc : Nat), acc ≤ valOf acc l
  | [], _ => Nat.le_refl _
  | c :: r, acc => by
    have := valOf_ge r (acc * 10 + (c.toNat - 48))
    show acc ≤ valOf (acc * 10 + (c.toNat - 48)) r
    omega
theorem parse_val : ∀ (l : List UInt8) (acc : Nat), (∀ c ∈ l, 48 ≤ c.toNat ∧ c.toNat ≤ 57) → valOf acc l ≤ 65535 → Lib.parseUintM (2 ^ 64 - 1) acc l = .ok (valOf acc l)
  | [], _, _, _ => rfl
  | c :: r, acc, hd, hv => by
    have hc := hd c (List.mem_cons_self ..)
    have h1 : acc * 10 + (c.toNat - 48) ≤ 65535 := Nat.le_trans (valOf_ge r _) hv
    unfold Lib.parseUintM
    rw [if_pos hc, if_neg (by omega), if_neg (by omega)]
    exact parse_val r _ (fun x hx => hd x (List.mem_cons_of_mem _ hx)) hv
theorem digit_byte {d : Nat} (h : d < 10) : (UInt8.ofNat (48 + d)).toNat = 48 + d := by
  rw [UInt8.toNat_ofNat']; omega
theorem dec_digits : ∀ (n u : Nat), u ≤ n → (∀ c ∈ Lib.decDigits u, 48 ≤ c.toNat ∧ c.toNat ≤ 57) ∧ valOf 0 (Lib.decDigits u) = u ∧ Lib.decDigits u ≠ []
  | 0, u, h => by
    obtain rfl : u = 0 := by omega
    rw [Lib.decDigits_one (by omega)]
    refine ⟨fun c hc => ?_, by simp [valOf], by simp⟩
    simp only [List.mem_singleton] at hc
    subst hc
    rw [digit_byte (by omega)]; omega
  | n + 1, u, h => by
    by_cases hu : u < 10
    · rw [Lib.decDigits_one hu]
      refine ⟨fun c hc => ?_, ?_, by simp⟩
      · simp only [List.mem_singleton] at hc
        subst hc
        rw [digit_byte hu]; omega
      · simp only [valOf, List.foldl_cons, List.foldl_nil]
        rw [digit_byte hu]; omega
    · obtain ⟨h1, h2, h3⟩ := dec_digits n (u / 10) (by omega)
      rw [Lib.decDigits, dif_neg hu]
      refine ⟨fun c hc => ?_, ?_, by simp⟩
      · rcases List.mem_append.1 hc with hc | hc
        · exact h1 c hc
        · simp only [List.mem_singleton] at hc
          subst hc
          rw [digit_byte (by omega)]; omega
      · unfold valOf at h2 ⊢
        rw [List.foldl_append, h2]
        simp only [List.foldl_cons, List.foldl_nil]
        rw [digit_byte (by omega)]; omega
theorem itoa_digits {v : Int} (h0 : 0 ≤ v) : (∀ c ∈ Lib.itoa v, 48 ≤ c.toNat ∧ c.toNat ≤ 57) ∧ Lib.itoa v ≠ [] := by
  unfold Lib.itoa
  rw [if_neg (by omega)]
  have := dec_digits v.toNat v.toNat (Nat.le_refl _)
  exact ⟨this.1, this.2.2⟩
theorem parse_itoa {v : Int} (h0 : 0 ≤ v) (h1 : v ≤ 65535) : Lib.parseIntB 64 (Lib.itoa v) = .ok v := by
  obtain ⟨n, rfl⟩ := Int.eq_ofNat_of_zero_le h0
  rw [Lib.itoa_nonneg]
  obtain ⟨hd, hv, hne⟩ := dec_digits n n (Nat.le_refl _)
  have hp := parse_val (Lib.decDigits n) 0 hd (by rw [hv]; omega)
  rw [hv] at hp
  cases hl : Lib.decDigits n with
  | nil => exact absurd hl hne
  | cons c r =>
    rw [hl] at hd hp
    have hc := hd c (List.mem_cons_self ..)
    have hs : ¬ (c.toNat = 43 ∨ c.toNat = 45) := by omega
    have hn : ¬ c.toNat = 45 := by omega
    unfold Lib.parseIntB
    dsimp only
    rw [if_neg hs]
    have hu : Lib.parseUintB 64 (c :: r) = .ok n := by
      unfold Lib.parseUintB
      rw [if_neg (by simp)]
      exact hp
    rw [hu]
    simp only [hn, not_false_eq_true, true_and, false_and, if_false]
    rw [if_neg (by simp only [Nat.reducePow, Nat.reduceSub]; omega)]
theorem whole_itoa {v : Int} (h0 : 0 ≤ v) (h1 : v ≤ 65535) : wholeS (Lib.itoa v) = (v, true) := by
  unfold wholeS
  rw [parse_itoa h0 h1]
  simp
theorem whole_some {l : List UInt8} (h : (wholeS l).2 = true) : l = Lib.itoa (wholeS l).1 := by
  unfold wholeS at h ⊢
  split at h
  · exact (beq_iff_eq.1 h).symm
  · cases h
  · cases h
end Go.Proofs.YthkgjohhbdipcaaDoor
namespace Go.Proofs.YthkgjohhbdipcaaDoor
open Go.RowKit Go.Shelf
attribute [local go_sem] gives givesUpon

structure Laid (w : World) : Prop where
  ml : ∃ m : Int, w.cell? ⟨2, 0, none⟩ = some (.int .i64 m)
  pow : Lib.TabIs Tryd.prog w "internal/strconv.uint64pow10" .u64 Lib.pow10Tab
  syn : ∃ te pe, w.cell? ⟨4, 0, none⟩ = some (.iface te pe)
  rng : ∃ te pe, w.cell? ⟨5, 0, none⟩ = some (.iface te pe)
theorem Laid.below {w w' : World} (h : Laid w) (hb : Below w.heap.size w w') : Laid w' := by
  obtain ⟨⟨m, h1⟩, h2, ⟨te, pe, h3⟩, ⟨te', pe', h4⟩⟩ := h
  have st : ∀ (p : Addr) v, w.cell? p = some v → w'.cell? p = some v := fun p v hv => (hb.cell (World.block_lt_of_cell? _ _ hv)).trans hv
  exact ⟨⟨m, st _ _ h1⟩, Go.Joins.tab_stays (g := 3) (by kernel_rfl) h2 hb (Nat.le_refl _), ⟨te, pe, st _ _ h3⟩, ⟨te', pe', st _ _ h4⟩⟩

theorem below_world {w w' : World} {k : Nat} {os : Array Obj} (h : w' = Go.Sort.grow (w.drewN k) os) : Below w.heap.size w w' := by
  subst h
  exact ⟨rfl, rfl, rfl, by simp [Go.Sort.grow], fun i hi => by
    show ((w.drewN k).heap ++ os)[i]? = _
    rw [Array.getElem?_append_left (by show i < w.heap.size; omega)]
    rfl⟩

/-- strconv.ParseInt at what is no numeral. -/
theorem parse_bad (s : ByteArray) (hlim : s.size ≤ 281474976710656) (h : ∀ v, Lib.parseIntB 64 s.data.toList ≠ .ok v) (h' : Lib.parseIntB 64 s.data.toList ≠ .range) (ev : Value) (w : World) (hv : w.cell? ⟨4, 0, none⟩ = some ev) (hev : ev = .nilIface ∨ ∃ te pe, ev = .iface te pe) :
    Calls Tryd.prog 68 #[.string s, .int .i64 10, .int .i64 64] w fun e w' => ∃ t p, e = .returned (.tuple #[.int .i64 0, .iface t p]) ∧ Below w.heap.size w w' := by
  cases hp : Lib.parseIntB 64 s.data.toList
  · exact absurd hp (h _)
  · have c : Calls Tryd.prog 68 #[.string s, .int .i64 10, .int .i64 64] w _ := Any.strconv_ParseInt_10_at64_syntax Tryd.laysC174 s hlim hp ev w hv hev
    exact c.mono fun e w' ⟨N, h1, _, _, h4⟩ => ⟨_, _, h1, h4⟩
  · exact absurd hp h'
set_option maxHeartbeats 1000000 in
theorem whole_any (s : ByteArray) (w : World) (hL : Laid w) (hs : s.size ≤ 281474976710656) :
    Calls Tryd.prog 57 #[.string s] w fun e w' => e = .returned (.tuple #[.int .i64 (wholeS s.data.toList).1, .bool (wholeS s.data.toList).2]) ∧ Below w.heap.size w w' := by
  have HL := Lib.hid hL
  clear hL
  cases hp : Lib.parseIntB 64 s.data.toList
  · rename_i v
    have he : wholeS s.data.toList = (v, Lib.itoa v == s.data.toList) := by unfold wholeS; rw [hp]
    rw [he]
    have Hp := Lib.hid hp
    obtain ⟨h0, h1⟩ := parse_in hp
    clear hp he
    go_enter Tryd.func57, Tryd.ntmps57
    go_wp2_with fail
    refine (Tryd.strconv_ParseInt_10_at64_ok s (by omega) v Hp.out _).mono ?_
    rintro e w1 ⟨rfl, hw1⟩
    have hb1 : Below w.heap.size w w1 := by
      rcases hw1 with rfl | ⟨t, rfl⟩
      · exact Below.refl _ _
      · exact Go.Joins.below_bytesWorld _ _ _ _ (Nat.le_refl _)
    clear hw1
    go_wp2_with fail
    refine (Tryd.strconv_FormatInt_10 v h0 h1 w1 (HL.out.below hb1).pow).mono ?_
    rintro e w2 ⟨rfl, k, os, hw2⟩
    have hb2 := below_world hw2
    clear hw2
    go_wp2
    go_ret2
    exact ⟨by rw [← ByteArray.toList_eq]; rfl, bel_call hb1 hb2⟩
  · have he : wholeS s.data.toList = (0, false) := by unfold wholeS; rw [hp]
    rw [he]
    have h1 : Hid (∀ v, Lib.parseIntB 64 s.data.toList ≠ .ok v) := fun v => by rw [hp]; intro e; cases e
    have h2 : Hid (Lib.parseIntB 64 s.data.toList ≠ .range) := by show _ ≠ _; rw [hp]; intro e; cases e
    clear hp he
    obtain ⟨te, pe, hv⟩ := HL.out.syn
    have Hv := Lib.hid hv
    clear hv
    go_enter Tryd.func57, Tryd.ntmps57
    go_wp2_with fail
    refine (parse_bad s hs h1.out h2.out _ _ Hv.out (.inr ⟨te, pe, rfl⟩)).mono ?_
    rintro e w1 ⟨t1, p1, rfl, hb1⟩
    go_wp2
    go_ret2
    exact ⟨rfl, hb1⟩
  · have he : wholeS s.data.toList = (Lib.intSat 64 s.data.toList, false) := by unfold wholeS; rw [hp]
    rw [he]
    have Hp := Lib.hid hp
    clear hp he
    obtain ⟨te, pe, hv⟩ := HL.out.rng
    have Hv := Lib.hid hv
    clear hv
    go_enter Tryd.func57, Tryd.ntmps57
    go_wp2_with fail
    refine (Tryd.strconv_ParseInt_10_at64_range s hs Hp.out _ _ Hv.out (.inr ⟨te, pe, rfl⟩)).mono ?_
    rintro e w1 ⟨N, rfl, _, _, hb1⟩
    go_wp2
    go_ret2
    exact ⟨rfl, hb1⟩
end Go.Proofs.YthkgjohhbdipcaaDoor
namespace Go.Proofs
open Go.Shelf
def Tryd.laysM171_ren : Go.Shelf.Ren := ⟨fun | 171 => 34 | 243 => 60 | 246 => 72 | 283 => 85 | 284 => 86 | 285 => 87 | 286 => 88 | 129 => 106 | 317 => 105 | 318 => 107 | 319 => 108 | 320 => 109 | 337 => 117 | 338 => 118 | n => n, fun | 3 => 3 | 9 => 9 | 2 => 2 | 4 => 4 | 171 => 132 | 0 => 0 | 53 => 133 | 37 => 41 | 5 => 5 | 173 => 136 | 212 => 162 | 51 => 129 | 20 => 20 | 213 => 163 | 46 => 142 | 232 => 182 | 233 => 183 | n => n, fun | 17 => 3 | 18 => 8 | 19 => 9 | n => n⟩
theorem Tryd.laysM171 : Go.Proofs.LaysM.n171 Tryd.prog Tryd.laysM171_ren := {
  mixed := by kernel_rfl
  f129 := Tryd.func106.trans (congrArg some (by kernel_rfl))
  f171 := Tryd.func34.trans (congrArg some (by kernel_rfl))
  f243 := Tryd.func60.trans (congrArg some (by kernel_rfl))
  f246 := Tryd.func72.trans (congrArg some (by kernel_rfl))
  f283 := Tryd.func85.trans (congrArg some (by kernel_rfl))
  f284 := Tryd.func86.trans (congrArg some (by kernel_rfl))
  f285 := Tryd.func87.trans (congrArg some (by kernel_rfl))
  f286 := Tryd.func88.trans (congrArg some (by kernel_rfl))
  f317 := Tryd.func105.trans (congrArg some (by kernel_rfl))
  f318 := Tryd.func107.trans (congrArg some (by kernel_rfl))
  f319 := Tryd.func108.trans (congrArg some (by kernel_rfl))
  f320 := Tryd.func109.trans (congrArg some (by kernel_rfl))
  f337 := Tryd.func117.trans (congrArg some (by kernel_rfl))
  f338 := Tryd.func118.trans (congrArg some (by kernel_rfl))
  t0 := Tryd.underlying0
  a0 := Tryd.isAgg0
  z0 := Tryd.sizeOf0
  v0 := Tryd.zeroValue0
  t2 := Tryd.underlying2
  a2 := Tryd.isAgg2
  z2 := Tryd.sizeOf2
  v2 := Tryd.zeroValue2
  t3 := Tryd.underlying3
  a3 := Tryd.isAgg3
  z3 := Tryd.sizeOf3
  v3 := Tryd.zeroValue3
  t4 := Tryd.underlying4
  a4 := Tryd.isAgg4
  z4 := Tryd.sizeOf4
  v4 := Tryd.zeroValue4
  t5 := Tryd.underlying5
  a5 := Tryd.isAgg5
  z5 := Tryd.sizeOf5
  v5 := Tryd.zeroValue5
  t9 := Tryd.underlying9
  a9 := Tryd.isAgg9
  z9 := Tryd.sizeOf9
  v9 := Tryd.zeroValue9
  t20 := Tryd.underlying20
  a20 := Tryd.isAgg20
  z20 := Tryd.sizeOf20
  v20 := Tryd.zeroValue20
  t37 := Tryd.underlying41
  a37 := Tryd.isAgg41
  z37 := Tryd.sizeOf41
  v37 := Tryd.zeroValue41
  t46 := Tryd.underlying142
  a46 := Tryd.isAgg142
  z46 := Tryd.sizeOf142
  v46 := Tryd.zeroValue142
  t51 := Tryd.underlying129
  a51 := Tryd.isAgg129
  z51 := Tryd.sizeOf129
  v51 := Tryd.zeroValue129
  t53 := Tryd.underlying133
  a53 := Tryd.isAgg133
  z53 := Tryd.sizeOf133
  v53 := Tryd.zeroValue133
  t171 := Tryd.underlying132
  a171 := Tryd.isAgg132
  z171 := Tryd.sizeOf132
  v171 := Tryd.zeroValue132
  t173 := Tryd.underlying136
  a173 := Tryd.isAgg136
  z173 := Tryd.sizeOf136
  v173 := Tryd.zeroValue136
  t212 := Tryd.underlying162
  a212 := Tryd.isAgg162
  z212 := Tryd.sizeOf162
  v212 := Tryd.zeroValue162
  t213 := Tryd.underlying163
  a213 := Tryd.isAgg163
  z213 := Tryd.sizeOf163
  t232 := Tryd.underlying182
  a232 := Tryd.isAgg182
  z232 := Tryd.sizeOf182
  v232 := Tryd.zeroValue182
  t233 := Tryd.underlying183
  a233 := Tryd.isAgg183
  z233 := Tryd.sizeOf183
  v233 := Tryd.zeroValue183
  g17 := by kernel_rfl
  g18 := by kernel_rfl
  g19 := by kernel_rfl
  i0 := by kernel_rfl
  i2 := by kernel_rfl
  i3 := by kernel_rfl
  i4 := by kernel_rfl
  i5 := by kernel_rfl
  i9 := by kernel_rfl
  i20 := by kernel_rfl
  i37 := by kernel_rfl
  i46 := by kernel_rfl
  i51 := by kernel_rfl
  i53 := by kernel_rfl
  i171 := by kernel_rfl
  i173 := by kernel_rfl
  i212 := by kernel_rfl
  i232 := by kernel_rfl
  i233 := by kernel_rfl
  m17 := by kernel_rfl
  m18 := by kernel_rfl
  m19 := by kernel_rfl }
open Go.RowKit Go.Sort Go.Lib in
theorem Tryd.strconv_Itoa (n : Int) (h0 : -9223372036854775808 ≤ n) (h1 : n ≤ 9223372036854775807) (w : World) (htab : Lib.TabIs Tryd.prog w "internal/strconv.uint64pow10" .u64 Lib.pow10Tab) :
    Calls Tryd.prog 34 #[.int .i64 n] w fun e w' => e = .returned (.string ⟨(Lib.itoa n).toArray⟩) ∧ ∃ k os, w' = grow (w.drewN k) os := Any.strconv_Itoa Tryd.laysM171 n h0 h1 w htab
def Tryd.lays157_ren : Go.Shelf.Ren := ⟨fun | 157 => 55 | 229 => 66 | 199 => 67 | 261 => 83 | 311 => 102 | 312 => 103 | n => n, fun | 9 => 9 | 31 => 69 | 3 => 3 | 5 => 5 | 4 => 4 | 119 => 109 | 0 => 0 | 40 => 111 | 152 => 126 | 21 => 21 | 154 => 128 | 51 => 129 | 141 => 131 | 196 => 151 | 193 => 148 | 198 => 154 | 49 => 152 | 194 => 149 | 201 => 157 | 226 => 171 | 46 => 142 | 227 => 172 | n => n, fun | 0 => 0 | 6 => 1 | n => n⟩
theorem Tryd.lays157 : Go.Proofs.Lays.n157 Tryd.prog Tryd.lays157_ren := {
  mixed := by kernel_rfl
  f157 := Tryd.func55.trans (congrArg some (by kernel_rfl))
  f199 := Tryd.func67.trans (congrArg some (by kernel_rfl))
  f229 := Tryd.func66.trans (congrArg some (by kernel_rfl))
  f261 := Tryd.func83.trans (congrArg some (by kernel_rfl))
  f311 := Tryd.func102.trans (congrArg some (by kernel_rfl))
  f312 := Tryd.func103.trans (congrArg some (by kernel_rfl))
  t0 := Tryd.underlying0
  a0 := Tryd.isAgg0
  z0 := Tryd.sizeOf0
  v0 := Tryd.zeroValue0
  t3 := Tryd.underlying3
  a3 := Tryd.isAgg3
  z3 := Tryd.sizeOf3
  v3 := Tryd.zeroValue3
  t4 := Tryd.underlying4
  a4 := Tryd.isAgg4
  z4 := Tryd.sizeOf4
  v4 := Tryd.zeroValue4
  t5 := Tryd.underlying5
  a5 := Tryd.isAgg5
  z5 := Tryd.sizeOf5
  v5 := Tryd.zeroValue5
  t9 := Tryd.underlying9
  a9 := Tryd.isAgg9
  z9 := Tryd.sizeOf9
  v9 := Tryd.zeroValue9
  t21 := Tryd.underlying21
  a21 := Tryd.isAgg21
  z21 := Tryd.sizeOf21
  v21 := Tryd.zeroValue21
  t31 := Tryd.underlying69
  a31 := Tryd.isAgg69
  z31 := Tryd.sizeOf69
  v31 := Tryd.zeroValue69
  t40 := Tryd.underlying111
  a40 := Tryd.isAgg111
  z40 := Tryd.sizeOf111
  v40 := Tryd.zeroValue111
  t46 := Tryd.underlying142
  a46 := Tryd.isAgg142
  z46 := Tryd.sizeOf142
  v46 := Tryd.zeroValue142
  t49 := Tryd.underlying152
  a49 := Tryd.isAgg152
  z49 := Tryd.sizeOf152
  v49 := Tryd.zeroValue152
  t51 := Tryd.underlying129
  a51 := Tryd.isAgg129
  z51 := Tryd.sizeOf129
  v51 := Tryd.zeroValue129
  t119 := Tryd.underlying109
  a119 := Tryd.isAgg109
  z119 := Tryd.sizeOf109
  t141 := Tryd.underlying131
  a141 := Tryd.isAgg131
  z141 := Tryd.sizeOf131
  v141 := Tryd.zeroValue131
  t152 := Tryd.underlying126
  a152 := Tryd.isAgg126
  z152 := Tryd.sizeOf126
  v152 := Tryd.zeroValue126
  t154 := Tryd.underlying128
  a154 := Tryd.isAgg128
  z154 := Tryd.sizeOf128
  v154 := Tryd.zeroValue128
  t193 := Tryd.underlying148
  a193 := Tryd.isAgg148
  z193 := Tryd.sizeOf148
  v193 := Tryd.zeroValue148
  t194 := Tryd.underlying149
  a194 := Tryd.isAgg149
  z194 := Tryd.sizeOf149
  v194 := Tryd.zeroValue149
  t196 := Tryd.underlying151
  a196 := Tryd.isAgg151
  z196 := Tryd.sizeOf151
  v196 := Tryd.zeroValue151
  t198 := Tryd.underlying154
  a198 := Tryd.isAgg154
  z198 := Tryd.sizeOf154
  v198 := Tryd.zeroValue154
  t201 := Tryd.underlying157
  a201 := Tryd.isAgg157
  z201 := Tryd.sizeOf157
  v201 := Tryd.zeroValue157
  t226 := Tryd.underlying171
  a226 := Tryd.isAgg171
  z226 := Tryd.sizeOf171
  v226 := Tryd.zeroValue171
  t227 := Tryd.underlying172
  a227 := Tryd.isAgg172
  z227 := Tryd.sizeOf172
  v227 := Tryd.zeroValue172
  g0 := by kernel_rfl
  g6 := by kernel_rfl }
open Go.RowKit Go.Lib in
theorem Tryd.strings_Fields (s : ByteArray) (w : World) (hs : s.size < 4294967281) (hascii : ∀ (j : Nat) b, s.data.toList[j]? = some b → b.toNat < 128) (htab : Lib.TabIs Tryd.prog w "strings.asciiSpace" .u8 Lib.asciiSpaceTab) :
    Calls Tryd.prog 55 #[.string s] w fun e w' =>
      e = .returned (.slice (some ⟨w.heap.size, 0, none⟩) (Lib.fields s.data.toList).length (Lib.fields s.data.toList).length) ∧ w' = w.alloc (.cells ((Lib.fields s.data.toList).map fun l => Value.string ⟨l.toArray⟩).toArray 9) := Any.strings_Fields Tryd.lays157 (by kernel_rfl) (by kernel_rfl) s w hs hascii htab
end Go.Proofs
namespace Go.Proofs.YthkgjohhbdipcaaDoor

def condE (c : TCond) : Int :=
  if c.f < 0 ∨ 5 ≤ c.f then 5 else if c.op < 1 ∨ 4 < c.op then 4 else if c.v < 0 ∨ mostOf c.f < c.v then 3 else 0
def condsGo : List TCond → Int
  | [] => 0
  | c :: r => if condE c = 0 then condsGo r else condE c
def ruleE (r : TRule) : Int := if 10 < r.conds.length then 2 else if r.verdict < 0 ∨ 4 < r.verdict then 3 else condsGo r.conds
def rulesGo : List TRule → Int
  | [] => 0
  | x :: r => if ruleE x = 0 then rulesGo r else ruleE x
/-- chapter 2's Check. -/
def polE (p : TPol) : Int := if 120 < p.rules.length then 2 else if p.dflt < 0 ∨ 4 < p.dflt then 3 else rulesGo p.rules
theorem condsGo_drop (l : List TCond) (k : Nat) (h : k < l.length) : condsGo (l.drop k) = if condE l[k] = 0 then condsGo (l.drop (k+1)) else condE l[k] := by
  rw [List.drop_eq_getElem_cons h]; rfl
theorem rulesGo_drop (l : List TRule) (k : Nat) (h : k < l.length) : rulesGo (l.drop k) = if ruleE l[k] = 0 then rulesGo (l.drop (k+1)) else ruleE l[k] := by
  rw [List.drop_eq_getElem_cons h]; rfl

structure OkCond (c : TCond) : Prop where
  f0 : 0 ≤ c.f
  f1 : c.f < 5
  o0 : 1 ≤ c.op
  o1 : c.op ≤ 4
  v0 : 0 ≤ c.v
  v1 : c.v ≤ mostOf c.f
structure OkRule (r : TRule) : Prop where
  len : r.conds.length ≤ 10
  v0 : 0 ≤ r.verdict
  v1 : r.verdict ≤ 4
  conds : ∀ c ∈ r.conds, OkCond c
structure OkPol (p : TPol) : Prop where
  len : p.rules.length ≤ 120
  d0 : 0 ≤ p.dflt
  d1 : p.dflt ≤ 4
  rules : ∀ r ∈ p.rules, OkRule r
theorem okCond_iff (c : TCond) : condE c = 0 ↔ OkCond c := by
  unfold condE
  constructor
  · intro h
    split at h
    · simp at h
    · split at h
      · simp at h
      · split at h
        · simp at h
        · constructor <;> omega
  · rintro ⟨h1, h2, h3, h4, h5, h6⟩
    rw [if_neg (by omega), if_neg (by omega), if_neg (by omega)]
theorem okConds_iff : ∀ l : List TCond, condsGo l = 0 ↔ ∀ c ∈ l, OkCond c
  | [] => by simp [condsGo]
  | c :: r => by
    simp only [condsGo, List.mem_cons, forall_eq_or_imp]
    rw [← okConds_iff r, ← okCond_iff c]
    split
    · rename_i h; simp [h]
    · rename_i h; simp [h]
theorem okRule_iff (r : TRule) : ruleE r = 0 ↔ OkRule r := by
  unfold ruleE
  constructor
  · intro h
    split at h
    · simp at h
    · split at h
      · simp at h
      · exact ⟨by omega, by omega, by omega, (okConds_iff _).1 h⟩
  · rintro ⟨h1, h2, h3, h4⟩
    rw [if_neg (by omega), if_neg (by omega)]
    exact (okConds_iff _).2 h4
theorem okRules_iff : ∀ l : List TRule, rulesGo l = 0 ↔ ∀ c ∈ l, OkRule c
  | [] => by simp [rulesGo]
  | c :: r => by
    simp only [rulesGo, List.mem_cons, forall_eq_or_imp]
    rw [← okRules_iff r, ← okRule_iff c]
    split
    · rename_i h; simp [h]
    · rename_i h; simp [h]
theorem okPol_iff (p : TPol) : polE p = 0 ↔ OkPol p := by
  unfold polE
  constructor
  · intro h
    split at h
    · simp at h
    · split at h
      · simp at h
      · exact ⟨by omega, by omega, by omega, (okRules_iff _).1 h⟩
  · rintro ⟨h1, h2, h3, h4⟩
    rw [if_neg (by omega), if_neg (by omega)]
    exact (okRules_iff _).2 h4

/-- chapter 2: does a condition hold of a call? -/
def holdsB (c : TCond) (x : TCall) : Bool :=
  if c.op = 1 then x.get c.f == c.v else if c.op = 2 then x.get c.f != c.v else if c.op = 3 then decide (x.get c.f < c.v) else decide (c.v ≤ x.get c.f)
def allHold (x : TCall) (l : List TCond) : Bool := l.all fun c => holdsB c x
/-- the number of the first rule whose conditions all hold. -/
def which (x : TCall) : List TRule → Nat
  | [] => 0
  | r :: l => if allHold x r.conds then 0 else which x l + 1
def verdictAt (p : TPol) (k : Nat) : Int := match p.rules[k]? with
  | some r => r.verdict
  | none => p.dflt
def judged (p : TPol) (x : TCall) : Int × Nat := (verdictAt p (which x p.rules), which x p.rules)
/-- chapter 2's Judge, errors too. -/
def judgeE (p : TPol) (x : TCall) : Int × Int × Int := if polE p ≠ 0 then (0, 0, polE p) else if x.ok then ((judged p x).1, (judged p x).2, 0) else (0, 0, 3)
theorem which_le (x : TCall) : ∀ l : List TRule, which x l ≤ l.length
  | [] => Nat.le_refl _
  | r :: l => by
    have := which_le x l
    unfold which
    split
    · omega
    · simp; exact this
theorem which_drop (x : TCall) (l : List TRule) (k : Nat) (h : k < l.length) : which x (l.drop k) = if allHold x l[k].conds then 0 else which x (l.drop (k + 1)) + 1 := by
  rw [List.drop_eq_getElem_cons h]; rfl
end Go.Proofs.YthkgjohhbdipcaaDoor
namespace Go.Proofs.YthkgjohhbdipcaaDoor

def opOf (b : UInt8) : Int := if b = 61 then 1 else if b = 33 then 2 else if b = 60 then 3 else if b = 62 then 4 else 0
/-- the place of the first operation's sign; how long the word is: there is none. -/
def opAt : List UInt8 → Nat
  | [] => 0
  | b :: l => if opOf b = 0 then opAt l + 1 else 0
def verdictOf (l : List UInt8) : Option Int :=
  if l = [107, 105, 108, 108] then some 0 else if l = [116, 114, 97, 112] then some 1 else if l = [102, 97, 105, 108] then some 2 else if l = [108, 111, 103] then some 3 else if l = [97, 108, 108, 111, 119] then some 4 else none
def fieldOf (l : List UInt8) : Option Int :=
  if l = [110, 114] then some 0 else if l = [107, 105, 110, 100] then some 1 else if l = [97] then some 2 else if l = [98] then some 3 else if l = [99] then some 4 else none
def condOf (u : List UInt8) : Option TCond :=
  if opAt u = u.length then none else
  match fieldOf (u.take (opAt u)) with
  | none => none
  | some f => if (wholeS (u.drop (opAt u + 1))).2 then some ⟨f, opOf (u.getD (opAt u) 0), (wholeS (u.drop (opAt u + 1))).1⟩ else none
def condsOf : List (List UInt8) → Option (List TCond)
  | [] => some []
  | u :: r => match condOf u with
    | none => none
    | some c => (condsOf r).map (c :: ·)
def words (t : List UInt8) : List (List UInt8) := Lib.split t [32]
def pread : Nat → List UInt8 → Option TPol
  | 0, _ => none
  | n + 1, s => match verdictOf ((words (Lib.cut s [59]).1).headD []) with
    | none => none
    | some v =>
      if (Lib.cut s [59]).2.2 then
        match condsOf (words (Lib.cut s [59]).1).tail with
        | none => none
        | some cs => (pread n (Lib.cut s [59]).2.1).map fun p => ⟨⟨cs, v⟩ :: p.rules, p.dflt⟩
      else if 1 < (words (Lib.cut s [59]).1).length then none else some ⟨[], v⟩
/-- what is read, and the error. -/
def readP (s : List UInt8) : TPol × Int := match pread (s.length + 1) s with
  | none => (⟨[], 0⟩, 1)
  | some p => if polE p = 0 then (p, 0) else (⟨[], 0⟩, polE p)

def writtenL : List UInt8 := [107, 105, 108, 108, 32, 110, 114, 61, 51, 32, 97, 60, 53, 59, 108, 111, 103, 32, 107, 105, 110, 100, 33, 48, 59, 97, 108, 108, 111, 119]
def madeP : TPol := ⟨[⟨[⟨0, 1, 3⟩, ⟨2, 3, 5⟩], 0⟩, ⟨[⟨1, 2, 0⟩], 3⟩], 4⟩
theorem read_made : readP writtenL = (madeP, 0) := by decide +kernel

/-! ### laws for the loops -/
theorem opAt_le : ∀ u : List UInt8, opAt u ≤ u.length
  | [] => Nat.le_refl _
  | b :: l => by
    have := opAt_le l
    unfold opAt
    split <;> simp <;> omega
theorem opAt_spec : ∀ (u : List UInt8) (k : Nat), (∀ j, j < k → ∀ b, u[j]? = some b → opOf b = 0) → k ≤ u.length → (∀ b, u[k]? = some b → opOf b ≠ 0) → opAt u = k
  | [], k, _, hk, _ => by simp at hk; subst hk; rfl
  | b :: l, 0, _, _, h => by unfold opAt; rw [if_neg (h b rfl)]
  | b :: l, k + 1, h, hk, h' => by
    unfold opAt
    rw [if_pos (h 0 (by omega) b rfl), opAt_spec l k (fun j hj c hc => h (j + 1) (by omega) c (by simpa using hc)) (by simpa using hk) (fun c hc => h' c (by simpa using hc))]
theorem condsOf_drop {ws : List (List UInt8)} {j : Nat} (h : j < ws.length) : condsOf (ws.drop j) = match condOf ws[j] with
    | none => none
    | some c => (condsOf (ws.drop (j + 1))).map (c :: ·) := by
  rw [List.drop_eq_getElem_cons h]; rfl
theorem pread_step {n : Nat} {t : List UInt8} {u0 : List UInt8} {us : List (List UInt8)} (h : words (Lib.cut t [59]).1 = u0 :: us) : pread (n + 1) t = match verdictOf u0 with
    | none => none
    | some v =>
      if (Lib.cut t [59]).2.2 then
        match condsOf us with
        | none => none
        | some cs => (pread n (Lib.cut t [59]).2.1).map fun p => ⟨⟨cs, v⟩ :: p.rules, p.dflt⟩
      else if 1 < us.length + 1 then none else some ⟨[], v⟩ := by
  conv => lhs; unfold pread
  rw [h]; rfl
theorem readP_none {s : List UInt8} (h : pread (s.length + 1) s = none) : readP s = (⟨[], 0⟩, 1) := by unfold readP; rw [h]
theorem readP_some {s : List UInt8} {p : TPol} (h : pread (s.length + 1) s = some p) : readP s = if polE p = 0 then (p, 0) else (⟨[], 0⟩, polE p) := by unfold readP; rw [h]
end Go.Proofs.YthkgjohhbdipcaaDoor
