/- Texts laid one behind the other: Rel, Own, Blk, Init, AppR, ConcatRule, CloneRule, PolSpec, PolRd, RulesOf, Gather. No condition beyond theirs. -/
import Derived.Test.YtioeliocdbckbaaGreatDoorK1
import Derived.Laws.AppendOwnNone
import Derived.Lib.AppendZeros
import Derived.Laws.IdiomCopy
import Derived.Test.YtioeliocdbckbaaGreatDoorProg
import Derived.KernelRfl
import Derived.Deep.LoopGhost
namespace Go.Proofs.YtioeliocdbckbaaGreatDoor
open Go.RowKit

def valOr (X : Option ((Nat → Value) → Value)) (vf : Nat → Value) (k : Nat) : Value := match X with
  | some X => X vf
  | none => vf k
def valsOf (Xs : Nat → Option ((Nat → Value) → Value)) (vf : Nat → Value) (k : Nat) : Value := valOr (Xs k) vf k
def updVal (vf : Nat → Value) (i : Nat) (v : Value) : Nat → Value := fun j => if j = i then v else vf j
def Proper (bs : List (List Nat)) (i : Nat) (X : (Nat → Value) → Value) : Prop := ∀ f g : Nat → Value, (∀ m ∈ bs.getD i [], f m = g m) → X f = X g
section
variable (P : Program) (ops : Array Oper) (Inv : (Nat → Bool) → World → Prop) (T : Nat → (Nat → Value) → World → World → Prop) (F : Nat → (Nat → Bool) → (Nat → Value) → World → Prop) (bs : List (List Nat)) (Q : Act → World → Prop) (n : Nat)
def relOb (i : Nat) (o : Oper) (av : (Nat → Value) → Act) (E : (Nat → Value) → Value → Prop) : Prop :=
  ∀ (done : Nat → Bool) (vf : Nat → Value) (w : World), Inv done w → done i = false → (∀ k ∈ (prune o).after.toList.map (fun e => e.on), done k = true) → (∀ k : Nat, i ∈ bs.getD k [] → done k = false) → (∀ k, done k = true → F k done vf w) →
    ∀ R : Value → World → Prop, (∀ (v : Value) (w' : World), Inv (updDone done i) w' → T i vf w w' → E vf v → F i (updDone done i) (updVal vf i v) w' → R v w') → if Region.wanted o (yielded ops (av vf).tmps) then gives P o (av vf) w R else R undef w
def relWalk : List Oper → Nat → ((Nat → Value) → Act) → Prop
  | [], _, av => ∀ (done : Nat → Bool) (vf : Nat → Value) (w : World), (∀ k, k < n → done k = true) → Inv done w → (∀ k, k < n → F k done vf w) → Q (av vf) w
  | o :: l, i, av => (∃ X : (Nat → Value) → Value, Proper bs i X ∧ relOb P ops Inv T F bs i o av (fun vf v => v = X vf) ∧ relWalk l (i + 1) (fun vf => (av vf).put o.dst (X vf))) ∨
      (relOb P ops Inv T F bs i o av (fun _ _ => True) ∧ relWalk l (i + 1) (fun vf => (av vf).put o.dst (vf i)))
end
section
variable {P : Program} {ops : Array Oper} {Inv : (Nat → Bool) → World → Prop} {T : Nat → (Nat → Value) → World → World → Prop} {F : Nat → (Nat → Bool) → (Nat → Value) → World → Prop} {bs : List (List Nat)} {Q : Act → World → Prop} {n : Nat} {o : Oper} {l : List Oper} {i : Nat} {av : (Nat → Value) → Act}
/-- an operation whose value is told. -/
theorem rel_ex (h : ∀ K : ((Nat → Value) → Act) → Prop, (∀ a', relWalk P ops Inv T F bs Q n l (i + 1) a' → K a') → ∃ X : (Nat → Value) → Value, relOb P ops Inv T F bs i o av (fun vf v => v = X vf) ∧ Proper bs i X ∧ K (fun vf => (av vf).put o.dst (X vf))) : relWalk P ops Inv T F bs Q n (o :: l) i av := by
  obtain ⟨X, h1, h2, h3⟩ := h _ (fun _ h => h)
  exact .inl ⟨X, h2, h1, h3⟩
/-- an operation whose value meets a fact. -/
theorem rel_pr (h : ∀ K : ((Nat → Value) → Act) → Prop, (∀ a', relWalk P ops Inv T F bs Q n l (i + 1) a' → K a') → relOb P ops Inv T F bs i o av (fun _ _ => True) ∧ K (fun vf => (av vf).put o.dst (vf i))) : relWalk P ops Inv T F bs Q n (o :: l) i av := by
  exact .inr (h _ (fun _ h => h))
end
theorem lexAct_congr {f g : Nat → Value} : ∀ (l : List Oper) (i : Nat) (a : Act), (∀ k, i ≤ k → f k = g k) → lexAct f l i a = lexAct g l i a
  | [], _, _, _ => rfl
  | o :: l, i, a, h => by
    simp only [lexAct]
    rw [h i (Nat.le_refl _)]
    exact lexAct_congr l (i + 1) _ (fun k hk => h k (by omega))
def exOf (X : Option ((Nat → Value) → Value)) (vf : Nat → Value) (v : Value) : Prop := ∀ Y, X = some Y → v = Y vf
section
variable {P : Program} {ops : Array Oper} {Inv : (Nat → Bool) → World → Prop} {T : Nat → (Nat → Value) → World → World → Prop} {F : Nat → (Nat → Bool) → (Nat → Value) → World → Prop} {bs : List (List Nat)} {Q : Act → World → Prop} {n : Nat}
theorem rel_ext : ∀ (l : List Oper) (i : Nat) (av : (Nat → Value) → Act), relWalk P ops Inv T F bs Q n l i av → ∃ Xs : Nat → Option ((Nat → Value) → Value),
    (∀ k X, Xs k = some X → Proper bs k X) ∧ (∀ j o, l[j]? = some o → relOb P ops Inv T F bs (i + j) o (fun vf => lexAct (valsOf Xs vf) (l.take j) i (av vf)) (exOf (Xs (i + j)))) ∧
    (∀ (done : Nat → Bool) (vf : Nat → Value) (w : World), (∀ k, k < n → done k = true) → Inv done w → (∀ k, k < n → F k done vf w) → Q (lexAct (valsOf Xs vf) l i (av vf)) w)
  | [], i, av, h => ⟨fun _ => none, (fun _ _ h => by cases h), (fun j o hj => by simp at hj), h⟩
  | o :: l, i, av, h => by
    have main : ∀ (X0 : Option ((Nat → Value) → Value)), (∀ X, X0 = some X → Proper bs i X) → relOb P ops Inv T F bs i o av (exOf X0) →
        (∃ Xs : Nat → Option ((Nat → Value) → Value), (∀ k X, Xs k = some X → Proper bs k X) ∧ (∀ j o', l[j]? = some o' → relOb P ops Inv T F bs (i + 1 + j) o' (fun vf => lexAct (valsOf Xs vf) (l.take j) (i + 1) ((av vf).put o.dst (valOr X0 vf i))) (exOf (Xs (i + 1 + j)))) ∧
          (∀ (done : Nat → Bool) (vf : Nat → Value) (w : World), (∀ k, k < n → done k = true) → Inv done w → (∀ k, k < n → F k done vf w) → Q (lexAct (valsOf Xs vf) l (i + 1) ((av vf).put o.dst (valOr X0 vf i))) w)) →
        ∃ Xs : Nat → Option ((Nat → Value) → Value), (∀ k X, Xs k = some X → Proper bs k X) ∧ (∀ j o', (o :: l)[j]? = some o' → relOb P ops Inv T F bs (i + j) o' (fun vf => lexAct (valsOf Xs vf) ((o :: l).take j) i (av vf)) (exOf (Xs (i + j)))) ∧
          (∀ (done : Nat → Bool) (vf : Nat → Value) (w : World), (∀ k, k < n → done k = true) → Inv done w → (∀ k, k < n → F k done vf w) → Q (lexAct (valsOf Xs vf) (o :: l) i (av vf)) w) := by
      rintro X0 hp0 hob ⟨Xs, hp, hobs, hend⟩
      let Ys : Nat → Option ((Nat → Value) → Value) := fun k => if k = i then X0 else Xs k
      have yi : Ys i = X0 := if_pos rfl
      have yk : ∀ k, i + 1 ≤ k → Ys k = Xs k := fun k hk => if_neg (by omega)
      have hv : ∀ vf, valsOf Ys vf i = (valOr X0 vf i) := fun vf => by unfold valsOf; rw [yi]
      have hc : ∀ (m : List Oper) (vf : Nat → Value) (a : Act), lexAct (valsOf Ys vf) m (i + 1) a = lexAct (valsOf Xs vf) m (i + 1) a := fun m vf a => lexAct_congr m (i + 1) a fun k hk => by unfold valsOf; rw [yk k hk]
      refine ⟨Ys, fun k X hk => ?_, fun j o' hj => ?_, fun done vf w hd hI hF => ?_⟩
      · by_cases e : k = i
        · subst e; rw [yi] at hk; exact hp0 X hk
        · have : Ys k = Xs k := if_neg e
          rw [this] at hk; exact hp k X hk
      · cases j with
        | zero =>
          simp only [List.getElem?_cons_zero, Option.some.injEq] at hj
          subst hj
          rw [Nat.add_zero, yi]
          exact hob
        | succ j =>
          have := hobs j o' (by simpa using hj)
          rw [show i + (j + 1) = i + 1 + j by omega, yk _ (by omega)]
          refine (congrArg (fun a => relOb P ops Inv T F bs (i + 1 + j) o' a (exOf (Xs (i + 1 + j)))) ?_).mp this
          funext vf
          simp only [List.take_succ_cons, lexAct, hv]
          exact (hc _ _ _).symm
      · simp only [lexAct, hv]
        rw [hc]
        exact hend done vf w hd hI hF
    rcases h with ⟨X, hp, hob, hw⟩ | ⟨hob, hw⟩
    · exact main (some X) (fun Y e => by injection e with e; subst e; exact hp) (fun done vf w h1 h2 h3 h4 h5 R hR => hob done vf w h1 h2 h3 h4 h5 R fun v w' a b c d => hR v w' a b (fun Y e => by injection e with e; subst e; exact c) d) (rel_ext l (i + 1) _ hw)
    · exact main none (fun Y e => by cases e) (fun done vf w h1 h2 h3 h4 h5 R hR => hob done vf w h1 h2 h3 h4 h5 R fun v w' a b _ d => hR v w' a b (fun Y e => by cases e) d) (rel_ext l (i + 1) _ hw)
end

/-- What holds when the operations that are listed have been done. -/
structure RelInv (l : List Oper) (Xs : Nat → Option ((Nat → Value) → Value)) (Inv : (Nat → Bool) → World → Prop) (F : Nat → (Nat → Bool) → (Nat → Value) → World → Prop) (a : Act) (vf : Nat → Value) (listed : Array Bool) (a' : Act) (w' : World) : Prop where
  cls : Inv (fun k => listed[k]? == some true) w'
  down : ∀ (j : Nat) (o : Oper), l[j]? = some o → listed[j]? = some true → ∀ e ∈ o.after, listed[e.on]? = some true
  lsize : listed.size = l.length
  defers : a'.defers = a.defers
  size : a'.tmps.size = a.tmps.size
  vals : ∀ j, listed[j]? = some true → vf j = valsOf Xs vf j
  facts : ∀ j, listed[j]? = some true → F j (fun k => listed[k]? == some true) vf w'
  slots : ∀ (j : Nat) (o : Oper), l[j]? = some o → listed[j]? = some true → ∀ d, o.dst = some d → a'.tmps[d]? = some (vf j)
  rest : ∀ t, (∀ (j : Nat) (o : Oper), l[j]? = some o → listed[j]? = some true → o.dst ≠ some t) → a'.tmps[t]? = a.tmps[t]?

section
variable {P : Program} {l : List Oper} {Inv : (Nat → Bool) → World → Prop} {T : Nat → (Nat → Value) → World → World → Prop} {F : Nat → (Nat → Bool) → (Nat → Value) → World → Prop} {Q : Exit → Act → World → Prop} {a : Act}
theorem wpAny_rel (hB : monoB2 l a.tmps.size = true) (hpr : ∀ o ∈ l, prune o = o)
    (hst : ∀ (i : Nat) (done : Nat → Bool) (vf : Nat → Value) (w w' : World), Inv done w → done i = false → (∀ m ∈ (befores l []).getD i [], done m = true) → (∀ m, done m = true → F m done vf w) → T i vf w w' → ∀ k, done k = true → F k (updDone done i) vf w')
    (hF : ∀ (k : Nat) (done : Nat → Bool) (f g : Nat → Value) (w : World), (∀ m ∈ (befores l []).getD k [], f m = g m) → f k = g k → F k done f w → F k done g w)
    (h : relWalk P l.toArray Inv T F (befores l []) (Q .normal) l.length l 0 (fun _ => a)) :
    ∃ Xs, ∀ (fuel : Nat) (listed : Array Bool) (vf : Nat → Value) (a' : Act) (w' : World), (undone listed l.length).length ≤ fuel → RelInv l Xs Inv F a vf listed a' w' → wpAny P .any l.toArray Q fuel listed a' w' := by
  obtain ⟨Xs, hpX, hobs, hend⟩ := rel_ext l 0 _ h
  refine ⟨Xs, ?_⟩
  have hS := fun {i : Nat} {o : Oper} (hi : l[i]? = some o) => monoB2_spec hB hi
  have fin : ∀ (listed : Array Bool) (vf : Nat → Value) (a' : Act) (w' : World), (∀ j, j < l.length → listed[j]? = some true) → RelInv l Xs Inv F a vf listed a' w' → Q .normal a' w' := by
    intro listed vf a' w' hall hI
    have hq := hend _ vf w' (fun k hk => by simp [hall k hk]) hI.cls (fun k hk => hI.facts k (hall k hk))
    have ea : a' = lexAct (valsOf Xs vf) l 0 a := by
      obtain ⟨hz, hd⟩ := lexAct_size (valsOf Xs vf) l 0 a
      have ht : a'.tmps = (lexAct (valsOf Xs vf) l 0 a).tmps := by
        apply Array.ext_getElem?
        intro t
        by_cases hex : ∃ (j : Nat) (o : Oper), l[j]? = some o ∧ o.dst = some t
        · obtain ⟨j, o, hj, hdt⟩ := hex
          have hjl := (List.getElem?_eq_some_iff.1 hj).1
          obtain ⟨hlt, huniq⟩ := (hS hj).2.2.2 t hdt
          rw [lexAct_same _ l 0 a j o hj hdt huniq hlt, Nat.zero_add, ← hI.vals j (hall j hjl)]
          exact hI.slots j o hj (hall j hjl) t hdt
        · have hn : ∀ (j : Nat) (o : Oper), l[j]? = some o → o.dst ≠ some t := fun j o hj e => hex ⟨j, o, hj, e⟩
          rw [lexAct_other _ l 0 a (fun o ho => by obtain ⟨j, hj⟩ := List.getElem?_of_mem ho; exact hn j o hj)]
          exact hI.rest t (fun j o hj _ => hn j o hj)
      cases a'; cases hx : lexAct (valsOf Xs vf) l 0 a
      rw [hx] at ht hd
      have := hI.defers
      simp_all
    rw [ea]; exact hq
  have allIf : ∀ (listed : Array Bool), listed.size = l.length → Region.ready .any l.toArray listed = [] → ∀ j, j < l.length → listed[j]? = some true := by
    intro listed hsz hr j
    induction j using Nat.strongRecOn with
    | ind j ih =>
      intro hj
      have hsome : listed[j]? = some listed[j] := Array.getElem?_eq_getElem (by omega)
      cases hb : listed[j] with
      | true => rw [hsome, hb]
      | false =>
        have : j ∈ Region.ready .any l.toArray listed := by
          rw [mem_ready]
          refine ⟨by simp [Array.getD_eq_getD_getElem?, hsome, hb], l[j], by simp [hj], fun e he _ => ?_⟩
          have h1 := ((hS (List.getElem?_eq_getElem hj)).2.1 e he).1
          have h2 := ih e.on h1 (by omega)
          simp [Array.getD_eq_getD_getElem?, h2]
        rw [hr] at this
        cases this
  intro fuel
  induction fuel with
  | zero =>
    intro listed vf a' w' hf hI
    have hall : ∀ j, j < l.length → listed[j]? = some true := by
      intro j hj
      have h0 : undone listed l.length = [] := List.eq_nil_of_length_eq_zero (by omega)
      unfold undone at h0
      rw [List.filter_eq_nil_iff] at h0
      simpa using h0 j (List.mem_range.2 hj)
    refine ⟨?_, fin _ _ _ _ hall hI⟩
    rw [List.eq_nil_iff_forall_not_mem]
    intro j hj
    obtain ⟨h0, o, ho, _⟩ := mem_ready.1 hj
    have hj' : j < l.length := by
      have := (Array.getElem?_eq_some_iff.1 ho).1
      simpa using this
    simp [Array.getD_eq_getD_getElem?, hall j hj'] at h0
  | succ fuel ih =>
    intro listed vf a' w' hf hI
    refine ⟨fun hr => fin _ _ _ _ (allIf listed hI.lsize hr) hI, fun i hi => ?_⟩
    obtain ⟨h0, o, ho, hdep⟩ := mem_ready.1 hi
    have hil : l[i]? = some o := by simpa using ho
    have hilt : i < l.length := (List.getElem?_eq_some_iff.1 hil).1
    have hnl : listed[i]? ≠ some true := fun e => by simp [Array.getD_eq_getD_getElem?, e] at h0
    obtain ⟨hsel, hafter, hlooks, hdst⟩ := hS hil
    have hdone : ∀ e ∈ o.after, listed[e.on]? = some true := fun e he => by
      have := hdep e he (hafter e he).2
      rw [Array.getD_eq_getD_getElem?] at this
      cases hx : listed[e.on]? with
      | none => simp [hx] at this
      | some b => simp [hx] at this; rw [this]
    have hob := hobs i o hil
    rw [Nat.zero_add] at hob
    have hclosed : ∀ k m : Nat, m ∈ (befores l []).getD k [] → listed[k]? = some true → listed[m]? = some true := fun k m hk hlk =>
      befores_spec l [] (fun k i => listed[k]? = some true → listed[i]? = some true) (fun k i h => by simp at h) (fun j o' e hj he hlj => by
        simp at hlj; exact hI.down j o' hj hlj e he) (fun a b c h1 h2 h3 => h2 (h1 h3)) k m hk hlk
    have hsame : ∀ t ∈ o.looksAt l.toArray, (lexAct (valsOf Xs vf) (l.take i) 0 a).tmps[t]? = a'.tmps[t]? := by
      intro t ht
      by_cases hex : ∃ (j : Nat) (o' : Oper), l[j]? = some o' ∧ o'.dst = some t
      · obtain ⟨j, o', hj, hdt⟩ := hex
        rcases hlooks t ht j o' hj hdt with ⟨hji, e, he, hej⟩ | hbef
        rotate_left
        · have hij : i < j := befores_spec l [] (fun k i => i < k) (fun k i h => by simp at h) (fun j o' e hj he => by
            have := ((hS (show l[j]? = some o' from hj)).2.1 e he).1; simpa using this) (fun a b c h1 h2 => Nat.lt_trans h2 h1) j i hbef
          have hnj : listed[j]? ≠ some true := fun hlj => hnl (hclosed j i hbef hlj)
          obtain ⟨_, huniq⟩ := (hS hj).2.2.2 t hdt
          rw [lexAct_other _ (l.take i) 0 a (fun o'' ho'' => by
            obtain ⟨k, hk⟩ := List.getElem?_of_mem ho''
            have hki : k < i := by have := (List.getElem?_eq_some_iff.1 hk).1; simp at this; omega
            rw [List.getElem?_take_of_lt hki] at hk
            exact huniq k o'' hk (by omega))]
          refine (hI.rest t fun k o'' hk hlk => ?_).symm
          by_cases hkj : k = j
          · subst hkj; exact absurd hlk hnj
          · exact huniq k o'' hk hkj
        have hlj : listed[j]? = some true := hej ▸ hdone e he
        obtain ⟨hlt, huniq⟩ := (hS hj).2.2.2 t hdt
        rw [lexAct_same _ (l.take i) 0 a j o' (by rw [List.getElem?_take_of_lt hji]; exact hj) hdt (fun j' o'' hj' hne => huniq j' o'' (by
          have hlt' : j' < i := by
            have := (List.getElem?_eq_some_iff.1 hj').1
            simp at this; omega
          rw [List.getElem?_take_of_lt hlt'] at hj'; exact hj') hne) hlt, Nat.zero_add, ← hI.vals j hlj]
        exact (hI.slots j o' hj hlj t hdt).symm
      · have hn : ∀ (j : Nat) (o : Oper), l[j]? = some o → o.dst ≠ some t := fun j o hj e => hex ⟨j, o, hj, e⟩
        rw [lexAct_other _ (l.take i) 0 a (fun o' ho' => by obtain ⟨j, hj⟩ := List.getElem?_of_mem (List.mem_of_mem_take ho'); exact hn j o' hj)]
        exact (hI.rest t (fun j o hj _ => hn j o hj)).symm
    have hexec : execOp (lexAct (valsOf Xs vf) (l.take i) 0 a).eval o = execOp a'.eval o := by
      refine execOp_congr o hsel fun x hx => ?_
      cases x with
      | tmp t =>
        have := hsame t (List.mem_append_left _ (List.mem_filterMap.2 ⟨.tmp t, by simpa using hx, rfl⟩))
        simp [Act.eval, Array.getD_eq_getD_getElem?, this]
      | _ => rfl
    have hwant : Region.wanted o (yielded l.toArray (lexAct (valsOf Xs vf) (l.take i) 0 a).tmps) = Region.wanted o (yielded l.toArray a'.tmps) := by
      unfold Region.wanted
      cases hg : o.guard with
      | none => rfl
      | some gw =>
        obtain ⟨g, want⟩ := gw
        have hy : yielded l.toArray (lexAct (valsOf Xs vf) (l.take i) 0 a).tmps g = yielded l.toArray a'.tmps g := by
          unfold yielded
          cases ht : (l.toArray[g]?).bind (·.dst) with
          | none => rfl
          | some t =>
            have := hsame t (by simp only [Oper.looksAt, hg, ht]; simp)
            simp only [Option.bind_some, this]
        simp only [hy]
    have hnot : ∀ k : Nat, i ∈ (befores l []).getD k [] → ((fun k => listed[k]? == some true) k) = false := by
      intro k hk
      cases hx : (listed[k]? == some true) with
      | false => exact hx
      | true => exact absurd (hclosed k i hk (by simpa using hx)) hnl
    have hbi : ∀ m ∈ (befores l []).getD i [], listed[m]? = some true := fun m hm => by
      have hmi : m < i := befores_spec l [] (fun k i => i < k) (fun k i h => by simp at h) (fun j o' e hj he => by
          have := ((hS (show l[j]? = some o' from hj)).2.1 e he).1; simpa using this) (fun a b c h1 h2 => Nat.lt_trans h2 h1) i m hm
      have key := befores_spec l [] (fun k m => (k = i ∨ listed[k]? = some true) → (m = i ∨ listed[m]? = some true)) (fun k m h => by simp at h) (fun j o' e hj he hlj => by
        rw [List.length_nil, Nat.zero_add] at hlj
        rcases hlj with rfl | hlj
        · rw [hil] at hj
          obtain rfl : o = o' := by simpa using hj
          exact .inr (hdone e he)
        · exact .inr (hI.down j o' hj hlj e he)) (fun a b c h1 h2 h3 => h2 (h1 h3)) i m hm (.inl rfl)
      rcases key with h | h
      · omega
      · exact h
    have hres := hob _ vf w' hI.cls (by simpa using hnl) (fun k hk => by
      rw [hpr o (List.mem_of_getElem? hil)] at hk
      obtain ⟨e, he, rfl⟩ := List.mem_map.1 hk
      simp [hdone e (by simpa using he)]) hnot (fun k hk => hI.facts k (by simpa using hk))
      (fun v w'' => Inv (updDone (fun k => listed[k]? == some true) i) w'' ∧ T i vf w' w'' ∧ exOf (Xs i) vf v ∧ F i (updDone (fun k => listed[k]? == some true) i) (updVal vf i v) w'') (fun v w'' h0 h1 h2 h3 => ⟨h0, h1, h2, h3⟩)
    rw [hwant] at hres
    have next : ∀ v w'', Inv (updDone (fun k => listed[k]? == some true) i) w'' → T i vf w' w'' → exOf (Xs i) vf v → F i (updDone (fun k => listed[k]? == some true) i) (updVal vf i v) w'' → wpAny P .any l.toArray Q fuel (listed.setIfInBounds i true) (a'.put o.dst v) w'' := by
      intro v w'' hIv hT hE hFv
      have hu := undone_set hilt (by rw [hI.lsize]; exact Nat.le_refl _) hnl
      have hset : ∀ j, (listed.setIfInBounds i true)[j]? = some true → j = i ∨ (j ≠ i ∧ listed[j]? = some true) := fun j hj => by
        by_cases e : j = i
        · exact .inl e
        · rw [Array.getElem?_setIfInBounds_ne (Ne.symm e)] at hj
          exact .inr ⟨e, hj⟩
      have hagree : ∀ j, listed[j]? = some true → ∀ m ∈ (befores l []).getD j [], vf m = updVal vf i v m := fun j hj m hm => by
        have hm' := hclosed j m hm hj
        unfold updVal
        rw [if_neg (fun e : m = i => hnl (e ▸ hm'))]
      have hagreei : ∀ m ∈ (befores l []).getD i [], vf m = updVal vf i v m := fun m hm => by
        have hmi : m < i := befores_spec l [] (fun k i => i < k) (fun k i h => by simp at h) (fun j o' e hj he => by
            have := ((hS (show l[j]? = some o' from hj)).2.1 e he).1; simpa using this) (fun a b c h1 h2 => Nat.lt_trans h2 h1) i m hm
        unfold updVal
        rw [if_neg (by omega)]
      have hfun : updDone (fun k => listed[k]? == some true) i = fun k => (listed.setIfInBounds i true)[k]? == some true := by
        funext k
        unfold updDone
        by_cases e : k = i
        · subst e; rw [if_pos rfl, Array.getElem?_setIfInBounds_self_of_lt (by rw [hI.lsize]; exact hilt)]; simp
        · rw [if_neg e, Array.getElem?_setIfInBounds_ne (Ne.symm e)]
      refine ih _ (updVal vf i v) _ _ (by omega) ⟨?_, ?_, by simp [hI.lsize], ?_, ?_, ?_, ?_, ?_, ?_⟩
      · rw [← hfun]; exact hIv
      · intro j o' hj hlj e he
        by_cases hje : j = i
        · subst hje
          rw [hil] at hj
          obtain rfl : o = o' := by simpa using hj
          have := hdone e he
          by_cases hei : e.on = j
          · rw [hei, Array.getElem?_setIfInBounds_self_of_lt (by rw [hI.lsize]; exact hilt)]
          · rw [Array.getElem?_setIfInBounds_ne (Ne.symm hei)]; exact this
        · rw [Array.getElem?_setIfInBounds_ne (Ne.symm hje)] at hlj
          have := hI.down j o' hj hlj e he
          by_cases hei : e.on = i
          · rw [hei, Array.getElem?_setIfInBounds_self_of_lt (by rw [hI.lsize]; exact hilt)]
          · rw [Array.getElem?_setIfInBounds_ne (Ne.symm hei)]; exact this
      · rw [← hI.defers]; cases o.dst <;> rfl
      · rw [← hI.size]; cases o.dst <;> simp [Act.put]
      · intro j hj
        rcases hset j hj with rfl | ⟨hne, hj'⟩
        · have e1 : updVal vf j v j = v := if_pos rfl
          rw [e1]
          unfold valsOf
          cases hx : Xs j with
          | none => exact e1.symm
          | some X => exact (hE X hx).trans (hpX j X hx _ _ hagreei)
        · have e1 : updVal vf i v j = vf j := if_neg hne
          rw [e1, hI.vals j hj']
          unfold valsOf
          cases hx : Xs j with
          | none => exact e1.symm
          | some X => exact hpX j X hx _ _ (hagree j hj')
      · intro j hj
        rw [← hfun]
        rcases hset j hj with rfl | ⟨hne, hj'⟩
        · exact hFv
        · refine hF j _ vf _ w'' (hagree j hj') (by unfold updVal; rw [if_neg hne]) ?_
          exact hst i _ vf w' w'' hI.cls (by simpa using hnl) (fun m hm => by simpa using hbi m hm) (fun m hm => hI.facts m (by simpa using hm)) hT j (by simpa using hj')
      · intro j o' hj hlj d hd
        rcases hset j hlj with rfl | ⟨hne, hj'⟩
        · rw [hil] at hj
          obtain rfl : o = o' := by simpa using hj
          rw [hd, put_get_same (by rw [hI.size]; exact (hdst d hd).1)]
          unfold updVal; rw [if_pos rfl]
        · rw [put_get_other (fun e' => (hdst d e').2 j o' hj hne hd)]
          unfold updVal; rw [if_neg hne]
          exact hI.slots j o' hj hj' d hd
      · intro t ht
        have hti : o.dst ≠ some t := ht i o hil (by rw [Array.getElem?_setIfInBounds_self_of_lt (by rw [hI.lsize]; exact hilt)])
        rw [put_get_other hti]
        refine hI.rest t fun j o' hj hlj => ?_
        by_cases e : j = i
        · subst e; exact absurd hlj hnl
        · exact ht j o' hj (by rw [Array.getElem?_setIfInBounds_ne (Ne.symm e)]; exact hlj)
    unfold wpOp
    rw [ho]
    by_cases hw : Region.wanted o (yielded l.toArray a'.tmps) = true
    · simp only [hw, if_true] at hres ⊢
      refine .inl (wp_of_gives (R := fun v w'' => Inv (updDone (fun k => listed[k]? == some true) i) w'' ∧ T i vf w' w'' ∧ exOf (Xs i) vf v ∧ F i (updDone (fun k => listed[k]? == some true) i) (updVal vf i v) w'') ?_ fun v w'' ⟨h0, h1, h2, h3⟩ => next v w'' h0 h1 h2 h3)
      unfold gives at hres ⊢
      rw [← hexec]; exact hres
    · simp only [hw] at hres ⊢
      exact next _ _ hres.1 hres.2.1 hres.2.2.1 hres.2.2.2
end
theorem prune_prune (o : Oper) : prune (prune o) = prune o := by
  unfold prune
  simp only [Array.filter_filter, Bool.and_self]
theorem rel_prune {P : Program} {Inv : (Nat → Bool) → World → Prop} {T : Nat → (Nat → Value) → World → World → Prop} {F : Nat → (Nat → Bool) → (Nat → Value) → World → Prop} {bs : List (List Nat)} {Q : Act → World → Prop} {n : Nat} {ops' : List Oper} :
    ∀ (l : List Oper) (i : Nat) (av : (Nat → Value) → Act), relWalk P ops'.toArray Inv T F bs Q n l i av → relWalk P (ops'.map prune).toArray Inv T F bs Q n (l.map prune) i av
  | [], _, _, h => h
  | o :: l, i, av, h => by
    have one : ∀ E, relOb P ops'.toArray Inv T F bs i o av E → relOb P (ops'.map prune).toArray Inv T F bs i (prune o) av E := fun E h1 done vf w a b c d e R hR => by
      rw [prune_prune] at c
      have := h1 done vf w a b c d e R hR
      rw [← yielded_prune] at this
      exact this
    rcases h with ⟨X, hp, h1, h2⟩ | ⟨h1, h2⟩
    · exact .inl ⟨X, hp, one _ h1, rel_prune l (i + 1) _ h2⟩
    · exact .inr ⟨one _ h1, rel_prune l (i + 1) _ h2⟩
/-- THE LAW. -/
theorem wp_region_rel {P : Program} {l : List Oper} {Q : Exit → Act → World → Prop} {a : Act} {id : Nat} {w : World} (Inv : (Nat → Bool) → World → Prop) (T : Nat → (Nat → Value) → World → World → Prop) (F : Nat → (Nat → Bool) → (Nat → Value) → World → Prop)
    (hm : P.follows .mixedOrders = true) (hB : monoB2 (l.map prune) a.tmps.size = true) (bs : List (List Nat)) (hbs : befores (l.map prune) [] = bs)
    (hst : ∀ (i : Nat) (done : Nat → Bool) (vf : Nat → Value) (w w' : World), Inv done w → done i = false → (∀ m ∈ bs.getD i [], done m = true) → (∀ m, done m = true → F m done vf w) → T i vf w w' → ∀ k, done k = true → F k (updDone done i) vf w')
    (hF : ∀ (k : Nat) (done : Nat → Bool) (f g : Nat → Value) (w : World), (∀ m ∈ bs.getD k [], f m = g m) → f k = g k → F k done f w → F k done g w)
    (hC : Inv (fun _ => false) w.drew) (h : relWalk P l.toArray Inv T F bs (Q .normal) l.length l 0 (fun _ => a)) : (Code.region id l.toArray true).wp P Q a w := by
  subst hbs
  have h' := rel_prune (ops' := l) l 0 _ h
  rw [show l.length = (l.map prune).length by simp] at h'
  obtain ⟨Xs, hX⟩ := wpAny_rel hB (fun o ho => by obtain ⟨o', _, rfl⟩ := List.mem_map.1 ho; exact prune_prune o') hst hF h'
  refine wp_region_any hm (wpAny_prune _ _ _ _ (hX _ _ (fun _ => undef) _ _ ?_ ⟨?_, ?_, by simp, rfl, rfl, ?_, ?_, ?_, fun _ _ => rfl⟩))
  · have := List.length_filter_le (fun i => (Array.replicate l.toArray.size false)[i]? != some true) (List.range (l.map prune).length)
    simpa [undone] using this
  · refine (congrArg (fun d => Inv d _) ?_).mp hC
    funext k
    rw [Array.getElem?_replicate]
    split <;> simp
  · intro j o hj hl
    rw [Array.getElem?_replicate] at hl
    split at hl <;> simp at hl
  · intro j hl
    rw [Array.getElem?_replicate] at hl
    split at hl <;> simp at hl
  · intro j hl
    rw [Array.getElem?_replicate] at hl
    split at hl <;> simp at hl
  · intro j o hj hl
    rw [Array.getElem?_replicate] at hl
    split at hl <;> simp at hl
end Go.Proofs.YtioeliocdbckbaaGreatDoor
namespace Go.Proofs.YtioeliocdbckbaaGreatDoor
open Go.RowKit

/-- Rows of a list: each its sz cells. -/
structure RowsOf {α : Type} (sz : Nat) (R : α → List Value → Prop) (xs : List α) (rows : List (List Value)) : Prop where
  len : rows.length = xs.length
  size : ∀ r ∈ rows, r.length = sz
  rel : ∀ (i : Nat) (x : α) (r : List Value), xs[i]? = some x → rows[i]? = some r → R x r
theorem RowsOf.nil {α : Type} {sz : Nat} {R : α → List Value → Prop} : RowsOf sz R ([] : List α) [] := ⟨rfl, (fun _ h => by cases h), (fun i x r h => by simp at h)⟩
theorem RowsOf.app {α : Type} {sz : Nat} {R : α → List Value → Prop} {xs ys : List α} {r s : List (List Value)} (h : RowsOf sz R xs r) (k : RowsOf sz R ys s) : RowsOf sz R (xs ++ ys) (r ++ s) := by
  refine ⟨by simp [h.len, k.len], fun t ht => ?_, fun i x t hx ht => ?_⟩
  · rcases List.mem_append.1 ht with ht | ht
    · exact h.size t ht
    · exact k.size t ht
  · rw [List.getElem?_append] at hx ht
    rw [h.len] at ht
    split at hx
    · rename_i hl; rw [if_pos hl] at ht; exact h.rel i x t hx ht
    · rename_i hl; rw [if_neg hl] at ht; exact k.rel _ x t hx ht
theorem RowsOf.mono {α : Type} {sz : Nat} {R R' : α → List Value → Prop} {xs : List α} {r : List (List Value)} (h : RowsOf sz R xs r) (hR : ∀ x ∈ xs, ∀ cs, R x cs → R' x cs) : RowsOf sz R' xs r :=
  ⟨h.len, h.size, fun i x t hx ht => hR x (List.mem_of_getElem? hx) t (h.rel i x t hx ht)⟩
theorem flat_len {sz : Nat} : ∀ (rows : List (List Value)), (∀ r ∈ rows, r.length = sz) → rows.flatten.length = rows.length * sz
  | [], _ => by simp
  | r :: rows, h => by
    rw [List.flatten_cons, List.length_append, flat_len rows (fun r hr => h r (List.mem_cons_of_mem _ hr)), h r (List.mem_cons_self ..), List.length_cons, Nat.add_mul]; omega
theorem flat_get {sz : Nat} : ∀ (rows : List (List Value)) (i : Nat) (r : List Value), (∀ r ∈ rows, r.length = sz) → rows[i]? = some r → ∀ j, j < sz → rows.flatten[i * sz + j]? = r[j]?
  | [], _, _, _, h => by simp at h
  | r0 :: rows, i, r, hs, h => fun j hj => by
    have h0 := hs r0 (List.mem_cons_self ..)
    cases i with
    | zero =>
      simp at h; subst h
      rw [List.flatten_cons, List.getElem?_append_left (by omega)]; simp
    | succ i =>
      have e : (i + 1) * sz + j = r0.length + (i * sz + j) := by rw [h0, Nat.add_mul]; omega
      rw [List.flatten_cons, e, List.getElem?_append_right (by omega), Nat.add_sub_cancel_left]
      exact flat_get rows i r (fun r hr => hs r (List.mem_cons_of_mem _ hr)) (by simpa using h) j hj

/-- The rows of what a slice reads as, and where they lie. -/
theorem Sl.rows {α : Type} {w : World} {D : Nat → Prop} {sz : Nat} {R : α → List Value → Prop} {v : Value} {xs : List α} (h : Sl w D sz R v xs) :
    ∃ (a : Option Addr) (c : Nat) (rows : List (List Value)), v = .slice a xs.length c ∧ RowsOf sz R xs rows ∧ c ≤ maxLen ∧ (a = none → c = 0 ∧ xs = []) ∧ ∀ ad, a = some ad → ∀ j u, rows.flatten[j]? = some u → w.cell? (ad.add j) = some u := by
  obtain ⟨a, c, hv, hl, hm, hn, h⟩ := h
  by_cases h0 : 0 < xs.length
  · obtain ⟨b, o, ha, hDb, hb, hc⟩ := h h0
    have hex : ∀ (n : Nat), n ≤ xs.length → ∃ rows : List (List Value), RowsOf sz R (xs.take n) rows ∧ ∀ j u, rows.flatten[j]? = some u → w.cell? ⟨b, o + j, none⟩ = some u := by
      intro n
      induction n with
      | zero => intro _; exact ⟨[], by simpa using RowsOf.nil, fun j u hu => by simp at hu⟩
      | succ n ih =>
        intro hn'
        obtain ⟨rows, hr, hcell⟩ := ih (by omega)
        have hlt : n < xs.length := by omega
        obtain ⟨cs, hcs, hR, hcc⟩ := hc n xs[n] (List.getElem?_eq_getElem hlt)
        refine ⟨rows ++ [cs], ?_, fun j u hu => ?_⟩
        · rw [List.take_succ_eq_append_getElem hlt]
          exact hr.app ⟨rfl, fun r hr => by simp at hr; rw [hr]; exact hcs, fun i x r hx hr => by
            cases i with
            | zero => simp at hx hr; subst hx hr; exact hR
            | succ i => simp at hx⟩
        · rw [List.flatten_append, List.flatten_singleton, List.getElem?_append] at hu
          have hfl : rows.flatten.length = n * sz := by rw [flat_len rows hr.size, hr.len, List.length_take, Nat.min_eq_left (by omega)]
          split at hu
          · exact hcell j u hu
          · rename_i hge
            have := hcc _ u hu
            rw [hfl] at this
            rwa [show o + (n * sz + (j - n * sz)) = o + j by omega] at this
    obtain ⟨rows, hr, hcell⟩ := hex xs.length (Nat.le_refl _)
    rw [List.take_length] at hr
    refine ⟨a, c, rows, hv, hr, hm, (fun e => by rw [e] at ha; cases ha), fun ad had j u hu => ?_⟩
    rw [ha] at had
    injection had with had
    subst had
    have : ((⟨b, o, none⟩ : Addr).add j) = ⟨b, o + j, none⟩ := by unfold Addr.add; split <;> simp_all
    rw [this]; exact hcell j u hu
  · have hx : xs = [] := List.length_eq_zero_iff.1 (by omega)
    subst hx
    exact ⟨a, c, [], hv, RowsOf.nil, hm, (fun e => ⟨hn e, rfl⟩), (fun ad _ j u hu => by simp at hu)⟩

/-- A slice value with a row of the call's own, from block base on, that reads as a list. -/
def OwnSl {α : Type} (w : World) (base : Nat) (e : TypeId) (sz : Nat) (R : α → List Value → Prop) (v : Value) (xs : List α) : Prop :=
  ∃ rows, RowsOf sz R xs rows ∧ w.ownsRow base e sz v xs.length rows.flatten
section
variable {α : Type} {w w' : World} {base : Nat} {e : TypeId} {sz : Nat} {R R' : α → List Value → Prop} {v : Value} {xs : List α}
theorem OwnSl.nil : OwnSl w base e sz R (.slice none 0 0) ([] : List α) := ⟨[], RowsOf.nil, by simp, .inl ⟨rfl, rfl⟩⟩
theorem OwnSl.monoR (h : OwnSl w base e sz R v xs) (hR : ∀ x ∈ xs, ∀ cs, R x cs → R' x cs) : OwnSl w base e sz R' v xs := by
  obtain ⟨rows, hr, ho⟩ := h
  exact ⟨rows, hr.mono hR, ho⟩
theorem ownsRow_keep {n : Nat} {cells : List Value} (h : w.ownsRow base e sz v n cells) (hb : ∀ b, base ≤ b → b < w.heap.size → w'.heap[b]? = w.heap[b]?) : w'.ownsRow base e sz v n cells := by
  obtain ⟨h1, h2⟩ := h
  refine ⟨h1, ?_⟩
  rcases h2 with h2 | ⟨g, cap, cur, hv, hg, hh, r⟩
  · exact .inl h2
  · exact .inr ⟨g, cap, cur, hv, hg, by rw [hb g hg (Array.getElem?_eq_some_iff.1 hh).1]; exact hh, r⟩
theorem OwnSl.block (h : OwnSl w base e sz R v xs) : ∀ g, v.ownBlock = some g → base ≤ g := by
  obtain ⟨rows, _, _, h2⟩ := h
  intro g hg
  rcases h2 with ⟨hv, _⟩ | ⟨g', cap, cur, hv, hg', _⟩
  · subst hv; simp [Value.ownBlock] at hg
  · subst hv; simp [Value.ownBlock] at hg; omega
theorem OwnSl.grown {B : Nat} {w0 : World} (h : OwnSl w base e sz R v xs) (hb : Below B w0 w) (hg : w.grownBy w' v.ownBlock) (hB : B ≤ w.heap.size) (hbase : B ≤ base) : Below B w0 w' :=
  hb.grown hg hB fun g hk => Nat.le_trans hbase (h.block g hk)
theorem OwnSl.below (h : OwnSl w base e sz R v xs) (hb : Below w.heap.size w w') : OwnSl w' base e sz R v xs := by
  obtain ⟨rows, hr, ho⟩ := h
  exact ⟨rows, hr, ownsRow_keep ho (fun b _ hlt => hb.block b hlt)⟩
theorem OwnSl.sl {D : Nat → Prop} (h : OwnSl w base e sz R v xs) (hD : ∀ b, base ≤ b → D b) : Sl w D sz R v xs := by
  obtain ⟨rows, hr, ho1, ho2⟩ := h
  rcases ho2 with ⟨hv, hn⟩ | ⟨g, cap, cur, hv, hg, hh, hnc, hcm, hcs, htk⟩
  · have hx : xs = [] := List.length_eq_zero_iff.1 hn
    subst hx
    exact ⟨none, 0, hv, by simp, by unfold maxLen; omega, fun _ => rfl, fun h => absurd h (by simp)⟩
  · refine ⟨some ⟨g, 0, none⟩, cap, hv, hnc, hcm, (fun h => by cases h), fun h0 => ⟨g, 0, rfl, hD g hg, (Array.getElem?_eq_some_iff.1 hh).1, fun i x hx => ?_⟩⟩
    have hi : i < rows.length := by rw [hr.len]; exact (List.getElem?_eq_some_iff.1 hx).1
    have hri : rows[i]? = some rows[i] := List.getElem?_eq_getElem hi
    have hsz := hr.size _ (List.getElem_mem hi)
    refine ⟨rows[i], hsz, hr.rel i x _ hx hri, fun j u hu => ?_⟩
    have hj : j < sz := by rw [← hsz]; exact (List.getElem?_eq_some_iff.1 hu).1
    have h1 := flat_get rows i _ hr.size hri j hj
    rw [hu, ← htk] at h1
    have hlt : i * sz + j < xs.length * sz := by
      have := (List.getElem?_eq_some_iff.1 hx).1
      calc i * sz + j < i * sz + sz := by omega
        _ = (i + 1) * sz := by rw [Nat.add_mul]; omega
        _ ≤ xs.length * sz := Nat.mul_le_mul_right _ this
    rw [List.getElem?_take_of_lt hlt] at h1
    simp only [World.cell?, hh, Nat.zero_add]
    simpa using h1
end

/-- append onto an own row, from whatever slice reads. -/
theorem wpList_app {α : Type} {P : Program} {w : World} {ops : Array Oper} {rest : List Oper} {o : Oper} {a : Act} {Q : Exit → Act → World → Prop} {R : α → List Value → Prop} {D : Nat → Prop} (hgd : o.guard = none) (s x : Operand) (t : TypeId)
    (ho : o.op = .call { callee := .builtin .append, args := #[s, x], argTypes := #[t, t] })
    (base : Nat) (e : TypeId) (i : TypeInfo) (z : Value) (size bytes : Nat) (ht : P.underlying t = some (.slice e)) (hi : P.info? e = some i) (hz : i.zero = some z)
    (hsize : i.size = size) (hby : i.bytes = bytes) (hzs : z.cells.size = size) (hsz : 0 < size)
    (v : Value) (xs : List α) (hs : a.eval s = v) (hown : OwnSl w base e size R v xs)
    (u : Value) (ys : List α) (hx : a.eval x = u) (hu : Sl w D size R u ys) (h1 : ∀ y ∈ ys, ∀ cs, R y cs → ∀ c ∈ cs, c.oneCell' = true)
    (h63 : xs.length + ys.length ≤ maxLen) (hbytes : (xs.length + ys.length) * bytes ≤ 140737488355328) (hbase : base ≤ w.heap.size)
    (h : ∀ v' w', OwnSl w' base e size R v' (xs ++ ys) → w.grownBy w' v.ownBlock → wpList P ops Q rest (a.put o.dst v') w') : wpList P ops Q (o :: rest) a w := by
  obtain ⟨au, cu, rows, hv, hr, hcm, hnone, hcell⟩ := hu.rows
  obtain ⟨rows0, hr0, ho0⟩ := hown
  cases au with
  | none =>
    obtain ⟨hc0, hy⟩ := hnone rfl
    subst hc0 hy
    refine wpList_append_own_none hgd s x t ho base e i size ht hi v xs.length rows0.flatten hs ho0 (by rw [hx, hv]; rfl) (h v w ⟨rows0, by simpa using hr0, by simpa using ho0⟩ ⟨rfl, rfl, rfl, Nat.le_refl _, fun _ _ _ => rfl⟩)
  | some ad =>
    refine wpList_append_own w hgd s x t ho base e i z size bytes ht hi hz hsize hby hzs hsz v xs.length rows0.flatten hs ho0 ad ys.length cu rows.flatten (by rw [hx, hv]) (by rw [flat_len rows hr.size, hr.len]) (hcell ad rfl) ?_ h63 hbytes hbase
      fun v' w' hown' hg _ => h v' w' ⟨rows0 ++ rows, hr0.app hr, by simpa using hown'⟩ hg
    intro c hc
    obtain ⟨r, hrm, hcr⟩ := List.mem_flatten.1 hc
    obtain ⟨k, hk⟩ := List.getElem?_of_mem hrm
    have hkl : k < ys.length := by rw [← hr.len]; exact (List.getElem?_eq_some_iff.1 hk).1
    exact h1 ys[k] (List.getElem_mem hkl) r (hr.rel k _ r (List.getElem?_eq_getElem hkl) hk) c hcr

/-- how long the first k are together. -/
def lenTo {α : Type} (ls : List (List α)) (k : Nat) : Nat := (ls.take k).flatten.length
theorem flat_take_succ {α : Type} (ls : List (List α)) (k : Nat) (h : k < ls.length) : (ls.take k).flatten ++ ls[k] = (ls.take (k + 1)).flatten := by
  rw [List.take_succ_eq_append_getElem h, List.flatten_append, List.flatten_singleton]
theorem lenTo_succ {α : Type} (ls : List (List α)) (k : Nat) (h : k < ls.length) : lenTo ls (k + 1) = lenTo ls k + ls[k].length := by
  unfold lenTo; rw [← flat_take_succ ls k h, List.length_append]
theorem lenTo_le {α : Type} (ls : List (List α)) (k : Nat) (_h : k ≤ ls.length) : lenTo ls k ≤ lenTo ls ls.length := by
  unfold lenTo
  have := congrArg (fun l => l.flatten.length) (List.take_append_drop k ls)
  rw [List.take_length]
  simp only [List.flatten_append, List.length_append] at this
  omega
end Go.Proofs.YtioeliocdbckbaaGreatDoor
namespace Go.Proofs.YtioeliocdbckbaaGreatDoor
open Go.RowKit

theorem RowsOf.cons {α : Type} {sz : Nat} {R : α → List Value → Prop} {x : α} {xs : List α} {r : List Value} {rows : List (List Value)} (h : RowsOf sz R xs rows) (hx : R x r) (hl : r.length = sz) : RowsOf sz R (x :: xs) (r :: rows) := by
  refine ⟨by simp [h.len], fun t ht => ?_, fun i y t hy ht => ?_⟩
  · rcases List.mem_cons.1 ht with rfl | ht
    · exact hl
    · exact h.size t ht
  · cases i with
    | zero => simp at hy ht; subst hy ht; exact hx
    | succ i => exact h.rel i y t (by simpa using hy) (by simpa using ht)
theorem sl_block {α : Type} {w : World} {D : Nat → Prop} {sz b : Nat} {R : α → List Value → Prop} {xs : List α} {rows : List (List Value)} {cs : List Value} {T : TypeId} {fr : Nat × Nat} (hr : RowsOf sz R xs rows)
    (hb : w.heap[b]? = some (.cells cs.toArray T fr)) (hcs : cs = rows.flatten) (hD : D b) (hm : xs.length ≤ maxLen) : Sl w D sz R (.slice (some ⟨b, 0, none⟩) xs.length xs.length) xs := by
  refine ⟨some ⟨b, 0, none⟩, xs.length, rfl, Nat.le_refl _, hm, (fun h => by cases h), fun _ => ⟨b, 0, rfl, hD, (Array.getElem?_eq_some_iff.1 hb).1, fun i x hx => ?_⟩⟩
  have hi : i < rows.length := by rw [hr.len]; exact (List.getElem?_eq_some_iff.1 hx).1
  have hri : rows[i]? = some rows[i] := List.getElem?_eq_getElem hi
  have hsz := hr.size _ (List.getElem_mem hi)
  refine ⟨rows[i], hsz, hr.rel i x _ hx hri, fun j u hu => ?_⟩
  have hj : j < sz := by rw [← hsz]; exact (List.getElem?_eq_some_iff.1 hu).1
  have h1 := flat_get rows i _ hr.size hri j hj
  rw [hu, ← hcs] at h1
  simp only [World.cell?, hb, Nat.zero_add]
  simpa using h1
theorem Sl.at_ {α : Type} {w : World} {D : Nat → Prop} {sz n c : Nat} {a : Option Addr} {R : α → List Value → Prop} {xs : List α} (h : Sl w D sz R (.slice a n c) xs) (h0 : 0 < xs.length) : ∃ b o, a = some ⟨b, o, none⟩ ∧ D b ∧ b < w.heap.size := by
  obtain ⟨a', c', hv, _, _, _, hat⟩ := h
  injection hv with h1 _ _
  subst h1
  obtain ⟨b, o, ha, hD, hb, _⟩ := hat h0
  exact ⟨b, o, ha, hD, hb⟩
theorem Sl.monoD {α : Type} {w : World} {D D' : Nat → Prop} {sz : Nat} {R : α → List Value → Prop} {v : Value} {xs : List α} (h : Sl w D sz R v xs) (hD : ∀ b, D b → D' b) : Sl w D' sz R v xs :=
  Sl.mono h (fun b hb _ => hD b hb) (fun _ _ _ => rfl) (Nat.le_refl _) (fun _ _ _ h => h)
theorem Sl.belowR {α : Type} {w w' : World} {D : Nat → Prop} {sz : Nat} {R R' : α → List Value → Prop} {v : Value} {xs : List α} (h : Sl w D sz R v xs) (hb : Below w.heap.size w w') (hR : ∀ x ∈ xs, ∀ cs, R x cs → R' x cs) : Sl w' D sz R' v xs :=
  Sl.mono h (fun _ h _ => h) (fun b _ hlt => hb.block b hlt) hb.size hR
/-! ### stores into a block that is known whole -/
theorem set_at {W : World} {b o : Nat} {cs : Array Value} {T : TypeId} {fr : Nat × Nat} {v : Value} (h : W.heap[b]? = some (.cells cs T fr)) : (W.setCell ⟨b, o, none⟩ v).heap[b]? = some (.cells (cs.setIfInBounds o v) T fr) := by
  show (W.heap.modify b _)[b]? = _
  rw [Array.getElem?_modify, if_pos rfl, h]
  rfl
theorem set_other {W : World} {a : Addr} {v : Value} {k : Nat} (h : k ≠ a.block) : (W.setCell a v).heap[k]? = W.heap[k]? := by
  show (W.heap.modify a.block _)[k]? = _
  rw [Array.getElem?_modify, if_neg (fun e => h e.symm)]
theorem set_size (W : World) (a : Addr) (v : Value) : (W.setCell a v).heap.size = W.heap.size := by
  show (W.heap.modify a.block _).size = _
  rw [Array.size_modify]
theorem set_below {B : Nat} {w W : World} {a : Addr} {v : Value} (h : Below B w W) (hb : B ≤ a.block) : Below B w (W.setCell a v) :=
  h.trans ⟨rfl, rfl, rfl, by rw [set_size]; exact Nat.le_refl _, fun k hk => set_other (by omega)⟩
theorem not_frozen {W : World} {b : Nat} {cs : Array Value} {T : TypeId} (h : W.heap[b]? = some (.cells cs T)) (j : Nat) : W.frozen? ⟨b, j, none⟩ = false := by
  simp only [World.frozen?, h]; simp
theorem cells_of {W : World} {b : Nat} {cs : Array Value} {T : TypeId} {fr : Nat × Nat} (h : W.heap[b]? = some (.cells cs T fr)) (j : Nat) : W.cell? ⟨b, j, none⟩ = cs[j]? := by simp [World.cell?, h]

theorem heap_setCells (g : Nat) : ∀ (vs : List Value) (o : Nat) (w : World), (w.setCells g o vs).os = w.os ∧ (w.setCells g o vs).tape = w.tape ∧ (w.setCells g o vs).output = w.output ∧ (w.setCells g o vs).heap.size = w.heap.size ∧ ∀ b, b ≠ g → (w.setCells g o vs).heap[b]? = w.heap[b]?
  | [], _, _ => ⟨rfl, rfl, rfl, rfl, fun _ _ => rfl⟩
  | v :: vs, o, w => by
    obtain ⟨h1, h2, h3, h4, h5⟩ := heap_setCells g vs (o + 1) (w.setCell ⟨g, o, none⟩ v)
    exact ⟨h1, h2, h3, h4.trans (set_size _ _ _), fun b hb => (h5 b hb).trans (set_other hb)⟩
theorem below_setCells {B g o : Nat} {vs : List Value} {w W : World} (h : Below B w W) (hb : B ≤ g) : Below B w (W.setCells g o vs) := by
  obtain ⟨h1, h2, h3, h4, h5⟩ := heap_setCells g vs o W
  exact h.trans ⟨h1, h2, h3, by rw [h4]; exact Nat.le_refl _, fun b hlt => h5 b (by omega)⟩
theorem blk_setCells {g : Nat} {T : TypeId} {fr : Nat × Nat} : ∀ (vs : List Value) (o : Nat) (w : World) (cur : Array Value), w.heap[g]? = some (.cells cur T fr) → ∃ cur' : Array Value, cur'.size = cur.size ∧ (w.setCells g o vs).heap[g]? = some (.cells cur' T fr)
  | [], _, _, cur, h => ⟨cur, rfl, h⟩
  | v :: vs, o, w, cur, h => by
    obtain ⟨cur', h1, h2⟩ := blk_setCells vs (o + 1) (w.setCell ⟨g, o, none⟩ v) _ (set_at h)
    exact ⟨cur', by simpa using h1, h2⟩
end Go.Proofs.YtioeliocdbckbaaGreatDoor
namespace Go.Proofs.YtioeliocdbckbaaGreatDoor
open Go.RowKit

def Typed (T0 : TypeId) (o : Obj) : Prop := ∃ cs fr, o = .cells cs T0 fr
/-- what may become of a world: blocks stay, but for those of the types ts. -/
structure InitT (ts : List TypeId) (w w' : World) : Prop where
  size : w.heap.size ≤ w'.heap.size
  keep : ∀ (k : Nat) (o : Obj), w.heap[k]? = some o → (∀ T ∈ ts, ¬ Typed T o) → w'.heap[k]? = some o
theorem InitT.of_below {ts : List TypeId} {w w' : World} (h : Below w.heap.size w w') : InitT ts w w' := ⟨h.size, fun _ _ hk _ => blk_below hk h⟩
theorem InitT.of_set {T0 : TypeId} {ts : List TypeId} (hT : T0 ∈ ts) {w : World} {b o : Nat} {v : Value} {cs : Array Value} {fr : Nat × Nat} (h : w.heap[b]? = some (.cells cs T0 fr)) : InitT ts w (w.setCell ⟨b, o, none⟩ v) := by
  refine ⟨by rw [set_size]; exact Nat.le_refl _, fun k o' hk hn => ?_⟩
  rw [set_other (fun e => by subst e; rw [h] at hk; injection hk with hk; exact hn T0 hT ⟨_, _, hk.symm⟩)]
  exact hk
theorem InitT.of_grown {T0 : TypeId} {ts : List TypeId} (hT : T0 ∈ ts) {w w' : World} {own : Option Nat} (hg : w.grownBy w' own) (ho : ∀ g, own = some g → ∃ o, w.heap[g]? = some o ∧ Typed T0 o) : InitT ts w w' := by
  refine ⟨hg.size, fun k o hk hn => ?_⟩
  rw [hg.block k (Array.getElem?_eq_some_iff.1 hk).1 (fun e => by
    obtain ⟨o', h1, h2⟩ := ho k e.symm
    rw [hk] at h1; injection h1 with h1; subst h1; exact hn T0 hT h2)]
  exact hk
theorem OwnSl.init {α : Type} {ts : List TypeId} {w w' : World} {base : Nat} {e : TypeId} {sz : Nat} {R : α → List Value → Prop} {v : Value} {xs : List α} (h : OwnSl w base e sz R v xs) (hi : InitT ts w w') (hne : e ∉ ts) : OwnSl w' base e sz R v xs := by
  obtain ⟨rows, hr, h1, h2⟩ := h
  refine ⟨rows, hr, h1, ?_⟩
  rcases h2 with h2 | ⟨g, cap, cur, hv, hg, hh, r⟩
  · exact .inl h2
  · refine .inr ⟨g, cap, cur, hv, hg, hi.keep g _ hh (fun T hT => ?_), r⟩
    rintro ⟨cs, fr, e'⟩
    injection e' with _ e2 _
    exact hne (e2 ▸ hT)
theorem OwnSl.set {α : Type} {w : World} {base : Nat} {e : TypeId} {sz : Nat} {R : α → List Value → Prop} {v x : Value} {xs : List α} {a : Addr} (h : OwnSl w base e sz R v xs) (hb : v.ownBlock ≠ some a.block) : OwnSl (w.setCell a x) base e sz R v xs := by
  obtain ⟨rows, hr, ho⟩ := h
  exact ⟨rows, hr, ownsRow_keep1 ho fun b _ _ hv => set_other (fun e => hb (by rw [← e]; exact hv))⟩
theorem OwnSl.base {α : Type} {w : World} {base base' : Nat} {e : TypeId} {sz : Nat} {R : α → List Value → Prop} {v : Value} {xs : List α} (h : OwnSl w base e sz R v xs) (hb : base' ≤ base) : OwnSl w base' e sz R v xs := by
  obtain ⟨rows, hr, h1, h2⟩ := h
  refine ⟨rows, hr, h1, ?_⟩
  rcases h2 with h2 | ⟨g, cap, cur, hv, hg, r⟩
  · exact .inl h2
  · exact .inr ⟨g, cap, cur, hv, Nat.le_trans hb hg, r⟩
/-- a cell put anew. -/
theorem OwnSl.put {α : Type} {w : World} {base b n c : Nat} {e : TypeId} {sz : Nat} {R : α → List Value → Prop} {xs : List α} (h : OwnSl w base e sz R (.slice (some ⟨b, 0, none⟩) n c) xs) {i j : Nat} (hi : i < xs.length) (hj : j < sz) {y : α} {u : Value} (hR : ∀ r, R xs[i] r → R y (r.set j u)) :
    OwnSl (w.setCell ⟨b, i * sz + j, none⟩ u) base e sz R (.slice (some ⟨b, 0, none⟩) n c) (xs.set i y) := by
  obtain ⟨rows, hr, h1, h2⟩ := h
  rcases h2 with ⟨h0, _⟩ | ⟨g, cap, cur, hv, hg, hh, hnc, hcm, hcs, htk⟩
  · cases h0
  injection hv with ha hn hc
  injection ha with ha; injection ha with ha
  subst ha hn hc
  have hir : i < rows.length := by rw [hr.len]; exact hi
  have hsz := hr.size _ (List.getElem_mem hir)
  have hrows : RowsOf sz R (xs.set i y) (rows.set i (rows[i].set j u)) := by
    refine ⟨by simp [hr.len], fun r hrm => ?_, fun k x r hx hk => ?_⟩
    · rcases List.mem_or_eq_of_mem_set hrm with h | h
      · exact hr.size r h
      · rw [h, List.length_set]; exact hsz
    · by_cases e : i = k
      · subst e
        rw [List.getElem?_set_self hi] at hx
        rw [List.getElem?_set_self hir] at hk
        injection hx with hx; injection hk with hk
        subst hx hk
        exact hR _ (hr.rel i _ _ (List.getElem?_eq_getElem hi) (List.getElem?_eq_getElem hir))
      · rw [List.getElem?_set_ne e] at hx hk
        exact hr.rel k x r hx hk
  have hfl := flat_len _ hrows.size
  have hlen : (rows.set i (rows[i].set j u)).length = xs.length := by simp [hr.len]
  refine ⟨_, hrows, by rw [hfl, hlen, List.length_set], .inr ⟨b, c, cur.setIfInBounds (i * sz + j) u, by simp, hg, set_at hh, by simpa using hnc, hcm, by simp [hcs], ?_⟩⟩
  rw [List.length_set]
  have hlt : i * sz + j < xs.length * sz := by
    calc i * sz + j < i * sz + sz := by omega
      _ = (i + 1) * sz := by rw [Nat.add_mul]; omega
      _ ≤ xs.length * sz := Nat.mul_le_mul_right _ hi
  apply List.ext_getElem?
  intro k
  by_cases hk : k < xs.length * sz
  · rw [List.getElem?_take_of_lt hk, Array.getElem?_toList]
    have hsz0 : 0 < sz := by omega
    have hdm : k / sz * sz + k % sz = k := by rw [Nat.mul_comm]; exact Nat.div_add_mod k sz
    have hm : k % sz < sz := Nat.mod_lt _ hsz0
    have hd : k / sz < xs.length := (Nat.div_lt_iff_lt_mul hsz0).2 hk
    have g1 : (rows.set i (rows[i].set j u)).flatten[k]? = (rows.set i (rows[i].set j u))[k / sz]?.bind fun r => r[k % sz]? := by
      have hlt2 : k / sz < (rows.set i (rows[i].set j u)).length := by rw [hlen]; exact hd
      have h := flat_get _ (k / sz) _ hrows.size (List.getElem?_eq_getElem hlt2) (k % sz) hm
      rw [hdm] at h
      rw [h, List.getElem?_eq_getElem hlt2]; rfl
    have g2 : rows.flatten[k]? = rows[k / sz]?.bind fun r => r[k % sz]? := by
      have hlt2 : k / sz < rows.length := by rw [hr.len]; exact hd
      have h := flat_get _ (k / sz) _ hr.size (List.getElem?_eq_getElem hlt2) (k % sz) hm
      rw [hdm] at h
      rw [h, List.getElem?_eq_getElem hlt2]; rfl
    rw [g1]
    by_cases e : k = i * sz + j
    · subst e
      have e1 : (i * sz + j) / sz = i := by rw [Nat.mul_comm, Nat.mul_add_div hsz0, Nat.div_eq_of_lt hj, Nat.add_zero]
      have e2 : (i * sz + j) % sz = j := by rw [Nat.mul_comm, Nat.mul_add_mod, Nat.mod_eq_of_lt hj]
      rw [Array.getElem?_setIfInBounds_self_of_lt (by rw [hcs]; exact Nat.lt_of_lt_of_le hlt (Nat.mul_le_mul_right _ hnc)), e1, e2, List.getElem?_set_self hir]
      show some u = (rows[i].set j u)[j]?
      rw [List.getElem?_set_self (by omega)]
    · rw [Array.getElem?_setIfInBounds_ne (Ne.symm e), ← Array.getElem?_toList, ← List.getElem?_take_of_lt (l := cur.toList) hk, htk, g2]
      by_cases ei : i = k / sz
      · rw [← ei, List.getElem?_set_self hir, List.getElem?_eq_getElem hir]
        show rows[i][k % sz]? = (rows[i].set j u)[k % sz]?
        rw [List.getElem?_set_ne (fun ej => e (by rw [← hdm, ← ei, ← ej]))]
      · rw [List.getElem?_set_ne ei]
  · rw [List.getElem?_eq_none (by rw [List.length_take]; omega), List.getElem?_eq_none (by rw [hfl, hlen]; omega)]
theorem OwnSl.slice {α : Type} {w : World} {base : Nat} {e : TypeId} {sz : Nat} {R : α → List Value → Prop} {v : Value} {xs : List α} (h : OwnSl w base e sz R v xs) : ∃ a c, v = .slice a xs.length c := by
  obtain ⟨rows, _, _, h2⟩ := h
  rcases h2 with ⟨hv, hn⟩ | ⟨g, cap, cur, hv, _⟩
  · exact ⟨_, _, by rw [hv, hn]⟩
  · exact ⟨_, _, hv⟩
theorem OwnSl.addr {α : Type} {w : World} {base : Nat} {e : TypeId} {sz n c : Nat} {a : Option Addr} {R : α → List Value → Prop} {xs : List α} (h : OwnSl w base e sz R (.slice a n c) xs) (h0 : 0 < xs.length) : ∃ b, a = some ⟨b, 0, none⟩ ∧ base ≤ b ∧ b < w.heap.size ∧ ∃ cur, w.heap[b]? = some (.cells cur e) := by
  obtain ⟨rows, _, h1, h2⟩ := h
  rcases h2 with ⟨_, hn⟩ | ⟨g, cap, cur, hv, hg, hh, _⟩
  · omega
  · injection hv with ha hn hc
    exact ⟨g, ha, hg, (Array.getElem?_eq_some_iff.1 hh).1, cur, hh⟩
theorem OwnSl.typed {α : Type} {w : World} {base : Nat} {e : TypeId} {sz : Nat} {R : α → List Value → Prop} {v : Value} {xs : List α} (h : OwnSl w base e sz R v xs) : ∀ g, v.ownBlock = some g → ∃ o, w.heap[g]? = some o ∧ Typed e o := by
  obtain ⟨rows, _, _, h2⟩ := h
  intro g hg
  rcases h2 with ⟨hv, _⟩ | ⟨g', cap, cur, hv, _, hh, _⟩
  · subst hv; simp [Value.ownBlock] at hg
  · subst hv; simp [Value.ownBlock] at hg; subst hg; exact ⟨_, hh, _, _, rfl⟩
theorem InitT.trans {ts : List TypeId} {w w' w'' : World} (h : InitT ts w w') (h' : InitT ts w' w'') : InitT ts w w'' := ⟨Nat.le_trans h.size h'.size, fun k o hk hn => h'.keep k o (h.keep k o hk hn) hn⟩
theorem two_cells {cs : Array Value} (h : cs.size = 2) : ∃ c0 c1, cs = #[c0, c1] := by
  obtain ⟨l⟩ := cs
  match l, h with
  | [c0, c1], _ => exact ⟨c0, c1, rfl⟩
theorem five_cells {cs : Array Value} (h : cs.size = 5) : ∃ c0 c1 c2 c3 c4, cs = #[c0, c1, c2, c3, c4] := by
  obtain ⟨l⟩ := cs
  match l, h with
  | [c0, c1, c2, c3, c4], _ => exact ⟨c0, c1, c2, c3, c4, rfl⟩
theorem InitT.of_sets5 {T0 : TypeId} {w : World} {b : Nat} {v0 v1 v2 v3 v4 : Value} {cs : Array Value} (h : w.heap[b]? = some (.cells cs T0)) :
    InitT [T0] w (((((w.setCell ⟨b, 0, none⟩ v0).setCell ⟨b, 1, none⟩ v1).setCell ⟨b, 2, none⟩ v2).setCell ⟨b, 3, none⟩ v3).setCell ⟨b, 4, none⟩ v4) :=
  have m : T0 ∈ [T0] := by simp
  InitT.trans (InitT.trans (InitT.trans (InitT.trans (.of_set m h) (.of_set m (set_at h))) (.of_set m (set_at (set_at h)))) (.of_set m (set_at (set_at (set_at h))))) (.of_set m (set_at (set_at (set_at (set_at h)))))
theorem blk_init {ts : List TypeId} {w w' : World} {b : Nat} {cs : Array Value} {T : TypeId} (h : w.heap[b]? = some (.cells cs T)) (hi : InitT ts w w') (hT : T ∉ ts) : w'.heap[b]? = some (.cells cs T) :=
  hi.keep b _ h fun T' hT' => by
    rintro ⟨cs', fr, e'⟩
    injection e' with _ e2 _
    exact hT (e2 ▸ hT')
def VarAt (B : Nat) (T0 : TypeId) (sz : Nat) (v : Value) (w : World) : Prop := ∃ b, v = .pointer (some ⟨b, 0, none⟩) ∧ B ≤ b ∧ ∃ cs, cs.size = sz ∧ w.heap[b]? = some (.cells cs T0)
def VarIs (T0 : TypeId) (v : Value) (cs : Array Value) (w : World) : Prop := ∃ b, v = .pointer (some ⟨b, 0, none⟩) ∧ w.heap[b]? = some (.cells cs T0)
def initF (B : Nat) (T0 : TypeId) (sz : Nat) (ia is : Nat) (news : (Nat → Value) → Array Value) (G : Nat → (Nat → Bool) → (Nat → Value) → World → Prop) (k : Nat) (done : Nat → Bool) (vf : Nat → Value) (w : World) : Prop :=
  if k = ia then VarAt B T0 sz (vf ia) w else if k = is then VarIs T0 (vf ia) (news vf) w else G k done vf w
def initT (T0 : TypeId) (ts : Nat → List TypeId) (ia is : Nat) (news : (Nat → Value) → Array Value) (i : Nat) (vf : Nat → Value) (w w' : World) : Prop :=
  InitT (if i = is then [T0] else ts i) w w' ∧ (i = is → VarIs T0 (vf ia) (news vf) w')
def initI (B : Nat) (w0 : World) (_ : Nat → Bool) (w : World) : Prop := Cls B w0 w
theorem initT.plain {T0 : TypeId} {ts : Nat → List TypeId} {ia is i : Nat} {news : (Nat → Value) → Array Value} {vf : Nat → Value} {w w' : World} (h : Below w.heap.size w w') (hi : i ≠ is) : initT T0 ts ia is news i vf w w' := ⟨.of_below h, fun e => absurd e hi⟩
theorem initT.other {T0 : TypeId} {ts : Nat → List TypeId} {ia is i : Nat} {news : (Nat → Value) → Array Value} {vf : Nat → Value} {w w' : World} (h : InitT (ts i) w w') (hi : i ≠ is) : initT T0 ts ia is news i vf w w' := ⟨by rw [if_neg hi]; exact h, fun e => absurd e hi⟩
/-- THE LAW: operation ia lays the variable, is stores into it. -/
theorem wp_region_init {P : Program} {l : List Oper} {Q : Exit → Act → World → Prop} {a : Act} {id : Nat} {w : World} (B : Nat) (hBw : B ≤ w.heap.size) (T0 : TypeId) (sz : Nat) (ts : Nat → List TypeId) (ia is : Nat) (news : (Nat → Value) → Array Value) (G : Nat → (Nat → Bool) → (Nat → Value) → World → Prop)
    (hm : P.follows .mixedOrders = true) (hB : monoB2 (l.map prune) a.tmps.size = true) (bs : List (List Nat)) (hbs : befores (l.map prune) [] = bs) (hia : ia ∈ bs.getD is []) (hts : ∀ i, T0 ∉ ts i) (hsz : ∀ vf, (news vf).size = sz)
    (hG : ∀ (i k : Nat) (done : Nat → Bool) (vf : Nat → Value) (w w' : World), k ≠ i → done i = false → (∀ m ∈ bs.getD i [], done m = true) → done k = true → InitT (if i = is then [T0] else ts i) w w' → G k done vf w → G k (updDone done i) vf w')
    (hGp : ∀ (k : Nat) (done : Nat → Bool) (f g : Nat → Value) (w : World), (∀ m ∈ bs.getD k [], f m = g m) → f k = g k → G k done f w → G k done g w) (hN : ∀ f g : Nat → Value, (∀ m ∈ bs.getD is [], f m = g m) → news f = news g)
    (h : relWalk P l.toArray (initI B w) (initT T0 ts ia is news) (initF B T0 sz ia is news G) bs (Q .normal) l.length l 0 (fun _ => a)) : (Code.region id l.toArray true).wp P Q a w := by
  refine wp_region_rel _ _ _ hm hB bs hbs (fun i done vf w1 w2 _ hd hbf hf hT k hk => ?_) (fun k done f g w1 hfg hk hF => ?_) ⟨hBw, (Below.refl _ _).drew⟩ h
  · have hki : k ≠ i := fun e => by rw [e, hd] at hk; cases hk
    have hF := hf k hk
    unfold initF at hF ⊢
    split
    · rename_i e
      rw [if_pos e] at hF
      obtain ⟨b, hv, hb, cs, hs, hc⟩ := hF
      by_cases ei : i = is
      · obtain ⟨b', hv', hc'⟩ := hT.2 ei
        rw [hv] at hv'
        injection hv' with hv'; injection hv' with hv'; injection hv' with hv'
        subst hv'
        exact ⟨b, hv, hb, _, hsz vf, hc'⟩
      · have h1 := hT.1
        rw [if_neg ei] at h1
        exact ⟨b, hv, hb, cs, hs, blk_init hc h1 (hts i)⟩
    · rename_i e
      rw [if_neg e] at hF
      split
      · rename_i e2
        rw [if_pos e2] at hF
        obtain ⟨b, hv, hc⟩ := hF
        have h1 := hT.1
        rw [if_neg (fun e' => hki (e2.trans e'.symm))] at h1
        exact ⟨b, hv, blk_init hc h1 (hts i)⟩
      · rename_i e2
        rw [if_neg e2] at hF
        exact hG i k done vf _ _ hki hd hbf hk hT.1 hF
  · unfold initF at hF ⊢
    split
    · rename_i e
      subst e
      rw [if_pos rfl, hk] at hF
      exact hF
    · rename_i e
      rw [if_neg e] at hF
      split
      · rename_i e2
        subst e2
        rw [if_pos rfl, hN f g hfg, hfg ia hia] at hF
        exact hF
      · rename_i e2
        rw [if_neg e2] at hF
        exact hGp k done f g w1 hfg hk hF
end Go.Proofs.YtioeliocdbckbaaGreatDoor
namespace Go.Proofs.YtioeliocdbckbaaGreatDoor
open Go.RowKit

/-- The operation append, and where the new row lies. -/
theorem gives_append_at {P : Program} {w : World} {o : Oper} {a : Act} {R : Value → World → Prop} (s x : Operand) (t : TypeId)
    (ho : o.op = .call { callee := .builtin .append, args := #[s, x], argTypes := #[t, t] })
    (base : Nat) (e : TypeId) (i : TypeInfo) (z : Value) (size bytes : Nat) (ht : P.underlying t = some (.slice e)) (hi : P.info? e = some i) (hz : i.zero = some z)
    (hsize : i.size = size) (hby : i.bytes = bytes) (hzs : z.cells.size = size) (hsz : 0 < size)
    (v : Value) (n : Nat) (xs : List Value) (hs : a.eval s = v) (hown : w.ownsRow base e size v n xs)
    (ad : Addr) (m c : Nat) (news : List Value) (hx : a.eval x = .slice (some ad) m c) (hl : news.length = m * size) (hnews : ∀ j u, news[j]? = some u → w.cell? (ad.add j) = some u) (h1 : ∀ u ∈ news, u.oneCell' = true)
    (hm : 0 < m) (h63 : n + m ≤ maxLen) (hbytes : (n + m) * bytes ≤ 140737488355328) (hbase : base ≤ w.heap.size)
    (h : ∀ v' w', w'.ownsRow base e size v' (n + m) (xs ++ news) → w.grownBy w' v.ownBlock → (v'.ownBlock = v.ownBlock ∨ v'.ownBlock = some w.heap.size) → R v' w') : gives P o a w R := by
  obtain ⟨g, cap, w', hr, h2, h3, h4, _⟩ := run_append_lies (P := P) w t o.type base e i z size bytes ht hi hz hsize hby hzs hsz v n xs hown ad m c news hl hnews h1 hm h63 hbytes hbase _ rfl
  unfold gives execOp
  simp only [ho, resolve, invoke, builtin, Sem.run_bind, Sem.run_pure, Result.andThen_ok, List.map_toArray, List.map_cons, List.map_nil, hs, hx, hr]
  refine h _ _ h2 h3 ?_
  rcases h4 with h4 | h4
  · left; rw [h4]; rfl
  · right; rw [h4]; rfl

/-- The worlds of such a region: w0 is the world at its head; β the box; cv the slice, with n elements; ia, is: the numbers of the append and of the store. -/
structure ApInv (w0 : World) (β : Nat) (T : TypeId) (box : Array Value) (base : Nat) (E : TypeId) (sz : Nat) (cv : Value) (n : Nat) (cells : List Value) (ia is : Nat) (done : Nat → Bool) (W : World) : Prop where
  os : W.os = w0.os
  tape : W.tape = w0.tape
  output : W.output = w0.output
  size : w0.heap.size ≤ W.heap.size
  blk : ∀ b, b < w0.heap.size → b ≠ β → some b ≠ cv.ownBlock → W.heap[b]? = w0.heap[b]?
  before : done is = false → W.heap[β]? = some (.cells box T)
  old : done ia = false → ∀ b, b < w0.heap.size → b ≠ β → W.heap[b]? = w0.heap[b]?
  own : done ia = false → W.ownsRow base E sz cv n cells
def ApT (β : Nat) (cv : Value) (ia is : Nat) (i : Nat) (_ : Nat → Value) (w w' : World) : Prop := w.heap.size ≤ w'.heap.size ∧ ∀ b, b < w.heap.size → (i = is → b ≠ β) → (i = ia → some b ≠ cv.ownBlock) → w'.heap[b]? = w.heap[b]?
def apF (w0 : World) (β : Nat) (T : TypeId) (box : Array Value) (off base : Nat) (E : TypeId) (sz : Nat) (cv : Value) (n : Nat) (cells : List Value) (m : Nat) (news : (Nat → Value) → List Value) (ia is : Nat) (G : Nat → (Nat → Value) → World → Prop) (k : Nat) (_ : Nat → Bool) (vf : Nat → Value) (W : World) : Prop :=
  if k = ia then W.ownsRow base E sz (vf ia) (n + m) (cells ++ news vf) ∧ ((vf ia).ownBlock = cv.ownBlock ∨ ∀ g, (vf ia).ownBlock = some g → w0.heap.size ≤ g)
  else if k = is then W.heap[β]? = some (.cells (box.setIfInBounds off (vf ia)) T) else G k vf W
section
variable {w0 W W' : World} {β : Nat} {T : TypeId} {box : Array Value} {off base : Nat} {E : TypeId} {sz n m ia is i : Nat} {cv : Value} {cells : List Value} {done : Nat → Bool} {vf : Nat → Value}
theorem ownsRow_same {v : Value} (h : W.ownsRow base E sz v n cells) (hb : ∀ b, base ≤ b → b < W.heap.size → v.ownBlock = some b → W'.heap[b]? = W.heap[b]?) : W'.ownsRow base E sz v n cells := ownsRow_keep1 h hb
theorem ApInv.step (h : ApInv w0 β T box base E sz cv n cells ia is done W) (hb : Below W.heap.size W W') (h1 : i ≠ ia) (h2 : i ≠ is) (hβ : β < w0.heap.size) : ApInv w0 β T box base E sz cv n cells ia is (updDone done i) W' where
  os := hb.os.trans h.os
  tape := hb.tape.trans h.tape
  output := hb.output.trans h.output
  size := Nat.le_trans h.size hb.size
  blk := fun b hlt hn ho => (hb.block b (Nat.lt_of_lt_of_le hlt h.size)).trans (h.blk b hlt hn ho)
  before := fun hd => by
    have : done is = false := by simpa [updDone, Ne.symm h2] using hd
    rw [hb.block β (Nat.lt_of_lt_of_le hβ h.size)]; exact h.before this
  old := fun hd b hlt hn => by
    have : done ia = false := by simpa [updDone, Ne.symm h1] using hd
    exact (hb.block b (Nat.lt_of_lt_of_le hlt h.size)).trans (h.old this b hlt hn)
  own := fun hd => by
    have : done ia = false := by simpa [updDone, Ne.symm h1] using hd
    exact ownsRow_keep1 (h.own this) fun b _ hlt _ => hb.block b hlt
theorem ApT.of_below (hb : Below W.heap.size W W') : ApT β cv ia is i vf W W' := ⟨hb.size, fun b hlt _ _ => hb.block b hlt⟩
theorem ApInv.appended (h : ApInv w0 β T box base E sz cv n cells ia is done W) (hd : done is = false) (hcv : ∀ g, cv.ownBlock = some g → g ≠ β) (hg : W.grownBy W' cv.ownBlock) (hβ : β < w0.heap.size) : ApInv w0 β T box base E sz cv n cells ia is (updDone done ia) W' where
  os := hg.os.trans h.os
  tape := hg.tape.trans h.tape
  output := hg.output.trans h.output
  size := Nat.le_trans h.size hg.size
  blk := fun b hlt hn ho => (hg.block b (Nat.lt_of_lt_of_le hlt h.size) ho).trans (h.blk b hlt hn ho)
  before := fun _ => by rw [hg.block β (Nat.lt_of_lt_of_le hβ h.size) (fun e => hcv β e.symm rfl)]; exact h.before hd
  old := fun hd => by simp [updDone] at hd
  own := fun hd => by simp [updDone] at hd
theorem ApT.of_grown (hg : W.grownBy W' cv.ownBlock) : ApT β cv ia is ia vf W W' := ⟨hg.size, fun b hlt _ h => hg.block b hlt (h rfl)⟩
theorem ApInv.stored {v : Value} (h : ApInv w0 β T box base E sz cv n cells ia is done W) (hda : done ia = true) (hne : is ≠ ia) :
    ApInv w0 β T box base E sz cv n cells ia is (updDone done is) (W.setCell ⟨β, off, none⟩ v) where
  os := h.os
  tape := h.tape
  output := h.output
  size := by rw [set_size]; exact h.size
  blk := fun b hlt hn ho => by rw [set_other (by exact hn)]; exact h.blk b hlt hn ho
  before := fun hd => by simp [updDone] at hd
  old := fun hd => by simp [updDone, Ne.symm hne, hda] at hd
  own := fun hd => by simp [updDone, Ne.symm hne, hda] at hd
theorem ApT.of_store {v : Value} : ApT β cv ia is is vf W (W.setCell ⟨β, off, none⟩ v) := ⟨by rw [set_size]; exact Nat.le_refl _, fun b _ hn _ => set_other (by exact hn rfl)⟩
end
/-- THE LAW. -/
theorem wp_region_apr {P : Program} {l : List Oper} {Q : Exit → Act → World → Prop} {a : Act} {id : Nat} {w0 : World} (β : Nat) (T : TypeId) (box : Array Value) (off base : Nat) (E : TypeId) (sz : Nat) (cv : Value) (n : Nat) (cells : List Value) (m : Nat) (news : (Nat → Value) → List Value) (ia is : Nat) (G : Nat → (Nat → Value) → World → Prop)
    (hm : P.follows .mixedOrders = true) (hB : monoB2 (l.map prune) a.tmps.size = true) (bs : List (List Nat)) (hbs : befores (l.map prune) [] = bs)
    (hbox : w0.heap[β]? = some (.cells box T)) (hown : w0.ownsRow base E sz cv n cells) (hβ : β < base) (hcv : ∀ g, cv.ownBlock = some g → g ≠ β) (his : ia ≠ is) (hia : ia ∈ bs.getD is [])
    (hG : ∀ (k : Nat) (vf : Nat → Value) (w w' : World), (∀ b, w0.heap.size ≤ b → b < w.heap.size → w'.heap[b]? = w.heap[b]?) → w.heap.size ≤ w'.heap.size → G k vf w → G k vf w')
    (hGp : ∀ (k : Nat) (f g : Nat → Value) (w : World), (∀ m ∈ bs.getD k [], f m = g m) → f k = g k → G k f w → G k g w) (hN : ∀ f g : Nat → Value, (∀ m ∈ bs.getD ia [], f m = g m) → news f = news g)
    (h : relWalk P l.toArray (ApInv w0 β T box base E sz cv n cells ia is) (ApT β cv ia is) (apF w0 β T box off base E sz cv n cells m news ia is G) bs (Q .normal) l.length l 0 (fun _ => a)) : (Code.region id l.toArray true).wp P Q a w0 := by
  have hβ' : β < w0.heap.size := (Array.getElem?_eq_some_iff.1 hbox).1
  have hlt : ∀ g, cv.ownBlock = some g → g < w0.heap.size := fun g hg => (hown.lt g hg).2
  refine wp_region_rel _ _ _ hm hB bs hbs (fun i done vf w1 w2 _ hd hbf hf hT k hk => ?_) (fun k done f g w1 hfg hk hF => ?_) ⟨rfl, rfl, rfl, Nat.le_refl _, fun _ _ _ _ => rfl, fun _ => hbox, fun _ _ _ _ => rfl, fun _ => ownsRow_keep1 hown fun _ _ _ _ => rfl⟩ h
  · have hki : k ≠ i := fun e => by rw [e, hd] at hk; cases hk
    have hF := hf k hk
    unfold apF at hF ⊢
    split
    · rename_i e
      rw [if_pos e] at hF
      refine ⟨ownsRow_keep1 hF.1 fun b hb hl ho => hT.2 b hl (fun _ => by omega) (fun e' => absurd (e.trans e'.symm) hki), hF.2⟩
    · rename_i e
      rw [if_neg e] at hF
      split
      · rename_i e2
        rw [if_pos e2] at hF
        rw [hT.2 β (Array.getElem?_eq_some_iff.1 hF).1 (fun e' => absurd (e2.trans e'.symm) hki) (fun _ e' => hcv β e'.symm rfl)]
        exact hF
      · rename_i e2
        rw [if_neg e2] at hF
        exact hG k vf _ _ (fun b hb hl => hT.2 b hl (fun _ => by omega) (fun _ e' => by have := hlt b e'.symm; omega)) hT.1 hF
  · unfold apF at hF ⊢
    split
    · rename_i e
      subst e
      rw [if_pos rfl, hk, hN f g hfg] at hF
      exact hF
    · rename_i e
      rw [if_neg e] at hF
      split
      · rename_i e2
        subst e2
        rw [if_pos rfl, hfg ia hia] at hF
        exact hF
      · rename_i e2
        rw [if_neg e2] at hF
        exact hGp k f g w1 hfg hk hF
/-- what buildSlice lays: one row. -/
def NewRow (B : Nat) (E : TypeId) (m : Nat) (cs : Array Value) (v : Value) (W : World) : Prop := ∃ b, v = .slice (some ⟨b, 0, none⟩) m m ∧ B ≤ b ∧ W.heap[b]? = some (.cells cs E)
theorem NewRow.keep {B : Nat} {E : TypeId} {m : Nat} {cs : Array Value} {v : Value} {w w' : World} (h : NewRow B E m cs v w) (hb : ∀ b, B ≤ b → b < w.heap.size → w'.heap[b]? = w.heap[b]?) : NewRow B E m cs v w' := by
  obtain ⟨b, hv, hB, hc⟩ := h
  refine ⟨b, hv, hB, ?_⟩
  rw [hb b hB (Array.getElem?_eq_some_iff.1 hc).1]; exact hc
theorem OwnSl.keepFrom {α : Type} {w w' : World} {base : Nat} {e : TypeId} {sz : Nat} {R : α → List Value → Prop} {v : Value} {xs : List α} (h : OwnSl w base e sz R v xs) (hb : ∀ b, base ≤ b → b < w.heap.size → w'.heap[b]? = w.heap[b]?) : OwnSl w' base e sz R v xs := by
  obtain ⟨rows, hr, ho⟩ := h
  exact ⟨rows, hr, ownsRow_keep1 ho fun b hbb hl _ => hb b hbb hl⟩
/-- A region that makes an own slice (io), what is appended (ib), and appends it (ia). -/
def ap1F (io ib ia : Nat) (O N A : Value → World → Prop) (k : Nat) (done : Nat → Bool) (vf : Nat → Value) (W : World) : Prop :=
  if k = ia then A (vf ia) W else if k = io then (done ia = false → O (vf io) W) else if k = ib then (done ia = false → N (vf ib) W) else True
def ap1T (ia : Nat) (i : Nat) (_ : Nat → Value) (w w' : World) : Prop := i ≠ ia → Below w.heap.size w w'
theorem wp_region_ap1 {P : Program} {l : List Oper} {Q : Exit → Act → World → Prop} {a : Act} {id : Nat} {w0 : World} (B : Nat) (hBw : B ≤ w0.heap.size) (io ib ia : Nat) (O N A : Value → World → Prop)
    (hm : P.follows .mixedOrders = true) (hB : monoB2 (l.map prune) a.tmps.size = true) (bs : List (List Nat)) (hbs : befores (l.map prune) [] = bs)
    (hO : ∀ v w w', Below w.heap.size w w' → O v w → O v w') (hN : ∀ v w w', Below w.heap.size w w' → N v w → N v w') (hA : ∀ v w w', Below w.heap.size w w' → A v w → A v w')
    (h : relWalk P l.toArray (initI B w0) (ap1T ia) (ap1F io ib ia O N A) bs (Q .normal) l.length l 0 (fun _ => a)) : (Code.region id l.toArray true).wp P Q a w0 := by
  refine wp_region_rel _ _ _ hm hB bs hbs (fun i done vf w1 w2 _ hd hbf hf hT k hk => ?_) (fun k done f g w1 hfg hk hF => ?_) ⟨hBw, (Below.refl _ _).drew⟩ h
  · have hki : k ≠ i := fun e => by rw [e, hd] at hk; cases hk
    have hF := hf k hk
    unfold ap1F at hF ⊢
    split
    · rename_i e
      rw [if_pos e] at hF
      exact hA _ _ _ (hT (fun e' => hki (e.trans e'.symm))) hF
    · rename_i e
      rw [if_neg e] at hF
      split
      · rename_i e2
        rw [if_pos e2] at hF
        intro hx
        unfold updDone at hx
        split at hx
        · cases hx
        · rename_i hia
          exact hO _ _ _ (hT (fun e' => hia e'.symm)) (hF hx)
      · rename_i e2
        rw [if_neg e2] at hF
        split
        · rename_i e3
          rw [if_pos e3] at hF
          intro hx
          unfold updDone at hx
          split at hx
          · cases hx
          · rename_i hia
            exact hN _ _ _ (hT (fun e' => hia e'.symm)) (hF hx)
        · trivial
  · unfold ap1F at hF ⊢
    split
    · rename_i e
      subst e
      rw [if_pos rfl, hk] at hF
      exact hF
    · rename_i e
      rw [if_neg e] at hF
      split
      · rename_i e2
        subst e2
        rw [if_pos rfl, hk] at hF
        exact hF
      · rename_i e2
        rw [if_neg e2] at hF
        split
        · rename_i e3
          subst e3
          rw [if_pos rfl, hk] at hF
          exact hF
        · trivial
theorem NewRow.below {B : Nat} {E : TypeId} {m : Nat} {cs : Array Value} {v : Value} {w w' : World} (h : NewRow B E m cs v w) (hb : Below w.heap.size w w') : NewRow B E m cs v w' := h.keep fun b _ hl => hb.block b hl
end Go.Proofs.YtioeliocdbckbaaGreatDoor
namespace Go.Proofs.YtioeliocdbckbaaGreatDoor
open Go.RowKit

theorem infocRule : (Tryz.prog.info? 58).map (fun i => (i.zero, i.size, i.bytes)) = some (some (.agg #[.slice none 0 0, .int .i64 0]), 2, 32) := by kernel_rfl

end Go.Proofs.YtioeliocdbckbaaGreatDoor
namespace Go.Proofs.YtioeliocdbckbaaGreatDoor
open Go.RowKit

set_option maxRecDepth 100000 in
set_option maxHeartbeats 1000000 in
theorem cloneRule_any {α : Type} (R : α → List Value → Prop) (h1R : ∀ (y : α) (cs : List Value), R y cs → ∀ c ∈ cs, c.oneCell' = true) (v : Value) (xs : List α) (D : Nat → Prop) (w : World) (h : Sl w D 2 R v xs) (hn : xs.length * 32 ≤ 140737488355328) :
    Calls Tryz.prog 34 #[v] w fun e w' => ∃ v', e = .returned v' ∧ OwnSl w' w.heap.size 58 2 R v' xs ∧ Below w.heap.size w w' := by
  obtain ⟨i0, hi, hz0, hz1, hz2⟩ := info_parts infocRule
  have H := Lib.hid h
  obtain ⟨a, c, rfl, hlc, hcm, hnil, hat⟩ := h
  have Hi := Lib.hid hi
  clear hi
  cases a with
  | none =>
    have hc := hnil rfl
    subst hc
    have hx : xs = [] := List.length_eq_zero_iff.1 (by omega)
    subst hx
    have hq := fun (a : Option Addr) (n c : Nat) (W : World) => Lib.run_eql_slice_nil (P := Tryz.prog) W 22 58 a n c 0 0 Tryz.underlying22
    go_enter Tryz.func34, Tryz.ntmps34
    go_wp2
    go_ret
    exact ⟨_, rfl, OwnSl.nil, Below.refl _ _⟩
  | some ad =>
    have H2 := Lib.hid (H.out.belowR (bel_alloc (Below.refl _ w) (.cells #[] 58)) (fun _ _ _ h => h))
    have Hown : Hid (OwnSl (w.alloc (.cells #[] 58)) w.heap.size 58 2 R (.slice (some ⟨w.heap.size, 0, none⟩) 0 0) ([] : List α)) :=
      ⟨[], RowsOf.nil, by simp, .inr ⟨w.heap.size, 0, #[], rfl, Nat.le_refl _, heap_last _ _, by simp, by simp, by simp, by simp⟩⟩
    clear hat hnil
    have hq := fun (a : Option Addr) (n c : Nat) (W : World) => Lib.run_eql_slice_nil (P := Tryz.prog) W 22 58 a n c 0 0 Tryz.underlying22
    go_enter Tryz.func34, Tryz.ntmps34
    go_wp2_with (at_builtin; refine wpList_app rfl _ _ 22 rfl w.heap.size 58 i0 _ 2 32 Tryz.underlying22 Hi.out hz0 hz1 hz2 rfl (by decide) _ _ rfl Hown.out _ _ rfl H2.out (fun y _ cs h => h1R y cs h) (by show 0 + _ ≤ maxLen; unfold maxLen; omega) (by show (0 + _) * 32 ≤ _; omega) (by simp) ?_; intro v' w3 hown' hg)
    go_ret
    exact ⟨_, rfl, hown', Hown.out.grown (bel_alloc (Below.refl _ _) _) hg (by simp) (Nat.le_refl _)⟩
end Go.Proofs.YtioeliocdbckbaaGreatDoor
namespace Go.Proofs.YtioeliocdbckbaaGreatDoor

def condE (c : TCond) : Int :=
  if c.f < 0 ∨ 5 ≤ c.f then 5 else if c.op < 1 ∨ 4 < c.op then 4 else if c.v < 0 ∨ mostOf c.f < c.v then 3 else 0
def condsGo : List TCond → Int
  | [] => 0
  | c :: r => if condE c = 0 then condsGo r else condE c
def ruleE (r : TRule) : Int := if 10 < r.conds.length then 2 else if r.verdict < 0 ∨ 4 < r.verdict then 3 else condsGo r.conds
def rulesGo : List TRule → Int
  | [] => 0
  | x :: r => if ruleE x = 0 then rulesGo r else ruleE x
/-- chapter 2's Check. -/
def polE (p : TPol) : Int := if 120 < p.rules.length then 2 else if p.dflt < 0 ∨ 4 < p.dflt then 3 else rulesGo p.rules
theorem condsGo_drop (l : List TCond) (k : Nat) (h : k < l.length) : condsGo (l.drop k) = if condE l[k] = 0 then condsGo (l.drop (k+1)) else condE l[k] := by
  rw [List.drop_eq_getElem_cons h]; rfl
theorem rulesGo_drop (l : List TRule) (k : Nat) (h : k < l.length) : rulesGo (l.drop k) = if ruleE l[k] = 0 then rulesGo (l.drop (k+1)) else ruleE l[k] := by
  rw [List.drop_eq_getElem_cons h]; rfl

structure OkCond (c : TCond) : Prop where
  f0 : 0 ≤ c.f
  f1 : c.f < 5
  o0 : 1 ≤ c.op
  o1 : c.op ≤ 4
  v0 : 0 ≤ c.v
  v1 : c.v ≤ mostOf c.f
structure OkRule (r : TRule) : Prop where
  len : r.conds.length ≤ 10
  v0 : 0 ≤ r.verdict
  v1 : r.verdict ≤ 4
  conds : ∀ c ∈ r.conds, OkCond c
structure OkPol (p : TPol) : Prop where
  len : p.rules.length ≤ 120
  d0 : 0 ≤ p.dflt
  d1 : p.dflt ≤ 4
  rules : ∀ r ∈ p.rules, OkRule r
theorem okCond_iff (c : TCond) : condE c = 0 ↔ OkCond c := by
  unfold condE
  constructor
  · intro h
    split at h
    · simp at h
    · split at h
      · simp at h
      · split at h
        · simp at h
        · constructor <;> omega
  · rintro ⟨h1, h2, h3, h4, h5, h6⟩
    rw [if_neg (by omega), if_neg (by omega), if_neg (by omega)]
theorem okConds_iff : ∀ l : List TCond, condsGo l = 0 ↔ ∀ c ∈ l, OkCond c
  | [] => by simp [condsGo]
  | c :: r => by
    simp only [condsGo, List.mem_cons, forall_eq_or_imp]
    rw [← okConds_iff r, ← okCond_iff c]
    split
    · rename_i h; simp [h]
    · rename_i h; simp [h]
theorem okRule_iff (r : TRule) : ruleE r = 0 ↔ OkRule r := by
  unfold ruleE
  constructor
  · intro h
    split at h
    · simp at h
    · split at h
      · simp at h
      · exact ⟨by omega, by omega, by omega, (okConds_iff _).1 h⟩
  · rintro ⟨h1, h2, h3, h4⟩
    rw [if_neg (by omega), if_neg (by omega)]
    exact (okConds_iff _).2 h4
theorem okRules_iff : ∀ l : List TRule, rulesGo l = 0 ↔ ∀ c ∈ l, OkRule c
  | [] => by simp [rulesGo]
  | c :: r => by
    simp only [rulesGo, List.mem_cons, forall_eq_or_imp]
    rw [← okRules_iff r, ← okRule_iff c]
    split
    · rename_i h; simp [h]
    · rename_i h; simp [h]
theorem okPol_iff (p : TPol) : polE p = 0 ↔ OkPol p := by
  unfold polE
  constructor
  · intro h
    split at h
    · simp at h
    · split at h
      · simp at h
      · exact ⟨by omega, by omega, by omega, (okRules_iff _).1 h⟩
  · rintro ⟨h1, h2, h3, h4⟩
    rw [if_neg (by omega), if_neg (by omega)]
    exact (okRules_iff _).2 h4

/-- chapter 2: does a condition hold of a call? -/
def holdsB (c : TCond) (x : TCall) : Bool :=
  if c.op = 1 then x.get c.f == c.v else if c.op = 2 then x.get c.f != c.v else if c.op = 3 then decide (x.get c.f < c.v) else decide (c.v ≤ x.get c.f)
def allHold (x : TCall) (l : List TCond) : Bool := l.all fun c => holdsB c x
/-- the number of the first rule whose conditions all hold. -/
def which (x : TCall) : List TRule → Nat
  | [] => 0
  | r :: l => if allHold x r.conds then 0 else which x l + 1
def verdictAt (p : TPol) (k : Nat) : Int := match p.rules[k]? with
  | some r => r.verdict
  | none => p.dflt
def judged (p : TPol) (x : TCall) : Int × Nat := (verdictAt p (which x p.rules), which x p.rules)
/-- chapter 2's Judge, errors too. -/
def judgeE (p : TPol) (x : TCall) : Int × Int × Int := if polE p ≠ 0 then (0, 0, polE p) else if x.ok then ((judged p x).1, (judged p x).2, 0) else (0, 0, 3)
theorem which_le (x : TCall) : ∀ l : List TRule, which x l ≤ l.length
  | [] => Nat.le_refl _
  | r :: l => by
    have := which_le x l
    unfold which
    split
    · omega
    · simp; exact this
theorem which_drop (x : TCall) (l : List TRule) (k : Nat) (h : k < l.length) : which x (l.drop k) = if allHold x l[k].conds then 0 else which x (l.drop (k + 1)) + 1 := by
  rw [List.drop_eq_getElem_cons h]; rfl
end Go.Proofs.YtioeliocdbckbaaGreatDoor
namespace Go.Proofs.YtioeliocdbckbaaGreatDoor
open Go.RowKit

def condR (x : TCond) (cs : List Value) : Prop := cs = [.int .i64 x.f, .int .i64 x.op, .int .i64 x.v]
def RdConds (w : World) (D : Nat → Prop) (v : Value) (l : List TCond) : Prop := Sl w D 3 condR v l
theorem RdConds.keep {w w' : World} {D D' : Nat → Prop} {v : Value} {l : List TCond} (h : RdConds w D v l) (hD : ∀ b, D b → b < w.heap.size → D' b)
    (hw : ∀ b, D b → b < w.heap.size → w'.heap[b]? = w.heap[b]?) (hs : w.heap.size ≤ w'.heap.size) : RdConds w' D' v l := Sl.mono h hD hw hs (fun _ _ _ h => h)
theorem RdConds.below {w w' : World} {D : Nat → Prop} {v : Value} {l : List TCond} (h : RdConds w D v l) (hb : Below w.heap.size w w') : RdConds w' D v l :=
  h.keep (fun _ h _ => h) (fun b _ hlt => hb.block b hlt) hb.size
theorem RdConds.cells {w : World} {D : Nat → Prop} {b o n c : Nat} {s : Option Nat} {l : List TCond} (h : RdConds w D (.slice (some ⟨b, o, s⟩) n c) l) {i : Nat} (hi : i < l.length) :
    w.cell? ⟨b, o + i * 3, none⟩ = some (.int .i64 l[i].f) ∧ w.cell? ⟨b, o + i * 3 + 1, none⟩ = some (.int .i64 l[i].op) ∧ w.cell? ⟨b, o + i * 3 + 2, none⟩ = some (.int .i64 l[i].v) := by
  obtain ⟨cs, hcs, hr, hcell⟩ := Sl.get h hi
  unfold condR at hr
  subst hr
  exact ⟨hcell 0 _ rfl, hcell 1 _ rfl, hcell 2 _ rfl⟩

def ruleR (w : World) (D : Nat → Prop) (r : TRule) (cs : List Value) : Prop := ∃ v, cs = [v, .int .i64 r.verdict] ∧ RdConds w D v r.conds
def RdRules (w : World) (D : Nat → Prop) (v : Value) (l : List TRule) : Prop := Sl w D 2 (ruleR w D) v l
theorem RdRules.keep {w w' : World} {D D' : Nat → Prop} {v : Value} {l : List TRule} (h : RdRules w D v l) (hD : ∀ b, D b → b < w.heap.size → D' b)
    (hw : ∀ b, D b → b < w.heap.size → w'.heap[b]? = w.heap[b]?) (hs : w.heap.size ≤ w'.heap.size) : RdRules w' D' v l :=
  Sl.mono h hD hw hs (fun _ _ _ ⟨u, h1, h2⟩ => ⟨u, h1, h2.keep hD hw hs⟩)
theorem RdRules.below {w w' : World} {D : Nat → Prop} {v : Value} {l : List TRule} (h : RdRules w D v l) (hb : Below w.heap.size w w') : RdRules w' D v l :=
  h.keep (fun _ h _ => h) (fun b _ hlt => hb.block b hlt) hb.size
theorem RdRules.cells {w : World} {D : Nat → Prop} {b o n c : Nat} {s : Option Nat} {l : List TRule} (h : RdRules w D (.slice (some ⟨b, o, s⟩) n c) l) {i : Nat} (hi : i < l.length) :
    ∃ (a' : Option Addr) (c' : Nat), w.cell? ⟨b, o + i * 2, none⟩ = some (.slice a' l[i].conds.length c') ∧ w.cell? ⟨b, o + i * 2 + 1, none⟩ = some (.int .i64 l[i].verdict) ∧ RdConds w D (.slice a' l[i].conds.length c') l[i].conds ∧
      l[i].conds.length ≤ c' ∧ c' ≤ 9223372036854775807 ∧ (0 < l[i].conds.length → ∃ b o, a' = some ⟨b, o, none⟩ ∧ D b ∧ b < w.heap.size) := by
  obtain ⟨cs, hcs, ⟨u, hu, hr⟩, hcell⟩ := Sl.get h hi
  obtain ⟨a', c', hv, h1, h2, h3⟩ := Sl.form hr
  subst hu hv
  exact ⟨a', c', hcell 0 _ rfl, hcell 1 _ rfl, hr, h1, h2, h3⟩
/-- a policy as a value. -/
@[reducible] def polV (v : Value) (d : Int) : Value := .agg #[v, .int .i64 d]
def polR (w : World) (D : Nat → Prop) (p : TPol) (cs : List Value) : Prop := ∃ v, cs = [v, .int .i64 p.dflt] ∧ RdRules w D v p.rules
def RdPols (w : World) (D : Nat → Prop) (v : Value) (l : List TPol) : Prop := Sl w D 2 (polR w D) v l
theorem RdPols.below {w w' : World} {D : Nat → Prop} {v : Value} {l : List TPol} (h : RdPols w D v l) (hb : Below w.heap.size w w') : RdPols w' D v l :=
  Sl.mono h (fun _ h _ => h) (fun b _ hlt => hb.block b hlt) hb.size (fun _ _ _ ⟨u, h1, h2⟩ => ⟨u, h1, h2.below hb⟩)
end Go.Proofs.YtioeliocdbckbaaGreatDoor
namespace Go.Proofs.YtioeliocdbckbaaGreatDoor
open Go.RowKit

theorem ruleR_one {w : World} {D : Nat → Prop} (y : TRule) (cs : List Value) (h : ruleR w D y cs) : ∀ c ∈ cs, c.oneCell' = true := by
  obtain ⟨v, rfl, h⟩ := h
  obtain ⟨a, c, rfl, _⟩ := Sl.form h
  intro u hu
  simp at hu
  rcases hu with rfl | rfl <;> rfl
theorem rules_of {w W : World} {D : Nat → Prop} {v : Value} {l : List TRule} (h : Sl W D 2 (ruleR w (fun _ => True)) v l) (hb : Below w.heap.size w W) : RdRules W (fun _ => True) v l :=
  Sl.mono h (fun _ _ _ => trivial) (fun _ _ _ => rfl) (Nat.le_refl _) (fun _ _ _ ⟨u, h1, h2⟩ => ⟨u, h1, h2.below hb⟩)
theorem rules_true {w : World} {D : Nat → Prop} {v : Value} {l : List TRule} (h : RdRules w D v l) : RdRules w (fun _ => True) v l := h.keep (fun _ _ _ => trivial) (fun _ _ _ => rfl) (Nat.le_refl _)
theorem OwnSl.app1 {α : Type} {w : World} {base n : Nat} {e : TypeId} {sz : Nat} {R : α → List Value → Prop} {v : Value} {xs : List α} {rows : List (List Value)} {y : α} {r : List Value} (hr : RowsOf sz R xs rows) (hy : R y r) (hl : r.length = sz) (h : w.ownsRow base e sz v n (rows.flatten ++ r)) (hn : n = xs.length + 1) : OwnSl w base e sz R v (xs ++ [y]) := by
  subst hn
  refine ⟨rows ++ [r], hr.app (RowsOf.cons (x := y) (r := r) RowsOf.nil hy hl), ?_⟩
  simpa using h
end Go.Proofs.YtioeliocdbckbaaGreatDoor
namespace Go.Proofs.YtioeliocdbckbaaGreatDoor
open Go.RowKit

/-- a block that holds no policy. -/
def NotPol (W : World) (b : Nat) : Prop := ∀ cs fr, W.heap[b]? ≠ some (.cells cs 24 fr)
theorem NotPol.keep {w w' : World} {b : Nat} (h : NotPol w b) (e : w'.heap[b]? = w.heap[b]?) : NotPol w' b := fun cs fr => by rw [e]; exact h cs fr
/-- blocks from B on, but a slice's own one. -/
def ButP (W : World) (B : Nat) (pv : Value) (b : Nat) : Prop := B ≤ b ∧ pv.ownBlock ≠ some b ∧ NotPol W b
/-- an own slice reads from blocks of its type. -/
theorem OwnSl.typedSl {α : Type} {w : World} {base : Nat} {e : TypeId} {sz : Nat} {R : α → List Value → Prop} {v : Value} {xs : List α} (h : OwnSl w base e sz R v xs) (he : e ≠ 24) : Sl w (fun b => base ≤ b ∧ NotPol w b) sz R v xs := by
  have hs : Sl w (fun b => base ≤ b) sz R v xs := h.sl fun _ h => h
  by_cases h0 : 0 < xs.length
  · obtain ⟨a, c, rfl⟩ := h.slice
    obtain ⟨b, rfl, hb, hlt, cur, hcur⟩ := h.addr h0
    obtain ⟨a', c', hv, hl, hm, hn, hat⟩ := hs
    refine ⟨a', c', hv, hl, hm, hn, fun h1 => ?_⟩
    obtain ⟨b', o, ha, hD, hlt', hr⟩ := hat h1
    injection hv with hv _ _
    rw [ha] at hv
    injection hv with hv
    injection hv with hv _ _
    subst hv
    refine ⟨b, o, ha, ⟨hD, fun cs fr e' => ?_⟩, hlt', hr⟩
    rw [hcur] at e'
    injection e' with e'
    injection e' with _ e' _
    exact he e'
  · obtain ⟨a', c', hv, hl, hm, hn, hat⟩ := hs
    exact ⟨a', c', hv, hl, hm, hn, fun h1 => absurd h1 h0⟩
theorem ruleT_np : 58 ≠ 24 := by decide
theorem condT_np : 84 ≠ 24 := by decide
/-- the world wi, as the box β gathers the rules rs; wB: the world from which on that is told; pv0: the box's slice there. -/
structure GatherI (B β : Nat) (d : Value) (wB : World) (pv0 : Value) (wi : World) (pv : Value) (rs : List TRule) : Prop where
  os : wi.os = wB.os
  tape : wi.tape = wB.tape
  output : wi.output = wB.output
  size : wB.heap.size ≤ wi.heap.size
  blk : ∀ b, b < wB.heap.size → b ≠ β → some b ≠ pv0.ownBlock → wi.heap[b]? = wB.heap[b]?
  box : wi.heap[β]? = some (.cells #[pv, d] 24)
  own : OwnSl wi B 58 2 (ruleR wi (ButP wi B pv)) pv rs
  hob : pv.ownBlock = pv0.ownBlock ∨ ∀ g, pv.ownBlock = some g → wB.heap.size ≤ g
section
variable {B β : Nat} {d : Value} {wA wB wi W : World} {pvA pv0 pv : Value} {rs rs' : List TRule}
theorem GatherI.start (hbox : wB.heap[β]? = some (.cells #[pv0, d] 24)) (hown : OwnSl wB B 58 2 (ruleR wB (ButP wB B pv0)) pv0 rs) : GatherI B β d wB pv0 wB pv0 rs := ⟨rfl, rfl, rfl, Nat.le_refl _, fun _ _ _ _ => rfl, hbox, hown, .inl rfl⟩
theorem GatherI.below (h : GatherI B β d wB pv0 wi pv rs) (hb : Below wi.heap.size wi W) : GatherI B β d wB pv0 W pv rs where
  os := hb.os.trans h.os
  tape := hb.tape.trans h.tape
  output := hb.output.trans h.output
  size := Nat.le_trans h.size hb.size
  blk := fun b hl hn ho => (hb.block b (Nat.lt_of_lt_of_le hl h.size)).trans (h.blk b hl hn ho)
  box := blk_below h.box hb
  own := (h.own.below hb).monoR fun _ _ _ ⟨v, h1, h2⟩ => ⟨v, h1, h2.keep (fun b hb' hl => ⟨hb'.1, hb'.2.1, hb'.2.2.keep (hb.block b hl)⟩) (fun b _ hl => hb.block b hl) hb.size⟩
  hob := h.hob
theorem GatherI.trans (h : GatherI B β d wA pvA wB pv0 rs) (h' : GatherI B β d wB pv0 wi pv rs') : GatherI B β d wA pvA wi pv rs' where
  os := h'.os.trans h.os
  tape := h'.tape.trans h.tape
  output := h'.output.trans h.output
  size := Nat.le_trans h.size h'.size
  blk := fun b hl hn ho => (h'.blk b (Nat.lt_of_lt_of_le hl h.size) hn (fun e => by
    rcases h.hob with e' | e'
    · exact ho (e.trans e')
    · have := e' b e.symm; omega)).trans (h.blk b hl hn ho)
  box := h'.box
  own := h'.own
  hob := by
    rcases h'.hob with e | e
    · rcases h.hob with e' | e'
      · exact .inl (e.trans e')
      · exact .inr fun g hg => e' g (e.symm.trans hg)
    · exact .inr fun g hg => Nat.le_trans h.size (e g hg)
theorem GatherI.belowB {C : Nat} {w : World} (h : GatherI B β d wB pv0 wi pv rs) (hb : Below C w wB) (hC : C ≤ wB.heap.size) (hβ : C ≤ β) (h0 : ∀ g, pv0.ownBlock = some g → C ≤ g) : Below C w wi :=
  hb.trans ⟨h.os, h.tape, h.output, h.size, fun b hl => h.blk b (by omega) (by omega) (fun e => by have := h0 b e.symm; omega)⟩
theorem GatherI.rules (h : GatherI B β d wB pv0 wi pv rs) : RdRules wi (fun b => B ≤ b ∧ NotPol wi b) pv rs :=
  (h.own.monoR fun _ _ _ ⟨v, h1, h2⟩ => ⟨v, h1, h2.keep (fun _ hb _ => ⟨hb.1, hb.2.2⟩) (fun _ _ _ => rfl) (Nat.le_refl _)⟩).typedSl ruleT_np
/-- conds in a row of one's own, apart from another one's row. -/
theorem conds_but {w : World} {B C : Nat} {v pv : Value} {cs : List TCond} {E : TypeId} {n : Nat} {cells : List Value} (h : OwnSl w C 84 3 condR v cs) (hB : B ≤ C) (ho : w.ownsRow B E 2 pv n cells) (hE : E ≠ 84) : RdConds w (ButP w B pv) v cs := by
  have hs : RdConds w (fun b => C ≤ b ∧ NotPol w b) v cs := h.typedSl condT_np
  by_cases h0 : 0 < cs.length
  · obtain ⟨a, c, rfl⟩ := h.slice
    obtain ⟨b, rfl, hb, hlt, cur, hcur⟩ := h.addr h0
    have hs2 := hs
    obtain ⟨a', c', hv, hl, hm, hn, hat⟩ := hs2
    refine ⟨a', c', hv, hl, hm, hn, fun h1 => ?_⟩
    obtain ⟨b', o, ha, hD, hlt', hr⟩ := hat h1
    refine ⟨b', o, ha, ⟨Nat.le_trans hB hD.1, fun e => ?_, hD.2⟩, hlt', hr⟩
    injection hv with hv _ _
    rw [ha] at hv
    injection hv with hv
    injection hv with hv _ _
    subst hv
    rcases ho.2 with ⟨hp, _⟩ | ⟨g, cap, cur', hp, _, hh, _⟩
    · subst hp; simp [Value.ownBlock] at e
    · subst hp
      simp [Value.ownBlock] at e
      subst e
      rw [hcur] at hh
      injection hh with hh
      injection hh with _ hh _
      exact hE hh.symm
  · obtain ⟨a', c', hv, hl, hm, hn, hat⟩ := hs
    exact ⟨a', c', hv, hl, hm, hn, fun h1 => absurd h1 h0⟩
/-- one rule more. -/
theorem GatherI.step {w0 : World} {pv' cv : Value} {cs : List TCond} {vd : Int} {rows : List (List Value)} {ia is : Nat} {done : Nat → Bool} {cells : List Value} (h : GatherI B β d wB pv0 wi pv rs) (hb : Below wi.heap.size wi w0) (hβ : β < B) (hB : B ≤ w0.heap.size)
    (hI : ApInv w0 β 24 #[pv, d] B 58 2 pv rs.length cells ia is done W) (hro : RowsOf 2 (ruleR wi (ButP wi B pv)) rs rows)
    (hrow : W.ownsRow B 58 2 pv' (rs.length + 1) (rows.flatten ++ [cv, .int .i64 vd])) (hat : pv'.ownBlock = pv.ownBlock ∨ ∀ g, pv'.ownBlock = some g → w0.heap.size ≤ g)
    (hbox : W.heap[β]? = some (.cells (#[pv, d].setIfInBounds 0 pv') 24)) (hcv : OwnSl W w0.heap.size 84 3 condR cv cs) (hT : 58 ≠ 84) : GatherI B β d wB pv0 W pv' (rs ++ [⟨cs, vd⟩]) where
  os := hI.os.trans (hb.os.trans h.os)
  tape := hI.tape.trans (hb.tape.trans h.tape)
  output := hI.output.trans (hb.output.trans h.output)
  size := Nat.le_trans (Nat.le_trans h.size hb.size) hI.size
  blk := fun b hl hn ho => by
    have h1 : b < wi.heap.size := Nat.lt_of_lt_of_le hl h.size
    rw [hI.blk b (Nat.lt_of_lt_of_le h1 hb.size) hn (fun e => by
      rcases h.hob with e' | e'
      · exact ho (e.trans e')
      · have := e' b e.symm; omega), hb.block b h1]
    exact h.blk b hl hn ho
  box := by simpa using hbox
  own := by
    refine OwnSl.app1 (rows := rows) (r := [cv, .int .i64 vd]) (hro.mono fun x _ c hx => ?_) ⟨cv, rfl, conds_but hcv hB hrow hT⟩ rfl hrow rfl
    obtain ⟨v, e1, e2⟩ := hx
    have hsame : ∀ b, ButP wi B pv b → b < wi.heap.size → W.heap[b]? = wi.heap[b]? := fun b hb' hlt => by
      rw [hI.blk b (Nat.lt_of_lt_of_le hlt hb.size) (by have := hb'.1; omega) (fun e => hb'.2.1 e.symm)]
      exact hb.block b hlt
    exact ⟨v, e1, e2.keep (fun b hb' hlt => ⟨hb'.1, fun e => by
      rcases hat with h' | h'
      · exact hb'.2.1 (h'.symm.trans e)
      · have := h' b e; have := hb.size; omega, hb'.2.2.keep (hsame b hb' hlt)⟩) hsame (Nat.le_trans hb.size hI.size)⟩
  hob := by
    have hs := h.size
    have hs' := hb.size
    rcases hat with e | e
    · rcases h.hob with e' | e'
      · exact .inl (e.trans e')
      · exact .inr fun g hg => e' g (e.symm.trans hg)
    · exact .inr fun g hg => by have := e g hg; omega
end
/-- rules that are a call's own, told apart from a box. -/
theorem rules_ne {w W : World} {B β : Nat} {D : Nat → Prop} {v : Value} {l : List TRule} (h : OwnSl W B 58 2 (ruleR w D) v l) (hb : Below w.heap.size w W) (h1 : β < B) (h2 : ∀ b, D b → b ≠ β) : RdRules W (fun b => b ≠ β) v l :=
  (h.monoR fun _ _ _ ⟨u, e1, e2⟩ => ⟨u, e1, e2.keep (fun b hd _ => h2 b hd) (fun b _ hlt => hb.block b hlt) hb.size⟩).sl fun b hb' => by omega
theorem rules_lt {w : World} {v : Value} {l : List TRule} (h : RdRules w (fun _ => True) v l) : RdRules w (fun b => b < w.heap.size) v l := h.keep (fun _ _ hlt => hlt) (fun _ _ _ => rfl) (Nat.le_refl _)
end Go.Proofs.YtioeliocdbckbaaGreatDoor
