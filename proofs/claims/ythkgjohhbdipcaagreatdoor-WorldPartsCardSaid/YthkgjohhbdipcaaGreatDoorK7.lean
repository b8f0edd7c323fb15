/- Texts laid one behind the other: CloneByte, RelV, AppR, ByteRows, DPut, DSync. No condition beyond theirs. -/
import Derived.Test.YthkgjohhbdipcaaGreatDoorK6
import Derived.Test.YthkgjohhbdipcaaGreatDoorK2
import Derived.Test.YthkgjohhbdipcaaGreatDoorK4
import Derived.Test.YthkgjohhbdipcaaGreatDoorK5
import Derived.Lib.AppendStr
import Derived.Test.YthkgjohhbdipcaaGreatDoorK1
set_option linter.all false
namespace Go.Proofs.YthkgjohhbdipcaaGreatDoor
open Go.RowKit
set_option maxRecDepth 100000 in
set_option maxHeartbeats 1000000 in
theorem cloneByte_any {α : Type} (R : α → List Value → Prop) (h1R : ∀ (y : α) (cs : List Value),R y cs → ∀ c ∈ cs,c.oneCell' = true) (v : Value) (xs : List α) (D : Nat → Prop) (w : World) (h : Sl w D 1 R v xs) (hn : xs.length * 1≤140737488355328) :
  Calls Tryz.prog 80 #[v] w fun e w'=>∃ v',e = .returned v'∧OwnSl w' w.heap.size 5 1 R v' xs∧Below w.heap.size w w':=by
 obtain ⟨i0,hi,hz0,hz1,hz2⟩:=info_parts infoByte
 have H:=Lib.hid h
 obtain ⟨a,c,rfl,hlc,hcm,hnil,hat⟩:=h
 have Hi:=Lib.hid hi
 clear hi
 cases a with
 | none =>
  have hc:=hnil rfl
  subst hc
  have hx : xs = []:=List.length_eq_zero_iff.1 (by omega)
  subst hx
  have hq:=fun (a : Option Addr) (n c : Nat) (W : World)=>Lib.run_eql_slice_nil (P:=Tryz.prog) W 23 5 a n c 0 0 Tryz.underlying23
  go_enter Tryz.func80,Tryz.ntmps80
  go_wp2
  go_ret
  exact ⟨_,rfl,OwnSl.nil,Below.refl _ _⟩
 | some ad =>
  have H2:=Lib.hid (H.out.belowR (bel_alloc (Below.refl _ w) (.cells #[] 5)) (fun _ _ _ h=>h))
  have Hown : Hid (OwnSl (w.alloc (.cells #[] 5)) w.heap.size 5 1 R (.slice (some ⟨w.heap.size,0,none⟩) 0 0) ([] : List α)) :=
   ⟨[],RowsOf.nil,by simp,.inr ⟨w.heap.size,0,#[],rfl,Nat.le_refl _,heap_last _ _,by simp,by simp,by simp,by simp⟩⟩
  clear hat hnil
  have hq:=fun (a : Option Addr) (n c : Nat) (W : World)=>Lib.run_eql_slice_nil (P:=Tryz.prog) W 23 5 a n c 0 0 Tryz.underlying23
  go_enter Tryz.func80,Tryz.ntmps80
  go_wp2_with (at_builtin;refine wpList_app rfl _ _ 23 rfl w.heap.size 5 i0 _ 1 1 Tryz.underlying23 Hi.out hz0 hz1 hz2 rfl (by decide) _ _ rfl Hown.out _ _ rfl H2.out (fun y _ cs h=>h1R y cs h) (by show 0 + _≤maxLen;unfold maxLen;omega) (by show (0 + _) * 1≤_;omega) (by simp) ?_;intro v' w3 hown' hg)
  go_ret
  exact ⟨_,rfl,hown',Hown.out.grown (bel_alloc (Below.refl _ _) _) hg (by simp) (Nat.le_refl _)⟩
end Go.Proofs.YthkgjohhbdipcaaGreatDoor
namespace Go.Proofs.YthkgjohhbdipcaaGreatDoor.RV
open Go.RowKit
section
variable (P : Program) (ops : Array Oper) (Inv : (Nat → Bool) → (Nat → Value) → World → Prop) (T : Nat → (Nat → Value) → World → World → Prop) (F : Nat → (Nat → Bool) → (Nat → Value) → World → Prop) (bs : List (List Nat)) (Q : Act → World → Prop) (n : Nat)
def relOb (i : Nat) (o : Oper) (av : (Nat → Value) → Act) (E : (Nat → Value) → Value → Prop) : Prop :=
 ∀ (done : Nat → Bool) (vf : Nat → Value) (w : World),Inv done vf w → done i = false → (∀ k ∈ (prune o).after.toList.map (fun e=>e.on),done k = true) → (∀ k : Nat,i ∈ bs.getD k [] → done k = false) → (∀ k,done k = true → F k done vf w) →
  ∀ R : Value → World → Prop,(∀ (v : Value) (w' : World),Inv (updDone done i) (updVal vf i v) w' → T i vf w w' → E vf v → F i (updDone done i) (updVal vf i v) w' → R v w') → if Region.wanted o (yielded ops (av vf).tmps) then gives P o (av vf) w R else R undef w
def relWalk : List Oper → Nat → ((Nat → Value) → Act) → Prop
 | [],_,av=>∀ (done : Nat → Bool) (vf : Nat → Value) (w : World),(∀ k,k < n → done k = true) → Inv done vf w → (∀ k,k < n → F k done vf w) → Q (av vf) w
 | o :: l,i,av=>(∃ X : (Nat → Value) → Value,Proper bs i X∧relOb P ops Inv T F bs i o av (fun vf v=>v = X vf)∧relWalk l (i + 1) (fun vf=>(av vf).put o.dst (X vf))) ∨
   (relOb P ops Inv T F bs i o av (fun _ _=>True)∧relWalk l (i + 1) (fun vf=>(av vf).put o.dst (vf i)))
end
section
variable {P : Program} {ops : Array Oper} {Inv : (Nat → Bool) → (Nat → Value) → World → Prop} {T : Nat → (Nat → Value) → World → World → Prop} {F : Nat → (Nat → Bool) → (Nat → Value) → World → Prop} {bs : List (List Nat)} {Q : Act → World → Prop} {n : Nat} {o : Oper} {l : List Oper} {i : Nat} {av : (Nat → Value) → Act}
theorem rel_ex (h : ∀ K : ((Nat → Value) → Act) → Prop,(∀ a',relWalk P ops Inv T F bs Q n l (i + 1) a' → K a') → ∃ X : (Nat → Value) → Value,relOb P ops Inv T F bs i o av (fun vf v=>v = X vf)∧Proper bs i X∧K (fun vf=>(av vf).put o.dst (X vf))) : relWalk P ops Inv T F bs Q n (o :: l) i av:=by
 obtain ⟨X,h1,h2,h3⟩:=h _ (fun _ h=>h)
 exact .inl ⟨X,h2,h1,h3⟩
theorem rel_pr (h : ∀ K : ((Nat → Value) → Act) → Prop,(∀ a',relWalk P ops Inv T F bs Q n l (i + 1) a' → K a') → relOb P ops Inv T F bs i o av (fun _ _=>True)∧K (fun vf=>(av vf).put o.dst (vf i))) : relWalk P ops Inv T F bs Q n (o :: l) i av:=by
 exact .inr (h _ (fun _ h=>h))
end
section
variable {P : Program} {ops : Array Oper} {Inv : (Nat → Bool) → (Nat → Value) → World → Prop} {T : Nat → (Nat → Value) → World → World → Prop} {F : Nat → (Nat → Bool) → (Nat → Value) → World → Prop} {bs : List (List Nat)} {Q : Act → World → Prop} {n : Nat}
theorem rel_ext : ∀ (l : List Oper) (i : Nat) (av : (Nat → Value) → Act),relWalk P ops Inv T F bs Q n l i av → ∃ Xs : Nat → Option ((Nat → Value) → Value),
  (∀ k X,Xs k = some X → Proper bs k X)∧(∀ j o,l[j]? = some o → relOb P ops Inv T F bs (i + j) o (fun vf=>lexAct (valsOf Xs vf) (l.take j) i (av vf)) (exOf (Xs (i + j)))) ∧
  (∀ (done : Nat → Bool) (vf : Nat → Value) (w : World),(∀ k,k < n → done k = true) → Inv done vf w → (∀ k,k < n → F k done vf w) → Q (lexAct (valsOf Xs vf) l i (av vf)) w)
 | [],i,av,h=>⟨fun _=>none,(fun _ _ h=>by cases h),(fun j o hj=>by simp at hj),h⟩
 | o :: l,i,av,h=>by
  have main : ∀ (X0 : Option ((Nat → Value) → Value)),(∀ X,X0 = some X → Proper bs i X) → relOb P ops Inv T F bs i o av (exOf X0) →
    (∃ Xs : Nat → Option ((Nat → Value) → Value),(∀ k X,Xs k = some X → Proper bs k X)∧(∀ j o',l[j]? = some o' → relOb P ops Inv T F bs (i + 1 + j) o' (fun vf=>lexAct (valsOf Xs vf) (l.take j) (i + 1) ((av vf).put o.dst (valOr X0 vf i))) (exOf (Xs (i + 1 + j)))) ∧
     (∀ (done : Nat → Bool) (vf : Nat → Value) (w : World),(∀ k,k < n → done k = true) → Inv done vf w → (∀ k,k < n → F k done vf w) → Q (lexAct (valsOf Xs vf) l (i + 1) ((av vf).put o.dst (valOr X0 vf i))) w)) →
    ∃ Xs : Nat → Option ((Nat → Value) → Value),(∀ k X,Xs k = some X → Proper bs k X)∧(∀ j o',(o :: l)[j]? = some o' → relOb P ops Inv T F bs (i + j) o' (fun vf=>lexAct (valsOf Xs vf) ((o :: l).take j) i (av vf)) (exOf (Xs (i + j)))) ∧
     (∀ (done : Nat → Bool) (vf : Nat → Value) (w : World),(∀ k,k < n → done k = true) → Inv done vf w → (∀ k,k < n → F k done vf w) → Q (lexAct (valsOf Xs vf) (o :: l) i (av vf)) w):=by
   rintro X0 hp0 hob ⟨Xs,hp,hobs,hend⟩
   let Ys : Nat → Option ((Nat → Value) → Value):=fun k=>if k = i then X0 else Xs k
   have yi : Ys i = X0:=if_pos rfl
   have yk : ∀ k,i + 1≤k → Ys k = Xs k:=fun k hk=>if_neg (by omega)
   have hv : ∀ vf,valsOf Ys vf i = (valOr X0 vf i):=fun vf=>by unfold valsOf;rw [yi]
   have hc : ∀ (m : List Oper) (vf : Nat → Value) (a : Act),lexAct (valsOf Ys vf) m (i + 1) a = lexAct (valsOf Xs vf) m (i + 1) a:=fun m vf a=>lexAct_congr m (i + 1) a fun k hk=>by unfold valsOf;rw [yk k hk]
   refine ⟨Ys,fun k X hk=>?_,fun j o' hj=>?_,fun done vf w hd hI hF=>?_⟩
   ·by_cases e : k = i
    ·subst e;rw [yi] at hk;exact hp0 X hk
    ·have : Ys k = Xs k:=if_neg e
     rw [this] at hk;exact hp k X hk
   ·cases j with
    | zero =>
     simp only [List.getElem?_cons_zero,Option.some.injEq] at hj
     subst hj
     rw [Nat.add_zero,yi]
     exact hob
    | succ j =>
     have:=hobs j o' (by simpa using hj)
     rw [show i + (j + 1) = i + 1 + j by omega,yk _ (by omega)]
     refine (congrArg (fun a=>relOb P ops Inv T F bs (i + 1 + j) o' a (exOf (Xs (i + 1 + j)))) ?_).mp this
     funext vf
     simp only [List.take_succ_cons,lexAct,hv]
     exact (hc _ _ _).symm
   ·simp only [lexAct,hv]
    rw [hc]
    exact hend done vf w hd hI hF
  rcases h with ⟨X,hp,hob,hw⟩ | ⟨hob,hw⟩
  ·exact main (some X) (fun Y e=>by injection e with e;subst e;exact hp) (fun done vf w h1 h2 h3 h4 h5 R hR=>hob done vf w h1 h2 h3 h4 h5 R fun v w' a b c d=>hR v w' a b (fun Y e=>by injection e with e;subst e;exact c) d) (rel_ext l (i + 1) _ hw)
  ·exact main none (fun Y e=>by cases e) (fun done vf w h1 h2 h3 h4 h5 R hR=>hob done vf w h1 h2 h3 h4 h5 R fun v w' a b _ d=>hR v w' a b (fun Y e=>by cases e) d) (rel_ext l (i + 1) _ hw)
end
structure RelInv (l : List Oper) (Xs : Nat → Option ((Nat → Value) → Value)) (Inv : (Nat → Bool) → (Nat → Value) → World → Prop) (F : Nat → (Nat → Bool) → (Nat → Value) → World → Prop) (a : Act) (vf : Nat → Value) (listed : Array Bool) (a' : Act) (w' : World) : Prop where
 cls : Inv (fun k=>listed[k]? == some true) vf w'
 down : ∀ (j : Nat) (o : Oper),l[j]? = some o → listed[j]? = some true → ∀ e ∈ o.after,listed[e.on]? = some true
 lsize : listed.size = l.length
 defers : a'.defers = a.defers
 size : a'.tmps.size = a.tmps.size
 vals : ∀ j,listed[j]? = some true → vf j = valsOf Xs vf j
 facts : ∀ j,listed[j]? = some true → F j (fun k=>listed[k]? == some true) vf w'
 slots : ∀ (j : Nat) (o : Oper),l[j]? = some o → listed[j]? = some true → ∀ d,o.dst = some d → a'.tmps[d]? = some (vf j)
 rest : ∀ t,(∀ (j : Nat) (o : Oper),l[j]? = some o → listed[j]? = some true → o.dst ≠ some t) → a'.tmps[t]? = a.tmps[t]?
section
variable {P : Program} {l : List Oper} {Inv : (Nat → Bool) → (Nat → Value) → World → Prop} {T : Nat → (Nat → Value) → World → World → Prop} {F : Nat → (Nat → Bool) → (Nat → Value) → World → Prop} {Q : Exit → Act → World → Prop} {a : Act}
theorem wpAny_rel (hB : monoB2 l a.tmps.size = true) (hpr : ∀ o ∈ l,prune o = o)
  (hst : ∀ (i : Nat) (done : Nat → Bool) (vf : Nat → Value) (w w' : World),Inv done vf w → done i = false → (∀ m ∈ (befores l []).getD i [],done m = true) → (∀ m,done m = true → F m done vf w) → T i vf w w' → ∀ k,done k = true → F k (updDone done i) vf w')
  (hF : ∀ (k : Nat) (done : Nat → Bool) (f g : Nat → Value) (w : World),(∀ m ∈ (befores l []).getD k [],f m = g m) → f k = g k → F k done f w → F k done g w)
  (h : relWalk P l.toArray Inv T F (befores l []) (Q .normal) l.length l 0 (fun _=>a)) :
  ∃ Xs,∀ (fuel : Nat) (listed : Array Bool) (vf : Nat → Value) (a' : Act) (w' : World),(undone listed l.length).length≤fuel → RelInv l Xs Inv F a vf listed a' w' → wpAny P .any l.toArray Q fuel listed a' w':=by
 obtain ⟨Xs,hpX,hobs,hend⟩:=rel_ext l 0 _ h
 refine ⟨Xs,?_⟩
 have hS:=fun {i : Nat} {o : Oper} (hi : l[i]? = some o)=>monoB2_spec hB hi
 have fin : ∀ (listed : Array Bool) (vf : Nat → Value) (a' : Act) (w' : World),(∀ j,j < l.length → listed[j]? = some true) → RelInv l Xs Inv F a vf listed a' w' → Q .normal a' w':=by
  intro listed vf a' w' hall hI
  have hq:=hend _ vf w' (fun k hk=>by simp [hall k hk]) hI.cls (fun k hk=>hI.facts k (hall k hk))
  have ea : a' = lexAct (valsOf Xs vf) l 0 a:=by
   obtain ⟨hz,hd⟩:=lexAct_size (valsOf Xs vf) l 0 a
   have ht : a'.tmps = (lexAct (valsOf Xs vf) l 0 a).tmps:=by
    apply Array.ext_getElem?
    intro t
    by_cases hex : ∃ (j : Nat) (o : Oper),l[j]? = some o∧o.dst = some t
    ·obtain ⟨j,o,hj,hdt⟩:=hex
     have hjl:=(List.getElem?_eq_some_iff.1 hj).1
     obtain ⟨hlt,huniq⟩:=(hS hj).2.2.2 t hdt
     rw [lexAct_same _ l 0 a j o hj hdt huniq hlt,Nat.zero_add,← hI.vals j (hall j hjl)]
     exact hI.slots j o hj (hall j hjl) t hdt
    ·have hn : ∀ (j : Nat) (o : Oper),l[j]? = some o → o.dst ≠ some t:=fun j o hj e=>hex ⟨j,o,hj,e⟩
     rw [lexAct_other _ l 0 a (fun o ho=>by obtain ⟨j,hj⟩:=List.getElem?_of_mem ho;exact hn j o hj)]
     exact hI.rest t (fun j o hj _=>hn j o hj)
   cases a';cases hx : lexAct (valsOf Xs vf) l 0 a
   rw [hx] at ht hd
   have:=hI.defers
   simp_all
  rw [ea];exact hq
 have allIf : ∀ (listed : Array Bool),listed.size = l.length → Region.ready .any l.toArray listed = [] → ∀ j,j < l.length → listed[j]? = some true:=by
  intro listed hsz hr j
  induction j using Nat.strongRecOn with
  | ind j ih =>
   intro hj
   have hsome : listed[j]? = some listed[j]:=Array.getElem?_eq_getElem (by omega)
   cases hb : listed[j] with
   | true=>rw [hsome,hb]
   | false =>
    have : j ∈ Region.ready .any l.toArray listed:=by
     rw [mem_ready]
     refine ⟨by simp [Array.getD_eq_getD_getElem?,hsome,hb],l[j],by simp [hj],fun e he _=>?_⟩
     have h1:=((hS (List.getElem?_eq_getElem hj)).2.1 e he).1
     have h2:=ih e.on h1 (by omega)
     simp [Array.getD_eq_getD_getElem?,h2]
    rw [hr] at this
    cases this
 intro fuel
 induction fuel with
 | zero =>
  intro listed vf a' w' hf hI
  have hall : ∀ j,j < l.length → listed[j]? = some true:=by
   intro j hj
   have h0 : undone listed l.length = []:=List.eq_nil_of_length_eq_zero (by omega)
   unfold undone at h0
   rw [List.filter_eq_nil_iff] at h0
   simpa using h0 j (List.mem_range.2 hj)
  refine ⟨?_,fin _ _ _ _ hall hI⟩
  rw [List.eq_nil_iff_forall_not_mem]
  intro j hj
  obtain ⟨h0,o,ho,_⟩:=mem_ready.1 hj
  have hj' : j < l.length:=by
   have:=(Array.getElem?_eq_some_iff.1 ho).1
   simpa using this
  simp [Array.getD_eq_getD_getElem?,hall j hj'] at h0
 | succ fuel ih =>
  intro listed vf a' w' hf hI
  refine ⟨fun hr=>fin _ _ _ _ (allIf listed hI.lsize hr) hI,fun i hi=>?_⟩
  obtain ⟨h0,o,ho,hdep⟩:=mem_ready.1 hi
  have hil : l[i]? = some o:=by simpa using ho
  have hilt : i < l.length:=(List.getElem?_eq_some_iff.1 hil).1
  have hnl : listed[i]? ≠ some true:=fun e=>by simp [Array.getD_eq_getD_getElem?,e] at h0
  obtain ⟨hsel,hafter,hlooks,hdst⟩:=hS hil
  have hdone : ∀ e ∈ o.after,listed[e.on]? = some true:=fun e he=>by
   have:=hdep e he (hafter e he).2
   rw [Array.getD_eq_getD_getElem?] at this
   cases hx : listed[e.on]? with
   | none=>simp [hx] at this
   | some b=>simp [hx] at this;rw [this]
  have hob:=hobs i o hil
  rw [Nat.zero_add] at hob
  have hclosed : ∀ k m : Nat,m ∈ (befores l []).getD k [] → listed[k]? = some true → listed[m]? = some true:=fun k m hk hlk =>
   befores_spec l [] (fun k i=>listed[k]? = some true → listed[i]? = some true) (fun k i h=>by simp at h) (fun j o' e hj he hlj=>by
    simp at hlj;exact hI.down j o' hj hlj e he) (fun a b c h1 h2 h3=>h2 (h1 h3)) k m hk hlk
  have hsame : ∀ t ∈ o.looksAt l.toArray,(lexAct (valsOf Xs vf) (l.take i) 0 a).tmps[t]? = a'.tmps[t]?:=by
   intro t ht
   by_cases hex : ∃ (j : Nat) (o' : Oper),l[j]? = some o'∧o'.dst = some t
   ·obtain ⟨j,o',hj,hdt⟩:=hex
    rcases hlooks t ht j o' hj hdt with ⟨hji,e,he,hej⟩ | hbef
    rotate_left
    ·have hij : i < j:=befores_spec l [] (fun k i=>i < k) (fun k i h=>by simp at h) (fun j o' e hj he=>by
      have:=((hS (show l[j]? = some o' from hj)).2.1 e he).1;simpa using this) (fun a b c h1 h2=>Nat.lt_trans h2 h1) j i hbef
     have hnj : listed[j]? ≠ some true:=fun hlj=>hnl (hclosed j i hbef hlj)
     obtain ⟨_,huniq⟩:=(hS hj).2.2.2 t hdt
     rw [lexAct_other _ (l.take i) 0 a (fun o'' ho''=>by
      obtain ⟨k,hk⟩:=List.getElem?_of_mem ho''
      have hki : k < i:=by have:=(List.getElem?_eq_some_iff.1 hk).1;simp at this;omega
      rw [List.getElem?_take_of_lt hki] at hk
      exact huniq k o'' hk (by omega))]
     refine (hI.rest t fun k o'' hk hlk=>?_).symm
     by_cases hkj : k = j
     ·subst hkj;exact absurd hlk hnj
     ·exact huniq k o'' hk hkj
    have hlj : listed[j]? = some true:=hej ▸ hdone e he
    obtain ⟨hlt,huniq⟩:=(hS hj).2.2.2 t hdt
    rw [lexAct_same _ (l.take i) 0 a j o' (by rw [List.getElem?_take_of_lt hji];exact hj) hdt (fun j' o'' hj' hne=>huniq j' o'' (by
     have hlt' : j' < i:=by
      have:=(List.getElem?_eq_some_iff.1 hj').1
      simp at this;omega
     rw [List.getElem?_take_of_lt hlt'] at hj';exact hj') hne) hlt,Nat.zero_add,← hI.vals j hlj]
    exact (hI.slots j o' hj hlj t hdt).symm
   ·have hn : ∀ (j : Nat) (o : Oper),l[j]? = some o → o.dst ≠ some t:=fun j o hj e=>hex ⟨j,o,hj,e⟩
    rw [lexAct_other _ (l.take i) 0 a (fun o' ho'=>by obtain ⟨j,hj⟩:=List.getElem?_of_mem (List.mem_of_mem_take ho');exact hn j o' hj)]
    exact (hI.rest t (fun j o hj _=>hn j o hj)).symm
  have hexec : execOp (lexAct (valsOf Xs vf) (l.take i) 0 a).eval o = execOp a'.eval o:=by
   refine execOp_congr o hsel fun x hx=>?_
   cases x with
   | tmp t =>
    have:=hsame t (List.mem_append_left _ (List.mem_filterMap.2 ⟨.tmp t,by simpa using hx,rfl⟩))
    simp [Act.eval,Array.getD_eq_getD_getElem?,this]
   | _=>rfl
  have hwant : Region.wanted o (yielded l.toArray (lexAct (valsOf Xs vf) (l.take i) 0 a).tmps) = Region.wanted o (yielded l.toArray a'.tmps):=by
   unfold Region.wanted
   cases hg : o.guard with
   | none=>rfl
   | some gw =>
    obtain ⟨g,want⟩:=gw
    have hy : yielded l.toArray (lexAct (valsOf Xs vf) (l.take i) 0 a).tmps g = yielded l.toArray a'.tmps g:=by
     unfold yielded
     cases ht : (l.toArray[g]?).bind (·.dst) with
     | none=>rfl
     | some t =>
      have:=hsame t (by simp only [Oper.looksAt,hg,ht];simp)
      simp only [Option.bind_some,this]
    simp only [hy]
  have hnot : ∀ k : Nat,i ∈ (befores l []).getD k [] → ((fun k=>listed[k]? == some true) k) = false:=by
   intro k hk
   cases hx : (listed[k]? == some true) with
   | false=>exact hx
   | true=>exact absurd (hclosed k i hk (by simpa using hx)) hnl
  have hbi : ∀ m ∈ (befores l []).getD i [],listed[m]? = some true:=fun m hm=>by
   have hmi : m < i:=befores_spec l [] (fun k i=>i < k) (fun k i h=>by simp at h) (fun j o' e hj he=>by
     have:=((hS (show l[j]? = some o' from hj)).2.1 e he).1;simpa using this) (fun a b c h1 h2=>Nat.lt_trans h2 h1) i m hm
   have key:=befores_spec l [] (fun k m=>(k = i ∨ listed[k]? = some true) → (m = i ∨ listed[m]? = some true)) (fun k m h=>by simp at h) (fun j o' e hj he hlj=>by
    rw [List.length_nil,Nat.zero_add] at hlj
    rcases hlj with rfl | hlj
    ·rw [hil] at hj
     obtain rfl : o = o':=by simpa using hj
     exact .inr (hdone e he)
    ·exact .inr (hI.down j o' hj hlj e he)) (fun a b c h1 h2 h3=>h2 (h1 h3)) i m hm (.inl rfl)
   rcases key with h | h
   ·omega
   ·exact h
  have hres:=hob _ vf w' hI.cls (by simpa using hnl) (fun k hk=>by
   rw [hpr o (List.mem_of_getElem? hil)] at hk
   obtain ⟨e,he,rfl⟩:=List.mem_map.1 hk
   simp [hdone e (by simpa using he)]) hnot (fun k hk=>hI.facts k (by simpa using hk))
   (fun v w''=>Inv (updDone (fun k=>listed[k]? == some true) i) (updVal vf i v) w''∧T i vf w' w''∧exOf (Xs i) vf v∧F i (updDone (fun k=>listed[k]? == some true) i) (updVal vf i v) w'') (fun v w'' h0 h1 h2 h3=>⟨h0,h1,h2,h3⟩)
  rw [hwant] at hres
  have next : ∀ v w'',Inv (updDone (fun k=>listed[k]? == some true) i) (updVal vf i v) w'' → T i vf w' w'' → exOf (Xs i) vf v → F i (updDone (fun k=>listed[k]? == some true) i) (updVal vf i v) w'' → wpAny P .any l.toArray Q fuel (listed.setIfInBounds i true) (a'.put o.dst v) w'':=by
   intro v w'' hIv hT hE hFv
   have hu:=undone_set hilt (by rw [hI.lsize];exact Nat.le_refl _) hnl
   have hset : ∀ j,(listed.setIfInBounds i true)[j]? = some true → j = i ∨ (j ≠ i∧listed[j]? = some true):=fun j hj=>by
    by_cases e : j = i
    ·exact .inl e
    ·rw [Array.getElem?_setIfInBounds_ne (Ne.symm e)] at hj
     exact .inr ⟨e,hj⟩
   have hagree : ∀ j,listed[j]? = some true → ∀ m ∈ (befores l []).getD j [],vf m = updVal vf i v m:=fun j hj m hm=>by
    have hm':=hclosed j m hm hj
    unfold updVal
    rw [if_neg (fun e : m = i=>hnl (e ▸ hm'))]
   have hagreei : ∀ m ∈ (befores l []).getD i [],vf m = updVal vf i v m:=fun m hm=>by
    have hmi : m < i:=befores_spec l [] (fun k i=>i < k) (fun k i h=>by simp at h) (fun j o' e hj he=>by
      have:=((hS (show l[j]? = some o' from hj)).2.1 e he).1;simpa using this) (fun a b c h1 h2=>Nat.lt_trans h2 h1) i m hm
    unfold updVal
    rw [if_neg (by omega)]
   have hfun : updDone (fun k=>listed[k]? == some true) i = fun k=>(listed.setIfInBounds i true)[k]? == some true:=by
    funext k
    unfold updDone
    by_cases e : k = i
    ·subst e;rw [if_pos rfl,Array.getElem?_setIfInBounds_self_of_lt (by rw [hI.lsize];exact hilt)];simp
    ·rw [if_neg e,Array.getElem?_setIfInBounds_ne (Ne.symm e)]
   refine ih _ (updVal vf i v) _ _ (by omega) ⟨?_,?_,by simp [hI.lsize],?_,?_,?_,?_,?_,?_⟩
   ·rw [← hfun];exact hIv
   ·intro j o' hj hlj e he
    by_cases hje : j = i
    ·subst hje
     rw [hil] at hj
     obtain rfl : o = o':=by simpa using hj
     have:=hdone e he
     by_cases hei : e.on = j
     ·rw [hei,Array.getElem?_setIfInBounds_self_of_lt (by rw [hI.lsize];exact hilt)]
     ·rw [Array.getElem?_setIfInBounds_ne (Ne.symm hei)];exact this
    ·rw [Array.getElem?_setIfInBounds_ne (Ne.symm hje)] at hlj
     have:=hI.down j o' hj hlj e he
     by_cases hei : e.on = i
     ·rw [hei,Array.getElem?_setIfInBounds_self_of_lt (by rw [hI.lsize];exact hilt)]
     ·rw [Array.getElem?_setIfInBounds_ne (Ne.symm hei)];exact this
   ·rw [← hI.defers];cases o.dst <;> rfl
   ·rw [← hI.size];cases o.dst <;> simp [Act.put]
   ·intro j hj
    rcases hset j hj with rfl | ⟨hne,hj'⟩
    ·have e1 : updVal vf j v j = v:=if_pos rfl
     rw [e1]
     unfold valsOf
     cases hx : Xs j with
     | none=>exact e1.symm
     | some X=>exact (hE X hx).trans (hpX j X hx _ _ hagreei)
    ·have e1 : updVal vf i v j = vf j:=if_neg hne
     rw [e1,hI.vals j hj']
     unfold valsOf
     cases hx : Xs j with
     | none=>exact e1.symm
     | some X=>exact hpX j X hx _ _ (hagree j hj')
   ·intro j hj
    rw [← hfun]
    rcases hset j hj with rfl | ⟨hne,hj'⟩
    ·exact hFv
    ·refine hF j _ vf _ w'' (hagree j hj') (by unfold updVal;rw [if_neg hne]) ?_
     exact hst i _ vf w' w'' hI.cls (by simpa using hnl) (fun m hm=>by simpa using hbi m hm) (fun m hm=>hI.facts m (by simpa using hm)) hT j (by simpa using hj')
   ·intro j o' hj hlj d hd
    rcases hset j hlj with rfl | ⟨hne,hj'⟩
    ·rw [hil] at hj
     obtain rfl : o = o':=by simpa using hj
     rw [hd,put_get_same (by rw [hI.size];exact (hdst d hd).1)]
     unfold updVal;rw [if_pos rfl]
    ·rw [put_get_other (fun e'=>(hdst d e').2 j o' hj hne hd)]
     unfold updVal;rw [if_neg hne]
     exact hI.slots j o' hj hj' d hd
   ·intro t ht
    have hti : o.dst ≠ some t:=ht i o hil (by rw [Array.getElem?_setIfInBounds_self_of_lt (by rw [hI.lsize];exact hilt)])
    rw [put_get_other hti]
    refine hI.rest t fun j o' hj hlj=>?_
    by_cases e : j = i
    ·subst e;exact absurd hlj hnl
    ·exact ht j o' hj (by rw [Array.getElem?_setIfInBounds_ne (Ne.symm e)];exact hlj)
  unfold wpOp
  rw [ho]
  by_cases hw : Region.wanted o (yielded l.toArray a'.tmps) = true
  ·simp only [hw,if_true] at hres ⊢
   refine .inl (wp_of_gives (R:=fun v w''=>Inv (updDone (fun k=>listed[k]? == some true) i) (updVal vf i v) w''∧T i vf w' w''∧exOf (Xs i) vf v∧F i (updDone (fun k=>listed[k]? == some true) i) (updVal vf i v) w'') ?_ fun v w'' ⟨h0,h1,h2,h3⟩=>next v w'' h0 h1 h2 h3)
   unfold gives at hres ⊢
   rw [← hexec];exact hres
  ·simp only [hw] at hres ⊢
   exact next _ _ hres.1 hres.2.1 hres.2.2.1 hres.2.2.2
end
theorem prune_prune (o : Oper) : prune (prune o) = prune o:=by
 unfold prune
 simp only [Array.filter_filter,Bool.and_self]
theorem rel_prune {P : Program} {Inv : (Nat → Bool) → (Nat → Value) → World → Prop} {T : Nat → (Nat → Value) → World → World → Prop} {F : Nat → (Nat → Bool) → (Nat → Value) → World → Prop} {bs : List (List Nat)} {Q : Act → World → Prop} {n : Nat} {ops' : List Oper} :
  ∀ (l : List Oper) (i : Nat) (av : (Nat → Value) → Act),relWalk P ops'.toArray Inv T F bs Q n l i av → relWalk P (ops'.map prune).toArray Inv T F bs Q n (l.map prune) i av
 | [],_,_,h=>h
 | o :: l,i,av,h=>by
  have one : ∀ E,relOb P ops'.toArray Inv T F bs i o av E → relOb P (ops'.map prune).toArray Inv T F bs i (prune o) av E:=fun E h1 done vf w a b c d e R hR=>by
   rw [prune_prune] at c
   have:=h1 done vf w a b c d e R hR
   rw [← yielded_prune] at this
   exact this
  rcases h with ⟨X,hp,h1,h2⟩ | ⟨h1,h2⟩
  ·exact .inl ⟨X,hp,one _ h1,rel_prune l (i + 1) _ h2⟩
  ·exact .inr ⟨one _ h1,rel_prune l (i + 1) _ h2⟩
theorem wp_region_rel {P : Program} {l : List Oper} {Q : Exit → Act → World → Prop} {a : Act} {id : Nat} {w : World} (Inv : (Nat → Bool) → (Nat → Value) → World → Prop) (T : Nat → (Nat → Value) → World → World → Prop) (F : Nat → (Nat → Bool) → (Nat → Value) → World → Prop)
  (hm : P.follows .mixedOrders = true) (hB : monoB2 (l.map prune) a.tmps.size = true) (bs : List (List Nat)) (hbs : befores (l.map prune) [] = bs)
  (hst : ∀ (i : Nat) (done : Nat → Bool) (vf : Nat → Value) (w w' : World),Inv done vf w → done i = false → (∀ m ∈ bs.getD i [],done m = true) → (∀ m,done m = true → F m done vf w) → T i vf w w' → ∀ k,done k = true → F k (updDone done i) vf w')
  (hF : ∀ (k : Nat) (done : Nat → Bool) (f g : Nat → Value) (w : World),(∀ m ∈ bs.getD k [],f m = g m) → f k = g k → F k done f w → F k done g w)
  (hC : Inv (fun _=>false) (fun _=>undef) w.drew) (h : relWalk P l.toArray Inv T F bs (Q .normal) l.length l 0 (fun _=>a)) : (Code.region id l.toArray true).wp P Q a w:=by
 subst hbs
 have h':=rel_prune (ops':=l) l 0 _ h
 rw [show l.length = (l.map prune).length by simp] at h'
 obtain ⟨Xs,hX⟩:=wpAny_rel hB (fun o ho=>by obtain ⟨o',_,rfl⟩:=List.mem_map.1 ho;exact prune_prune o') hst hF h'
 refine wp_region_any hm (wpAny_prune _ _ _ _ (hX _ _ (fun _=>undef) _ _ ?_ ⟨?_,?_,by simp,rfl,rfl,?_,?_,?_,fun _ _=>rfl⟩))
 ·have:=List.length_filter_le (fun i=>(Array.replicate l.toArray.size false)[i]? != some true) (List.range (l.map prune).length)
  simpa [undone] using this
 ·refine (congrArg (fun d=>Inv d _ _) ?_).mp hC
  funext k
  rw [Array.getElem?_replicate]
  split <;> simp
 ·intro j o hj hl
  rw [Array.getElem?_replicate] at hl
  split at hl <;> simp at hl
 ·intro j hl
  rw [Array.getElem?_replicate] at hl
  split at hl <;> simp at hl
 ·intro j hl
  rw [Array.getElem?_replicate] at hl
  split at hl <;> simp at hl
 ·intro j o hj hl
  rw [Array.getElem?_replicate] at hl
  split at hl <;> simp at hl
end Go.Proofs.YthkgjohhbdipcaaGreatDoor.RV
namespace Go.Proofs.YthkgjohhbdipcaaGreatDoor
open Go.RowKit
theorem gives_append_at {P : Program} {w : World} {o : Oper} {a : Act} {R : Value → World → Prop} (s x : Operand) (t : TypeId)
  (ho : o.op = .call { callee:=.builtin .append,args:=#[s,x],argTypes:=#[t,t] })
  (base : Nat) (e : TypeId) (i : TypeInfo) (z : Value) (size bytes : Nat) (ht : P.underlying t = some (.slice e)) (hi : P.info? e = some i) (hz : i.zero = some z)
  (hsize : i.size = size) (hby : i.bytes = bytes) (hzs : z.cells.size = size) (hsz : 0 < size)
  (v : Value) (n : Nat) (xs : List Value) (hs : a.eval s = v) (hown : w.ownsRow base e size v n xs)
  (ad : Addr) (m c : Nat) (news : List Value) (hx : a.eval x = .slice (some ad) m c) (hl : news.length = m * size) (hnews : ∀ j u,news[j]? = some u → w.cell? (ad.add j) = some u) (h1 : ∀ u ∈ news,u.oneCell' = true)
  (hm : 0 < m) (h63 : n + m≤maxLen) (hbytes : (n + m) * bytes≤140737488355328) (hbase : base≤w.heap.size)
  (h : ∀ v' w',w'.ownsRow base e size v' (n + m) (xs ++ news) → w.grownBy w' v.ownBlock → (v'.ownBlock = v.ownBlock ∨ v'.ownBlock = some w.heap.size) → R v' w') : gives P o a w R:=by
 obtain ⟨g,cap,w',hr,h2,h3,h4,_⟩:=run_append_lies (P:=P) w t o.type base e i z size bytes ht hi hz hsize hby hzs hsz v n xs hown ad m c news hl hnews h1 hm h63 hbytes hbase _ rfl
 unfold gives execOp
 simp only [ho,resolve,invoke,builtin,Sem.run_bind,Sem.run_pure,Result.andThen_ok,List.map_toArray,List.map_cons,List.map_nil,hs,hx,hr]
 refine h _ _ h2 h3 ?_
 rcases h4 with h4 | h4
 ·left;rw [h4];rfl
 ·right;rw [h4];rfl
structure ApInv (w0 : World) (β : Nat) (T : TypeId) (box : Array Value) (base : Nat) (E : TypeId) (sz : Nat) (cv : Value) (n : Nat) (cells : List Value) (ia is : Nat) (done : Nat → Bool) (W : World) : Prop where
 os : W.os = w0.os
 tape : W.tape = w0.tape
 output : W.output = w0.output
 size : w0.heap.size≤W.heap.size
 blk : ∀ b,b < w0.heap.size → b ≠ β → some b ≠ cv.ownBlock → W.heap[b]? = w0.heap[b]?
 before : done is = false → W.heap[β]? = some (.cells box T)
 old : done ia = false → ∀ b,b < w0.heap.size → b ≠ β → W.heap[b]? = w0.heap[b]?
 own : done ia = false → W.ownsRow base E sz cv n cells
def ApT (β : Nat) (cv : Value) (ia is : Nat) (i : Nat) (_ : Nat → Value) (w w' : World) : Prop:=w.heap.size≤w'.heap.size∧∀ b,b < w.heap.size → (i = is → b ≠ β) → (i = ia → some b ≠ cv.ownBlock) → w'.heap[b]? = w.heap[b]?
def apF (w0 : World) (β : Nat) (T : TypeId) (box : Array Value) (off base : Nat) (E : TypeId) (sz : Nat) (cv : Value) (n : Nat) (cells : List Value) (m : Nat) (news : (Nat → Value) → List Value) (ia is : Nat) (G : Nat → (Nat → Value) → World → Prop) (k : Nat) (_ : Nat → Bool) (vf : Nat → Value) (W : World) : Prop :=
 if k = ia then W.ownsRow base E sz (vf ia) (n + m) (cells ++ news vf)∧((vf ia).ownBlock = cv.ownBlock ∨ ∀ g,(vf ia).ownBlock = some g → w0.heap.size≤g)
 else if k = is then W.heap[β]? = some (.cells (box.setIfInBounds off (vf ia)) T) else G k vf W
section
variable {w0 W W' : World} {β : Nat} {T : TypeId} {box : Array Value} {off base : Nat} {E : TypeId} {sz n m ia is i : Nat} {cv : Value} {cells : List Value} {done : Nat → Bool} {vf : Nat → Value}
theorem ApInv.step (h : ApInv w0 β T box base E sz cv n cells ia is done W) (hb : Below W.heap.size W W') (h1 : i ≠ ia) (h2 : i ≠ is) (hβ : β < w0.heap.size) : ApInv w0 β T box base E sz cv n cells ia is (updDone done i) W' where
 os:=hb.os.trans h.os
 tape:=hb.tape.trans h.tape
 output:=hb.output.trans h.output
 size:=Nat.le_trans h.size hb.size
 blk:=fun b hlt hn ho=>(hb.block b (Nat.lt_of_lt_of_le hlt h.size)).trans (h.blk b hlt hn ho)
 before:=fun hd=>by
  have : done is = false:=by simpa [updDone,Ne.symm h2] using hd
  rw [hb.block β (Nat.lt_of_lt_of_le hβ h.size)];exact h.before this
 old:=fun hd b hlt hn=>by
  have : done ia = false:=by simpa [updDone,Ne.symm h1] using hd
  exact (hb.block b (Nat.lt_of_lt_of_le hlt h.size)).trans (h.old this b hlt hn)
 own:=fun hd=>by
  have : done ia = false:=by simpa [updDone,Ne.symm h1] using hd
  exact ownsRow_keep1 (h.own this) fun b _ hlt _=>hb.block b hlt
theorem ApT.of_below (hb : Below W.heap.size W W') : ApT β cv ia is i vf W W':=⟨hb.size,fun b hlt _ _=>hb.block b hlt⟩
theorem ApInv.appended (h : ApInv w0 β T box base E sz cv n cells ia is done W) (hd : done is = false) (hcv : ∀ g,cv.ownBlock = some g → g ≠ β) (hg : W.grownBy W' cv.ownBlock) (hβ : β < w0.heap.size) : ApInv w0 β T box base E sz cv n cells ia is (updDone done ia) W' where
 os:=hg.os.trans h.os
 tape:=hg.tape.trans h.tape
 output:=hg.output.trans h.output
 size:=Nat.le_trans h.size hg.size
 blk:=fun b hlt hn ho=>(hg.block b (Nat.lt_of_lt_of_le hlt h.size) ho).trans (h.blk b hlt hn ho)
 before:=fun _=>by rw [hg.block β (Nat.lt_of_lt_of_le hβ h.size) (fun e=>hcv β e.symm rfl)];exact h.before hd
 old:=fun hd=>by simp [updDone] at hd
 own:=fun hd=>by simp [updDone] at hd
theorem ApT.of_grown (hg : W.grownBy W' cv.ownBlock) : ApT β cv ia is ia vf W W':=⟨hg.size,fun b hlt _ h=>hg.block b hlt (h rfl)⟩
theorem ApInv.stored {v : Value} (h : ApInv w0 β T box base E sz cv n cells ia is done W) (hda : done ia = true) (hne : is ≠ ia) :
  ApInv w0 β T box base E sz cv n cells ia is (updDone done is) (W.setCell ⟨β,off,none⟩ v) where
 os:=h.os
 tape:=h.tape
 output:=h.output
 size:=by rw [set_size];exact h.size
 blk:=fun b hlt hn ho=>by rw [set_other (by exact hn)];exact h.blk b hlt hn ho
 before:=fun hd=>by simp [updDone] at hd
 old:=fun hd=>by simp [updDone,Ne.symm hne,hda] at hd
 own:=fun hd=>by simp [updDone,Ne.symm hne,hda] at hd
theorem ApT.of_store {v : Value} : ApT β cv ia is is vf W (W.setCell ⟨β,off,none⟩ v):=⟨by rw [set_size];exact Nat.le_refl _,fun b _ hn _=>set_other (by exact hn rfl)⟩
end
theorem wp_region_apr {P : Program} {l : List Oper} {Q : Exit → Act → World → Prop} {a : Act} {id : Nat} {w0 : World} (β : Nat) (T : TypeId) (box : Array Value) (off base : Nat) (E : TypeId) (sz : Nat) (cv : Value) (n : Nat) (cells : List Value) (m : Nat) (news : (Nat → Value) → List Value) (ia is : Nat) (G : Nat → (Nat → Value) → World → Prop)
  (hm : P.follows .mixedOrders = true) (hB : monoB2 (l.map prune) a.tmps.size = true) (bs : List (List Nat)) (hbs : befores (l.map prune) [] = bs)
  (hbox : w0.heap[β]? = some (.cells box T)) (hown : w0.ownsRow base E sz cv n cells) (hβ : β < base) (hcv : ∀ g,cv.ownBlock = some g → g ≠ β) (his : ia ≠ is) (hia : ia ∈ bs.getD is [])
  (hG : ∀ (k : Nat) (vf : Nat → Value) (w w' : World),(∀ b,w0.heap.size≤b → b < w.heap.size → w'.heap[b]? = w.heap[b]?) → w.heap.size≤w'.heap.size → G k vf w → G k vf w')
  (hGp : ∀ (k : Nat) (f g : Nat → Value) (w : World),(∀ m ∈ bs.getD k [],f m = g m) → f k = g k → G k f w → G k g w) (hN : ∀ f g : Nat → Value,(∀ m ∈ bs.getD ia [],f m = g m) → news f = news g)
  (h : relWalk P l.toArray (ApInv w0 β T box base E sz cv n cells ia is) (ApT β cv ia is) (apF w0 β T box off base E sz cv n cells m news ia is G) bs (Q .normal) l.length l 0 (fun _=>a)) : (Code.region id l.toArray true).wp P Q a w0:=by
 have hβ' : β < w0.heap.size:=(Array.getElem?_eq_some_iff.1 hbox).1
 have hlt : ∀ g,cv.ownBlock = some g → g < w0.heap.size:=fun g hg=>(hown.lt g hg).2
 refine wp_region_rel _ _ _ hm hB bs hbs (fun i done vf w1 w2 _ hd hbf hf hT k hk=>?_) (fun k done f g w1 hfg hk hF=>?_) ⟨rfl,rfl,rfl,Nat.le_refl _,fun _ _ _ _=>rfl,fun _=>hbox,fun _ _ _ _=>rfl,fun _=>ownsRow_keep1 hown fun _ _ _ _=>rfl⟩ h
 ·have hki : k ≠ i:=fun e=>by rw [e,hd] at hk;cases hk
  have hF:=hf k hk
  unfold apF at hF ⊢
  split
  ·rename_i e
   rw [if_pos e] at hF
   refine ⟨ownsRow_keep1 hF.1 fun b hb hl ho=>hT.2 b hl (fun _=>by omega) (fun e'=>absurd (e.trans e'.symm) hki),hF.2⟩
  ·rename_i e
   rw [if_neg e] at hF
   split
   ·rename_i e2
    rw [if_pos e2] at hF
    rw [hT.2 β (Array.getElem?_eq_some_iff.1 hF).1 (fun e'=>absurd (e2.trans e'.symm) hki) (fun _ e'=>hcv β e'.symm rfl)]
    exact hF
   ·rename_i e2
    rw [if_neg e2] at hF
    exact hG k vf _ _ (fun b hb hl=>hT.2 b hl (fun _=>by omega) (fun _ e'=>by have:=hlt b e'.symm;omega)) hT.1 hF
 ·unfold apF at hF ⊢
  split
  ·rename_i e
   subst e
   rw [if_pos rfl,hk,hN f g hfg] at hF
   exact hF
  ·rename_i e
   rw [if_neg e] at hF
   split
   ·rename_i e2
    subst e2
    rw [if_pos rfl,hfg ia hia] at hF
    exact hF
   ·rename_i e2
    rw [if_neg e2] at hF
    exact hGp k f g w1 hfg hk hF
def NewRow (B : Nat) (E : TypeId) (m : Nat) (cs : Array Value) (v : Value) (W : World) : Prop:=∃ b,v = .slice (some ⟨b,0,none⟩) m m∧B≤b∧W.heap[b]? = some (.cells cs E)
theorem NewRow.keep {B : Nat} {E : TypeId} {m : Nat} {cs : Array Value} {v : Value} {w w' : World} (h : NewRow B E m cs v w) (hb : ∀ b,B≤b → b < w.heap.size → w'.heap[b]? = w.heap[b]?) : NewRow B E m cs v w':=by
 obtain ⟨b,hv,hB,hc⟩:=h
 refine ⟨b,hv,hB,?_⟩
 rw [hb b hB (Array.getElem?_eq_some_iff.1 hc).1];exact hc
theorem OwnSl.keepFrom {α : Type} {w w' : World} {base : Nat} {e : TypeId} {sz : Nat} {R : α → List Value → Prop} {v : Value} {xs : List α} (h : OwnSl w base e sz R v xs) (hb : ∀ b,base≤b → b < w.heap.size → w'.heap[b]? = w.heap[b]?) : OwnSl w' base e sz R v xs:=by
 obtain ⟨rows,hr,ho⟩:=h
 exact ⟨rows,hr,ownsRow_keep1 ho fun b hbb hl _=>hb b hbb hl⟩
def ap1F (io ib ia : Nat) (O N A : Value → World → Prop) (k : Nat) (done : Nat → Bool) (vf : Nat → Value) (W : World) : Prop :=
 if k = ia then A (vf ia) W else if k = io then (done ia = false → O (vf io) W) else if k = ib then (done ia = false → N (vf ib) W) else True
def ap1T (ia : Nat) (i : Nat) (_ : Nat → Value) (w w' : World) : Prop:=i ≠ ia → Below w.heap.size w w'
theorem wp_region_ap1 {P : Program} {l : List Oper} {Q : Exit → Act → World → Prop} {a : Act} {id : Nat} {w0 : World} (B : Nat) (hBw : B≤w0.heap.size) (io ib ia : Nat) (O N A : Value → World → Prop)
  (hm : P.follows .mixedOrders = true) (hB : monoB2 (l.map prune) a.tmps.size = true) (bs : List (List Nat)) (hbs : befores (l.map prune) [] = bs)
  (hO : ∀ v w w',Below w.heap.size w w' → O v w → O v w') (hN : ∀ v w w',Below w.heap.size w w' → N v w → N v w') (hA : ∀ v w w',Below w.heap.size w w' → A v w → A v w')
  (h : relWalk P l.toArray (initI B w0) (ap1T ia) (ap1F io ib ia O N A) bs (Q .normal) l.length l 0 (fun _=>a)) : (Code.region id l.toArray true).wp P Q a w0:=by
 refine wp_region_rel _ _ _ hm hB bs hbs (fun i done vf w1 w2 _ hd hbf hf hT k hk=>?_) (fun k done f g w1 hfg hk hF=>?_) ⟨hBw,(Below.refl _ _).drew⟩ h
 ·have hki : k ≠ i:=fun e=>by rw [e,hd] at hk;cases hk
  have hF:=hf k hk
  unfold ap1F at hF ⊢
  split
  ·rename_i e
   rw [if_pos e] at hF
   exact hA _ _ _ (hT (fun e'=>hki (e.trans e'.symm))) hF
  ·rename_i e
   rw [if_neg e] at hF
   split
   ·rename_i e2
    rw [if_pos e2] at hF
    intro hx
    unfold updDone at hx
    split at hx
    ·cases hx
    ·rename_i hia
     exact hO _ _ _ (hT (fun e'=>hia e'.symm)) (hF hx)
   ·rename_i e2
    rw [if_neg e2] at hF
    split
    ·rename_i e3
     rw [if_pos e3] at hF
     intro hx
     unfold updDone at hx
     split at hx
     ·cases hx
     ·rename_i hia
      exact hN _ _ _ (hT (fun e'=>hia e'.symm)) (hF hx)
    ·trivial
 ·unfold ap1F at hF ⊢
  split
  ·rename_i e
   subst e
   rw [if_pos rfl,hk] at hF
   exact hF
  ·rename_i e
   rw [if_neg e] at hF
   split
   ·rename_i e2
    subst e2
    rw [if_pos rfl,hk] at hF
    exact hF
   ·rename_i e2
    rw [if_neg e2] at hF
    split
    ·rename_i e3
     subst e3
     rw [if_pos rfl,hk] at hF
     exact hF
    ·trivial
theorem NewRow.below {B : Nat} {E : TypeId} {m : Nat} {cs : Array Value} {v : Value} {w w' : World} (h : NewRow B E m cs v w) (hb : Below w.heap.size w w') : NewRow B E m cs v w':=h.keep fun b _ hl=>hb.block b hl
end Go.Proofs.YthkgjohhbdipcaaGreatDoor
namespace Go.Proofs.YthkgjohhbdipcaaGreatDoor
open Go.RowKit
abbrev OwnB (W : World) (B : Nat) (v : Value) (l : List UInt8) : Prop:=OwnSl W B 5 1 byteR v l
theorem OwnB.read {W : World} {B : Nat} {v : Value} {l : List UInt8} (h : OwnB W B v l) : RdBytes W (fun b=>B≤b) v l:=OwnSl.sl h (fun _ hb=>hb)
theorem OwnB.lt {W : World} {B : Nat} {v : Value} {l : List UInt8} (h : OwnB W B v l) : ∀ g,v.ownBlock = some g → g < W.heap.size:=fun g hg=>by
 obtain ⟨o,h1,_⟩:=OwnSl.typed h g hg
 exact (Array.getElem?_eq_some_iff.1 h1).1
theorem OwnB.base {W : World} {B B' : Nat} {v : Value} {l : List UInt8} (h : OwnB W B v l) (hB : B'≤B) : OwnB W B' v l:=by
 obtain ⟨rows,hr,h1,h2⟩:=h
 refine ⟨rows,hr,h1,?_⟩
 rcases h2 with h2 | ⟨g,cap,cur,hv,hg,r⟩
 ·exact .inl h2
 ·exact .inr ⟨g,cap,cur,hv,Nat.le_trans hB hg,r⟩
def Apart (v v' : Value) : Prop:=∀ g,v.ownBlock = some g → v'.ownBlock = some g → False
structure BRows (W : World) (B : Nat) (ps : List (Value × List UInt8)) : Prop where
 own : ∀ p ∈ ps,OwnB W B p.1 p.2
 apart : ps.Pairwise (fun p q=>Apart p.1 q.1)
section
variable {W W' : World} {B : Nat} {ps : List (Value × List UInt8)} {v v' : Value} {l l' : List UInt8}
theorem BRows.nil : BRows W B []:=⟨fun _ h=>by simp at h,List.Pairwise.nil⟩
theorem BRows.cons (h : BRows W B ps) (hb : Below W.heap.size W W') (hB : B≤W.heap.size) (ho : OwnB W' W.heap.size v l) : BRows W' B ((v,l) :: ps):=by
 refine ⟨fun p hp=>?_,List.Pairwise.cons (fun q hq g h1 h2=>?_) h.apart⟩
 ·rcases List.mem_cons.1 hp with rfl | hp
  ·exact ho.base hB
  ·exact OwnSl.below (h.own p hp) hb
 ·have h3:=OwnSl.block ho g h1
  have h4:=(h.own q hq).lt g h2
  omega
theorem BRows.snoc (h : BRows W B ps) (hb : Below W.heap.size W W') (hB : B≤W.heap.size) (ho : OwnB W' W.heap.size v l) : BRows W' B (ps ++ [(v,l)]):=by
 refine ⟨fun p hp=>?_,List.pairwise_append.2 ⟨h.apart,by simp,fun q hq p hp g h1 h2=>?_⟩⟩
 ·rcases List.mem_append.1 hp with hp | hp
  ·exact OwnSl.below (h.own p hp) hb
  ·simp at hp;subst hp;exact ho.base hB
 ·simp at hp;subst hp
  have h3:=OwnSl.block ho g h2
  have h4:=(h.own q hq).lt g h1
  omega
theorem BRows.grow (h : BRows W B (ps ++ [(v,l)])) (hg : W.grownBy W' v.ownBlock) (ho : OwnB W' B v' l') (hat : v'.ownBlock = v.ownBlock ∨ v'.ownBlock = some W.heap.size) : BRows W' B (ps ++ [(v',l')]):=by
 obtain ⟨h1,_,h3⟩:=List.pairwise_append.1 h.apart
 have hap : ∀ q ∈ ps,Apart q.1 v:=fun q hq=>h3 q hq (v,l) (by simp)
 refine ⟨fun p hp=>?_,List.pairwise_append.2 ⟨h1,by simp,fun q hq p hp g e1 e2=>?_⟩⟩
 ·rcases List.mem_append.1 hp with hp | hp
  ·have ho:=h.own p (List.mem_append_left _ hp)
   obtain ⟨rows,hr,hw⟩:=ho
   refine ⟨rows,hr,ownsRow_keep1 hw fun b _ hl hb=>hg.block b hl (fun e=>hap p hp b hb e.symm)⟩
  ·simp at hp;subst hp;exact ho
 ·simp at hp;subst hp
  rcases hat with h9 | h9
  ·exact hap q hq g e1 (h9.symm.trans e2)
  ·have e3 : some W.heap.size = some g:=h9.symm.trans e2
   injection e3 with e3
   have:=(h.own q (List.mem_append_left _ hq)).lt g e1
   omega
theorem BRows.drop1 {p : Value × List UInt8} (h : BRows W B (p :: ps)) : BRows W B ps:=⟨fun q hq=>h.own q (List.mem_cons_of_mem _ hq),(List.pairwise_cons.1 h.apart).2⟩
end
theorem append_string_at {P : Program} (w : World) (base : Nat) (t u ty e : TypeId) (i : TypeInfo) (ht : P.underlying t = some (.slice e)) (hu : P.underlying u = some .string) (hi : P.info? e = some i) (hz : i.zero = some (.int .u8 0))
  (hsize : i.size = 1) (hby : i.bytes = 1) (v : Value) (n : Nat) (xs : List Value) (hown : w.ownsRow base e 1 v n xs) (s : ByteArray) (h63 : n + s.size≤maxLen) (hbytes : n + s.size≤140737488355328) (hbase : base≤w.heap.size) :
  ∃ v' w',(Builtin.append_ #[t,u] ty #[v,.string s]).run P w = .ok v' w'∧w'.ownsRow base e 1 v' (n + s.size) (xs ++ Lib.strCells s)∧w.grownBy w' v.ownBlock∧(v'.ownBlock = v.ownBlock ∨ v'.ownBlock = some w.heap.size):=by
 obtain ⟨v',w',hr,h2,h3,h4⟩:=Lib.run_append_own_string (P:=P) w base t u ty e i ht hu hi hz hsize hby v n xs hown s h63 hbytes hbase
 refine ⟨v',w',hr,h2,h3,?_⟩
 have hsmall : n + s.size≤9223372036854775807:=by simp only [maxLen] at h63;omega
 have hxl : xs.length = n:=by simpa using hown.1
 rcases hown.2 with ⟨rfl,rfl⟩ | ⟨g,cap,cur,rfl,hbg,hg,hnc,hcm,hcs,htake⟩
 ·by_cases hm : s.size = 0
  ·left
   rw [h4.2 ⟨rfl,hm⟩]
  ·right
   have hr2:=run_append_nil_string (P:=P) w t u ty e i (.int .u8 0) ht hu hi hz s (by omega) (by omega) (by rw [hby];omega)
   rw [hr] at hr2
   injection hr2 with h5 _
   rw [h5];rfl
 ·by_cases hroom : n + s.size≤cap
  ·left
   have hcs' : cur.size = cap:=by simpa using hcs
   have hr2:=Lib.run_append_room_string (P:=P) w t u ty e i ht hu hi hsize g n cap cur hg s hroom (by omega)
   rw [hr] at hr2
   injection hr2 with h5 _
   rw [h5];rfl
  ·right
   have holds : ∀ j u,xs[j]? = some u → w.cell? ((⟨g,0,none⟩ : Addr).add j) = some u:=World.ownsRow.cells hown (g:=g) rfl
   have hr2:=Lib.run_append_grow_string (P:=P) w t u ty e i (.int .u8 0) ht hu hi hz ⟨g,0,none⟩ n cap xs (by rw [hsize];simpa using hxl) holds s (by omega) (by omega) (by rw [hby];exact growslice_fits (by omega) (by omega))
   rw [hr] at hr2
   injection hr2 with h5 _
   rw [h5];rfl
theorem rows_bytes (l : List UInt8) : RowsOf 1 byteR l (l.map fun b=>[Value.int .u8 b.toNat]):=by
 refine ⟨by simp,fun r hr=>?_,fun i x r hx hr=>?_⟩
 ·obtain ⟨b,_,rfl⟩:=List.mem_map.1 hr;rfl
 ·rw [List.getElem?_map,hx] at hr
  simp at hr
  exact hr.symm
theorem flat_bytes : ∀ (l : List UInt8),(l.map fun b=>[Value.int .u8 b.toNat]).flatten = l.map fun b=>Value.int .u8 b.toNat
 | []=>rfl
 | b :: l=>by rw [List.map_cons,List.flatten_cons,flat_bytes l];rfl
theorem gives_append_string {P : Program} {w : World} {o : Oper} {a : Act} {R : Value → World → Prop} (sl x : Operand) (t u : TypeId)
  (ho : o.op = .call { callee:=.builtin .append,args:=#[sl,x],argTypes:=#[t,u] }) (base : Nat) (e : TypeId) (i : TypeInfo) (ht : P.underlying t = some (.slice e)) (hu : P.underlying u = some .string) (hi : P.info? e = some i) (hz : i.zero = some (.int .u8 0))
  (hsize : i.size = 1) (hby : i.bytes = 1) (v : Value) (l : List UInt8) (hs : a.eval sl = v) (hown : OwnSl w base e 1 byteR v l) (s : ByteArray) (hx : a.eval x = .string s)
  (hbytes : l.length + s.size≤140737488355328) (hbase : base≤w.heap.size)
  (h : ∀ v' w',OwnSl w' base e 1 byteR v' (l ++ s.data.toList) → w.grownBy w' v.ownBlock → (v'.ownBlock = v.ownBlock ∨ v'.ownBlock = some w.heap.size) → R v' w') : gives P o a w R:=by
 obtain ⟨rows,hr0,ho0⟩:=hown
 obtain ⟨v',w',hr,h2,h3,h4⟩:=append_string_at (P:=P) w base t u o.type e i ht hu hi hz hsize hby v l.length rows.flatten ho0 s (by unfold maxLen;omega) hbytes hbase
 unfold gives execOp
 simp only [ho,resolve,invoke,builtin,Sem.run_bind,Sem.run_pure,Result.andThen_ok,List.map_toArray,List.map_cons,List.map_nil,hs,hx,hr]
 refine h _ _ ⟨rows ++ (s.data.toList.map fun b=>[Value.int .u8 b.toNat]),hr0.app (rows_bytes _),?_⟩ h3 h4
 rw [List.flatten_append,flat_bytes,List.length_append]
 exact h2
theorem gives_append_bytes {P : Program} {w : World} {o : Oper} {a : Act} {R : Value → World → Prop} (sl x : Operand) (t : TypeId)
  (ho : o.op = .call { callee:=.builtin .append,args:=#[sl,x],argTypes:=#[t,t] }) (base : Nat) (e : TypeId) (i : TypeInfo) (ht : P.underlying t = some (.slice e)) (hi : P.info? e = some i) (hz : i.zero = some (.int .u8 0))
  (hsize : i.size = 1) (hby : i.bytes = 1) (v : Value) (l : List UInt8) (hs : a.eval sl = v) (hown : OwnSl w base e 1 byteR v l) (u : Value) (m : List UInt8) (D : Nat → Prop) (hx : a.eval x = u) (hu : RdBytes w D u m) (hm0 : 0 < m.length)
  (hbytes : l.length + m.length≤140737488355328) (hbase : base≤w.heap.size)
  (h : ∀ v' w',OwnSl w' base e 1 byteR v' (l ++ m) → w.grownBy w' v.ownBlock → (v'.ownBlock = v.ownBlock ∨ v'.ownBlock = some w.heap.size) → R v' w') : gives P o a w R:=by
 obtain ⟨rows,hr0,ho0⟩:=hown
 obtain ⟨au,cu,rowsu,hv,hru,hcm,hnone,hcell⟩:=hu.rows
 cases au with
 | none=>exact absurd (hnone rfl).2 (by intro e;rw [e] at hm0;simp at hm0)
 | some ad =>
  refine gives_append_at sl x t ho base e i (.int .u8 0) 1 1 ht hi hz hsize hby rfl (by decide) v l.length rows.flatten hs ho0 ad m.length cu rowsu.flatten (by rw [hx,hv]) (by rw [flat_len rowsu hru.size,hru.len]) (hcell ad rfl) (fun c hc=>?_) hm0 (by unfold maxLen;omega) (by omega) hbase fun v' w' h1 h2 h3=>h v' w' ⟨rows ++ rowsu,hr0.app hru,by rw [List.flatten_append,List.length_append];exact h1⟩ h2 h3
  obtain ⟨r,hrm,hcr⟩:=List.mem_flatten.1 hc
  obtain ⟨k,hk⟩:=List.getElem?_of_mem hrm
  have hkl : k < m.length:=by rw [← hru.len];exact (List.getElem?_eq_some_iff.1 hk).1
  have:=hru.rel k _ r (List.getElem?_eq_getElem hkl) hk
  unfold byteR at this
  subst this
  simp at hcr
  subst hcr
  rfl
end Go.Proofs.YthkgjohhbdipcaaGreatDoor
namespace Go.Proofs.YthkgjohhbdipcaaGreatDoor
open Go.RowKit
attribute [local go_sem] gives givesUpon
theorem oneByteP (y : UInt8) (cs : List Value) (h : byteR y cs) : ∀ c ∈ cs,c.oneCell' = true:=by
 unfold byteR at h;subst h;simp [Value.oneCell']
def putL (S Wt t : List UInt8) (done : Nat → Bool) (vf : Nat → Value) : List (Value × List UInt8) :=
 (if done 8 && !done 9 then [(vf 8,[10])] else []) ++ ((if done 2 then [(vf 2,S)] else []) ++ ((if done 5 && !done 7 then [(vf 5,Wt)] else []) ++ ((if done 7 && !done 9 then [(vf 7,Wt ++ t)] else []) ++ (if done 9 then [(vf 9,(Wt ++ t) ++ [10])] else []))))
structure PutFin (w0 : World) (β : Nat) (S L : List UInt8) (W : World) : Prop where
 gr : w0.grownBy W (some β)
 box : ∃ v2 v9,W.heap[β]? = some (.cells #[v2,v9] 25)∧RdBytes W (fun b=>w0.heap.size≤b) v2 S∧RdBytes W (fun b=>w0.heap.size≤b) v9 L
structure PutI (w0 : World) (β : Nat) (S Wt t : List UInt8) (done : Nat → Bool) (vf : Nat → Value) (W : World) : Prop where
 fr : done 11 = false → Below w0.heap.size w0 W
 o1 : done 5 = true → done 2 = true
 o2 : done 7 = true → done 5 = true
 o3 : done 9 = true → done 7 = true
 rows : done 11 = false → BRows W w0.heap.size (putL S Wt t done vf)
 fin : done 11 = true → PutFin w0 β S ((Wt ++ t) ++ [10]) W
section
variable {w0 W W' : World} {β : Nat} {S Wt t : List UInt8} {done : Nat → Bool} {vf : Nat → Value} {v : Value} {i : Nat}
theorem PutI.start : PutI w0 β S Wt t (fun _=>false) (fun _=>undef) w0.drew:=⟨fun _=>(Below.refl _ _).drew,(fun h=>by cases h),(fun h=>by cases h),(fun h=>by cases h),fun _=>BRows.nil,(fun h=>by cases h)⟩
theorem PutI.same (h : PutI w0 β S Wt t done vf W) (h2 : 2 ≠ i) (h5 : 5 ≠ i) (h7 : 7 ≠ i) (h8 : 8 ≠ i) (h9 : 9 ≠ i) (h11 : 11 ≠ i) : PutI w0 β S Wt t (updDone done i) (updVal vf i v) W:=by
 have e2 : updDone done i 2 = done 2:=if_neg h2
 have e5 : updDone done i 5 = done 5:=if_neg h5
 have e7 : updDone done i 7 = done 7:=if_neg h7
 have e8 : updDone done i 8 = done 8:=if_neg h8
 have e9 : updDone done i 9 = done 9:=if_neg h9
 have e11 : updDone done i 11 = done 11:=if_neg h11
 have f2 : updVal vf i v 2 = vf 2:=if_neg h2
 have f5 : updVal vf i v 5 = vf 5:=if_neg h5
 have f7 : updVal vf i v 7 = vf 7:=if_neg h7
 have f8 : updVal vf i v 8 = vf 8:=if_neg h8
 have f9 : updVal vf i v 9 = vf 9:=if_neg h9
 refine ⟨?_,?_,?_,?_,?_,?_⟩ <;> simp only [putL,e2,e5,e7,e8,e9,e11,f2,f5,f7,f8,f9]
 ·exact h.fr
 ·exact h.o1
 ·exact h.o2
 ·exact h.o3
 ·exact h.rows
 ·exact h.fin
theorem PutI.clone2 (h : PutI w0 β S Wt t done vf W) (n2 : done 2 = false) (n5 : done 5 = false) (n7 : done 7 = false) (n9 : done 9 = false) (n11 : done 11 = false) (hb : Below W.heap.size W W') (ho : OwnB W' W.heap.size v S) : PutI w0 β S Wt t (updDone done 2) (updVal vf 2 v) W':=by
 have hr:=(h.rows n11).snoc hb (h.fr n11).size ho
 refine ⟨fun _=>bel_call (h.fr n11) hb,fun e=>by simp [updDone,n5] at e,fun e=>by simp [updDone,n7] at e,fun e=>by simp [updDone,n9] at e,fun _=>?_,fun e=>by simp [updDone,n11] at e⟩
 have e : putL S Wt t (updDone done 2) (updVal vf 2 v) = putL S Wt t done vf ++ [(v,S)]:=by simp [putL,updDone,updVal,n2,n5,n7,n9]
 rw [e];exact hr
theorem PutI.clone5 (h : PutI w0 β S Wt t done vf W) (n5 : done 5 = false) (d2 : done 2 = true) (n7 : done 7 = false) (n9 : done 9 = false) (n11 : done 11 = false) (hb : Below W.heap.size W W') (ho : OwnB W' W.heap.size v Wt) : PutI w0 β S Wt t (updDone done 5) (updVal vf 5 v) W':=by
 have hr:=(h.rows n11).snoc hb (h.fr n11).size ho
 refine ⟨fun _=>bel_call (h.fr n11) hb,fun _=>by simp [updDone,d2],fun e=>by simp [updDone,n7] at e,fun e=>by simp [updDone,n9] at e,fun _=>?_,fun e=>by simp [updDone,n11] at e⟩
 have e : putL S Wt t (updDone done 5) (updVal vf 5 v) = putL S Wt t done vf ++ [(v,Wt)]:=by simp [putL,updDone,updVal,d2,n5,n7,n9]
 rw [e];exact hr
theorem PutI.own5 (h : PutI w0 β S Wt t done vf W) (d5 : done 5 = true) (n7 : done 7 = false) (n11 : done 11 = false) : OwnB W w0.heap.size (vf 5) Wt:=(h.rows n11).own (vf 5,Wt) (by simp [putL,d5,n7])
theorem PutI.own7 (h : PutI w0 β S Wt t done vf W) (d7 : done 7 = true) (n9 : done 9 = false) (n11 : done 11 = false) : OwnB W w0.heap.size (vf 7) (Wt ++ t):=(h.rows n11).own (vf 7,Wt ++ t) (by simp [putL,d7,n9])
theorem PutI.own8 (h : PutI w0 β S Wt t done vf W) (d8 : done 8 = true) (n9 : done 9 = false) (n11 : done 11 = false) : OwnB W w0.heap.size (vf 8) [10]:=(h.rows n11).own (vf 8,[10]) (by simp [putL,d8,n9])
theorem PutI.own2 (h : PutI w0 β S Wt t done vf W) (d9 : done 9 = true) (n11 : done 11 = false) : OwnB W w0.heap.size (vf 2) S:=(h.rows n11).own (vf 2,S) (by simp [putL,h.o1 (h.o2 (h.o3 d9))])
theorem PutI.own9 (h : PutI w0 β S Wt t done vf W) (d9 : done 9 = true) (n11 : done 11 = false) : OwnB W w0.heap.size (vf 9) ((Wt ++ t) ++ [10]):=(h.rows n11).own (vf 9,(Wt ++ t) ++ [10]) (by simp [putL,d9])
theorem PutI.app7 (h : PutI w0 β S Wt t done vf W) (d2 : done 2 = true) (d5 : done 5 = true) (n7 : done 7 = false) (n9 : done 9 = false) (n11 : done 11 = false) (ho : OwnB W' w0.heap.size v (Wt ++ t)) (hg : W.grownBy W' (vf 5).ownBlock) (hat : v.ownBlock = (vf 5).ownBlock ∨ v.ownBlock = some W.heap.size) : PutI w0 β S Wt t (updDone done 7) (updVal vf 7 v) W':=by
 have h5:=h.own5 d5 n7 n11
 have e0 : putL S Wt t done vf = ((if done 8 then [(vf 8,[10])] else []) ++ [(vf 2,S)]) ++ [(vf 5,Wt)]:=by cases h8 : done 8 <;> simp [putL,d2,d5,n7,n9,h8]
 have hr:=h.rows n11
 rw [e0] at hr
 have hr':=hr.grow hg ho hat
 refine ⟨fun _=>OwnSl.grown h5 (h.fr n11) hg (h.fr n11).size (Nat.le_refl _),fun _=>by simp [updDone,d2],fun _=>by simp [updDone,d5],fun e=>by simp [updDone,n9] at e,fun _=>?_,fun e=>by simp [updDone,n11] at e⟩
 have e : putL S Wt t (updDone done 7) (updVal vf 7 v) = ((if done 8 then [(vf 8,[10])] else []) ++ [(vf 2,S)]) ++ [(v,Wt ++ t)]:=by cases h8 : done 8 <;> simp [putL,updDone,updVal,d2,d5,n9,h8]
 rw [e];exact hr'
theorem PutI.new8 (h : PutI w0 β S Wt t done vf W) (n8 : done 8 = false) (n9 : done 9 = false) (n11 : done 11 = false) : PutI w0 β S Wt t (updDone done 8) (updVal vf 8 (.slice (some ⟨W.heap.size,0,none⟩) 1 1)) (W.alloc (.cells #[.int .u8 10] 5)):=by
 have hb : Below W.heap.size W (W.alloc (.cells #[.int .u8 10] 5)):=bel_alloc (Below.refl _ _) _
 have ho : OwnB (W.alloc (.cells #[.int .u8 10] 5)) W.heap.size (.slice (some ⟨W.heap.size,0,none⟩) 1 1) [10] :=
  ⟨[[.int .u8 10]],RowsOf.cons RowsOf.nil rfl rfl,by simp,.inr ⟨W.heap.size,1,#[.int .u8 10],rfl,Nat.le_refl _,heap_last _ _,Nat.le_refl _,by decide,rfl,rfl⟩⟩
 have hr:=(h.rows n11).cons hb (h.fr n11).size ho
 refine ⟨fun _=>bel_call (h.fr n11) hb,?_,?_,?_,fun _=>?_,fun e=>by simp [updDone,n11] at e⟩
 ·exact fun e=>by simpa [updDone] using h.o1 (by simpa [updDone] using e)
 ·exact fun e=>by simpa [updDone] using h.o2 (by simpa [updDone] using e)
 ·exact fun e=>by simp [updDone,n9] at e
 have e : putL S Wt t (updDone done 8) (updVal vf 8 (.slice (some ⟨W.heap.size,0,none⟩) 1 1)) = (.slice (some ⟨W.heap.size,0,none⟩) 1 1,[10]) :: putL S Wt t done vf:=by simp [putL,updDone,updVal,n8,n9]
 rw [e];exact hr
theorem PutI.app9 (h : PutI w0 β S Wt t done vf W) (d2 : done 2 = true) (d5 : done 5 = true) (d7 : done 7 = true) (d8 : done 8 = true) (n9 : done 9 = false) (n11 : done 11 = false) (ho : OwnB W' w0.heap.size v ((Wt ++ t) ++ [10])) (hg : W.grownBy W' (vf 7).ownBlock) (hat : v.ownBlock = (vf 7).ownBlock ∨ v.ownBlock = some W.heap.size) : PutI w0 β S Wt t (updDone done 9) (updVal vf 9 v) W':=by
 have h7:=h.own7 d7 n9 n11
 have e0 : putL S Wt t done vf = [(vf 8,[10]),(vf 2,S)] ++ [(vf 7,Wt ++ t)]:=by simp [putL,d2,d5,d7,d8,n9]
 have hr:=h.rows n11
 rw [e0] at hr
 have hr':=hr.grow hg ho hat
 refine ⟨fun _=>OwnSl.grown h7 (h.fr n11) hg (h.fr n11).size (Nat.le_refl _),fun _=>by simp [updDone,d2],fun _=>by simp [updDone,d5],fun _=>by simp [updDone,d7],fun _=>?_,fun e=>by simp [updDone,n11] at e⟩
 have e : putL S Wt t (updDone done 9) (updVal vf 9 v) = [(vf 2,S),(v,(Wt ++ t) ++ [10])]:=by simp [putL,updDone,updVal,d2,d5,d7,d8]
 rw [e];exact hr'.drop1
theorem PutI.fin11 (h : PutI w0 β S Wt t done vf W) (d9 : done 9 = true) (n11 : done 11 = false) {c0 c1 : Value} (hβ : w0.heap[β]? = some (.cells #[c0,c1] 25)) : PutI w0 β S Wt t (updDone done 11) (updVal vf 11 v) ((W.setCell ⟨β,0,none⟩ (vf 2)).setCell ⟨β,1,none⟩ (vf 9)):=by
 have d7:=h.o3 d9
 have d5:=h.o2 d7
 have d2:=h.o1 d5
 have hr:=h.rows n11
 have h2:=hr.own (vf 2,S) (by simp [putL,d2])
 have h9:=hr.own (vf 9,(Wt ++ t) ++ [10]) (by simp [putL,d9])
 have hb:=h.fr n11
 have hβl:=(Array.getElem?_eq_some_iff.1 hβ).1
 have hg : W.grownBy ((W.setCell ⟨β,0,none⟩ (vf 2)).setCell ⟨β,1,none⟩ (vf 9)) (some β):=grow_trans (grow_set _ _ _ _) (grow_set _ _ _ _)
 have kp : ∀ {u : Value} {l : List UInt8},OwnB W w0.heap.size u l → RdBytes ((W.setCell ⟨β,0,none⟩ (vf 2)).setCell ⟨β,1,none⟩ (vf 9)) (fun b=>w0.heap.size≤b) u l:=fun ho=>RdBytes.keep (OwnB.read ho) (fun _ hx _=>hx) (fun x hx hl=>hg.block x hl (fun e=>by injection e with e;have h1 : w0.heap.size≤x:=hx;omega)) hg.size
 refine ⟨fun e=>by simp [updDone] at e,fun _=>by simp [updDone,d2],fun _=>by simp [updDone,d5],fun _=>by simp [updDone,d7],fun e=>by simp [updDone] at e,fun _=>⟨?_,_,_,set_at (set_at (blk_below hβ hb)),kp h2,kp h9⟩⟩
 exact ⟨hg.os.trans hb.os,hg.tape.trans hb.tape,hg.output.trans hb.output,Nat.le_trans hb.size hg.size,fun k hk hn=>(hg.block k (Nat.lt_of_lt_of_le hk hb.size) hn).trans (hb.block k hk)⟩
end
set_option maxRecDepth 100000 in
set_option maxHeartbeats 16000000 in
theorem dput_any (u v ur : Value) (d : TDisk) (r : TRec) (D : Nat → Prop) (D' : Nat → Prop) (w : World) (h : RdDisk w D u v d) (hr : RdRules w D' ur r.p.rules) (hL : Laid w) :
  Calls Tryz.prog 33 #[diskV u v,recV r ur] w fun e w'=>∃ u' v',e = .returned (.tuple #[diskV u' v',.int .i64 (putE d r).2])∧RdDisk w' (fun b=>w.heap.size≤b) u' v' (putE d r).1∧Below w.heap.size w w':=by
 have HL:=Lib.hid hL
 have Hd:=Lib.hid (RdDisk.lt h)
 have Hr:=Lib.hid hr
 obtain ⟨a1,c1,rfl,hc1⟩:=Sl.form h.1
 obtain ⟨a2,c2,rfl,hc2⟩:=Sl.form h.2
 obtain ⟨a3,c3,rfl,hc3⟩:=Sl.form hr
 clear h hL hr hc1 hc2 hc3
 go_enter Tryz.func33,Tryz.ntmps33
 go_wp2_with fail
 have HB:=Lib.hid (Bx.three (w:=w) (o:=.cells #[.slice a1 d.safe.length c1,.slice a2 d.wait.length c2] 25) (o':=.cells #[.int .i64 r.kind,.int .i64 r.cell,.int .i64 r.from_,.slice a3 r.p.rules.length c3,.int .i64 r.p.dflt] 56) (o2:=.cells #[.slice none 0 0,.slice none 0 0] 25))
 refine (dcheck_any _ _ d _ _ (RdDisk.below Hd.out HB.out.bel) (HL.out.below HB.out.bel)).mono ?_
 rintro e w1 ⟨rfl,hb1⟩
 have HB1:=Lib.hid (HB.out.below hb1)
 clear hb1 HB
 by_cases h0 : diskE d = 0
 ·have H0:=Lib.hid h0
  have Hsum : Hid (d.safe.length + d.wait.length≤60000):=(diskE_ok h0).1
  rw [h0]
  clear h0
  have hq1:=HB1.out.cells1
  go_wp2_with fail
  clear hq1
  refine (nprint_any _ r _ _ (RdRules.below Hr.out HB1.out.bel) (HL.out.below HB1.out.bel)).mono ?_
  rintro e w2 ⟨rfl,hb2⟩
  have HB2:=Lib.hid (HB1.out.below hb2)
  clear hb2 HB1
  by_cases h1 : recE r = 0
  ·have HN : Hid (nprintE r = (recW r,0)):=if_pos h1
   have H1:=Lib.hid h1
   obtain ⟨t,ht⟩ : ∃ t,recW r = t:=⟨_,rfl⟩
   have Ht:=Lib.hid ht
   have Htl : Hid (t.length≤34100):=by show _≤_;rw [← ht];exact recW_len h1
   have hts : (bsL t).size = t.length:=by simp [bsL,ByteArray.size]
   rw [HN.out]
   dsimp only
   rw [ht]
   clear h1 ht
   have htl:=Htl.out
   have hsum:=Hsum.out
   have w1' : IntKind.i64.wrap ((t.length : Int) + 1) = (t.length : Int) + 1:=IntWalk.i64_in _ (by omega)
   have w2' : IntKind.i64.wrap (60000 - (d.safe.length : Int)) = 60000 - (d.safe.length : Int):=IntWalk.i64_in _ (by omega)
   have w3' : IntKind.i64.wrap (60000 - (d.safe.length : Int) - (d.wait.length : Int)) = 60000 - (d.safe.length : Int) - (d.wait.length : Int):=IntWalk.i64_in _ (by omega)
   have hb1 : (d.safe.length : Int)≤60000:=by omega
   have hb2 : (d.wait.length : Int)≤60000:=by omega
   have hb3 : (t.length : Int)≤60000:=by omega
   have hq0:=HB2.out.cells0
   by_cases h2 : 60000 < d.safe.length + d.wait.length + t.length + 1
   ·have HE : Hid (putE d r = (zeroDisk,2)):=by show _ = _;unfold putE;rw [if_neg (by rw [H0.out];simp),if_neg (by rw [H1.out];simp),Ht.out,if_pos h2]
    have h2' : 60000 - (d.safe.length : Int) - (d.wait.length : Int) < (t.length : Int) + 1:=by omega
    have hq2:=HB2.out.cells2
    have hf2:=HB2.out.free2
    have HS:=Lib.hid ((HB2.out.set (i:=2) rfl 0 (.slice none 0 0)).set (i:=2) rfl 1 (.slice none 0 0))
    have hqs:=HS.out.cells2
    have HBL:=Lib.hid HS.out.bel
    clear HS h2 hsum htl
    go_wp2
    refine bodyPost_ret (v:=.tuple #[diskV (.slice none 0 0) (.slice none 0 0),.int .i64 2]) ?_ rfl (by rw [HE.out];exact ⟨_,_,rfl,nil_disk _ _,HBL.out⟩)
    rw [results_cell_tmp rfl]
    go_simp
   ·have HE : Hid (putE d r = (⟨d.safe,d.wait ++ lineW r⟩,0)):=by show _ = _;unfold putE;rw [if_neg (by rw [H0.out];simp),if_neg (by rw [H1.out];simp),Ht.out,if_neg h2]
    have h2' : ¬ 60000 - (d.safe.length : Int) - (d.wait.length : Int) < (t.length : Int) + 1:=by omega
    clear h2 hsum htl
    go_wp2_with fail
    clear hq0 w1' w2' w3' hts hb1 hb2 hb3
    have Hlens : Hid (d.safe.length + d.wait.length + t.length≤100000):=by show _≤_;have:=Hsum.out;have:=Htl.out;omega
    clear h2'
    obtain ⟨w0,hw0⟩ : ∃ w0 : World,w0 = w2:=⟨_,rfl⟩
    subst hw0
    have HR2 : Hid (∀ W,Below w0.heap.size w0 W → RdBytes W (fun b=>b < w.heap.size) (.slice a1 d.safe.length c1) d.safe):=fun W hW=>RdBytes.below (RdBytes.below Hd.out.1 HB2.out.bel) hW
    have HR5 : Hid (∀ W,Below w0.heap.size w0 W → RdBytes W (fun b=>b < w.heap.size) (.slice a2 d.wait.length c2) d.wait):=fun W hW=>RdBytes.below (RdBytes.below Hd.out.2 HB2.out.bel) hW
    have HBr : Hid (∀ W,Below w0.heap.size w0 W → ∀ i,W.cell? ⟨w.heap.size,i,none⟩ = (#[.slice a1 d.safe.length c1,.slice a2 d.wait.length c2] : Array Value)[i]?):=fun W hW=>(HB2.out.below hW).cells0
    have HBt : Hid (w0.heap[w.heap.size + 1 + 1]? = some (.cells #[.slice none 0 0,.slice none 0 0] 25)):=HB2.out.at_ 2 _ rfl
    have HBt0 : Hid (∀ W,Below w0.heap.size w0 W → ∀ i,W.cell? ⟨w.heap.size + 1 + 1,i,none⟩ = (#[.slice none 0 0,.slice none 0 0] : Array Value)[i]?):=fun W hW=>(HB2.out.below hW).cells2
    have HBt1 : Hid (∀ W,Below w0.heap.size w0 W → ∀ i,W.frozen? ⟨w.heap.size + 1 + 1,i,none⟩ = false):=fun W hW=>(HB2.out.below hW).free2
    have HBw : Hid (Below w.heap.size w w0):=HB2.out.bel
    have Hsz : Hid (w.heap.size + 3≤w0.heap.size):=HB2.out.top
    obtain ⟨i0,hi,hz0,hz1,hz2⟩:=info_parts infoByte
    have Hi:=Lib.hid hi
    clear hi HB2
    refine RV.wp_region_rel (PutI w0 (w.heap.size + 1 + 1) d.safe d.wait t) (fun _ _ _ _=>True) (fun _ _ _ _=>True) (by kernel_rfl) (by kernel_rfl) _ rfl (fun _ _ _ _ _ _ _ _ _ _ _ _=>trivial) (fun _ _ _ _ _ _ _ _=>trivial) PutI.start ?_
    (refine RV.rel_ex (fun K hK=>?_);apply Exists.intro;refine ⟨fun done vf W hI hd0 hd hn hf R hR=>?_,?_,?_⟩;(clear hd0 hd hn hf;go_simp;exact hR _ _ (hI.same (by decide) (by decide) (by decide) (by decide) (by decide) (by decide)) trivial rfl trivial);exact (fun _ _ _=>rfl);(go_simp;refine hK _ ?_;clear hK K))
    (refine RV.rel_ex (fun K hK=>?_);apply Exists.intro;refine ⟨fun done vf W hI hd0 hd hn hf R hR=>?_,?_,?_⟩;(have n11 : done 11 = false:=hn 11 (by decide);have hqb:=(HBr.out W (hI.fr n11));clear hd0 hd hn hf;go_simp;exact hR _ _ (hI.same (by decide) (by decide) (by decide) (by decide) (by decide) (by decide)) trivial rfl trivial);exact (fun _ _ _=>rfl);(go_simp;refine hK _ ?_;clear hK K))
    (refine RV.rel_pr (fun K hK=>?_);refine ⟨fun done vf W hI hd0 hd hn hf R hR=>?_,?_⟩;(have n5 : done 5 = false:=hn 5 (by decide);have n7 : done 7 = false:=hn 7 (by decide);have n9 : done 9 = false:=hn 9 (by decide);have n11 : done 11 = false:=hn 11 (by decide);have HRW:=Lib.hid (HR2.out W (hI.fr n11));clear hd hn hf;go_simp;go_at_call 80;refine (cloneByte_any byteR oneByteP _ d.safe _ W HRW.out (by have:=Hlens.out;omega)).mono ?_;rintro e w9 ⟨v9,rfl,ho9,hb9⟩;exact ⟨_,rfl,hR _ _ (hI.clone2 hd0 n5 n7 n9 n11 hb9 ho9) trivial trivial trivial⟩);(go_simp;refine hK _ ?_;clear hK K))
    (refine RV.rel_ex (fun K hK=>?_);apply Exists.intro;refine ⟨fun done vf W hI hd0 hd hn hf R hR=>?_,?_,?_⟩;(clear hd0 hd hn hf;go_simp;exact hR _ _ (hI.same (by decide) (by decide) (by decide) (by decide) (by decide) (by decide)) trivial rfl trivial);exact (fun _ _ _=>rfl);(go_simp;refine hK _ ?_;clear hK K))
    (refine RV.rel_ex (fun K hK=>?_);apply Exists.intro;refine ⟨fun done vf W hI hd0 hd hn hf R hR=>?_,?_,?_⟩;(have n11 : done 11 = false:=hn 11 (by decide);have hqb:=(HBr.out W (hI.fr n11));clear hd0 hd hn hf;go_simp;exact hR _ _ (hI.same (by decide) (by decide) (by decide) (by decide) (by decide) (by decide)) trivial rfl trivial);exact (fun _ _ _=>rfl);(go_simp;refine hK _ ?_;clear hK K))
    (refine RV.rel_pr (fun K hK=>?_);refine ⟨fun done vf W hI hd0 hd hn hf R hR=>?_,?_⟩;(have d2 : done 2 = true:=hd 2 (by decide);have n7 : done 7 = false:=hn 7 (by decide);have n9 : done 9 = false:=hn 9 (by decide);have n11 : done 11 = false:=hn 11 (by decide);have HRW:=Lib.hid (HR5.out W (hI.fr n11));clear hd hn hf;go_simp;go_at_call 80;refine (cloneByte_any byteR oneByteP _ d.wait _ W HRW.out (by have:=Hlens.out;omega)).mono ?_;rintro e w9 ⟨v9,rfl,ho9,hb9⟩;exact ⟨_,rfl,hR _ _ (hI.clone5 hd0 d2 n7 n9 n11 hb9 ho9) trivial trivial trivial⟩);(go_simp;refine hK _ ?_;clear hK K))
    (refine RV.rel_ex (fun K hK=>?_);apply Exists.intro;refine ⟨fun done vf W hI hd0 hd hn hf R hR=>?_,?_,?_⟩;(clear hd0 hd hn hf;go_simp;exact hR _ _ (hI.same (by decide) (by decide) (by decide) (by decide) (by decide) (by decide)) trivial rfl trivial);exact (fun _ _ _=>rfl);(go_simp;refine hK _ ?_;clear hK K))
    (refine RV.rel_pr (fun K hK=>?_);refine ⟨fun done vf W hI hd0 hd hn hf R hR=>?_,?_⟩;(have d5 : done 5 = true:=hd 5 (by decide);have n9 : done 9 = false:=hn 9 (by decide);have n11 : done 11 = false:=hn 11 (by decide);have d2:=hI.o1 d5;have hO:=hI.own5 d5 hd0 n11;have hsz:=(hI.fr n11).size;refine ob_plain rfl ?_;refine gives_append_string (.tmp 42) (.tmp 43) 23 9 rfl w0.heap.size 5 i0 Tryz.underlying23 Tryz.underlying9 Hi.out hz0 hz1 hz2 (vf 5) d.wait (by rfl) hO (bsL t) (by rfl) (by have:=Hlens.out;show _ + t.toArray.size≤_;simp;omega) hsz (fun v' w' h1 h2 h3=>hR _ _ (hI.app7 d2 d5 hd0 n9 n11 h1 h2 h3) trivial trivial trivial));(go_simp;refine hK _ ?_;clear hK K))
    (refine RV.rel_pr (fun K hK=>?_);refine ⟨fun done vf W hI hd0 hd hn hf R hR=>?_,?_⟩;(have n9 : done 9 = false:=hn 9 (by decide);have n11 : done 11 = false:=hn 11 (by decide);clear hd hn hf;go_simp;exact hR _ _ (hI.new8 hd0 n9 n11) trivial trivial trivial);(go_simp;refine hK _ ?_;clear hK K))
    (refine RV.rel_pr (fun K hK=>?_);refine ⟨fun done vf W hI hd0 hd hn hf R hR=>?_,?_⟩;(have d7 : done 7 = true:=hd 7 (by decide);have d8 : done 8 = true:=hd 8 (by decide);have n11 : done 11 = false:=hn 11 (by decide);have d5:=hI.o2 d7;have d2:=hI.o1 d5;have hO:=hI.own7 d7 hd0 n11;have hN:=hI.own8 d8 hd0 n11;have hsz:=(hI.fr n11).size;refine ob_plain rfl ?_;refine gives_append_bytes (.tmp 44) (.tmp 45) 23 rfl w0.heap.size 5 i0 Tryz.underlying23 Hi.out hz0 hz1 hz2 (vf 7) (d.wait ++ t) (by rfl) hO (vf 8) [10] _ (by rfl) (OwnB.read hN) (by decide) (by have:=Hlens.out;simp;omega) hsz (fun v' w' h1 h2 h3=>hR _ _ (hI.app9 d2 d5 d7 d8 hd0 n11 h1 h2 h3) trivial trivial trivial));(go_simp;refine hK _ ?_;clear hK K))
    (refine RV.rel_ex (fun K hK=>?_);refine ⟨fun vf=>Value.agg #[vf 2,vf 9],?_⟩;refine ⟨fun done vf W hI hd0 hd hn hf R hR=>?_,?_,?_⟩;(have d9 : done 9 = true:=hd 9 (by decide);have n11 : done 11 = false:=hn 11 (by decide);obtain ⟨x1,y1,h2⟩:=OwnSl.slice (hI.own2 d9 n11);obtain ⟨x2,y2,h9⟩:=OwnSl.slice (hI.own9 d9 n11);obtain ⟨N,hN⟩ : ∃ N,((d.wait ++ t) ++ [10]).length = N:=⟨_,rfl⟩;rw [hN] at h9;clear hN;have HI:=Lib.hid hI;clear hI;clear hd0 hd hn hf;go_simp;exact hR _ _ (HI.out.same (by decide) (by decide) (by decide) (by decide) (by decide) (by decide)) trivial (by show _ = Value.agg #[vf 2,vf 9];rw [h2,h9]) trivial);exact (fun f g h=>by show Value.agg #[f 2,f 9] = Value.agg #[g 2,g 9];rw [h 2 (by decide),h 9 (by decide)]);(go_simp;refine hK _ ?_;clear hK K))
    (refine RV.rel_pr (fun K hK=>?_);refine ⟨fun done vf W hI hd0 hd hn hf R hR=>?_,?_⟩;(have d9 : done 9 = true:=hd 9 (by decide);have hF:=hI.fin11 (v:=undef) d9 hd0 HBt.out;have hqt:=HBt0.out W (hI.fr hd0);have hft:=HBt1.out W (hI.fr hd0);obtain ⟨x1,y1,h2⟩:=OwnSl.slice (hI.own2 d9 hd0);obtain ⟨x2,y2,h9⟩:=OwnSl.slice (hI.own9 d9 hd0);obtain ⟨N,hN⟩ : ∃ N,((d.wait ++ t) ++ [10]).length = N:=⟨_,rfl⟩;rw [hN] at h9;clear hN;rw [h2,h9] at hF;have HF:=Lib.hid hF;clear hd hn hf hF hI;go_simp;exact hR _ _ HF.out trivial trivial trivial);(go_simp;refine hK _ ?_;clear hK K))
    (refine RV.rel_ex (fun K hK=>?_);apply Exists.intro;refine ⟨fun done vf W hI hd0 hd hn hf R hR=>?_,?_,?_⟩;(clear hd0 hd hn hf;go_simp;exact hR _ _ (hI.same (by decide) (by decide) (by decide) (by decide) (by decide) (by decide)) trivial rfl trivial);exact (fun _ _ _=>rfl);(go_simp;refine hK _ ?_;clear hK K))
    intro done vf w5 hdone hI _
    have hFin:=hI.fin (hdone 11 (by decide))
    clear hdone hI
    obtain ⟨v2,v9,hbx,hr2,hr9⟩:=hFin.box
    have Hg:=Lib.hid hFin.gr
    have Hr2:=Lib.hid hr2
    have Hr9:=Lib.hid hr9
    obtain ⟨x1,y1,rfl,_⟩:=Sl.form hr2
    obtain ⟨x2,y2,rfl,_⟩:=Sl.form hr9
    have hqb:=cells_of hbx
    have HBL : Hid (Below w.heap.size w w5):=Below.grown HBw.out Hg.out HBw.out.size (fun g e=>by injection e with e;omega)
    have HRD : Hid (RdDisk w5 (fun b=>w.heap.size≤b) (.slice x1 d.safe.length y1) (.slice x2 ((d.wait ++ t) ++ [10]).length y2) ⟨d.safe,d.wait ++ lineW r⟩):=⟨Hr2.out.keep (fun b hb _=>by have h1 : w0.heap.size≤b:=hb;have:=Hsz.out;show _≤_;omega) (fun _ _ _=>rfl) (Nat.le_refl _),by
     have e : d.wait ++ lineW r = (d.wait ++ t) ++ [10]:=by unfold lineW;rw [Ht.out,List.append_assoc]
     rw [e]
     exact Hr9.out.keep (fun b hb _=>by have h1 : w0.heap.size≤b:=hb;have:=Hsz.out;show _≤_;omega) (fun _ _ _=>rfl) (Nat.le_refl _)⟩
    clear hr2 hr9 hbx hFin
    go_wp2
    refine bodyPost_ret (v:=.tuple #[diskV (.slice x1 d.safe.length y1) (.slice x2 ((d.wait ++ t) ++ [10]).length y2),.int .i64 0]) ?_ rfl (by rw [HE.out];exact ⟨_,_,rfl,HRD.out,HBL.out⟩)
    rw [results_cell_tmp rfl]
    go_simp
  ·have HN : Hid (nprintE r = ([],recE r)):=if_neg h1
   have HE : Hid (putE d r = (zeroDisk,recE r)):=by show _ = _;unfold putE;rw [if_neg (by rw [H0.out];simp),if_pos h1]
   have hne : (recE r != 0) = true:=bne_iff_ne.2 h1
   rw [HN.out]
   dsimp only
   generalize recE r = E at *
   clear h1 HN
   have hq2:=HB2.out.cells2
   have hf2:=HB2.out.free2
   have HS:=Lib.hid ((HB2.out.set (i:=2) rfl 0 (.slice none 0 0)).set (i:=2) rfl 1 (.slice none 0 0))
   have hqs:=HS.out.cells2
   have HBL:=Lib.hid HS.out.bel
   clear HS
   go_wp2
   refine bodyPost_ret (v:=.tuple #[diskV (.slice none 0 0) (.slice none 0 0),.int .i64 E]) ?_ rfl (by rw [HE.out];exact ⟨_,_,rfl,nil_disk _ _,HBL.out⟩)
   rw [results_cell_tmp rfl]
   go_simp
 ·have HE : Hid (putE d r = (zeroDisk,diskE d)):=by show _ = _;unfold putE;rw [if_pos h0]
  have hne : (diskE d != 0) = true:=bne_iff_ne.2 h0
  generalize diskE d = E at *
  clear h0
  have hq2:=HB1.out.cells2
  have hf2:=HB1.out.free2
  have HS:=Lib.hid ((HB1.out.set (i:=2) rfl 0 (.slice none 0 0)).set (i:=2) rfl 1 (.slice none 0 0))
  have hqs:=HS.out.cells2
  have HBL:=Lib.hid HS.out.bel
  clear HS
  go_wp2
  refine bodyPost_ret (v:=.tuple #[diskV (.slice none 0 0) (.slice none 0 0),.int .i64 E]) ?_ rfl (by rw [HE.out];exact ⟨_,_,rfl,nil_disk _ _,HBL.out⟩)
  rw [results_cell_tmp rfl]
  go_simp
end Go.Proofs.YthkgjohhbdipcaaGreatDoor
namespace Go.Proofs.YthkgjohhbdipcaaGreatDoor
open Go.RowKit
attribute [local go_sem] gives givesUpon
theorem two_rows {W : World} {D : Nat → Prop} {u v : Value} {l m : List UInt8} {b : Nat} {T : TypeId} {fr : Nat × Nat} (h1 : RdBytes W D u l) (h2 : RdBytes W D v m) (hb : W.heap[b]? = some (.cells #[u,v] T fr)) : Sl W (fun _=>True) 1 (rowsRByte W (fun _=>True)) (.slice (some ⟨b,0,none⟩) 2 2) [l,m] :=
 sl_block (sz:=1) (xs:=[l,m]) (rows:=[[u],[v]]) (RowsOf.cons (RowsOf.cons RowsOf.nil ⟨_,rfl,RdBytes.true h2⟩ rfl) ⟨_,rfl,RdBytes.true h1⟩ rfl) hb rfl trivial (by simp [maxLen])
theorem disk_off {b B : Nat} {W W' : World} {u v : Value} {d : TDisk} (h : RdDisk W (fun x=>b + 1≤x) u v d) (hg : W.grownBy W' (some b)) (hB : B≤b + 1) : RdDisk W' (fun x=>B≤x) u v d :=
 h.keep (fun x hx _=>by have h1 : b + 1≤x:=hx;show B≤x;omega) (fun x hx hl=>grow_keep hg hl (by have h1 : b + 1≤x:=hx;omega)) hg.size
theorem LastI.past {n k : Nat} {w0 W : World} {Fin : World → Prop} {done : Nat → Bool} (h : LastI n w0 Fin done W) (hd : done n = true) (hk : n ≠ k) : LastI n w0 Fin (updDone done k) W:=by
 have h1:=h.after hd
 unfold LastI updDone
 rw [if_neg hk,hd,if_pos rfl]
 exact h1
def PBy (B : Nat) (l : List UInt8) (v : Value) (W : World) : Prop:=RdBytes W (fun b=>B≤b) v l
def PDk (B : Nat) (l m : List UInt8) (v : Value) (W : World) : Prop:=∃ x y,v = .agg #[x,y]∧PBy B l x W∧PBy B m y W
theorem PBy_stable {B : Nat} {l : List UInt8} : stableK B (PBy B l):=fun _ _ _ hk h=>RdBytes.keep h (fun _ hx _=>hx) (fun x hx hl=>hk.2 x hx hl) hk.1
theorem PDk_stable {B : Nat} {l m : List UInt8} : stableK B (PDk B l m):=fun _ _ _ hk ⟨x,y,h1,h2,h3⟩=>⟨x,y,h1,PBy_stable _ _ _ hk h2,PBy_stable _ _ _ hk h3⟩
def PFin (w0 : World) (β : Nat) (l m : List UInt8) (W : World) : Prop:=∃ x y,W.heap[β]? = some (.cells #[x,y] 25)∧RdDisk W (fun b=>w0.heap.size≤b) x y ⟨l,m⟩∧w0.grownBy W (some β)
theorem keep_puts2 {B β : Nat} {W : World} {x y : Value} (hβ : β < B) : KeepFrom B W ((W.setCell ⟨β,0,none⟩ x).setCell ⟨β,1,none⟩ y) :=
 ⟨(puts2_grow (W:=W) (b:=β) x y).size,fun k hk hl=>grow_keep (puts2_grow x y) hl (by omega)⟩
theorem grown_trans_below {w0 W W' : World} {β : Nat} (hb : Below w0.heap.size w0 W) (hg : W.grownBy W' (some β)) : w0.grownBy W' (some β) :=
 ⟨hg.os.trans hb.os,hg.tape.trans hb.tape,hg.output.trans hb.output,Nat.le_trans hb.size hg.size,fun k hk hn=>(hg.block k (Nat.lt_of_lt_of_le hk hb.size) hn).trans (hb.block k hk)⟩
theorem put_fin {w0 W : World} {β : Nat} {l m : List UInt8} {x y c0 c1 : Value} (hb : Below w0.heap.size w0 W) (_hs : w0.heap.size≤W.heap.size) (hβ : W.heap[β]? = some (.cells #[c0,c1] 25)) (hlt : β < w0.heap.size) (hx : PBy w0.heap.size l x W) (hy : PBy w0.heap.size m y W) :
  PFin w0 β l m ((W.setCell ⟨β,0,none⟩ x).setCell ⟨β,1,none⟩ y) :=
 ⟨x,y,puts2_at x y hβ,⟨PBy_stable _ _ _ (keep_puts2 hlt) hx,PBy_stable _ _ _ (keep_puts2 hlt) hy⟩,grown_trans_below hb (puts2_grow x y)⟩
set_option maxRecDepth 100000 in
set_option maxHeartbeats 16000000 in
theorem dsync_any (u v : Value) (d : TDisk) (D : Nat → Prop) (w : World) (h : RdDisk w D u v d) (hL : Laid w) :
  Calls Tryz.prog 34 #[diskV u v] w fun e w'=>∃ u' v',e = .returned (.tuple #[diskV u' v',.int .i64 (syncE d).2])∧RdDisk w' (fun b=>w.heap.size≤b) u' v' (syncE d).1∧Below w.heap.size w w':=by
 have HL:=Lib.hid hL
 have Hd:=Lib.hid (RdDisk.true h)
 obtain ⟨a1,c1,rfl,hc1⟩:=Sl.form h.1
 obtain ⟨a2,c2,rfl,hc2⟩:=Sl.form h.2
 clear h hL hc1 hc2
 go_enter Tryz.func34,Tryz.ntmps34
 go_wp2_with fail
 have HB:=Lib.hid (Bx.two (w:=w) (o:=.cells #[.slice a1 d.safe.length c1,.slice a2 d.wait.length c2] 25) (o':=.cells #[.slice none 0 0,.slice none 0 0] 25))
 refine (dcheck_any _ _ d _ _ (RdDisk.below Hd.out HB.out.bel) (HL.out.below HB.out.bel)).mono ?_
 rintro e w1 ⟨rfl,hb1⟩
 have HB1:=Lib.hid (HB.out.below hb1)
 clear hb1 HB
 by_cases h0 : diskE d = 0
 ·have H0:=Lib.hid h0
  have Hsum : Hid (d.safe.length + d.wait.length≤60000):=(diskE_ok h0).1
  rw [h0]
  clear h0
  have hq0:=HB1.out.cells0
  go_wp2_with fail
  clear hq0
  have HA:=Lib.hid (bel_alloc (Below.refl w1.heap.size w1) (.cells #[.slice a1 d.safe.length c1,.slice a2 d.wait.length c2] 23))
  have HB2:=Lib.hid (HB1.out.below HA.out)
  have Hd2:=Lib.hid (RdDisk.below Hd.out HB2.out.bel)
  have HSL:=Lib.hid (two_rows Hd2.out.1 Hd2.out.2 (heap_last w1 (.cells #[.slice a1 d.safe.length c1,.slice a2 d.wait.length c2] 23)))
  refine (concatByte_any _ [d.safe,d.wait] _ _ HSL.out (by have:=Hsum.out;simp [lenTo];omega)).mono ?_
  rintro e w3 ⟨v3,rfl,ho3,hb3⟩
  rw [show [d.safe,d.wait].flatten = d.safe ++ d.wait by simp] at ho3
  obtain ⟨J,hJ⟩ : ∃ J,d.safe ++ d.wait = J:=⟨_,rfl⟩
  have HJ:=Lib.hid hJ
  rw [hJ] at ho3
  have HB3:=Lib.hid (HB2.out.below hb3)
  have Hsz : Hid (w.heap.size + 2≤(w1.alloc (.cells #[.slice a1 d.safe.length c1,.slice a2 d.wait.length c2] 23)).heap.size):=HB2.out.top
  obtain ⟨a3,c3,rfl⟩:=OwnSl.slice ho3
  have HR3 : Hid (RdBytes w3 (fun b=>w.heap.size + 2≤b) (.slice a3 J.length c3) J):=(OwnB.read ho3).keep (fun b hb _=>by have h1 : _≤b:=hb;have:=Hsz.out;show _≤_;omega) (fun _ _ _=>rfl) (Nat.le_refl _)
  clear ho3 hb3 hJ HSL HA HB2 Hd2
  have HA3:=Lib.hid (bel_alloc (Below.refl w3.heap.size w3) (.cells #[.slice a3 J.length c3,.slice none 0 0] 25))
  have HX3:=Lib.hid (heap_last w3 (.cells #[.slice a3 J.length c3,.slice none 0 0] 25))
  have HB4:=Lib.hid (HB3.out.below HA3.out)
  have HR4:=Lib.hid (RdBytes.below HR3.out HA3.out)
  have hqx:=cells_of HX3.out
  go_wp2_with fail
  clear hqx
  refine (dcheck_any _ _ ⟨J,[]⟩ _ _ ⟨HR4.out,nil_bytes _ _⟩ (HL.out.below HB4.out.bel)).mono ?_
  rintro e w5 ⟨rfl,hb5⟩
  have HB5:=Lib.hid (HB4.out.below hb5)
  have HR5:=Lib.hid (RdBytes.below HR4.out hb5)
  have hqx:=cells_of (blk_below HX3.out hb5)
  clear hb5 HB4 HR4
  by_cases h1 : diskE ⟨J,[]⟩ = 0
  ·have HE : Hid (syncE d = (⟨J,[]⟩,0)):=by show _ = _;unfold syncE;rw [if_neg (by rw [H0.out];simp),HJ.out,if_neg (by rw [h1];simp)]
   rw [h1]
   clear h1
   have hq1:=HB5.out.cells1
   have hf1:=HB5.out.free1
   have HS:=Lib.hid ((HB5.out.set (i:=1) rfl 0 (.slice a3 J.length c3)).set (i:=1) rfl 1 (.slice none 0 0))
   have hqs:=HS.out.cells1
   have HBL:=Lib.hid HS.out.bel
   have HRD:=Lib.hid (disk_off (b:=w.heap.size + 1) (B:=w.heap.size) (d:=⟨J,[]⟩) ⟨HR5.out,nil_bytes _ _⟩ (puts2_grow (.slice a3 J.length c3) (.slice none 0 0)) (by omega))
   clear HS
   go_wp2
   refine bodyPost_ret (v:=.tuple #[diskV (.slice a3 J.length c3) (.slice none 0 0),.int .i64 0]) ?_ rfl (by rw [HE.out];exact ⟨_,_,rfl,HRD.out,HBL.out⟩)
   rw [results_cell_tmp rfl]
   go_simp
  ·have HE : Hid (syncE d = (zeroDisk,diskE ⟨J,[]⟩)):=by show _ = _;unfold syncE;rw [if_neg (by rw [H0.out];simp),HJ.out,if_pos h1]
   have hne : (diskE ⟨J,[]⟩ != 0) = true:=bne_iff_ne.2 h1
   generalize diskE ⟨J,[]⟩ = E at *
   clear h1
   have hq1:=HB5.out.cells1
   have hf1:=HB5.out.free1
   have HS:=Lib.hid ((HB5.out.set (i:=1) rfl 0 (.slice none 0 0)).set (i:=1) rfl 1 (.slice none 0 0))
   have hqs:=HS.out.cells1
   have HBL:=Lib.hid HS.out.bel
   clear HS
   go_wp2
   refine bodyPost_ret (v:=.tuple #[diskV (.slice none 0 0) (.slice none 0 0),.int .i64 E]) ?_ rfl (by rw [HE.out];exact ⟨_,_,rfl,nil_disk _ _,HBL.out⟩)
   rw [results_cell_tmp rfl]
   go_simp
 ·have HE : Hid (syncE d = (zeroDisk,diskE d)):=by show _ = _;unfold syncE;rw [if_pos h0]
  have hne : (diskE d != 0) = true:=bne_iff_ne.2 h0
  generalize diskE d = E at *
  clear h0
  have hq1:=HB1.out.cells1
  have hf1:=HB1.out.free1
  have HS:=Lib.hid ((HB1.out.set (i:=1) rfl 0 (.slice none 0 0)).set (i:=1) rfl 1 (.slice none 0 0))
  have hqs:=HS.out.cells1
  have HBL:=Lib.hid HS.out.bel
  clear HS
  go_wp2
  refine bodyPost_ret (v:=.tuple #[diskV (.slice none 0 0) (.slice none 0 0),.int .i64 E]) ?_ rfl (by rw [HE.out];exact ⟨_,_,rfl,nil_disk _ _,HBL.out⟩)
  rw [results_cell_tmp rfl]
  go_simp
set_option maxRecDepth 100000 in
set_option maxHeartbeats 16000000 in
theorem dcrash_any (u v : Value) (d : TDisk) (n : Int) (D : Nat → Prop) (w : World) (h : RdDisk w D u v d) (hL : Laid w) :
  Calls Tryz.prog 35 #[diskV u v,.int .i64 n] w fun e w'=>∃ u' v',e = .returned (.tuple #[diskV u' v',.int .i64 (crashE d n).2])∧RdDisk w' (fun b=>w.heap.size≤b) u' v' (crashE d n).1∧Below w.heap.size w w':=by
 have HL:=Lib.hid hL
 have Hd:=Lib.hid (RdDisk.true h)
 obtain ⟨a1,c1,rfl,hc1⟩:=Sl.form h.1
 obtain ⟨a2,c2,rfl,hc2,hc3,hc4⟩:=Sl.form h.2
 clear h hL hc1 hc4
 go_enter Tryz.func35,Tryz.ntmps35
 go_wp2_with fail
 have HB:=Lib.hid (Bx.two (w:=w) (o:=.cells #[.slice a1 d.safe.length c1,.slice a2 d.wait.length c2] 25) (o':=.cells #[.slice none 0 0,.slice none 0 0] 25))
 refine (dcheck_any _ _ d _ _ (RdDisk.below Hd.out HB.out.bel) (HL.out.below HB.out.bel)).mono ?_
 rintro e w1 ⟨rfl,hb1⟩
 have HB1:=Lib.hid (HB.out.below hb1)
 clear hb1 HB
 by_cases h0 : diskE d = 0
 ·have H0:=Lib.hid h0
  have Hsum : Hid (d.safe.length + d.wait.length≤60000):=(diskE_ok h0).1
  rw [h0]
  clear h0
  by_cases hn0 : n < 0
  ·have HE : Hid (crashE d n = (zeroDisk,3)):=by show _ = _;unfold crashE;rw [if_neg (by rw [H0.out];simp),if_pos (.inl hn0)]
   have hq1:=HB1.out.cells1
   have hf1:=HB1.out.free1
   have HS:=Lib.hid ((HB1.out.set (i:=1) rfl 0 (.slice none 0 0)).set (i:=1) rfl 1 (.slice none 0 0))
   have hqs:=HS.out.cells1
   have HBL:=Lib.hid HS.out.bel
   clear HS
   go_wp2
   refine bodyPost_ret (v:=.tuple #[diskV (.slice none 0 0) (.slice none 0 0),.int .i64 3]) ?_ rfl (by rw [HE.out];exact ⟨_,_,rfl,nil_disk _ _,HBL.out⟩)
   rw [results_cell_tmp rfl]
   go_simp
  ·by_cases hn1 : (d.wait.length : Int) < n
   ·have HE : Hid (crashE d n = (zeroDisk,3)):=by show _ = _;unfold crashE;rw [if_neg (by rw [H0.out];simp),if_pos (.inr hn1)]
    have hq0:=HB1.out.cells0
    have hq1:=HB1.out.cells1
    have hf1:=HB1.out.free1
    have HS:=Lib.hid ((HB1.out.set (i:=1) rfl 0 (.slice none 0 0)).set (i:=1) rfl 1 (.slice none 0 0))
    have hqs:=HS.out.cells1
    have HBL:=Lib.hid HS.out.bel
    clear HS
    go_wp2
    refine bodyPost_ret (v:=.tuple #[diskV (.slice none 0 0) (.slice none 0 0),.int .i64 3]) ?_ rfl (by rw [HE.out];exact ⟨_,_,rfl,nil_disk _ _,HBL.out⟩)
    rw [results_cell_tmp rfl]
    go_simp
   ·have HE : Hid (crashE d n = (⟨d.safe,d.wait.take n.toNat⟩,0)):=by show _ = _;unfold crashE;rw [if_neg (by rw [H0.out];simp),if_neg (by omega)]
    obtain ⟨k,rfl⟩ : ∃ k : Nat,n = k:=⟨n.toNat,by omega⟩
    rw [Int.toNat_natCast] at HE
    have Hk : Hid (k≤d.wait.length):=by show _≤_;omega
    have hk0 : (0 : Int)≤(k : Int):=by omega
    have hkc : (k : Int)≤(c2 : Int):=by omega
    have hq0:=HB1.out.cells0
    go_wp2_with fail
    clear hq0
    obtain ⟨w0,rfl⟩ : ∃ w0 : World,w0 = w1:=⟨_,rfl⟩
    have HB2:=Lib.hid HB1.out
    have Hd2:=Lib.hid (RdDisk.below Hd.out HB2.out.bel)
    have Hsz : Hid (w.heap.size + 1 < w0.heap.size):=HB2.out.top
    refine wp_region_lastop 9 w0.heap.size [ex (.pointer (some ⟨w.heap.size,0,none⟩)),ex (.slice a1 d.safe.length c1),pr (PBy w0.heap.size d.safe),ex (.pointer (some ⟨w.heap.size,1,none⟩)),ex (.slice a2 d.wait.length c2),ex (.int .i64 (k : Int)),ex (.slice a2 k c2),pr (PBy w0.heap.size (d.wait.take k)),pr (PDk w0.heap.size d.safe (d.wait.take k)),ex (undef),ex (.int .i64 0)] (PFin w0 (w.heap.size + 1) d.safe (d.wait.take k)) (by kernel_rfl) (by kernel_rfl) ⟨.inl ⟨_,rfl⟩,.inl ⟨_,rfl⟩,.inr ⟨_,rfl,PBy_stable⟩,.inl ⟨_,rfl⟩,.inl ⟨_,rfl⟩,.inl ⟨_,rfl⟩,.inl ⟨_,rfl⟩,.inr ⟨_,rfl,PBy_stable⟩,.inr ⟨_,rfl,PDk_stable⟩,.inl ⟨_,rfl⟩,.inl ⟨_,rfl⟩,trivial⟩ _ rfl ?_
    (refine walkP_ex (fun K hK=>?_);refine ⟨fun done W hI h0 hd hn hf R hR=>?_,?_⟩;(have hno : done 9 = false:=hn 9 (by decide);have hC:=hI.before hno;clear h0 hd hn hf;go_simp;exact hR _ _ (hI.step hno (by decide) (Below.refl _ _)) (KeepFrom.of_below (Below.refl _ _)) rfl);(go_simp;refine hK _ ?_;clear hK K))
    (refine walkP_ex (fun K hK=>?_);refine ⟨fun done W hI h0 hd hn hf R hR=>?_,?_⟩;(have hno : done 9 = false:=hn 9 (by decide);have hC:=hI.before hno;have hqb:=(HB2.out.below hC.2).cells0;clear h0 hd hn hf;go_simp;exact hR _ _ (hI.step hno (by decide) (Below.refl _ _)) (KeepFrom.of_below (Below.refl _ _)) rfl);(go_simp;refine hK _ ?_;clear hK K))
    (refine walkP_pr (fun K hK=>?_);refine ⟨fun done W hI h0 hd hn hf R hR=>?_,fun v2=>?_⟩;(have hno : done 9 = false:=hn 9 (by decide);have hC:=hI.before hno;have hsz0 : w0.heap.size≤W.heap.size:=hC.1;have HSZ:=Lib.hid hsz0;clear hsz0;have HRW:=Lib.hid (RdBytes.below Hd2.out.1 hC.2);clear h0 hd hn hf;go_simp;go_at_call 80;refine (cloneByte_any byteR oneByteP _ d.safe _ W HRW.out (by have:=Hsum.out;omega)).mono ?_;rintro e w9 ⟨v9,rfl,ho9,hb9⟩;have hro:=OwnB.read ho9;have HRO:=Lib.hid hro;clear hro ho9;exact ⟨_,rfl,hR _ _ (hI.step hno (by decide) hb9) (KeepFrom.of_below hb9) (HRO.out.keep (fun b hb _=>by have h1 : _≤b:=hb;have:=HSZ.out;show _≤_;omega) (fun _ _ _=>rfl) (Nat.le_refl _))⟩);(go_simp;refine hK _ _ ?_;clear hK K))
    (refine walkP_ex (fun K hK=>?_);refine ⟨fun done W hI h0 hd hn hf R hR=>?_,?_⟩;(have hno : done 9 = false:=hn 9 (by decide);have hC:=hI.before hno;clear h0 hd hn hf;go_simp;exact hR _ _ (hI.step hno (by decide) (Below.refl _ _)) (KeepFrom.of_below (Below.refl _ _)) rfl);(go_simp;refine hK _ ?_;clear hK K))
    (refine walkP_ex (fun K hK=>?_);refine ⟨fun done W hI h0 hd hn hf R hR=>?_,?_⟩;(have hno : done 9 = false:=hn 9 (by decide);have hC:=hI.before hno;have hqb:=(HB2.out.below hC.2).cells0;clear h0 hd hn hf;go_simp;exact hR _ _ (hI.step hno (by decide) (Below.refl _ _)) (KeepFrom.of_below (Below.refl _ _)) rfl);(go_simp;refine hK _ ?_;clear hK K))
    (refine walkP_ex (fun K hK=>?_);refine ⟨fun done W hI h0 hd hn hf R hR=>?_,?_⟩;(have hno : done 9 = false:=hn 9 (by decide);have hC:=hI.before hno;clear h0 hd hn hf;go_simp;exact hR _ _ (hI.step hno (by decide) (Below.refl _ _)) (KeepFrom.of_below (Below.refl _ _)) rfl);(go_simp;refine hK _ ?_;clear hK K))
    (refine walkP_ex (fun K hK=>?_);refine ⟨fun done W hI h0 hd hn hf R hR=>?_,?_⟩;(have hno : done 9 = false:=hn 9 (by decide);have hC:=hI.before hno;clear h0 hd hn hf;go_simp;exact hR _ _ (hI.step hno (by decide) (Below.refl _ _)) (KeepFrom.of_below (Below.refl _ _)) rfl);(go_simp;refine hK _ ?_;clear hK K))
    (refine walkP_pr (fun K hK=>?_);refine ⟨fun done W hI h0 hd hn hf R hR=>?_,fun v7=>?_⟩;(have hno : done 9 = false:=hn 9 (by decide);have hC:=hI.before hno;have hsz0 : w0.heap.size≤W.heap.size:=hC.1;have HSZ:=Lib.hid hsz0;clear hsz0;have HRW:=Lib.hid (Sl.take (RdBytes.below Hd2.out.2 hC.2) Hk.out);clear h0 hd hn hf;go_simp;go_at_call 80;refine (cloneByte_any byteR oneByteP _ (d.wait.take k) _ W HRW.out (by have:=Hsum.out;have:=Hk.out;rw [List.length_take];omega)).mono ?_;rintro e w9 ⟨v9,rfl,ho9,hb9⟩;have hro:=OwnB.read ho9;have HRO:=Lib.hid hro;clear hro ho9;exact ⟨_,rfl,hR _ _ (hI.step hno (by decide) hb9) (KeepFrom.of_below hb9) (HRO.out.keep (fun b hb _=>by have h1 : _≤b:=hb;have:=HSZ.out;show _≤_;omega) (fun _ _ _=>rfl) (Nat.le_refl _))⟩);(go_simp;refine hK _ _ ?_;clear hK K))
    (refine walkP_pr (fun K hK=>?_);refine ⟨fun done W hI h0 hd hn hf R hR=>?_,fun v8=>?_⟩;(have hno : done 9 = false:=hn 9 (by decide);have hC:=hI.before hno;have h2 : PBy w0.heap.size d.safe v2 W:=hf 2 (by decide);have h7 : PBy w0.heap.size (d.wait.take k) v7 W:=hf 7 (by decide);obtain ⟨x1,y1,rfl,_⟩:=Sl.form h2;obtain ⟨x2,y2,rfl,_⟩:=Sl.form h7;have H2:=Lib.hid h2;have H7:=Lib.hid h7;obtain ⟨N,hN⟩ : ∃ N,(d.wait.take k).length = N:=⟨_,rfl⟩;rw [hN] at H7 ⊢;clear h2 h7 hC hN;clear h0 hd hn hf;go_simp;exact hR _ _ (hI.step hno (by decide) (Below.refl _ _)) (KeepFrom.of_below (Below.refl _ _)) ⟨_,_,rfl,H2.out,H7.out⟩);(go_simp;refine hK _ _ ?_;clear hK K))
    (refine walkP_ex (fun K hK=>?_);refine ⟨fun done W hI h0 hd hn hf R hR=>?_,?_⟩;(have hno : done 9 = false:=h0;have hC:=hI.before hno;have h8 : PDk w0.heap.size d.safe (d.wait.take k) v8 W:=hf 8 (by decide);obtain ⟨x,y,rfl,hx,hy⟩:=h8;have HX:=Lib.hid hx;have HY:=Lib.hid hy;obtain ⟨x1,y1,rfl,_⟩:=Sl.form hx;obtain ⟨x2,y2,rfl,_⟩:=Sl.form hy;obtain ⟨N,hN⟩ : ∃ N,(d.wait.take k).length = N:=⟨_,rfl⟩;rw [hN] at HY ⊢;have hBW:=HB2.out.below hC.2;have hq1:=hBW.cells1;have hf1:=hBW.free1;have HFn:=Lib.hid (put_fin (β:=w.heap.size + 1) hC.2 hC.1 (hBW.at_ 1 _ rfl) Hsz.out HX.out HY.out);have HKF : Hid (KeepFrom w0.heap.size W ((W.setCell ⟨w.heap.size + 1,0,none⟩ (.slice x1 d.safe.length y1)).setCell ⟨w.heap.size + 1,1,none⟩ (.slice x2 N y2))):=keep_puts2 Hsz.out;clear hx hy hBW hC hN;clear h0 hd hn hf;go_simp;exact hR _ _ (LastI.at_ HFn.out) HKF.out rfl);(go_simp;refine hK _ ?_;clear hK K))
    (refine walkP_ex (fun K hK=>?_);refine ⟨fun done W hI h0 hd hn hf R hR=>?_,?_⟩;(have hyes : done 9 = true:=hd 9 (by decide);clear h0 hd hn hf;go_simp;exact hR _ _ (hI.past hyes (by decide)) (KeepFrom.of_below (Below.refl _ _)) rfl);(go_simp;refine hK _ ?_;clear hK K))
    intro done w5 hdone hI _
    have hFin:=hI.after (hdone 9 (by decide))
    clear hdone hI
    obtain ⟨x,y,hbx,hrd,hg⟩:=hFin
    have Hrd:=Lib.hid hrd
    obtain ⟨x1,y1,rfl,_⟩:=Sl.form hrd.1
    obtain ⟨x2,y2,rfl,_⟩:=Sl.form hrd.2
    have hqb:=cells_of hbx
    have HBL : Hid (Below w.heap.size w w5):=Below.grown HB2.out.bel hg HB2.out.bel.size (fun g e=>by injection e with e;omega)
    have HRD : Hid (RdDisk w5 (fun b=>w.heap.size≤b) (.slice x1 d.safe.length y1) (.slice x2 (d.wait.take k).length y2) ⟨d.safe,d.wait.take k⟩):=Hrd.out.keep (fun b hb _=>by have h1 : w0.heap.size≤b:=hb;have:=Hsz.out;show _≤_;omega) (fun _ _ _=>rfl) (Nat.le_refl _)
    clear hrd hbx hg
    dsimp only at hqb
    go_wp2
    refine bodyPost_ret (v:=.tuple #[diskV (.slice x1 d.safe.length y1) (.slice x2 (d.wait.take k).length y2),.int .i64 0]) ?_ rfl (by rw [HE.out];exact ⟨_,_,rfl,HRD.out,HBL.out⟩)
    rw [results_cell_tmp rfl]
    go_simp
 ·have HE : Hid (crashE d n = (zeroDisk,diskE d)):=by show _ = _;unfold crashE;rw [if_pos h0]
  have hne : (diskE d != 0) = true:=bne_iff_ne.2 h0
  generalize diskE d = E at *
  clear h0
  have hq1:=HB1.out.cells1
  have hf1:=HB1.out.free1
  have HS:=Lib.hid ((HB1.out.set (i:=1) rfl 0 (.slice none 0 0)).set (i:=1) rfl 1 (.slice none 0 0))
  have hqs:=HS.out.cells1
  have HBL:=Lib.hid HS.out.bel
  clear HS
  go_wp2
  refine bodyPost_ret (v:=.tuple #[diskV (.slice none 0 0) (.slice none 0 0),.int .i64 E]) ?_ rfl (by rw [HE.out];exact ⟨_,_,rfl,nil_disk _ _,HBL.out⟩)
  rw [results_cell_tmp rfl]
  go_simp
end Go.Proofs.YthkgjohhbdipcaaGreatDoor
