/- Texts laid one behind the other: Spec, Mono, Base, Builder, Done, Prune, App, LastOp. No condition beyond theirs. -/
import Derived.WalkKit
import Derived.Lib.Hide
import Derived.WalkLawsBesides
import Derived.WalkSpells
import Derived.MapKept
import Derived.Test.YthkgjohhbdipcaaGreatDoorProg
import Derived.Lib.Builder
import Derived.Lib.UnsafeStr
import Derived.Lib.AppendStr
import Derived.Laws.Externs
import Derived.KernelRfl
import Derived.Deep.AppendLies
set_option linter.all false
namespace Go.Proofs.YthkgjohhbdipcaaGreatDoor
structure TCall where
 a0 : Int
 a1 : Int
 a2 : Int
 a3 : Int
 a4 : Int
deriving DecidableEq
structure TIns where
 k : Int
 a : Int
 b : Int
 c : Int
deriving DecidableEq
structure TCond where
 f : Int
 op : Int
 v : Int
deriving DecidableEq
structure TRule where
 conds : List TCond
 verdict : Int
deriving DecidableEq
structure TPol where
 rules : List TRule
 dflt : Int
deriving DecidableEq
def TCall.get (x : TCall) (k : Int) : Int:=if k = 0 then x.a0 else if k = 1 then x.a1 else if k = 2 then x.a2 else if k = 3 then x.a3 else x.a4
def mostOf (k : Int) : Int:=if k = 0 then 63 else if k = 1 then 3 else 65535
def TCall.ok (x : TCall) : Prop:=(0≤x.a0∧x.a0≤63)∧(0≤x.a1∧x.a1≤3)∧(0≤x.a2∧x.a2≤65535)∧(0≤x.a3∧x.a3≤65535)∧(0≤x.a4∧x.a4≤65535)
instance (x : TCall) : Decidable x.ok:=by unfold TCall.ok;infer_instance
def callE (x : TCall) : Int:=if x.ok then 0 else 3
theorem TCall.ok_get {x : TCall} (h : x.ok) {k : Nat} (hk : k < 5) : 0≤x.get k∧x.get k≤mostOf k:=by
 unfold TCall.ok at h
 match k,hk with
 | 0,_=>exact h.1
 | 1,_=>exact h.2.1
 | 2,_=>exact h.2.2.1
 | 3,_=>exact h.2.2.2.1
 | 4,_=>exact h.2.2.2.2
theorem TCall.ok_of {x : TCall} (h : ∀ k : Nat,k < 5 → 0≤x.get k∧x.get k≤mostOf k) : x.ok :=
 ⟨h 0 (by omega),h 1 (by omega),h 2 (by omega),h 3 (by omega),h 4 (by omega)⟩
def insE (x : TIns) (n : Int) : Int :=
 if x.k = 1 ∨ x.k = 4 then
  if x.b ≠ 0 ∨ x.c ≠ 0 then 4
  else if x.a < 0 ∨ x.a > 4 then 3 else 0
 else if x.k = 2 ∨ x.k = 3 then
  if x.a < 0 ∨ x.a > 65535 then 3
  else if x.b < 0 ∨ x.b ≥ n ∨ x.c < 0 ∨ x.c ≥ n then 5 else 0
 else 4
def codeGo : List TIns → Int
 | []=>0
 | x :: r=>if insE x r.length = 0 then codeGo r else insE x r.length
def lastK : List TIns → Int
 | []=>0
 | [x]=>x.k
 | _ :: x :: r=>lastK (x :: r)
def codeE (l : List TIns) : Int :=
 if l.length = 0 ∨ 1500 < l.length then 2 else if codeGo l ≠ 0 then codeGo l else if lastK l = 4 then 0 else 4
theorem codeGo_drop (l : List TIns) (k : Nat) (h : k < l.length) : codeGo (l.drop k) = if insE l[k] ((l.length : Int) - 1 - k) = 0 then codeGo (l.drop (k+1)) else insE l[k] ((l.length : Int) - 1 - k):=by
 rw [List.drop_eq_getElem_cons h]
 have e : ((l.drop (k+1)).length : Int) = (l.length : Int) - 1 - k:=by simp;omega
 simp only [codeGo,e]
theorem lastK_eq : ∀ (l : List TIns) (h : 0 < l.length),lastK l = (l[l.length - 1]).k
 | [],h=>absurd h (by simp)
 | [x],_=>rfl
 | x :: y :: r,_=>by
  simp only [lastK]
  rw [lastK_eq (y :: r) (by simp)]
  simp
def insNext (x : TIns) (n : Int) : Nat:=if (x.k = 2∧n = x.a) ∨ (x.k = 3∧n < x.a) then x.b.toNat else x.c.toNat
def runGo (x : TCall) : (fuel : Nat) → List TIns → (n : Int) → (done : Nat) → Int × Nat
 | 0,_,_,d=>(0,d)
 | _ + 1,[],_,d=>(0,d)
 | f + 1,i :: r,n,d =>
  if i.k = 4 then (i.a,d + 1)
  else if i.k = 1 then runGo x f r (x.get i.a) (d + 1)
  else runGo x f (r.drop (insNext i n)) n (d + 1)
def run (l : List TIns) (x : TCall) : Int × Nat:=runGo x l.length l 0 0
structure Right (l : List TIns) : Prop where
 ne : l ≠ []
 go : codeGo l = 0
 last : lastK l = 4
theorem right_of {l : List TIns} (h : codeE l = 0) : Right l∧l.length≤1500:=by
 unfold codeE at h
 split at h
 ·simp at h
 ·rename_i h1
  split at h
  ·rename_i h2;exact absurd h h2
  ·rename_i h2
   split at h
   ·rename_i h3;exact ⟨⟨fun e=>h1 (.inl (by simp [e])),by omega,h3⟩,by omega⟩
   ·simp at h
theorem Right.tail {x : TIns} {r : List TIns} (h : Right (x :: r)) (hr : r ≠ []) : Right r:=by
 obtain ⟨_,h1,h2⟩:=h
 refine ⟨hr,?_,?_⟩
 ·unfold codeGo at h1
  split at h1
  ·exact h1
  ·rename_i h3;exact absurd h1 h3
 ·cases r with
  | nil=>exact absurd rfl hr
  | cons y r=>exact h2
theorem Right.ins {x : TIns} {r : List TIns} (h : Right (x :: r)) : insE x r.length = 0:=by
 have h1:=h.go
 unfold codeGo at h1
 split at h1
 ·rename_i h3;exact h3
 ·exact h1
theorem Right.drop : ∀ {l : List TIns},Right l → ∀ {k : Nat},k < l.length → Right (l.drop k)
 | _,h,0,_=>h
 | [],h,_ + 1,_=>absurd rfl h.ne
 | x :: r,h,k + 1,hk=>by
  have hr : r ≠ []:=fun e=>by subst e;simp at hk
  exact (h.tail hr).drop (by simpa using hk)
theorem insE_cases {x : TIns} {n : Int} (h : insE x n = 0) : (x.k = 4∧0≤x.a∧x.a≤4∧x.b = 0∧x.c = 0) ∨ (x.k = 1∧0≤x.a∧x.a≤4∧x.b = 0∧x.c = 0) ∨ ((x.k = 2 ∨ x.k = 3)∧0≤x.a∧x.a≤65535∧0≤x.b∧x.b < n∧0≤x.c∧x.c < n):=by
 unfold insE at h
 split at h
 ·split at h
  ·simp at h
  ·split at h
   ·simp at h
   ·rename_i h1 h2 h3;omega
 ·split at h
  ·split at h
   ·simp at h
   ·split at h
    ·simp at h
    ·rename_i h1 h2 h3;omega
  ·simp at h
theorem Right.at_ {l : List TIns} (h : Right l) {k : Nat} (hk : k < l.length) : insE l[k] ((l.length : Int) - 1 - k) = 0∧(l[k].k ≠ 4 → k + 1 < l.length):=by
 have h1:=h.drop hk
 rw [List.drop_eq_getElem_cons hk] at h1
 have e : ((l.drop (k+1)).length : Int) = (l.length : Int) - 1 - k:=by simp;omega
 refine ⟨by rw [← e];exact h1.ins,fun h4=>?_⟩
 rcases Nat.lt_or_ge (k + 1) l.length with hlt | hge
 ·exact hlt
 ·have : l.drop (k + 1) = []:=List.drop_eq_nil_of_le hge
  rw [this] at h1
  exact absurd h1.last h4
theorem runGo_step (x : TCall) (f : Nat) (l : List TIns) (n : Int) (d k : Nat) (hk : k < l.length) (hf : (l.drop k).length≤f) (h4 : l[k].k ≠ 4) :
  ∃ f',(l.drop (k + 1)).length≤f'∧runGo x f (l.drop k) n d = if l[k].k = 1 then runGo x f' (l.drop (k + 1)) (x.get l[k].a) (d + 1) else runGo x f' (l.drop (k + 1 + insNext l[k] n)) n (d + 1):=by
 rw [List.drop_eq_getElem_cons hk] at hf ⊢
 cases f with
 | zero=>simp at hf;omega
 | succ f =>
  refine ⟨f,by simp at hf ⊢;omega,?_⟩
  simp only [runGo,if_neg h4,List.drop_drop]
theorem runGo_ret (x : TCall) (f : Nat) (l : List TIns) (n : Int) (d k : Nat) (hk : k < l.length) (hf : (l.drop k).length≤f) (h4 : l[k].k = 4) : runGo x f (l.drop k) n d = (l[k].a,d + 1):=by
 rw [List.drop_eq_getElem_cons hk] at hf ⊢
 cases f with
 | zero=>simp at hf;omega
 | succ f=>simp only [runGo,if_pos h4]
def runE (l : List TIns) (x : TCall) : Int × Int × Int:=if codeE l ≠ 0 then (0,0,codeE l) else if x.ok then ((run l x).1,(run l x).2,0) else (0,0,3)
end Go.Proofs.YthkgjohhbdipcaaGreatDoor
namespace Go.Proofs.YthkgjohhbdipcaaGreatDoor
open Go.RowKit
def givesUpon (P : Program) (R : Value → World → Prop) : Result Next → Prop
 | .ok (.value v) w'=>R v w'
 | .ok .skip w'=>R undef w'
 | .ok (.enter f args) w'=>Calls P f args w' fun e w''=>∃ v,e = .returned v∧R v w''
 | _=>False
def gives (P : Program) (o : Oper) (a : Act) (w : World) (R : Value → World → Prop) : Prop:=givesUpon P R ((execOp a.eval o).run P w)
structure Spec where
 exact? : Option Value
 pred : Value → World → Prop
@[reducible] def ex (x : Value) : Spec:=⟨some x,fun v _=>v = x⟩
@[reducible] def pr (p : Value → World → Prop) : Spec:=⟨none,p⟩
def Spec.holds (s : Spec) (v : Value) (w : World) : Prop:=match s.exact? with
 | some x=>v = x
 | none=>s.pred v w
def Spec.fact (s : Spec) (v : Value) (w : World) : Prop:=match s.exact? with
 | some _=>True
 | none=>s.pred v w
def depFacts (o : Oper) (fs : List (World → Prop)) (w : World) : Prop:=∀ k : Nat,k ∈ o.after.toList.map (fun e=>e.on) → (fs.getD k (fun _ : World=>True)) w
def monoOb (P : Program) (ops : Array Oper) (C : World → Prop) (T : World → World → Prop) (s : Spec) (o : Oper) (a : Act) (fs : List (World → Prop)) : Prop :=
 ∀ w,C w → depFacts o fs w → ∀ R : Value → World → Prop,(∀ v w',T w w' → s.holds v w' → R v w') →
  if Region.wanted o (yielded ops a.tmps) then gives P o a w R else R undef w
def monoWalk (P : Program) (ops : Array Oper) (C : World → Prop) (T : Nat → World → World → Prop) (Q : Act → World → Prop) :
  List Oper → List Spec → Nat → Act → List (World → Prop) → (World → Prop) → Prop
 | [],_,_,a,_,F=>∀ w : World,C w → F w → Q a w
 | _ :: _,[],_,_,_,_=>False
 | o :: l,s :: ss,i,a,fs,F=>monoOb P ops C (T i) s o a fs ∧
   match s.exact? with
   | some x=>monoWalk P ops C T Q l ss (i + 1) (a.put o.dst x) (fs ++ [fun _ : World=>True]) F
   | none=>∀ v : Value,monoWalk P ops C T Q l ss (i + 1) (a.put o.dst v) (fs ++ [s.pred v]) (fun w : World=>F w∧s.pred v w)
def lexAct (vals : Nat → Value) : List Oper → Nat → Act → Act
 | [],_,a=>a
 | o :: l,i,a=>lexAct vals l (i + 1) (a.put o.dst (vals i))
def okVals (vals : Nat → Value) : List Spec → Nat → Prop
 | [],_=>True
 | s :: ss,i=>(∀ x,s.exact? = some x → vals i = x)∧okVals vals ss (i + 1)
def allFacts (vals : Nat → Value) : List Spec → Nat → World → Prop
 | [],_,_=>True
 | s :: ss,i,w=>s.fact (vals i) w∧allFacts vals ss (i + 1) w
def factList (vals : Nat → Value) : List Spec → Nat → List (World → Prop)
 | [],_=>[]
 | s :: ss,i=>(s.fact (vals i)) :: factList vals ss (i + 1)
theorem mono_ext {P : Program} {ops : Array Oper} {C : World → Prop} {T : Nat → World → World → Prop} {Q : Act → World → Prop} (vals : Nat → Value) :
  ∀ (l : List Oper) (ss : List Spec) (i : Nat) (a : Act) (fs : List (World → Prop)) (F : World → Prop),okVals vals ss i → monoWalk P ops C T Q l ss i a fs F →
   (∀ j o s,l[j]? = some o → ss[j]? = some s → monoOb P ops C (T (i + j)) s o (lexAct vals (l.take j) i a) (fs ++ factList vals (ss.take j) i)) ∧
   (∀ w,C w → F w → allFacts vals (ss.take l.length) i w → Q (lexAct vals l i a) w)∧l.length≤ss.length:=by
 intro l
 induction l with
 | nil=>intro ss i a fs F _ h;exact ⟨fun j o s hj _=>by simp at hj,fun w hC hF _=>h w hC hF,by simp⟩
 | cons o l ih =>
  intro ss i a fs F hv h
  cases ss with
  | nil=>exact h.elim
  | cons s ss =>
   obtain ⟨hx,hv'⟩:=hv
   obtain ⟨hob,hrest⟩:=h
   have key : ∃ F' : World → Prop,monoWalk P ops C T Q l ss (i + 1) (a.put o.dst (vals i)) (fs ++ [s.fact (vals i)]) F'∧∀ w,F w → s.fact (vals i) w → F' w:=by
    unfold Spec.fact
    cases he : s.exact? with
    | some x =>
     rw [he] at hrest
     rw [hx x he]
     exact ⟨F,hrest,fun w h _=>h⟩
    | none =>
     rw [he] at hrest
     exact ⟨_,hrest (vals i),fun w h h'=>⟨h,h'⟩⟩
   obtain ⟨F',hk,hF'⟩:=key
   obtain ⟨h1,h2,h3⟩:=ih ss (i + 1) _ _ F' hv' hk
   refine ⟨fun j o' s' hj hs=>?_,fun w hC hF hall=>?_,by simp;omega⟩
   ·cases j with
    | zero =>
     simp only [List.getElem?_cons_zero,Option.some.injEq] at hj hs
     subst hj hs
     simpa [lexAct,factList] using hob
    | succ j =>
     have:=h1 j o' s' (by simpa using hj) (by simpa using hs)
     simpa [lexAct,factList,List.append_assoc,Nat.add_comm,Nat.add_left_comm,Nat.add_assoc] using this
   ·simp only [List.length_cons,List.take_succ_cons,allFacts] at hall
    exact h2 w hC (hF' w hF hall.1) hall.2
theorem lexAct_size (vals : Nat → Value) : ∀ (l : List Oper) (k : Nat) (a : Act),(lexAct vals l k a).tmps.size = a.tmps.size∧(lexAct vals l k a).defers = a.defers
 | [],_,_=>⟨rfl,rfl⟩
 | o :: l,k,a=>by
  have h:=lexAct_size vals l (k + 1) (a.put o.dst (vals k))
  simp only [lexAct]
  rw [h.1,h.2]
  cases o.dst <;> simp [Act.put]
theorem put_get_other {a : Act} {dst : Option Tmp} {v : Value} {t : Nat} (h : dst ≠ some t) : (a.put dst v).tmps[t]? = a.tmps[t]?:=by
 cases dst with
 | none=>rfl
 | some d =>
  have hne : d ≠ t:=fun e=>h (by rw [e])
  simp [Act.put,Array.getElem?_setIfInBounds_ne hne]
theorem put_get_same {a : Act} {t : Nat} {v : Value} (h : t < a.tmps.size) : (a.put (some t) v).tmps[t]? = some v:=by
 simp [Act.put,h]
theorem lexAct_other (vals : Nat → Value) {t : Nat} : ∀ (l : List Oper) (k : Nat) (a : Act),(∀ o ∈ l,o.dst ≠ some t) → (lexAct vals l k a).tmps[t]? = a.tmps[t]?
 | [],_,_,_=>rfl
 | o :: l,k,a,h=>by
  simp only [lexAct]
  rw [lexAct_other vals l (k + 1) _ (fun o' ho=>h o' (List.mem_cons_of_mem _ ho)),put_get_other (h o (List.mem_cons_self ..))]
theorem lexAct_same (vals : Nat → Value) {t : Nat} : ∀ (l : List Oper) (k : Nat) (a : Act) (j : Nat) (o : Oper),l[j]? = some o → o.dst = some t → (∀ (j' : Nat) (o' : Oper),l[j']? = some o' → j' ≠ j → o'.dst ≠ some t) → t < a.tmps.size →
  (lexAct vals l k a).tmps[t]? = some (vals (k + j))
 | [],_,_,_,_,hj,_,_,_=>by simp at hj
 | o :: l,k,a,j,o',hj,hd,hu,hlt=>by
  have hsz : (a.put o.dst (vals k)).tmps.size = a.tmps.size:=by cases o.dst <;> simp [Act.put]
  simp only [lexAct]
  cases j with
  | zero =>
   simp only [List.getElem?_cons_zero,Option.some.injEq] at hj
   subst hj
   rw [lexAct_other vals l (k + 1) _ (fun o' ho=>?_),hd,put_get_same hlt]
   ·rfl
   ·obtain ⟨i,hi⟩:=List.getElem?_of_mem ho
    exact hu (i + 1) o' (by simpa using hi) (by omega)
  | succ j =>
   rw [lexAct_same vals l (k + 1) _ j o' (by simpa using hj) hd (fun j' o'' h1 h2=>hu (j' + 1) o'' (by simpa using h1) (by omega)) (by rw [hsz];exact hlt)]
   congr 2;omega
def monoB (l : List Oper) (size : Nat) : Bool :=
 (l.zipIdx.all fun (o,i) =>
  (match o.op with | .select ..=>false | _=>true) &&
  o.after.toList.all (fun e=>decide (e.on < i) && Region.binds .any e) &&
  (o.looksAt l.toArray).all (fun s=>l.zipIdx.all fun (o',j)=>o'.dst != some s || (decide (j < i) && (o.after.toList.map (·.on)).contains j)) &&
  (match o.dst with | some d=>decide (d < size) && l.zipIdx.all (fun (o',j)=>j == i || o'.dst != some d) | none=>true))
theorem monoB_spec {l : List Oper} {size : Nat} (h : monoB l size = true) {i : Nat} {o : Oper} (hi : l[i]? = some o) :
  (∀ cs b,o.op ≠ .select cs b)∧(∀ e ∈ o.after,e.on < i∧Region.binds .any e = true) ∧
  (∀ s ∈ o.looksAt l.toArray,∀ (j : Nat) (o' : Oper),l[j]? = some o' → o'.dst = some s → j < i∧∃ e ∈ o.after,e.on = j) ∧
  (∀ d,o.dst = some d → d < size∧∀ (j : Nat) (o' : Oper),l[j]? = some o' → j ≠ i → o'.dst ≠ some d):=by
 have hz : ∀ {j : Nat} {o' : Oper},l[j]? = some o' → (o',j) ∈ l.zipIdx:=fun {j o'} hj=>by
  rw [List.mem_zipIdx_iff_getElem?];exact hj
 have h1:=List.all_eq_true.1 h _ (hz hi)
 simp only [Bool.and_eq_true] at h1
 obtain ⟨⟨⟨ha,hb⟩,hc⟩,hd⟩:=h1
 refine ⟨fun cs b e=>?_,fun e he=>?_,fun s hs j o' hj hds=>?_,fun d hd'=>?_⟩
 ·rw [e] at ha;simp at ha
 ·have:=List.all_eq_true.1 hb e (by simpa using he)
  simpa using this
 ·have h2:=List.all_eq_true.1 (List.all_eq_true.1 hc s hs) _ (hz hj)
  simp [hds] at h2
  exact ⟨h2.1,h2.2⟩
 ·simp only [hd',Bool.and_eq_true,decide_eq_true_eq] at hd
  refine ⟨hd.1,fun j o' hj hne e=>?_⟩
  have:=List.all_eq_true.1 hd.2 _ (hz hj)
  simp [hne,e] at this
structure MonoInv (l : List Oper) (ss : List Spec) (C : World → Prop) (a : Act) (vf : Nat → Value) (listed : Array Bool) (a' : Act) (w' : World) : Prop where
 cls : C w'
 lsize : listed.size = l.length
 defers : a'.defers = a.defers
 size : a'.tmps.size = a.tmps.size
 done : ∀ (j : Nat) (o : Oper) (s : Spec),l[j]? = some o → ss[j]? = some s → listed[j]? = some true → s.holds (vf j) w'∧∀ d,o.dst = some d → a'.tmps[d]? = some (vf j)
 rest : ∀ t,(∀ (j : Nat) (o : Oper),l[j]? = some o → listed[j]? = some true → o.dst ≠ some t) → a'.tmps[t]? = a.tmps[t]?
def undone (listed : Array Bool) (n : Nat) : List Nat:=(List.range n).filter fun i=>listed[i]? != some true
theorem undone_set {listed : Array Bool} {n i : Nat} (hi : i < n) (hn : n≤listed.size) (h : listed[i]? ≠ some true) : (undone (listed.setIfInBounds i true) n).length < (undone listed n).length:=by
 have e : undone (listed.setIfInBounds i true) n = (undone listed n).filter (fun j=>j != i):=by
  unfold undone
  rw [List.filter_filter]
  apply List.filter_congr
  intro j hj
  have hj':=List.mem_range.1 hj
  by_cases e : j = i
  ·subst e
   rw [Array.getElem?_setIfInBounds_self_of_lt (by omega)]
   simp
  ·rw [Array.getElem?_setIfInBounds_ne (Ne.symm e)]
   simp [e]
 rw [e,List.length_filter_lt_length_iff_exists]
 exact ⟨i,by simp [undone,hi,h],by simp⟩
def fillVals (ss : List Spec) (listed : Array Bool) (vf : Nat → Value) (j : Nat) : Value :=
 if listed[j]? = some true then vf j else match ss[j]? with
  | some s=>s.exact?.getD undef
  | none=>undef
theorem okVals_of {vals : Nat → Value} : ∀ (ss : List Spec) (i : Nat),(∀ (j : Nat) (s : Spec) (x : Value),ss[j]? = some s → s.exact? = some x → vals (i + j) = x) → okVals vals ss i
 | [],_,_=>trivial
 | s :: ss,i,h=>⟨fun x hx=>h 0 s x rfl hx,okVals_of ss (i + 1) (fun j s' x hj hx=>by
   have:=h (j + 1) s' x (by simpa using hj) hx
   rwa [show i + 1 + j = i + (j + 1) by omega])⟩
theorem allFacts_of {vals : Nat → Value} {w : World} : ∀ (ss : List Spec) (i : Nat),(∀ (j : Nat) (s : Spec),ss[j]? = some s → s.fact (vals (i + j)) w) → allFacts vals ss i w
 | [],_,_=>trivial
 | s :: ss,i,h=>⟨h 0 s rfl,allFacts_of ss (i + 1) (fun j s' hj=>by
   have:=h (j + 1) s' (by simpa using hj)
   rwa [show i + 1 + j = i + (j + 1) by omega])⟩
theorem factList_get {vals : Nat → Value} : ∀ (ss : List Spec) (i k : Nat) (s : Spec),ss[k]? = some s → (factList vals ss i)[k]? = some (s.fact (vals (i + k)))
 | [],_,_,_,h=>by simp at h
 | s :: ss,i,0,s',h=>by simp at h;subst h;rfl
 | s :: ss,i,k + 1,s',h=>by
  have:=factList_get (vals:=vals) ss (i + 1) k s' (by simpa using h)
  simp only [factList,List.getElem?_cons_succ,this]
  congr 3;omega
theorem Spec.fact_of_holds {s : Spec} {v : Value} {w : World} (h : s.holds v w) : s.fact v w:=by
 unfold Spec.holds at h;unfold Spec.fact
 split <;> simp_all
theorem wp_of_gives {P : Program} {o : Oper} {a : Act} {w : World} {K : Act → World → Prop} {Q : Exit → Act → World → Prop} {R : Value → World → Prop} (h : gives P o a w R) (hk : ∀ v w',R v w' → K (a.put o.dst v) w') : o.wp P a w K Q:=by
 unfold gives at h
 unfold Oper.wp
 generalize (execOp a.eval o).run P w = r at *
 cases r with
 | halt x w'=>simp [givesUpon] at h
 | ok n w' =>
  cases n <;> simp only [givesUpon] at h <;> simp only [Oper.upon]
  case value u=>exact hk _ _ h
  case skip=>exact hk _ _ h
  case enter f args =>
   exact h.mono fun e w'' ⟨v,he,hr⟩=>by subst he;exact hk _ _ hr
section
variable {P : Program} {l : List Oper} {C : World → Prop} {T : Nat → World → World → Prop} {Q : Exit → Act → World → Prop} {a : Act} {ss : List Spec}
theorem wpAny_mono (hB : monoB l a.tmps.size = true) (hCT : ∀ i w w',C w → T i w w' → C w')
  (hst : ∀ (i k : Nat) (s : Spec),i ≠ k → ss[k]? = some s → ∀ v w w',C w → C w' → T i w w' → s.fact v w → s.fact v w')
  (h : monoWalk P l.toArray C T (Q .normal) l ss 0 a [] (fun _=>True)) :
  ∀ (fuel : Nat) (listed : Array Bool) (vf : Nat → Value) (a' : Act) (w' : World),(undone listed l.length).length≤fuel → MonoInv l ss C a vf listed a' w' → wpAny P .any l.toArray Q fuel listed a' w':=by
 have hS:=fun {i : Nat} {o : Oper} (hi : l[i]? = some o)=>monoB_spec hB hi
 -- the values as far as they are there
 have hok : ∀ (listed : Array Bool) (vf : Nat → Value) (a' : Act) (w' : World),MonoInv l ss C a vf listed a' w' → okVals (fillVals ss listed vf) ss 0:=by
  intro listed vf a' w' hI
  refine okVals_of ss 0 fun j s x hj hx=>?_
  rw [Nat.zero_add]
  unfold fillVals
  split
  ·rename_i hl
   have hlt : j < l.length:=by
    have:=(Array.getElem?_eq_some_iff.1 hl).1
    rw [hI.lsize] at this;exact this
   have:=(hI.done j l[j] s (List.getElem?_eq_getElem hlt) hj hl).1
   unfold Spec.holds at this
   rw [hx] at this
   exact this
  ·rw [hj];simp [hx]
 have hfill : ∀ (listed : Array Bool) (vf : Nat → Value) (j : Nat),listed[j]? = some true → fillVals ss listed vf j = vf j:=fun listed vf j hl=>by unfold fillVals;rw [if_pos hl]
 have fin : ∀ (listed : Array Bool) (vf : Nat → Value) (a' : Act) (w' : World),(∀ j,j < l.length → listed[j]? = some true) → MonoInv l ss C a vf listed a' w' → Q .normal a' w':=by
  intro listed vf a' w' hall hI
  obtain ⟨_,h2,h3⟩:=mono_ext (fillVals ss listed vf) l ss 0 a [] _ (hok listed vf a' w' hI) h
  have hq:=h2 w' hI.cls trivial (allFacts_of _ 0 fun j s hj=>by
   rw [Nat.zero_add]
   have hjl : j < l.length:=by
    have:=(List.getElem?_eq_some_iff.1 hj).1
    simp at this;omega
   have hj' : ss[j]? = some s:=by rw [List.getElem?_take_of_lt hjl] at hj;exact hj
   rw [hfill _ _ _ (hall j hjl)]
   exact Spec.fact_of_holds (hI.done j l[j] s (List.getElem?_eq_getElem hjl) hj' (hall j hjl)).1)
  have ea : a' = lexAct (fillVals ss listed vf) l 0 a:=by
   obtain ⟨hz,hd⟩:=lexAct_size (fillVals ss listed vf) l 0 a
   have ht : a'.tmps = (lexAct (fillVals ss listed vf) l 0 a).tmps:=by
    apply Array.ext_getElem?
    intro t
    by_cases hex : ∃ (j : Nat) (o : Oper),l[j]? = some o∧o.dst = some t
    ·obtain ⟨j,o,hj,hdt⟩:=hex
     have hjl:=(List.getElem?_eq_some_iff.1 hj).1
     obtain ⟨hlt,huniq⟩:=(hS hj).2.2.2 t hdt
     rw [lexAct_same _ l 0 a j o hj hdt huniq hlt,Nat.zero_add,hfill _ _ _ (hall j hjl)]
     have hjs : ss[j]? = some ss[j]:=List.getElem?_eq_getElem (by omega)
     exact (hI.done j o _ hj hjs (hall j hjl)).2 t hdt
    ·have hn : ∀ (j : Nat) (o : Oper),l[j]? = some o → o.dst ≠ some t:=fun j o hj e=>hex ⟨j,o,hj,e⟩
     rw [lexAct_other _ l 0 a (fun o ho=>by obtain ⟨j,hj⟩:=List.getElem?_of_mem ho;exact hn j o hj)]
     exact hI.rest t (fun j o hj _=>hn j o hj)
   cases a';cases hx : lexAct (fillVals ss listed vf) l 0 a
   rw [hx] at ht hd
   have:=hI.defers
   simp_all
  rw [ea];exact hq
 have allIf : ∀ (listed : Array Bool),listed.size = l.length → Region.ready .any l.toArray listed = [] → ∀ j,j < l.length → listed[j]? = some true:=by
  intro listed hsz hr j
  induction j using Nat.strongRecOn with
  | ind j ih =>
   intro hj
   have hsome : listed[j]? = some listed[j]:=Array.getElem?_eq_getElem (by omega)
   cases hb : listed[j] with
   | true=>rw [hsome,hb]
   | false =>
    have : j ∈ Region.ready .any l.toArray listed:=by
     rw [mem_ready]
     refine ⟨by simp [Array.getD_eq_getD_getElem?,hsome,hb],l[j],by simp [hj],fun e he _=>?_⟩
     have h1:=((hS (List.getElem?_eq_getElem hj)).2.1 e he).1
     have h2:=ih e.on h1 (by omega)
     simp [Array.getD_eq_getD_getElem?,h2]
    rw [hr] at this
    cases this
 intro fuel
 induction fuel with
 | zero =>
  intro listed vf a' w' hf hI
  have hall : ∀ j,j < l.length → listed[j]? = some true:=by
   intro j hj
   have h0 : undone listed l.length = []:=List.eq_nil_of_length_eq_zero (by omega)
   unfold undone at h0
   rw [List.filter_eq_nil_iff] at h0
   simpa using h0 j (List.mem_range.2 hj)
  refine ⟨?_,fin _ _ _ _ hall hI⟩
  rw [List.eq_nil_iff_forall_not_mem]
  intro j hj
  obtain ⟨h0,o,ho,_⟩:=mem_ready.1 hj
  have hj' : j < l.length:=by
   have:=(Array.getElem?_eq_some_iff.1 ho).1
   simpa using this
  simp [Array.getD_eq_getD_getElem?,hall j hj'] at h0
 | succ fuel ih =>
  intro listed vf a' w' hf hI
  refine ⟨fun hr=>fin _ _ _ _ (allIf listed hI.lsize hr) hI,fun i hi=>?_⟩
  obtain ⟨h0,o,ho,hdep⟩:=mem_ready.1 hi
  have hil : l[i]? = some o:=by simpa using ho
  have hilt : i < l.length:=(List.getElem?_eq_some_iff.1 hil).1
  have hnl : listed[i]? ≠ some true:=fun e=>by simp [Array.getD_eq_getD_getElem?,e] at h0
  obtain ⟨hsel,hafter,hlooks,hdst⟩:=hS hil
  have hdone : ∀ e ∈ o.after,listed[e.on]? = some true:=fun e he=>by
   have:=hdep e he (hafter e he).2
   rw [Array.getD_eq_getD_getElem?] at this
   cases hx : listed[e.on]? with
   | none=>simp [hx] at this
   | some b=>simp [hx] at this;rw [this]
  obtain ⟨h1,_,h3⟩:=mono_ext (fillVals ss listed vf) l ss 0 a [] _ (hok listed vf a' w' hI) h
  have hsi : ss[i]? = some ss[i]:=List.getElem?_eq_getElem (by omega)
  have hob:=h1 i o ss[i] hil hsi
  rw [Nat.zero_add,List.nil_append] at hob
  -- the lexical act looks alike to this operation
  have hsame : ∀ t ∈ o.looksAt l.toArray,(lexAct (fillVals ss listed vf) (l.take i) 0 a).tmps[t]? = a'.tmps[t]?:=by
   intro t ht
   by_cases hex : ∃ (j : Nat) (o' : Oper),l[j]? = some o'∧o'.dst = some t
   ·obtain ⟨j,o',hj,hdt⟩:=hex
    obtain ⟨hji,e,he,hej⟩:=hlooks t ht j o' hj hdt
    have hlj : listed[j]? = some true:=hej ▸ hdone e he
    obtain ⟨hlt,huniq⟩:=(hS hj).2.2.2 t hdt
    have hjs : ss[j]? = some ss[j]:=List.getElem?_eq_getElem (by omega)
    rw [lexAct_same _ (l.take i) 0 a j o' (by rw [List.getElem?_take_of_lt hji];exact hj) hdt (fun j' o'' hj' hne=>huniq j' o'' (by
     have hlt' : j' < i:=by
      have:=(List.getElem?_eq_some_iff.1 hj').1
      simp at this;omega
     rw [List.getElem?_take_of_lt hlt'] at hj';exact hj') hne) hlt,Nat.zero_add,hfill _ _ _ hlj]
    exact ((hI.done j o' _ hj hjs hlj).2 t hdt).symm
   ·have hn : ∀ (j : Nat) (o : Oper),l[j]? = some o → o.dst ≠ some t:=fun j o hj e=>hex ⟨j,o,hj,e⟩
    rw [lexAct_other _ (l.take i) 0 a (fun o' ho'=>by obtain ⟨j,hj⟩:=List.getElem?_of_mem (List.mem_of_mem_take ho');exact hn j o' hj)]
    exact (hI.rest t (fun j o hj _=>hn j o hj)).symm
  have hexec : execOp (lexAct (fillVals ss listed vf) (l.take i) 0 a).eval o = execOp a'.eval o:=by
   refine execOp_congr o hsel fun x hx=>?_
   cases x with
   | tmp t =>
    have:=hsame t (List.mem_append_left _ (List.mem_filterMap.2 ⟨.tmp t,by simpa using hx,rfl⟩))
    simp [Act.eval,Array.getD_eq_getD_getElem?,this]
   | _=>rfl
  have hwant : Region.wanted o (yielded l.toArray (lexAct (fillVals ss listed vf) (l.take i) 0 a).tmps) = Region.wanted o (yielded l.toArray a'.tmps):=by
   unfold Region.wanted
   cases hg : o.guard with
   | none=>rfl
   | some gw =>
    obtain ⟨g,want⟩:=gw
    have hy : yielded l.toArray (lexAct (fillVals ss listed vf) (l.take i) 0 a).tmps g = yielded l.toArray a'.tmps g:=by
     unfold yielded
     cases ht : (l.toArray[g]?).bind (·.dst) with
     | none=>rfl
     | some t =>
      have:=hsame t (by simp only [Oper.looksAt,hg,ht];simp)
      simp only [Option.bind_some,this]
    simp only [hy]
  have hfacts : depFacts o ([] ++ factList (fillVals ss listed vf) (ss.take i) 0) w':=by
   intro k hk
   rw [List.nil_append]
   obtain ⟨e,he,rfl⟩:=List.mem_map.1 hk
   have he' : e ∈ o.after:=by simpa using he
   have hlt:=(hafter e he').1
   have hlk:=hdone e he'
   have hks : ss[e.on]? = some ss[e.on]:=List.getElem?_eq_getElem (by omega)
   rw [List.getD_eq_getElem?_getD,factList_get (ss.take i) 0 e.on ss[e.on] (by rw [List.getElem?_take_of_lt hlt];exact hks),Nat.zero_add,hfill _ _ _ hlk]
   exact Spec.fact_of_holds (hI.done e.on l[e.on] _ (List.getElem?_eq_getElem (by omega)) hks hlk).1
  rw [List.nil_append] at hfacts
  have hres:=hob w' hI.cls hfacts (fun v w''=>T i w' w''∧ss[i].holds v w'') (fun v w'' h1 h2=>⟨h1,h2⟩)
  rw [hwant] at hres
  have next : ∀ v w'',T i w' w'' → ss[i].holds v w'' → wpAny P .any l.toArray Q fuel (listed.setIfInBounds i true) (a'.put o.dst v) w'':=by
   intro v w'' hT hv
   have hu:=undone_set hilt (by rw [hI.lsize];exact Nat.le_refl _) hnl
   refine ih _ (fun j=>if j = i then v else vf j) _ _ (by omega) ⟨hCT i _ _ hI.cls hT,by simp [hI.lsize],?_,?_,?_,?_⟩
   ·rw [← hI.defers];cases o.dst <;> rfl
   ·rw [← hI.size];cases o.dst <;> simp [Act.put]
   ·intro j o' s hj hjs hlj
    by_cases e : j = i
    ·subst e
     rw [hil] at hj
     obtain rfl : o = o':=by simpa using hj
     rw [hsi] at hjs
     obtain rfl : ss[j] = s:=by simpa using hjs
     rw [if_pos rfl]
     refine ⟨hv,fun d hd=>?_⟩
     rw [hd,put_get_same (by rw [hI.size];exact (hdst d hd).1)]
    ·rw [Array.getElem?_setIfInBounds_ne (Ne.symm e)] at hlj
     rw [if_neg e]
     obtain ⟨g1,g2⟩:=hI.done j o' s hj hjs hlj
     refine ⟨?_,fun d hd=>?_⟩
     ·have hf:=hst i j s (Ne.symm e) hjs (vf j) w' w'' hI.cls (hCT i _ _ hI.cls hT) hT (Spec.fact_of_holds g1)
      unfold Spec.holds at g1 ⊢
      unfold Spec.fact at hf
      split <;> simp_all
     ·rw [put_get_other (fun e'=>(hdst d e').2 j o' hj e hd)]
      exact g2 d hd
   ·intro t ht
    have hti : o.dst ≠ some t:=ht i o hil (by rw [Array.getElem?_setIfInBounds_self_of_lt (by rw [hI.lsize];exact hilt)])
    rw [put_get_other hti]
    refine hI.rest t fun j o' hj hlj=>?_
    by_cases e : j = i
    ·subst e;exact absurd hlj hnl
    ·exact ht j o' hj (by rw [Array.getElem?_setIfInBounds_ne (Ne.symm e)];exact hlj)
  unfold wpOp
  rw [ho]
  by_cases hw : Region.wanted o (yielded l.toArray a'.tmps) = true
  ·simp only [hw,if_true] at hres ⊢
   refine .inl (wp_of_gives (R:=fun v w''=>T i w' w''∧ss[i].holds v w'') ?_ fun v w'' ⟨h1,h2⟩=>next v w'' h1 h2)
   unfold gives at hres ⊢
   rw [← hexec];exact hres
  ·simp only [hw] at hres ⊢
   exact next _ _ hres.1 hres.2
theorem wp_region_mono {id : Nat} {w : World} (ss : List Spec) (C : World → Prop) (T : Nat → World → World → Prop) (hm : P.follows .mixedOrders = true) (hB : monoB l a.tmps.size = true)
  (hCT : ∀ i w w',C w → T i w w' → C w')
  (hst : ∀ (i k : Nat) (s : Spec),i ≠ k → ss[k]? = some s → ∀ v w w',C w → C w' → T i w w' → s.fact v w → s.fact v w') (hC : C w.drew)
  (h : monoWalk P l.toArray C T (Q .normal) l ss 0 a [] (fun _=>True)) : (Code.region id l.toArray true).wp P Q a w:=by
 refine wp_region_any hm (wpAny_mono hB hCT hst h _ _ (fun _=>undef) _ _ ?_ ⟨hC,by simp,rfl,rfl,?_,fun _ _=>rfl⟩)
 ·have:=List.length_filter_le (fun i=>(Array.replicate l.toArray.size false)[i]? != some true) (List.range l.length)
  simpa [undone] using this
 ·intro j o s hj _ hl
  rw [Array.getElem?_replicate] at hl
  split at hl <;> simp at hl
end
def Cls (B : Nat) (W0 W : World) : Prop:=B≤W.heap.size∧Below B W0 W
def TB (_ : Nat) (w w' : World) : Prop:=Below w.heap.size w w'
theorem Cls.step {B : Nat} {W0 w w' : World} (h : Cls B W0 w) (h' : Below w.heap.size w w') : Cls B W0 w':=⟨Nat.le_trans h.1 h'.size,h.2.trans (h'.mono h.1)⟩
def stableB (s : Spec) : Prop:=∀ v w w',Below w.heap.size w w' → s.fact v w → s.fact v w'
theorem stable_ex (x : Value) : stableB (ex x):=fun _ _ _ _ _=>trivial
theorem wp_region_below {P : Program} {l : List Oper} {Q : Exit → Act → World → Prop} {a : Act} {id : Nat} {w : World} (ss : List Spec) (B : Nat) (hBw : B≤w.heap.size) (hm : P.follows .mixedOrders = true) (hB : monoB l a.tmps.size = true)
  (hst : ∀ s ∈ ss,stableB s) (h : monoWalk P l.toArray (Cls B w) TB (Q .normal) l ss 0 a [] (fun _=>True)) : (Code.region id l.toArray true).wp P Q a w :=
 wp_region_mono ss (Cls B w) TB hm hB (fun _ _ _ hC hT=>hC.step hT) (fun _ _ s _ hk v w1 w2 _ _ hT hf=>hst s (List.mem_of_getElem? hk) v w1 w2 hT hf) ⟨hBw,(Below.refl _ _).drew⟩ h
def monoE (P : Program) (ops : Array Oper) (C : World → Prop) (T : Nat → World → World → Prop) (Q : Act → World → Prop) : List Oper → Nat → Act → Prop
 | [],_,a=>∀ w : World,C w → Q a w
 | o :: l,i,a=>∃ x : Value,(∀ w : World,C w → ∀ R : Value → World → Prop,(∀ (v : Value) (w' : World),T i w w' → v = x → R v w') → if Region.wanted o (yielded ops a.tmps) then gives P o a w R else R undef w) ∧
   monoE P ops C T Q l (i + 1) (a.put o.dst x)
theorem monoE_step {P : Program} {ops : Array Oper} {C : World → Prop} {T : Nat → World → World → Prop} {Q : Act → World → Prop} {o : Oper} {l : List Oper} {i : Nat} {a : Act}
  (h : ∀ K : Act → Prop,(∀ a,monoE P ops C T Q l (i + 1) a → K a) → ∃ x : Value,(∀ w : World,C w → ∀ R : Value → World → Prop,(∀ (v : Value) (w' : World),T i w w' → v = x → R v w') → if Region.wanted o (yielded ops a.tmps) then gives P o a w R else R undef w)∧K (a.put o.dst x)) :
  monoE P ops C T Q (o :: l) i a:=h _ (fun _ h=>h)
theorem monoE_list {P : Program} {ops : Array Oper} {C : World → Prop} {T : Nat → World → World → Prop} {Q : Act → World → Prop} : ∀ (l : List Oper) (i : Nat) (a : Act) (fs : List (World → Prop)),
  monoE P ops C T Q l i a → ∃ xs : List Value,monoWalk P ops C T Q l (xs.map ex) i a fs (fun _=>True)
 | [],_,_,_,h=>⟨[],fun w hC _=>h w hC⟩
 | o :: l,i,a,fs,⟨x,hob,hrest⟩=>by
  obtain ⟨xs,hx⟩:=monoE_list l (i + 1) _ (fs ++ [fun _ : World=>True]) hrest
  exact ⟨x :: xs,fun w hC _ R hR=>hob w hC R hR,hx⟩
theorem wp_region_exact {P : Program} {l : List Oper} {Q : Exit → Act → World → Prop} {a : Act} {id : Nat} {w : World} (B : Nat) (hBw : B≤w.heap.size) (hm : P.follows .mixedOrders = true) (hB : monoB l a.tmps.size = true)
  (h : monoE P l.toArray (Cls B w) TB (Q .normal) l 0 a) : (Code.region id l.toArray true).wp P Q a w:=by
 obtain ⟨xs,hx⟩:=monoE_list l 0 a [] h
 refine wp_region_below (xs.map ex) B hBw hm hB (fun s hs=>?_) hx
 obtain ⟨x,_,rfl⟩:=List.mem_map.1 hs
 exact stable_ex x
end Go.Proofs.YthkgjohhbdipcaaGreatDoor
namespace Go.Proofs.YthkgjohhbdipcaaGreatDoor
open Go.RowKit
open Go.MapKept (IsKey)
theorem ret_int {k : IntKind} {a b : Int} (h : a = b) : Ending.returned (.int k a) = .returned (.int k b):=by rw [h]
theorem ret_bool {a b : Bool} (h : a = b) : Ending.returned (.bool a) = .returned (.bool b):=by rw [h]
theorem bel_alloc {w wr : World} (h : Below w.heap.size w wr) (o : Obj) : Below w.heap.size w (wr.alloc o):=h.alloc h.size o
theorem bel_call {w wr w1 : World} (h : Below w.heap.size w wr) (h1 : Below wr.heap.size wr w1) : Below w.heap.size w w1:=h.trans (h1.mono h.size)
theorem bel_alloc_call {w wr w1 : World} {o : Obj} (h : Below w.heap.size w wr) (h1 : Below (wr.alloc o).heap.size (wr.alloc o) w1) : Below w.heap.size w w1 :=
 (bel_alloc h o).trans (h1.mono (by have:=h.size;simp;omega))
theorem box_cells {w w1 : World} {cs : Array Value} {T : TypeId} (hb : Below (w.heap.size + 1) (w.alloc (.cells cs T)) w1) (j : Nat) : w1.cell? ⟨w.heap.size,j,none⟩ = cs[j]?:=by
 rw [hb.cell (p:=⟨w.heap.size,j,none⟩) (by simp)]
 exact World.cell?_alloc_at _ _ _ _ rfl
theorem bel_box {w w1 : World} {o : Obj} (hb : Below (w.heap.size + 1) (w.alloc o) w1) : Below w.heap.size w w1:=(bel_alloc (Below.refl _ _) o).trans (hb.mono (by omega))
theorem size_box {w w1 : World} {o : Obj} (hb : Below (w.heap.size + 1) (w.alloc o) w1) : w.heap.size + 1≤w1.heap.size:=by have:=hb.size;simp at this;omega
theorem box2_cells {w w1 : World} {cs cs' : Array Value} {T T' : TypeId} (hb : Below (w.heap.size + 2) ((w.alloc (.cells cs T)).alloc (.cells cs' T')) w1) :
  (∀ j,w1.cell? ⟨w.heap.size,j,none⟩ = cs[j]?)∧(∀ j,w1.cell? ⟨w.heap.size + 1,j,none⟩ = cs'[j]?):=by
 constructor
 ·intro j
  rw [hb.cell (p:=⟨w.heap.size,j,none⟩) (by simp),World.cell?_alloc_lt _ _ _ (by simp)]
  exact World.cell?_alloc_at _ _ _ _ rfl
 ·intro j
  rw [hb.cell (p:=⟨w.heap.size + 1,j,none⟩) (by simp)]
  exact World.cell?_alloc_at _ _ _ _ (by simp)
theorem bel_box2 {w w1 : World} {o o' : Obj} (hb : Below (w.heap.size + 2) ((w.alloc o).alloc o') w1) : Below w.heap.size w w1:=(bel_alloc (bel_alloc (Below.refl _ _) o) o').trans (hb.mono (by omega))
theorem size_box2 {w w1 : World} {o o' : Obj} (hb : Below (w.heap.size + 2) ((w.alloc o).alloc o') w1) : w.heap.size + 2≤w1.heap.size:=by have:=hb.size;simp at this;omega
def Sl {α : Type} (w : World) (D : Nat → Prop) (sz : Nat) (R : α → List Value → Prop) (v : Value) (xs : List α) : Prop :=
 ∃ a c,v = .slice a xs.length c∧xs.length≤c∧c≤maxLen∧(a = none → c = 0)∧(0 < xs.length → ∃ b o,a = some ⟨b,o,none⟩∧D b∧b < w.heap.size ∧
  ∀ i x,xs[i]? = some x → ∃ cs : List Value,cs.length = sz∧R x cs∧∀ j u,cs[j]? = some u → w.cell? ⟨b,o + (i * sz + j),none⟩ = some u)
section
variable {α : Type} {w w' : World} {D D' : Nat → Prop} {sz : Nat} {R R' : α → List Value → Prop} {v : Value} {xs : List α}
theorem Sl.mono (h : Sl w D sz R v xs) (hD : ∀ b,D b → b < w.heap.size → D' b) (hw : ∀ b,D b → b < w.heap.size → w'.heap[b]? = w.heap[b]?) (hs : w.heap.size≤w'.heap.size)
  (hR : ∀ x ∈ xs,∀ cs,R x cs → R' x cs) : Sl w' D' sz R' v xs:=by
 obtain ⟨a,c,hv,hl,hm,hn,h⟩:=h
 refine ⟨a,c,hv,hl,hm,hn,fun h0=>?_⟩
 obtain ⟨b,o,ha,hDb,hb,hc⟩:=h h0
 refine ⟨b,o,ha,hD b hDb hb,by omega,fun i x hx=>?_⟩
 obtain ⟨cs,hcs,hr,hcell⟩:=hc i x hx
 exact ⟨cs,hcs,hR x (List.mem_of_getElem? hx) cs hr,fun j u hu=>(World.cell?_of_block (w:=w) (hw b hDb hb)).trans (hcell j u hu)⟩
theorem Sl.form (h : Sl w D sz R v xs) : ∃ a c,v = .slice a xs.length c∧xs.length≤c∧c≤9223372036854775807∧(0 < xs.length → ∃ b o,a = some ⟨b,o,none⟩∧D b∧b < w.heap.size):=by
 obtain ⟨a,c,hv,hl,hm,_,h⟩:=h
 refine ⟨a,c,hv,hl,by unfold maxLen at hm;omega,fun h0=>?_⟩
 obtain ⟨b,o,ha,hDb,hb,hc⟩:=h h0
 exact ⟨b,o,ha,hDb,hb⟩
theorem Sl.get {b o n c : Nat} {s : Option Nat} (h : Sl w D sz R (.slice (some ⟨b,o,s⟩) n c) xs) {i : Nat} (hi : i < xs.length) :
  ∃ cs : List Value,cs.length = sz∧R xs[i] cs∧∀ j u,cs[j]? = some u → w.cell? ⟨b,o + (i * sz + j),none⟩ = some u:=by
 obtain ⟨a,c',hv,hl,hm,_,h⟩:=h
 obtain ⟨b',o',ha,hDb,hb,hc⟩:=h (by omega)
 injection hv with h1 h2 h3
 subst h1
 injection ha with h4
 injection h4 with h5 h6 h7
 subst h5 h6
 exact hc i _ (List.getElem?_eq_getElem hi)
end
theorem heap_last (w : World) (o : Obj) : (w.alloc o).heap[w.heap.size]? = some o:=by
 show (w.heap.push o)[w.heap.size]? = _
 simp
theorem set_last (w : World) (o o' : Obj) : ({ w.alloc o with heap:=(w.alloc o).heap.setIfInBounds w.heap.size o' } : World) = w.alloc o':=by
 have : (w.alloc o).heap.setIfInBounds w.heap.size o' = (w.alloc o').heap:=by
  show (w.heap.push o).setIfInBounds w.heap.size o' = w.heap.push o'
  apply Array.ext_getElem?
  intro i
  rw [Array.getElem?_setIfInBounds]
  simp only [Array.getElem?_push,Array.size_push]
  split <;> split <;> simp_all
 simp only [this]
 rfl
theorem run_insert_new {P : Program} {w : World} {t kt et : TypeId} {kd : TypeDesc} {es : Array MapEntry} {c : Nat} {key v : Value} (ht : P.underlying t = some (.map kt et)) (hk : P.underlying kt = some kd)
  (hp : IsKey kd key) (hf : Instr.findNow kd key es.toList 0 = some none) :
  (Instr.mapUpdate t (.map (some w.heap.size)) key v).run P (w.alloc (.map es c)) = .ok () (w.alloc (.map (es.push ⟨key,v,c⟩) (c + 1))):=by
 have hb:=heap_last w (.map es c)
 simp [Instr.mapUpdate,run_underlying ht,MapKept.run_getObj_map hb,MapKept.run_checkKey hk hp,MapKept.run_findKey hk hf,MapKept.run_setObj_map _ hb,Result.andThen]
 exact set_last w _ _
theorem run_insert_at {P : Program} {w : World} {b : Nat} {t kt et : TypeId} {kd : TypeDesc} {es : Array MapEntry} {c : Nat} {key v : Value} (hb : b = w.heap.size) (ht : P.underlying t = some (.map kt et)) (hk : P.underlying kt = some kd)
  (hp : IsKey kd key) (hf : Instr.findNow kd key es.toList 0 = some none) :
  (Instr.mapUpdate t (.map (some b)) key v).run P (w.alloc (.map es c)) = .ok () (w.alloc (.map (es.push ⟨key,v,c⟩) (c + 1))):=by subst hb;exact run_insert_new ht hk hp hf
theorem run_lookup_ok {P : Program} {w : World} {r : Nat} {t kt et : TypeId} {kd : TypeDesc} {es : Array MapEntry} {c : Nat} {key z : Value} {f : Option (Nat × Value)} (ht : P.underlying t = some (.map kt et)) (hk : P.underlying kt = some kd)
  (hb : w.heap[r]? = some (.map es c)) (hz : (zeroValue et).run P w = .ok z w) (hp : IsKey kd key) (hf : Instr.findNow kd key es.toList 0 = some f) :
  (Instr.lookup t (.map (some r)) key true).run P w = .ok (.tuple #[(f.map (·.2)).getD z,.bool f.isSome]) w:=by
 cases f with
 | none=>simp [Instr.lookup,run_underlying ht,MapKept.run_getObj_map hb,MapKept.run_checkKey hk hp,MapKept.run_findKey hk hf,Result.andThen,hz]
 | some x=>simp [Instr.lookup,run_underlying ht,MapKept.run_getObj_map hb,MapKept.run_checkKey hk hp,MapKept.run_findKey hk hf,Result.andThen]
theorem run_lookup_bare {P : Program} {w : World} {r : Nat} {t kt et : TypeId} {kd : TypeDesc} {es : Array MapEntry} {c : Nat} {key z : Value} {f : Option (Nat × Value)} (ht : P.underlying t = some (.map kt et)) (hk : P.underlying kt = some kd)
  (hb : w.heap[r]? = some (.map es c)) (hz : (zeroValue et).run P w = .ok z w) (hp : IsKey kd key) (hf : Instr.findNow kd key es.toList 0 = some f) :
  (Instr.lookup t (.map (some r)) key false).run P w = .ok ((f.map (·.2)).getD z) w:=by
 cases f with
 | none=>simp [Instr.lookup,run_underlying ht,MapKept.run_getObj_map hb,MapKept.run_checkKey hk hp,MapKept.run_findKey hk hf,Result.andThen,hz]
 | some x=>simp [Instr.lookup,run_underlying ht,MapKept.run_getObj_map hb,MapKept.run_checkKey hk hp,MapKept.run_findKey hk hf,Result.andThen]
def insR (x : TIns) (cs : List Value) : Prop:=cs = [.int .i64 x.k,.int .i64 x.a,.int .i64 x.b,.int .i64 x.c]
def RdCode (w : World) (D : Nat → Prop) (v : Value) (l : List TIns) : Prop:=Sl w D 4 insR v l
theorem RdCode.keep {w w' : World} {D D' : Nat → Prop} {v : Value} {l : List TIns} (h : RdCode w D v l) (hD : ∀ b,D b → b < w.heap.size → D' b)
  (hw : ∀ b,D b → b < w.heap.size → w'.heap[b]? = w.heap[b]?) (hs : w.heap.size≤w'.heap.size) : RdCode w' D' v l:=Sl.mono h hD hw hs (fun _ _ _ h=>h)
theorem RdCode.below {w w' : World} {D : Nat → Prop} {v : Value} {l : List TIns} (h : RdCode w D v l) (hb : Below w.heap.size w w') : RdCode w' D v l :=
 h.keep (fun _ h _=>h) (fun b _ hlt=>hb.block b hlt) hb.size
theorem RdCode.cells {w : World} {D : Nat → Prop} {b o n c : Nat} {s : Option Nat} {l : List TIns} (h : RdCode w D (.slice (some ⟨b,o,s⟩) n c) l) {i : Nat} (hi : i < l.length) :
  w.cell? ⟨b,o + i * 4,none⟩ = some (.int .i64 l[i].k)∧w.cell? ⟨b,o + i * 4 + 1,none⟩ = some (.int .i64 l[i].a)∧w.cell? ⟨b,o + i * 4 + 2,none⟩ = some (.int .i64 l[i].b)∧w.cell? ⟨b,o + i * 4 + 3,none⟩ = some (.int .i64 l[i].c):=by
 obtain ⟨cs,hcs,hr,hcell⟩:=Sl.get h hi
 unfold insR at hr
 subst hr
 exact ⟨hcell 0 _ rfl,hcell 1 _ rfl,hcell 2 _ rfl,hcell 3 _ rfl⟩
def intR (x : Int) (cs : List Value) : Prop:=cs = [.int .i64 x]
def RdInts (w : World) (D : Nat → Prop) (v : Value) (l : List Int) : Prop:=Sl w D 1 intR v l
theorem RdInts.keep {w w' : World} {D D' : Nat → Prop} {v : Value} {l : List Int} (h : RdInts w D v l) (hD : ∀ b,D b → b < w.heap.size → D' b)
  (hw : ∀ b,D b → b < w.heap.size → w'.heap[b]? = w.heap[b]?) (hs : w.heap.size≤w'.heap.size) : RdInts w' D' v l:=Sl.mono h hD hw hs (fun _ _ _ h=>h)
theorem RdInts.below {w w' : World} {D : Nat → Prop} {v : Value} {l : List Int} (h : RdInts w D v l) (hb : Below w.heap.size w w') : RdInts w' D v l :=
 h.keep (fun _ h _=>h) (fun b _ hlt=>hb.block b hlt) hb.size
theorem RdInts.cell {w : World} {D : Nat → Prop} {b o n c : Nat} {s : Option Nat} {l : List Int} (h : RdInts w D (.slice (some ⟨b,o,s⟩) n c) l) {i : Nat} (hi : i < l.length) :
  w.cell? ⟨b,o + i,none⟩ = some (.int .i64 l[i]):=by
 obtain ⟨cs,hcs,hr,hcell⟩:=Sl.get h hi
 unfold intR at hr
 subst hr
 have:=hcell 0 _ rfl
 rwa [Nat.mul_one] at this
theorem blk_at {w : World} {o : Obj} {b : Nat} (hb : b = w.heap.size) : (w.alloc o).heap[b]? = some o:=by subst hb;exact heap_last w o
theorem blk_old {w : World} {o x : Obj} {b : Nat} (h : w.heap[b]? = some x) : (w.alloc o).heap[b]? = some x :=
 (Below.heap_alloc w o b (Array.getElem?_eq_some_iff.1 h).1).trans h
theorem blk_below {w w' : World} {x : Obj} {b : Nat} (h : w.heap[b]? = some x) (hb : Below w.heap.size w w') : w'.heap[b]? = some x :=
 (hb.block b (Array.getElem?_eq_some_iff.1 h).1).trans h
theorem Sl.take {α : Type} {w : World} {D : Nat → Prop} {sz : Nat} {R : α → List Value → Prop} {a : Option Addr} {n c k : Nat} {xs : List α} (h : Sl w D sz R (.slice a n c) xs) (hk : k≤n) : Sl w D sz R (.slice a k c) (xs.take k):=by
 obtain ⟨a',c',hv,hl,hm,hn,h⟩:=h
 injection hv with h1 h2 h3
 subst h1 h2 h3
 have hlk : (xs.take k).length = k:=by rw [List.length_take];omega
 refine ⟨a,c,by rw [hlk],by omega,hm,hn,fun h0=>?_⟩
 obtain ⟨b,o,ha,hDb,hb,hc⟩:=h (by omega)
 refine ⟨b,o,ha,hDb,hb,fun i x hx=>hc i x ?_⟩
 have hi : i < k:=by have:=(List.getElem?_eq_some_iff.1 hx).1;omega
 rwa [List.getElem?_take_of_lt hi] at hx
@[reducible] def callV (x : TCall) : Value:=.agg #[.int .i64 x.a0,.int .i64 x.a1,.int .i64 x.a2,.int .i64 x.a3,.int .i64 x.a4]
end Go.Proofs.YthkgjohhbdipcaaGreatDoor
namespace Go.Proofs.YthkgjohhbdipcaaGreatDoor
open Go.RowKit
theorem infoBuilder : (Tryz.prog.info? 144).map (·.size) = some 2:=by kernel_rfl
theorem liesBuilder : liesAt Tryz.prog Tryz.prog.depth 144 (2 / Tryz.prog.cellsOf 144) 0 144 1 = true:=by kernel_rfl
theorem infoByteB : (Tryz.prog.info? 5).map (fun i=>(i.zero,i.size,i.bytes)) = some (some (.int .u8 0),1,1):=by kernel_rfl
theorem cellsByteB : Tryz.prog.cellsOf 5 = 1:=by kernel_rfl
def Bd (B b : Nat) (l : List UInt8) (w : World) : Prop:=Lib.IsBuilder 144 5 B b (Lib.byteCells l) w
set_option maxHeartbeats 1000000 in
set_option maxRecDepth 100000 in
theorem bcheck_used (b : Nat) (w : World) (h0 : w.cell? ⟨b,0,none⟩ = some (.pointer (some ⟨b,0,none⟩))) :
  Calls Tryz.prog 141 #[.pointer (some ⟨b,0,none⟩)] w fun e w'=>e = .returned (.tuple #[])∧w' = w:=by
 obtain ⟨j,hj,_⟩:=Option.map_eq_some_iff.1 infoBuilder
 go_enter Tryz.func141,Tryz.ntmps141
 go_wp2
 rw [Lib.run_neq_ptr_same w _ Tryz.underlying142 hj]
 go_wp2
 go_end0
 exact ⟨rfl,rfl⟩
set_option maxHeartbeats 1000000 in
set_option maxRecDepth 100000 in
theorem bcheck_fresh (b : Nat) (w : World) (h0 : w.cell? ⟨b,0,none⟩ = some (.pointer none)) (hsh : w.shape? b = some (144,2)) (hfz : w.frozen? ⟨b,0,none⟩ = false) :
  Calls Tryz.prog 141 #[.pointer (some ⟨b,0,none⟩)] w fun e w'=>e = .returned (.tuple #[])∧w' = w.setCell ⟨b,0,none⟩ (.pointer (some ⟨b,0,none⟩)):=by
 obtain ⟨j,hj,hjs⟩:=Option.map_eq_some_iff.1 infoBuilder
 go_enter Tryz.func141,Tryz.ntmps141
 go_wp2
 rw [Lib.run_to_unsafe w ⟨b,0,none⟩ Tryz.underlying142 Tryz.underlying205 hj (by rw [hjs];decide) hsh (Nat.zero_lt_succ 1)]
 simp only [Result.andThen]
 rw [Oper.upon_value]
 go_wp2
 rw [run_callFunc_extern Tryz.func168 (by kernel_rfl) (by kernel_rfl) (by kernel_rfl) (e:=Extern.AbiNoEscape.same) (by kernel_rfl)]
 rw [Lib.run_noEscape]
 simp only [Result.andThen]
 rw [Oper.upon_value]
 go_wp2
 rw [Lib.run_from_unsafe w ⟨b,0,none⟩ Tryz.underlying205 Tryz.underlying142 hj hsh liesBuilder]
 simp only [Result.andThen]
 rw [Oper.upon_value]
 go_wp2
 go_end0
 exact ⟨rfl,rfl⟩
def BFr (b : Nat) (w w' : World) : Prop:=∀ k,k < w.heap.size → k ≠ b → (∀ v,w.cell? ⟨b,1,none⟩ = some v → v.ownBlock ≠ some k) → w'.heap[k]? = w.heap[k]?
theorem bcheck_any (B b : Nat) (bs : List Value) (w : World) (h : Lib.IsBuilder 144 5 B b bs w) :
  Calls Tryz.prog 141 #[.pointer (some ⟨b,0,none⟩)] w fun e w'=>e = .returned (.tuple #[])∧(Lib.BuilderAt 144 5 B b (.pointer (some ⟨b,0,none⟩)) bs w'∧Below B w w')∧w'.heap.size = w.heap.size∧(∀ k,k ≠ b → w'.heap[k]? = w.heap[k]?)∧w'.cell? ⟨b,1,none⟩ = w.cell? ⟨b,1,none⟩:=by
 rcases h with h | h
 ·refine (bcheck_fresh b w h.cell0 h.shape h.frozen0).mono ?_
  rintro e w' ⟨rfl,rfl⟩
  exact ⟨rfl,⟨h.used _,(Below.refl B w).setCell (p:=⟨b,0,none⟩) h.1 _⟩,by simp [World.setCell],fun k hk=>Below.heap_setCell _ _ _ _ (fun e=>hk e),World.cell?_setCell_other _ _ _ _ (by intro e;injection e with _ e _;cases e)⟩
 ·refine (bcheck_used b w h.cell0).mono ?_
  rintro e w' ⟨rfl,rfl⟩
  exact ⟨rfl,⟨h,Below.refl B _⟩,rfl,fun _ _=>rfl,rfl⟩
set_option maxHeartbeats 2000000 in
set_option maxRecDepth 100000 in
theorem bwrite_any (B b : Nat) (l : List UInt8) (s : ByteArray) (w : World) (h : Bd B b l w) (hlen : l.length + s.size≤140737488355328) (hBw : B≤w.heap.size) :
  Calls Tryz.prog 102 #[.pointer (some ⟨b,0,none⟩),.string s] w fun e w'=>e = .returned (.tuple #[.int .i64 s.size,.nilIface])∧Bd B b (l ++ s.data.toList) w'∧Below B w w'∧BFr b w w':=by
 obtain ⟨i0,hi,hz0,hz1,hz2⟩:=info_parts infoByteB
 have hl : (Lib.byteCells l).length = l.length:=Lib.byteCells_length l
 have H:=Lib.hid h
 have Hi:=Lib.hid hi
 clear h hi
 go_enter Tryz.func102,Tryz.ntmps102
 go_wp2_with fail
 refine (bcheck_any B b _ _ H.out).mono ?_
 rintro e w1 ⟨rfl,⟨h1,hb1⟩,hs1,hk1,hc11⟩
 obtain ⟨hB,v,hbk,hown,hne⟩:=h1
 have Hk1:=Lib.hid hk1
 have Hs1:=Lib.hid hs1
 have Hc11:=Lib.hid hc11
 clear hk1 hs1 hc11
 have c0 : w1.cell? ⟨b,0,none⟩ = some (.pointer (some ⟨b,0,none⟩)):=by rw [Lib.cell_of_heap hbk];rfl
 have c1 : w1.cell? ⟨b,1,none⟩ = some v:=by rw [Lib.cell_of_heap hbk];rfl
 have Hown:=Lib.hid hown
 have Hbk:=Lib.hid hbk
 have Hb1:=Lib.hid hb1
 have Hne:=Lib.hid hne
 clear hown hbk hb1 hne
 go_wp2_with (at_builtin;refine Lib.wpList_append_own_string _ rfl _ _ 23 9 rfl B 5 i0 Tryz.underlying23 Tryz.underlying9 Hi.out hz0 hz1 hz2 _ _ _ rfl Hown.out s rfl ?c3 ?c4 ?c5 ?_)
 case c3=>rw [hl];unfold maxLen;omega
 case c4=>rw [hl];omega
 case c5=>have:=Hb1.out.size;omega
 intro v' w2 hown' hgrow _
 have hlt : b < w1.heap.size:=(Array.getElem?_eq_some_iff.1 Hbk.out).1
 have hb2 : w2.heap[b]? = some (.cells #[.pointer (some ⟨b,0,none⟩),v] 144 (0,0)):=by
  rw [hgrow.block b hlt (fun e=>Hne.out e.symm)]
  exact Hbk.out
 have d0 : w2.cell? ⟨b,0,none⟩ = some (.pointer (some ⟨b,0,none⟩)):=by rw [Lib.cell_of_heap hb2];rfl
 have d1 : w2.cell? ⟨b,1,none⟩ = some v:=by rw [Lib.cell_of_heap hb2];rfl
 have f1 : w2.frozen? ⟨b,1,none⟩ = false:=Lib.frozen_of_heap hb2 1
 obtain ⟨ao,n',cap,rfl⟩ : ∃ ao n' cap,v' = .slice ao n' cap:=by
  rcases hown'.2 with ⟨hv,_⟩ | ⟨g,cap,cur,hv,_⟩
  ·exact ⟨_,_,_,hv⟩
  ·exact ⟨_,_,_,hv⟩
 have Hgrow:=Lib.hid hgrow
 have Hown':=Lib.hid hown'
 have Hb2:=Lib.hid hb2
 have Hc1 : Hid (w.cell? ⟨b,1,none⟩ = some v):=by show _ = _;rw [← Hc11.out];exact c1
 clear hgrow hown' hb2 c0 c1
 go_wp2
 go_ret2
 refine ⟨rfl,?_,?_,?_⟩
 ·have hap : Lib.byteCells l ++ Lib.strCells s = Lib.byteCells (l ++ s.data.toList):=by rw [Lib.byteCells_append];rfl
  have:=Hown'.out
  rw [hap] at this
  refine .inr (Lib.BuilderAt.put (T:=144) (e:=5) hB Hb2.out ?_ (by decide))
  have hl2 : (Lib.byteCells (l ++ s.data.toList)).length = (Lib.byteCells l).length + s.size:=by
   rw [Lib.byteCells_length,List.length_append,hl];rfl
  rw [hl2,hl]
  exact this
 ·exact (Hb1.out.grown Hgrow.out (by have:=Hb1.out.size;omega) (fun k hk=>(Hown.out.lt k hk).1)).setCell (p:=⟨b,1,none⟩) hB _
 ·intro k hk hkb hkv
  rw [Below.heap_setCell _ _ _ _ (fun e=>hkb e),Hgrow.out.block k (by rw [Hs1.out];exact hk) (fun e=>hkv v Hc1.out e.symm)]
  exact Hk1.out k hkb
theorem Bd.lt {B b : Nat} {l : List UInt8} {w : World} (h : Bd B b l w) : B≤b∧b < w.heap.size:=by
 rcases h with h | h
 ·exact ⟨h.1,h.lt⟩
 ·exact ⟨h.1,h.lt⟩
theorem Bd.own {B b : Nat} {l : List UInt8} {w : World} (h : Bd B b l w) : ∀ v,w.cell? ⟨b,1,none⟩ = some v → ∀ g,v.ownBlock = some g → g < w.heap.size:=by
 have key : ∀ p,Lib.BuilderAt 144 5 B b p (Lib.byteCells l) w → ∀ v,w.cell? ⟨b,1,none⟩ = some v → ∀ g,v.ownBlock = some g → g < w.heap.size:=by
  rintro p ⟨hB,v,hbk,hown,hne⟩ v' hv g hg
  rw [Lib.cell_of_heap hbk] at hv
  injection hv with hv
  subst hv
  exact (hown.lt g hg).2
 rcases h with h | h
 ·exact key _ h
 ·exact key _ h
theorem Bd.below {B b : Nat} {l : List UInt8} {w w' : World} (h : Bd B b l w) (hb : Below w.heap.size w w') : Bd B b l w':=by
 have key : ∀ p,Lib.BuilderAt 144 5 B b p (Lib.byteCells l) w → Lib.BuilderAt 144 5 B b p (Lib.byteCells l) w':=by
  rintro p ⟨hB,v,hbk,hown,hne⟩
  exact ⟨hB,v,(hb.block b (Array.getElem?_eq_some_iff.1 hbk).1).trans hbk,by
   obtain ⟨h1,h2⟩:=hown
   refine ⟨h1,?_⟩
   rcases h2 with h2 | ⟨g,cap,cur,hv,hg,hh,r⟩
   ·exact .inl h2
   ·exact .inr ⟨g,cap,cur,hv,hg,(hb.block g (Array.getElem?_eq_some_iff.1 hh).1).trans hh,r⟩,hne⟩
 rcases h with h | h
 ·exact .inl (key _ h)
 ·exact .inr (key _ h)
def KeepFrom (B : Nat) (W W' : World) : Prop:=W.heap.size≤W'.heap.size∧∀ k,B≤k → k < W.heap.size → W'.heap[k]? = W.heap[k]?
theorem KeepFrom.of_below {B : Nat} {W W' : World} (h : Below W.heap.size W W') : KeepFrom B W W':=⟨h.size,fun k _ hk=>h.block k hk⟩
theorem Bd.keep {B b : Nat} {l : List UInt8} {w0 W W' : World} (h : Bd B b l w0) (hC : Below w0.heap.size w0 W) (hF : BFr b W W') (hs : W.heap.size≤W'.heap.size) : KeepFrom w0.heap.size W W':=by
 refine ⟨hs,fun k hk hlt=>hF k hlt (by have:=h.lt;omega) fun v hv e=>?_⟩
 have hv' : w0.cell? ⟨b,1,none⟩ = some v:=by
  rw [← hv]
  exact (hC.cell (p:=⟨b,1,none⟩) h.lt.2).symm
 have:=h.own v hv' k e
 omega
set_option maxHeartbeats 2000000 in
set_option maxRecDepth 100000 in
theorem bstring_any (B b : Nat) (l : List UInt8) (w : World) (h : Bd B b l w) (h0 : l ≠ []) :
  Calls Tryz.prog 106 #[.pointer (some ⟨b,0,none⟩)] w fun e w'=>e = .returned (.string ⟨l.toArray⟩)∧Below B w w':=by
 obtain ⟨p,hB,v,hbk,hown,hne⟩ : ∃ p,Lib.BuilderAt 144 5 B b p (Lib.byteCells l) w:=by
  rcases h with h | h
  ·exact ⟨_,h⟩
  ·exact ⟨_,h⟩
 have hl0 : l.length ≠ 0:=by simpa using h0
 rw [Lib.byteCells_length] at hown
 obtain ⟨g,cap,cur,rfl,hbg,hg,hnc,hcm,hcs,htake⟩ : ∃ g cap cur,v = .slice (some ⟨g,0,none⟩) l.length cap∧B≤g∧w.heap[g]? = some (.cells cur 5 (0,0))∧l.length≤cap∧cap≤maxLen∧cur.size = cap * 1∧cur.toList.take (l.length * 1) = Lib.byteCells l:=by
  rcases hown.2 with ⟨_,hz⟩ | ⟨g,cap,cur,hv,r⟩
  ·exact absurd hz hl0
  ·exact ⟨g,cap,cur,hv,r⟩
 have c1 : w.drew.cell? ⟨b,1,none⟩ = some (.slice (some ⟨g,0,none⟩) l.length cap):=by
  have : w.drew.heap[b]? = some (.cells #[p,.slice (some ⟨g,0,none⟩) l.length cap] 144 (0,0)):=hbk
  rw [Lib.cell_of_heap this];rfl
 have hSD : (Builtin.unsafeSliceData_ #[23] 184 #[.slice (some ⟨g,0,none⟩) l.length cap]).run Tryz.prog w.drew = .ok (.pointer (some ⟨g,0,none⟩)) w.drew :=
  Lib.run_unsafeSliceData_row _ _ _ _ _ _ (by omega)
 have hUS : (Builtin.unsafeString_ #[184,3] 9 #[.pointer (some ⟨g,0,none⟩),.int .i64 l.length]).run Tryz.prog w.drew = .ok (.string ⟨l.toArray⟩) (w.drew.freeze ⟨g,0,none⟩ l.length):=by
  refine Lib.run_unsafeString_row w.drew 184 3 9 5 Tryz.underlying184 cellsByteB g cur.size (by have hg' : w.drew.heap[g]? = some (.cells cur 5 (0,0)):=hg;simp [World.shape?,hg']) l h0 (by omega) (by unfold maxLen at hcm;omega) ?_
  intro j x hx
  have:=hown.cells (g:=g) rfl j (.int .u8 x.toNat) (by simp [Lib.byteCells,hx])
  exact this
 have Hg:=Lib.hid hg
 clear h hown hne hbk hg htake hcs hcm hnc h0
 go_enter Tryz.func106,Tryz.ntmps106
 go_wp2
 go_region
 all_goals (go_wp2;go_ret;exact ⟨rfl,Lib.below_freeze (Below.drew (Below.refl B w)) (p:=⟨g,0,none⟩) hbg _⟩)
end Go.Proofs.YthkgjohhbdipcaaGreatDoor
namespace Go.Proofs.YthkgjohhbdipcaaGreatDoor
open Go.RowKit
def befores : List Oper → List (List Nat) → List (List Nat)
 | [],acc=>acc
 | o :: l,acc=>befores l (acc ++ [o.after.toList.flatMap fun e=>e.on :: acc.getD e.on []])
def updDone (done : Nat → Bool) (i : Nat) : Nat → Bool:=fun k=>if k = i then true else done k
def doneOb (P : Program) (ops : Array Oper) (Inv : (Nat → Bool) → World → Prop) (T : World → World → Prop) (s : Spec) (i : Nat) (bs : List (List Nat)) (o : Oper) (a : Act) (fs : List (World → Prop)) : Prop :=
 ∀ (done : Nat → Bool) (w : World),Inv done w → done i = false → (∀ k ∈ o.after.toList.map (fun e=>e.on),done k = true) → (∀ k : Nat,i ∈ bs.getD k [] → done k = false) → depFacts o fs w → ∀ R : Value → World → Prop,(∀ (v : Value) (w' : World),Inv (updDone done i) w' → T w w' → s.holds v w' → R v w') →
  if Region.wanted o (yielded ops a.tmps) then gives P o a w R else R undef w
def doneWalk (P : Program) (ops : Array Oper) (Inv : (Nat → Bool) → World → Prop) (T : Nat → World → World → Prop) (bs : List (List Nat)) (Q : Act → World → Prop) (n : Nat) :
  List Oper → List Spec → Nat → Act → List (World → Prop) → (World → Prop) → Prop
 | [],_,_,a,_,F=>∀ (done : Nat → Bool) (w : World),(∀ k,k < n → done k = true) → Inv done w → F w → Q a w
 | _ :: _,[],_,_,_,_=>False
 | o :: l,s :: ss,i,a,fs,F=>doneOb P ops Inv (T i) s i bs o a fs ∧
   match s.exact? with
   | some x=>doneWalk P ops Inv T bs Q n l ss (i + 1) (a.put o.dst x) (fs ++ [fun _ : World=>True]) F
   | none=>∀ v : Value,doneWalk P ops Inv T bs Q n l ss (i + 1) (a.put o.dst v) (fs ++ [s.pred v]) (fun w : World=>F w∧s.pred v w)
theorem done_ext {P : Program} {ops : Array Oper} {Inv : (Nat → Bool) → World → Prop} {T : Nat → World → World → Prop} {bs : List (List Nat)} {n : Nat} {Q : Act → World → Prop} (vals : Nat → Value) :
  ∀ (l : List Oper) (ss : List Spec) (i : Nat) (a : Act) (fs : List (World → Prop)) (F : World → Prop),okVals vals ss i → doneWalk P ops Inv T bs Q n l ss i a fs F →
   (∀ j o s,l[j]? = some o → ss[j]? = some s → doneOb P ops Inv (T (i + j)) s (i + j) bs o (lexAct vals (l.take j) i a) (fs ++ factList vals (ss.take j) i)) ∧
   (∀ (done : Nat → Bool) (w : World),(∀ k,k < n → done k = true) → Inv done w → F w → allFacts vals (ss.take l.length) i w → Q (lexAct vals l i a) w)∧l.length≤ss.length:=by
 intro l
 induction l with
 | nil=>intro ss i a fs F _ h;exact ⟨fun j o s hj _=>by simp at hj,fun done w hd hC hF _=>h done w hd hC hF,by simp⟩
 | cons o l ih =>
  intro ss i a fs F hv h
  cases ss with
  | nil=>exact h.elim
  | cons s ss =>
   obtain ⟨hx,hv'⟩:=hv
   obtain ⟨hob,hrest⟩:=h
   have key : ∃ F' : World → Prop,doneWalk P ops Inv T bs Q n l ss (i + 1) (a.put o.dst (vals i)) (fs ++ [s.fact (vals i)]) F'∧∀ w,F w → s.fact (vals i) w → F' w:=by
    unfold Spec.fact
    cases he : s.exact? with
    | some x =>
     rw [he] at hrest
     rw [hx x he]
     exact ⟨F,hrest,fun w h _=>h⟩
    | none =>
     rw [he] at hrest
     exact ⟨_,hrest (vals i),fun w h h'=>⟨h,h'⟩⟩
   obtain ⟨F',hk,hF'⟩:=key
   obtain ⟨h1,h2,h3⟩:=ih ss (i + 1) _ _ F' hv' hk
   refine ⟨fun j o' s' hj hs=>?_,fun done w hd hC hF hall=>?_,by simp;omega⟩
   ·cases j with
    | zero =>
     simp only [List.getElem?_cons_zero,Option.some.injEq] at hj hs
     subst hj hs
     simpa [lexAct,factList] using hob
    | succ j =>
     have:=h1 j o' s' (by simpa using hj) (by simpa using hs)
     simpa [lexAct,factList,List.append_assoc,Nat.add_comm,Nat.add_left_comm,Nat.add_assoc] using this
   ·simp only [List.length_cons,List.take_succ_cons,allFacts] at hall
    exact h2 done w hd hC (hF' w hF hall.1) hall.2
structure DoneInv (l : List Oper) (ss : List Spec) (Inv : (Nat → Bool) → World → Prop) (a : Act) (vf : Nat → Value) (listed : Array Bool) (a' : Act) (w' : World) : Prop where
 cls : Inv (fun k=>listed[k]? == some true) w'
 down : ∀ (j : Nat) (o : Oper),l[j]? = some o → listed[j]? = some true → ∀ e ∈ o.after,listed[e.on]? = some true
 lsize : listed.size = l.length
 defers : a'.defers = a.defers
 size : a'.tmps.size = a.tmps.size
 done : ∀ (j : Nat) (o : Oper) (s : Spec),l[j]? = some o → ss[j]? = some s → listed[j]? = some true → s.holds (vf j) w'∧∀ d,o.dst = some d → a'.tmps[d]? = some (vf j)
 rest : ∀ t,(∀ (j : Nat) (o : Oper),l[j]? = some o → listed[j]? = some true → o.dst ≠ some t) → a'.tmps[t]? = a.tmps[t]?
theorem befores_spec : ∀ (l : List Oper) (acc : List (List Nat)) (P : Nat → Nat → Prop),(∀ k i,i ∈ acc.getD k [] → P k i) → (∀ (j : Nat) (o : Oper) (e : Edge),l[j]? = some o → e ∈ o.after → P (acc.length + j) e.on) →
  (∀ a b c,P a b → P b c → P a c) → ∀ k i,i ∈ (befores l acc).getD k [] → P k i
 | [],_,_,h,_,_=>h
 | o :: l,acc,P,h,he,ht=>by
  refine befores_spec l _ P ?_ (fun j o' e hj hm=>by
   have:=he (j + 1) o' e (by simpa using hj) hm
   rwa [List.length_append,List.length_singleton,Nat.add_assoc,Nat.add_comm 1 j]) ht
  intro k i hi
  rw [List.getD_eq_getElem?_getD,List.getElem?_append] at hi
  split at hi
  ·exact h k i (by rw [List.getD_eq_getElem?_getD];exact hi)
  ·rename_i hge
   have hk : k = acc.length:=by
    rcases Nat.lt_or_ge acc.length k with hlt | hle
    ·have : ([o.after.toList.flatMap fun e=>e.on :: acc.getD e.on []] : List (List Nat))[k - acc.length]? = none:=List.getElem?_eq_none (by simp;omega)
     rw [this] at hi;simp at hi
    ·omega
   subst hk
   simp only [Nat.sub_self,List.getElem?_cons_zero,Option.getD_some,List.mem_flatMap] at hi
   obtain ⟨e,hm,hi⟩:=hi
   have h1:=he 0 o e rfl (by simpa using hm)
   rw [Nat.add_zero] at h1
   rcases List.mem_cons.1 hi with rfl | hi
   ·exact h1
   ·exact ht _ _ _ h1 (h e.on i hi)
def monoB2 (l : List Oper) (size : Nat) : Bool :=
 (l.zipIdx.all fun (o,i) =>
  (match o.op with | .select ..=>false | _=>true) &&
  o.after.toList.all (fun e=>decide (e.on < i) && Region.binds .any e) &&
  (o.looksAt l.toArray).all (fun s=>l.zipIdx.all fun (o',j)=>o'.dst != some s || (decide (j < i) && (o.after.toList.map (·.on)).contains j) || ((befores l []).getD j []).contains i) &&
  (match o.dst with | some d=>decide (d < size) && l.zipIdx.all (fun (o',j)=>j == i || o'.dst != some d) | none=>true))
theorem monoB2_spec {l : List Oper} {size : Nat} (h : monoB2 l size = true) {i : Nat} {o : Oper} (hi : l[i]? = some o) :
  (∀ cs b,o.op ≠ .select cs b)∧(∀ e ∈ o.after,e.on < i∧Region.binds .any e = true) ∧
  (∀ s ∈ o.looksAt l.toArray,∀ (j : Nat) (o' : Oper),l[j]? = some o' → o'.dst = some s → (j < i∧∃ e ∈ o.after,e.on = j) ∨ i ∈ (befores l []).getD j []) ∧
  (∀ d,o.dst = some d → d < size∧∀ (j : Nat) (o' : Oper),l[j]? = some o' → j ≠ i → o'.dst ≠ some d):=by
 have hz : ∀ {j : Nat} {o' : Oper},l[j]? = some o' → (o',j) ∈ l.zipIdx:=fun {j o'} hj=>by
  rw [List.mem_zipIdx_iff_getElem?];exact hj
 have h1:=List.all_eq_true.1 h _ (hz hi)
 simp only [Bool.and_eq_true] at h1
 obtain ⟨⟨⟨ha,hb⟩,hc⟩,hd⟩:=h1
 refine ⟨fun cs b e=>?_,fun e he=>?_,fun s hs j o' hj hds=>?_,fun d hd'=>?_⟩
 ·rw [e] at ha;simp at ha
 ·have:=List.all_eq_true.1 hb e (by simpa using he)
  simpa using this
 ·have h2:=List.all_eq_true.1 (List.all_eq_true.1 hc s hs) _ (hz hj)
  simp only [hds,bne_self_eq_false,Bool.false_or,Bool.or_eq_true,Bool.and_eq_true,decide_eq_true_eq,List.contains_eq_mem] at h2
  rcases h2 with h2 | h2
  ·refine .inl ⟨h2.1,?_⟩
   have:=h2.2
   simpa using this
  ·exact .inr (by simpa using h2)
 ·simp only [hd',Bool.and_eq_true,decide_eq_true_eq] at hd
  refine ⟨hd.1,fun j o' hj hne e=>?_⟩
  have:=List.all_eq_true.1 hd.2 _ (hz hj)
  simp [hne,e] at this
section
variable {P : Program} {l : List Oper} {Inv : (Nat → Bool) → World → Prop} {T : Nat → World → World → Prop} {Q : Exit → Act → World → Prop} {a : Act} {ss : List Spec}
theorem wpAny_done (hB : monoB2 l a.tmps.size = true) (hst : ∀ (i k : Nat) (s : Spec),i ≠ k → ss[k]? = some s → ∀ v done w w',Inv done w → T i w w' → s.fact v w → s.fact v w')
  (h : doneWalk P l.toArray Inv T (befores l []) (Q .normal) l.length l ss 0 a [] (fun _=>True)) :
  ∀ (fuel : Nat) (listed : Array Bool) (vf : Nat → Value) (a' : Act) (w' : World),(undone listed l.length).length≤fuel → DoneInv l ss Inv a vf listed a' w' → wpAny P .any l.toArray Q fuel listed a' w':=by
 have hS:=fun {i : Nat} {o : Oper} (hi : l[i]? = some o)=>monoB2_spec hB hi
 -- the values as far as they are there
 have hok : ∀ (listed : Array Bool) (vf : Nat → Value) (a' : Act) (w' : World),DoneInv l ss Inv a vf listed a' w' → okVals (fillVals ss listed vf) ss 0:=by
  intro listed vf a' w' hI
  refine okVals_of ss 0 fun j s x hj hx=>?_
  rw [Nat.zero_add]
  unfold fillVals
  split
  ·rename_i hl
   have hlt : j < l.length:=by
    have:=(Array.getElem?_eq_some_iff.1 hl).1
    rw [hI.lsize] at this;exact this
   have:=(hI.done j l[j] s (List.getElem?_eq_getElem hlt) hj hl).1
   unfold Spec.holds at this
   rw [hx] at this
   exact this
  ·rw [hj];simp [hx]
 have hfill : ∀ (listed : Array Bool) (vf : Nat → Value) (j : Nat),listed[j]? = some true → fillVals ss listed vf j = vf j:=fun listed vf j hl=>by unfold fillVals;rw [if_pos hl]
 have fin : ∀ (listed : Array Bool) (vf : Nat → Value) (a' : Act) (w' : World),(∀ j,j < l.length → listed[j]? = some true) → DoneInv l ss Inv a vf listed a' w' → Q .normal a' w':=by
  intro listed vf a' w' hall hI
  obtain ⟨_,h2,h3⟩:=done_ext (fillVals ss listed vf) l ss 0 a [] _ (hok listed vf a' w' hI) h
  have hq:=h2 _ w' (fun k hk=>by simp [hall k hk]) hI.cls trivial (allFacts_of _ 0 fun j s hj=>by
   rw [Nat.zero_add]
   have hjl : j < l.length:=by
    have:=(List.getElem?_eq_some_iff.1 hj).1
    simp at this;omega
   have hj' : ss[j]? = some s:=by rw [List.getElem?_take_of_lt hjl] at hj;exact hj
   rw [hfill _ _ _ (hall j hjl)]
   exact Spec.fact_of_holds (hI.done j l[j] s (List.getElem?_eq_getElem hjl) hj' (hall j hjl)).1)
  have ea : a' = lexAct (fillVals ss listed vf) l 0 a:=by
   obtain ⟨hz,hd⟩:=lexAct_size (fillVals ss listed vf) l 0 a
   have ht : a'.tmps = (lexAct (fillVals ss listed vf) l 0 a).tmps:=by
    apply Array.ext_getElem?
    intro t
    by_cases hex : ∃ (j : Nat) (o : Oper),l[j]? = some o∧o.dst = some t
    ·obtain ⟨j,o,hj,hdt⟩:=hex
     have hjl:=(List.getElem?_eq_some_iff.1 hj).1
     obtain ⟨hlt,huniq⟩:=(hS hj).2.2.2 t hdt
     rw [lexAct_same _ l 0 a j o hj hdt huniq hlt,Nat.zero_add,hfill _ _ _ (hall j hjl)]
     have hjs : ss[j]? = some ss[j]:=List.getElem?_eq_getElem (by omega)
     exact (hI.done j o _ hj hjs (hall j hjl)).2 t hdt
    ·have hn : ∀ (j : Nat) (o : Oper),l[j]? = some o → o.dst ≠ some t:=fun j o hj e=>hex ⟨j,o,hj,e⟩
     rw [lexAct_other _ l 0 a (fun o ho=>by obtain ⟨j,hj⟩:=List.getElem?_of_mem ho;exact hn j o hj)]
     exact hI.rest t (fun j o hj _=>hn j o hj)
   cases a';cases hx : lexAct (fillVals ss listed vf) l 0 a
   rw [hx] at ht hd
   have:=hI.defers
   simp_all
  rw [ea];exact hq
 have allIf : ∀ (listed : Array Bool),listed.size = l.length → Region.ready .any l.toArray listed = [] → ∀ j,j < l.length → listed[j]? = some true:=by
  intro listed hsz hr j
  induction j using Nat.strongRecOn with
  | ind j ih =>
   intro hj
   have hsome : listed[j]? = some listed[j]:=Array.getElem?_eq_getElem (by omega)
   cases hb : listed[j] with
   | true=>rw [hsome,hb]
   | false =>
    have : j ∈ Region.ready .any l.toArray listed:=by
     rw [mem_ready]
     refine ⟨by simp [Array.getD_eq_getD_getElem?,hsome,hb],l[j],by simp [hj],fun e he _=>?_⟩
     have h1:=((hS (List.getElem?_eq_getElem hj)).2.1 e he).1
     have h2:=ih e.on h1 (by omega)
     simp [Array.getD_eq_getD_getElem?,h2]
    rw [hr] at this
    cases this
 intro fuel
 induction fuel with
 | zero =>
  intro listed vf a' w' hf hI
  have hall : ∀ j,j < l.length → listed[j]? = some true:=by
   intro j hj
   have h0 : undone listed l.length = []:=List.eq_nil_of_length_eq_zero (by omega)
   unfold undone at h0
   rw [List.filter_eq_nil_iff] at h0
   simpa using h0 j (List.mem_range.2 hj)
  refine ⟨?_,fin _ _ _ _ hall hI⟩
  rw [List.eq_nil_iff_forall_not_mem]
  intro j hj
  obtain ⟨h0,o,ho,_⟩:=mem_ready.1 hj
  have hj' : j < l.length:=by
   have:=(Array.getElem?_eq_some_iff.1 ho).1
   simpa using this
  simp [Array.getD_eq_getD_getElem?,hall j hj'] at h0
 | succ fuel ih =>
  intro listed vf a' w' hf hI
  refine ⟨fun hr=>fin _ _ _ _ (allIf listed hI.lsize hr) hI,fun i hi=>?_⟩
  obtain ⟨h0,o,ho,hdep⟩:=mem_ready.1 hi
  have hil : l[i]? = some o:=by simpa using ho
  have hilt : i < l.length:=(List.getElem?_eq_some_iff.1 hil).1
  have hnl : listed[i]? ≠ some true:=fun e=>by simp [Array.getD_eq_getD_getElem?,e] at h0
  obtain ⟨hsel,hafter,hlooks,hdst⟩:=hS hil
  have hdone : ∀ e ∈ o.after,listed[e.on]? = some true:=fun e he=>by
   have:=hdep e he (hafter e he).2
   rw [Array.getD_eq_getD_getElem?] at this
   cases hx : listed[e.on]? with
   | none=>simp [hx] at this
   | some b=>simp [hx] at this;rw [this]
  obtain ⟨h1,_,h3⟩:=done_ext (fillVals ss listed vf) l ss 0 a [] _ (hok listed vf a' w' hI) h
  have hsi : ss[i]? = some ss[i]:=List.getElem?_eq_getElem (by omega)
  have hob:=h1 i o ss[i] hil hsi
  rw [Nat.zero_add,List.nil_append] at hob
  -- the lexical act looks alike to this operation
  have hsame : ∀ t ∈ o.looksAt l.toArray,(lexAct (fillVals ss listed vf) (l.take i) 0 a).tmps[t]? = a'.tmps[t]?:=by
   intro t ht
   by_cases hex : ∃ (j : Nat) (o' : Oper),l[j]? = some o'∧o'.dst = some t
   ·obtain ⟨j,o',hj,hdt⟩:=hex
    rcases hlooks t ht j o' hj hdt with ⟨hji,e,he,hej⟩ | hbef
    rotate_left
    ·have hij : i < j:=befores_spec l [] (fun k i=>i < k) (fun k i h=>by simp at h) (fun j o' e hj he=>by
      have:=((hS (show l[j]? = some o' from hj)).2.1 e he).1;simpa using this) (fun a b c h1 h2=>Nat.lt_trans h2 h1) j i hbef
     have hnj : listed[j]? ≠ some true:=fun hlj=>hnl (befores_spec l [] (fun k i=>listed[k]? = some true → listed[i]? = some true) (fun k i h=>by simp at h) (fun j o' e hj he hlj=>by
      simp at hlj;exact hI.down j o' hj hlj e he) (fun a b c h1 h2 h3=>h2 (h1 h3)) j i hbef hlj)
     obtain ⟨_,huniq⟩:=(hS hj).2.2.2 t hdt
     rw [lexAct_other _ (l.take i) 0 a (fun o'' ho''=>by
      obtain ⟨k,hk⟩:=List.getElem?_of_mem ho''
      have hki : k < i:=by have:=(List.getElem?_eq_some_iff.1 hk).1;simp at this;omega
      rw [List.getElem?_take_of_lt hki] at hk
      exact huniq k o'' hk (by omega))]
     refine (hI.rest t fun k o'' hk hlk=>?_).symm
     by_cases hkj : k = j
     ·subst hkj;exact absurd hlk hnj
     ·exact huniq k o'' hk hkj
    have hlj : listed[j]? = some true:=hej ▸ hdone e he
    obtain ⟨hlt,huniq⟩:=(hS hj).2.2.2 t hdt
    have hjs : ss[j]? = some ss[j]:=List.getElem?_eq_getElem (by omega)
    rw [lexAct_same _ (l.take i) 0 a j o' (by rw [List.getElem?_take_of_lt hji];exact hj) hdt (fun j' o'' hj' hne=>huniq j' o'' (by
     have hlt' : j' < i:=by
      have:=(List.getElem?_eq_some_iff.1 hj').1
      simp at this;omega
     rw [List.getElem?_take_of_lt hlt'] at hj';exact hj') hne) hlt,Nat.zero_add,hfill _ _ _ hlj]
    exact ((hI.done j o' _ hj hjs hlj).2 t hdt).symm
   ·have hn : ∀ (j : Nat) (o : Oper),l[j]? = some o → o.dst ≠ some t:=fun j o hj e=>hex ⟨j,o,hj,e⟩
    rw [lexAct_other _ (l.take i) 0 a (fun o' ho'=>by obtain ⟨j,hj⟩:=List.getElem?_of_mem (List.mem_of_mem_take ho');exact hn j o' hj)]
    exact (hI.rest t (fun j o hj _=>hn j o hj)).symm
  have hexec : execOp (lexAct (fillVals ss listed vf) (l.take i) 0 a).eval o = execOp a'.eval o:=by
   refine execOp_congr o hsel fun x hx=>?_
   cases x with
   | tmp t =>
    have:=hsame t (List.mem_append_left _ (List.mem_filterMap.2 ⟨.tmp t,by simpa using hx,rfl⟩))
    simp [Act.eval,Array.getD_eq_getD_getElem?,this]
   | _=>rfl
  have hwant : Region.wanted o (yielded l.toArray (lexAct (fillVals ss listed vf) (l.take i) 0 a).tmps) = Region.wanted o (yielded l.toArray a'.tmps):=by
   unfold Region.wanted
   cases hg : o.guard with
   | none=>rfl
   | some gw =>
    obtain ⟨g,want⟩:=gw
    have hy : yielded l.toArray (lexAct (fillVals ss listed vf) (l.take i) 0 a).tmps g = yielded l.toArray a'.tmps g:=by
     unfold yielded
     cases ht : (l.toArray[g]?).bind (·.dst) with
     | none=>rfl
     | some t =>
      have:=hsame t (by simp only [Oper.looksAt,hg,ht];simp)
      simp only [Option.bind_some,this]
    simp only [hy]
  have hfacts : depFacts o ([] ++ factList (fillVals ss listed vf) (ss.take i) 0) w':=by
   intro k hk
   rw [List.nil_append]
   obtain ⟨e,he,rfl⟩:=List.mem_map.1 hk
   have he' : e ∈ o.after:=by simpa using he
   have hlt:=(hafter e he').1
   have hlk:=hdone e he'
   have hks : ss[e.on]? = some ss[e.on]:=List.getElem?_eq_getElem (by omega)
   rw [List.getD_eq_getElem?_getD,factList_get (ss.take i) 0 e.on ss[e.on] (by rw [List.getElem?_take_of_lt hlt];exact hks),Nat.zero_add,hfill _ _ _ hlk]
   exact Spec.fact_of_holds (hI.done e.on l[e.on] _ (List.getElem?_eq_getElem (by omega)) hks hlk).1
  rw [List.nil_append] at hfacts
  have hnot : ∀ k : Nat,i ∈ (befores l []).getD k [] → ((fun k=>listed[k]? == some true) k) = false:=by
   intro k hk
   have hP:=befores_spec l [] (fun k i=>listed[k]? = some true → listed[i]? = some true) (fun k i h=>by simp at h) (fun j o' e hj he hlj=>by
    simp at hlj;exact hI.down j o' hj hlj e he) (fun a b c h1 h2 h3=>h2 (h1 h3)) k i hk
   cases hx : (listed[k]? == some true) with
   | false=>exact hx
   | true=>exact absurd (hP (by simpa using hx)) hnl
  have hres:=hob _ w' hI.cls (by simpa using hnl) (fun k hk=>by
   obtain ⟨e,he,rfl⟩:=List.mem_map.1 hk
   simp [hdone e (by simpa using he)]) hnot hfacts (fun v w''=>Inv (updDone (fun k=>listed[k]? == some true) i) w''∧T i w' w''∧ss[i].holds v w'') (fun v w'' h0 h1 h2=>⟨h0,h1,h2⟩)
  rw [hwant] at hres
  have next : ∀ v w'',Inv (updDone (fun k=>listed[k]? == some true) i) w'' → T i w' w'' → ss[i].holds v w'' → wpAny P .any l.toArray Q fuel (listed.setIfInBounds i true) (a'.put o.dst v) w'':=by
   intro v w'' hIv hT hv
   have hu:=undone_set hilt (by rw [hI.lsize];exact Nat.le_refl _) hnl
   refine ih _ (fun j=>if j = i then v else vf j) _ _ (by omega) ⟨?_,?_,by simp [hI.lsize],?_,?_,?_,?_⟩
   ·refine (congrArg (fun d=>Inv d w'') ?_).mp hIv
    funext k
    unfold updDone
    by_cases e : k = i
    ·subst e;rw [if_pos rfl,Array.getElem?_setIfInBounds_self_of_lt (by rw [hI.lsize];exact hilt)];simp
    ·rw [if_neg e,Array.getElem?_setIfInBounds_ne (Ne.symm e)]
   ·intro j o' hj hlj e he
    by_cases hje : j = i
    ·subst hje
     rw [hil] at hj
     obtain rfl : o = o':=by simpa using hj
     have:=hdone e he
     by_cases hei : e.on = j
     ·rw [hei,Array.getElem?_setIfInBounds_self_of_lt (by rw [hI.lsize];exact hilt)]
     ·rw [Array.getElem?_setIfInBounds_ne (Ne.symm hei)];exact this
    ·rw [Array.getElem?_setIfInBounds_ne (Ne.symm hje)] at hlj
     have:=hI.down j o' hj hlj e he
     by_cases hei : e.on = i
     ·rw [hei,Array.getElem?_setIfInBounds_self_of_lt (by rw [hI.lsize];exact hilt)]
     ·rw [Array.getElem?_setIfInBounds_ne (Ne.symm hei)];exact this
   ·rw [← hI.defers];cases o.dst <;> rfl
   ·rw [← hI.size];cases o.dst <;> simp [Act.put]
   ·intro j o' s hj hjs hlj
    by_cases e : j = i
    ·subst e
     rw [hil] at hj
     obtain rfl : o = o':=by simpa using hj
     rw [hsi] at hjs
     obtain rfl : ss[j] = s:=by simpa using hjs
     rw [if_pos rfl]
     refine ⟨hv,fun d hd=>?_⟩
     rw [hd,put_get_same (by rw [hI.size];exact (hdst d hd).1)]
    ·rw [Array.getElem?_setIfInBounds_ne (Ne.symm e)] at hlj
     rw [if_neg e]
     obtain ⟨g1,g2⟩:=hI.done j o' s hj hjs hlj
     refine ⟨?_,fun d hd=>?_⟩
     ·have hf:=hst i j s (Ne.symm e) hjs (vf j) _ w' w'' hI.cls hT (Spec.fact_of_holds g1)
      unfold Spec.holds at g1 ⊢
      unfold Spec.fact at hf
      split <;> simp_all
     ·rw [put_get_other (fun e'=>(hdst d e').2 j o' hj e hd)]
      exact g2 d hd
   ·intro t ht
    have hti : o.dst ≠ some t:=ht i o hil (by rw [Array.getElem?_setIfInBounds_self_of_lt (by rw [hI.lsize];exact hilt)])
    rw [put_get_other hti]
    refine hI.rest t fun j o' hj hlj=>?_
    by_cases e : j = i
    ·subst e;exact absurd hlj hnl
    ·exact ht j o' hj (by rw [Array.getElem?_setIfInBounds_ne (Ne.symm e)];exact hlj)
  unfold wpOp
  rw [ho]
  by_cases hw : Region.wanted o (yielded l.toArray a'.tmps) = true
  ·simp only [hw,if_true] at hres ⊢
   refine .inl (wp_of_gives (R:=fun v w''=>Inv (updDone (fun k=>listed[k]? == some true) i) w''∧T i w' w''∧ss[i].holds v w'') ?_ fun v w'' ⟨h0,h1,h2⟩=>next v w'' h0 h1 h2)
   unfold gives at hres ⊢
   rw [← hexec];exact hres
  ·simp only [hw] at hres ⊢
   exact next _ _ hres.1 hres.2.1 hres.2.2
theorem wp_region_done {id : Nat} {w : World} (ss : List Spec) (Inv : (Nat → Bool) → World → Prop) (T : Nat → World → World → Prop) (hm : P.follows .mixedOrders = true) (hB : monoB2 l a.tmps.size = true)
  (hst : ∀ (i k : Nat) (s : Spec),i ≠ k → ss[k]? = some s → ∀ v done w w',Inv done w → T i w w' → s.fact v w → s.fact v w') (hC : Inv (fun _=>false) w.drew)
  (h : doneWalk P l.toArray Inv T (befores l []) (Q .normal) l.length l ss 0 a [] (fun _=>True)) : (Code.region id l.toArray true).wp P Q a w:=by
 refine wp_region_any hm (wpAny_done hB hst h _ _ (fun _=>undef) _ _ ?_ ⟨?_,?_,by simp,rfl,rfl,?_,fun _ _=>rfl⟩)
 ·have:=List.length_filter_le (fun i=>(Array.replicate l.toArray.size false)[i]? != some true) (List.range l.length)
  simpa [undone] using this
 ·refine (congrArg (fun d=>Inv d _) ?_).mp hC
  funext k
  rw [Array.getElem?_replicate]
  split <;> simp
 ·intro j o hj hl
  rw [Array.getElem?_replicate] at hl
  split at hl <;> simp at hl
 ·intro j o s hj _ hl
  rw [Array.getElem?_replicate] at hl
  split at hl <;> simp at hl
end
def doneE (P : Program) (ops : Array Oper) (Inv : (Nat → Bool) → World → Prop) (bs : List (List Nat)) (Q : Act → World → Prop) (n : Nat) : List Oper → Nat → Act → Prop
 | [],_,a=>∀ (done : Nat → Bool) (w : World),(∀ k,k < n → done k = true) → Inv done w → Q a w
 | o :: l,i,a=>∃ x : Value,(∀ (done : Nat → Bool) (w : World),Inv done w → done i = false → (∀ k ∈ o.after.toList.map (fun e=>e.on),done k = true) → (∀ k : Nat,i ∈ bs.getD k [] → done k = false) →
   ∀ R : Value → World → Prop,(∀ (v : Value) (w' : World),Inv (updDone done i) w' → v = x → R v w') → if Region.wanted o (yielded ops a.tmps) then gives P o a w R else R undef w) ∧
   doneE P ops Inv bs Q n l (i + 1) (a.put o.dst x)
theorem doneE_step {P : Program} {ops : Array Oper} {Inv : (Nat → Bool) → World → Prop} {bs : List (List Nat)} {Q : Act → World → Prop} {n : Nat} {o : Oper} {l : List Oper} {i : Nat} {a : Act}
  (h : ∀ K : Act → Prop,(∀ a,doneE P ops Inv bs Q n l (i + 1) a → K a) → ∃ x : Value,(∀ (done : Nat → Bool) (w : World),Inv done w → done i = false → (∀ k ∈ o.after.toList.map (fun e=>e.on),done k = true) → (∀ k : Nat,i ∈ bs.getD k [] → done k = false) →
   ∀ R : Value → World → Prop,(∀ (v : Value) (w' : World),Inv (updDone done i) w' → v = x → R v w') → if Region.wanted o (yielded ops a.tmps) then gives P o a w R else R undef w)∧K (a.put o.dst x)) :
  doneE P ops Inv bs Q n (o :: l) i a:=h _ (fun _ h=>h)
theorem doneE_list {P : Program} {ops : Array Oper} {Inv : (Nat → Bool) → World → Prop} {bs : List (List Nat)} {Q : Act → World → Prop} {n : Nat} : ∀ (l : List Oper) (i : Nat) (a : Act) (fs : List (World → Prop)),
  doneE P ops Inv bs Q n l i a → ∃ xs : List Value,doneWalk P ops Inv (fun _ _ _=>True) bs Q n l (xs.map ex) i a fs (fun _=>True)
 | [],_,_,_,h=>⟨[],fun d w hd hC _=>h d w hd hC⟩
 | o :: l,i,a,fs,⟨x,hob,hrest⟩=>by
  obtain ⟨xs,hx⟩:=doneE_list l (i + 1) _ (fs ++ [fun _ : World=>True]) hrest
  exact ⟨x :: xs,fun d w hC h0 h1 h2 _ R hR=>hob d w hC h0 h1 h2 R (fun v w' hI hv=>hR v w' hI trivial hv),hx⟩
theorem wp_region_stores {P : Program} {l : List Oper} {Q : Exit → Act → World → Prop} {a : Act} {id : Nat} {w : World} (Inv : (Nat → Bool) → World → Prop) (hm : P.follows .mixedOrders = true) (hB : monoB2 l a.tmps.size = true) (hC : Inv (fun _=>false) w.drew)
  (bs : List (List Nat)) (hbs : befores l [] = bs) (h : doneE P l.toArray Inv bs (Q .normal) l.length l 0 a) : (Code.region id l.toArray true).wp P Q a w:=by
 subst hbs
 obtain ⟨xs,hx⟩:=doneE_list l 0 a [] h
 refine wp_region_done (xs.map ex) Inv (fun _ _ _=>True) hm hB (fun i k s _ hk v done w1 w2 _ _ _=>?_) hC hx
 obtain ⟨x,_,rfl⟩:=List.mem_map.1 (List.mem_of_getElem? hk)
 trivial
end Go.Proofs.YthkgjohhbdipcaaGreatDoor
namespace Go.Proofs.YthkgjohhbdipcaaGreatDoor
open Go.RowKit
def prune (o : Oper) : Oper:={ o with after:=o.after.filter (Region.binds .any) }
theorem prune_get (l : List Oper) (i : Nat) : (l.map prune).toArray[i]? = (l.toArray[i]?).map prune:=by simp
theorem all_prune (p q : Edge → Bool) (es : Array Edge) : ((es.filter p).all fun e=>!p e || q e) = es.all fun e=>!p e || q e:=by
 rw [Bool.eq_iff_iff]
 simp only [Array.all_eq_true_iff_forall_mem,Array.mem_filter]
 constructor
 ·intro h e he
  cases hp : p e with
  | false=>rfl
  | true=>have:=h e ⟨he,hp⟩;rwa [hp] at this
 ·intro h e he
  exact h e he.1
theorem ready_prune (l : List Oper) (listed : Array Bool) : Region.ready .any (l.map prune).toArray listed = Region.ready .any l.toArray listed:=by
 unfold Region.ready
 have hs : (l.map prune).toArray.size = l.toArray.size:=by simp
 rw [hs]
 congr 1
 funext i
 rw [prune_get,Option.map_map]
 congr 2
 congr 1
 funext o
 exact all_prune _ _ _
theorem yielded_prune (l : List Oper) (t : Array Value) : yielded (l.map prune).toArray t = yielded l.toArray t:=by
 funext j
 unfold yielded
 rw [prune_get]
 cases l.toArray[j]? <;> rfl
theorem wpOp_prune {P : Program} {l : List Oper} {Q : Exit → Act → World → Prop} {i : Nat} {K : Act → World → Prop} {a : Act} {w : World} (h : wpOp P (l.map prune).toArray Q i K a w) : wpOp P l.toArray Q i K a w:=by
 unfold wpOp at h ⊢
 rw [prune_get] at h
 cases ho : l.toArray[i]? with
 | none=>rw [ho] at h;exact h
 | some o=>rw [ho,yielded_prune] at h;exact h
theorem wpAny_prune {P : Program} {l : List Oper} {Q : Exit → Act → World → Prop} : ∀ (fuel : Nat) (listed : Array Bool) (a : Act) (w : World),wpAny P .any (l.map prune).toArray Q fuel listed a w → wpAny P .any l.toArray Q fuel listed a w
 | 0,listed,a,w,h=>by unfold wpAny at h ⊢;rwa [ready_prune] at h
 | fuel + 1,listed,a,w,h=>by
  unfold wpAny at h ⊢
  rw [ready_prune] at h
  exact ⟨h.1,fun i hi=>wpOp_mono (fun a' w' h'=>wpAny_prune fuel _ a' w' h') (wpOp_prune (h.2 i hi))⟩
theorem monoE_prune {P : Program} {ops : List Oper} {C : World → Prop} {T : Nat → World → World → Prop} {Q : Act → World → Prop} : ∀ (l : List Oper) (i : Nat) (a : Act),monoE P ops.toArray C T Q l i a → monoE P (ops.map prune).toArray C T Q (l.map prune) i a
 | [],_,_,h=>h
 | o :: l,i,a,⟨x,h1,h2⟩=>by
  refine ⟨x,fun w hC R hR=>?_,monoE_prune l _ _ h2⟩
  have:=h1 w hC R hR
  rw [← yielded_prune] at this
  exact this
theorem wp_region_exact3 {P : Program} {l : List Oper} {Q : Exit → Act → World → Prop} {a : Act} {id : Nat} {w : World} (B : Nat) (hBw : B≤w.heap.size) (hm : P.follows .mixedOrders = true) (hB : monoB2 (l.map prune) a.tmps.size = true)
  (h : monoE P l.toArray (Cls B w) TB (Q .normal) l 0 a) : (Code.region id l.toArray true).wp P Q a w:=by
 have h':=monoE_prune (ops:=l) l 0 a h
 generalize hl : l.map prune = l' at hB h'
 have conv : ∀ (l'' : List Oper) (i : Nat) (a' : Act),monoE P l'.toArray (Cls B w) TB (Q .normal) l'' i a' → doneE P l'.toArray (fun _=>Cls B w) (befores l' []) (Q .normal) l'.length l'' i a':=by
  intro l''
  induction l'' with
  | nil=>intro i a' h _ W _ hC;exact h W hC
  | cons o l'' ih =>
   intro i a' h
   obtain ⟨x,h1,h2⟩:=h
   exact ⟨x,fun _ W hC _ _ _ R hR=>h1 W hC R (fun v w' hT hv=>hR v w' (hC.step hT) hv),ih _ _ h2⟩
 obtain ⟨xs,hx⟩:=doneE_list l' 0 a [] (conv l' 0 a h')
 refine wp_region_any hm (wpAny_prune _ _ _ _ ?_)
 rw [hl]
 refine wpAny_done (Inv:=fun _=>Cls B w) (T:=fun _ _ _=>True) (ss:=xs.map ex) hB (fun i k s _ hk v done w1 w2 _ _ _=>?_) hx _ _ (fun _=>undef) _ _ ?_ ⟨⟨hBw,(Below.refl _ _).drew⟩,?_,by simp [← hl],rfl,rfl,?_,fun _ _=>rfl⟩
 ·obtain ⟨x,_,rfl⟩:=List.mem_map.1 (List.mem_of_getElem? hk)
  trivial
 ·have:=List.length_filter_le (fun i=>(Array.replicate l.toArray.size false)[i]? != some true) (List.range l'.length)
  simpa [undone,← hl] using this
 ·intro j o hj hl
  rw [Array.getElem?_replicate] at hl
  split at hl <;> simp at hl
 ·intro j o s hj _ hl
  rw [Array.getElem?_replicate] at hl
  split at hl <;> simp at hl
end Go.Proofs.YthkgjohhbdipcaaGreatDoor
namespace Go.Proofs.YthkgjohhbdipcaaGreatDoor
open Go.RowKit
section
variable {P : Program} {ops : Array Oper} {Inv : (Nat → Bool) → World → Prop} {T : Nat → World → World → Prop} {bs : List (List Nat)} {Q : Act → World → Prop} {n : Nat} {o : Oper} {l : List Oper} {ss : List Spec} {i : Nat} {a : Act} {fs : List (World → Prop)} {F : World → Prop}
def obP (P : Program) (ops : Array Oper) (Inv : (Nat → Bool) → World → Prop) (T : World → World → Prop) (s : Spec) (i : Nat) (bs : List (List Nat)) (o : Oper) (a : Act) (fs : List (World → Prop)) : Prop :=
 ∀ (done : Nat → Bool) (w : World),Inv done w → done i = false → (∀ k ∈ (prune o).after.toList.map (fun e=>e.on),done k = true) → (∀ k : Nat,i ∈ bs.getD k [] → done k = false) → depFacts (prune o) fs w → ∀ R : Value → World → Prop,(∀ (v : Value) (w' : World),Inv (updDone done i) w' → T w w' → s.holds v w' → R v w') →
  if Region.wanted o (yielded ops a.tmps) then gives P o a w R else R undef w
def walkP (P : Program) (ops : Array Oper) (Inv : (Nat → Bool) → World → Prop) (T : Nat → World → World → Prop) (bs : List (List Nat)) (Q : Act → World → Prop) (n : Nat) :
  List Oper → List Spec → Nat → Act → List (World → Prop) → (World → Prop) → Prop
 | [],_,_,a,_,F=>∀ (done : Nat → Bool) (w : World),(∀ k,k < n → done k = true) → Inv done w → F w → Q a w
 | _ :: _,[],_,_,_,_=>False
 | o :: l,s :: ss,i,a,fs,F=>obP P ops Inv (T i) s i bs o a fs ∧
   match s.exact? with
   | some x=>walkP P ops Inv T bs Q n l ss (i + 1) (a.put o.dst x) (fs ++ [fun _ : World=>True]) F
   | none=>∀ v : Value,walkP P ops Inv T bs Q n l ss (i + 1) (a.put o.dst v) (fs ++ [s.pred v]) (fun w : World=>F w∧s.pred v w)
theorem walk_prune {ops' : List Oper} : ∀ (l : List Oper) (ss : List Spec) (i : Nat) (a : Act) (fs : List (World → Prop)) (F : World → Prop),walkP P ops'.toArray Inv T bs Q n l ss i a fs F → doneWalk P (ops'.map prune).toArray Inv T bs Q n (l.map prune) ss i a fs F
 | [],_,_,_,_,_,h=>h
 | _ :: _,[],_,_,_,_,h=>h.elim
 | o :: l,s :: ss,i,a,fs,F,h=>by
  obtain ⟨h1,h2⟩:=h
  refine ⟨fun done w hI h0 hd hn hf R hR=>?_,?_⟩
  ·have:=h1 done w hI h0 hd hn hf R hR
   rw [← yielded_prune] at this
   exact this
  ·revert h2
   show (match s.exact? with | some x=>_ | none=>_) → (match s.exact? with | some x=>_ | none=>_)
   cases s.exact? with
   | some x=>exact fun h2=>walk_prune l ss (i + 1) _ _ _ h2
   | none=>exact fun h2 v=>walk_prune l ss (i + 1) _ _ _ (h2 v)
theorem walkP_ex {x : Value} (h : ∀ K : Act → Prop,(∀ a',walkP P ops Inv T bs Q n l ss (i + 1) a' (fs ++ [fun _ : World=>True]) F → K a') → obP P ops Inv (T i) (ex x) i bs o a fs∧K (a.put o.dst x)) :
  walkP P ops Inv T bs Q n (o :: l) (ex x :: ss) i a fs F:=h _ (fun _ h=>h)
theorem walkP_pr {p : Value → World → Prop} (h : ∀ K : Value → Act → Prop,(∀ v a',walkP P ops Inv T bs Q n l ss (i + 1) a' (fs ++ [p v]) (fun w : World=>F w∧p v w) → K v a') → obP P ops Inv (T i) (pr p) i bs o a fs∧∀ v,K v (a.put o.dst v)) :
  walkP P ops Inv T bs Q n (o :: l) (pr p :: ss) i a fs F:=h _ (fun _ _ h=>h)
end
theorem wp_region_done3 {P : Program} {l : List Oper} {Q : Exit → Act → World → Prop} {a : Act} {id : Nat} {w : World} (ss : List Spec) (Inv : (Nat → Bool) → World → Prop) (T : Nat → World → World → Prop) (hm : P.follows .mixedOrders = true) (hB : monoB2 (l.map prune) a.tmps.size = true)
  (hst : ∀ (i k : Nat) (s : Spec),i ≠ k → ss[k]? = some s → ∀ v done w w',Inv done w → T i w w' → s.fact v w → s.fact v w') (hC : Inv (fun _=>false) w.drew)
  (bs : List (List Nat)) (hbs : befores (l.map prune) [] = bs) (h : walkP P l.toArray Inv T bs (Q .normal) l.length l ss 0 a [] (fun _=>True)) : (Code.region id l.toArray true).wp P Q a w:=by
 subst hbs
 have h':=walk_prune (ops':=l) l ss 0 a [] _ h
 rw [show l.length = (l.map prune).length by simp] at h'
 refine wp_region_any hm (wpAny_prune _ _ _ _ (wpAny_done hB hst h' _ _ (fun _=>undef) _ _ ?_ ⟨?_,?_,by simp,rfl,rfl,?_,fun _ _=>rfl⟩))
 ·have:=List.length_filter_le (fun i=>(Array.replicate l.toArray.size false)[i]? != some true) (List.range (l.map prune).length)
  simpa [undone] using this
 ·refine (congrArg (fun d=>Inv d _) ?_).mp hC
  funext k
  rw [Array.getElem?_replicate]
  split <;> simp
 ·intro j o hj hl
  rw [Array.getElem?_replicate] at hl
  split at hl <;> simp at hl
 ·intro j o s hj _ hl
  rw [Array.getElem?_replicate] at hl
  split at hl <;> simp at hl
theorem ob_plain {o : Oper} {y : Nat → Option Bool} {A B : Prop} (h : o.guard = none) (hA : A) : if Region.wanted o y then A else B:=by
 have : Region.wanted o y = true:=by simp [Region.wanted,h]
 rw [if_pos this];exact hA
theorem gives_append {P : Program} {w : World} {o : Oper} {a : Act} {R : Value → World → Prop} (s x : Operand) (t : TypeId)
  (ho : o.op = .call { callee:=.builtin .append,args:=#[s,x],argTypes:=#[t,t] })
  (base : Nat) (e : TypeId) (i : TypeInfo) (z : Value) (size bytes : Nat) (ht : P.underlying t = some (.slice e)) (hi : P.info? e = some i) (hz : i.zero = some z)
  (hsize : i.size = size) (hby : i.bytes = bytes) (hzs : z.cells.size = size) (hsz : 0 < size)
  (v : Value) (n : Nat) (xs : List Value) (hs : a.eval s = v) (hown : w.ownsRow base e size v n xs)
  (ad : Addr) (m c : Nat) (news : List Value) (hx : a.eval x = .slice (some ad) m c) (hl : news.length = m * size) (hnews : ∀ j u,news[j]? = some u → w.cell? (ad.add j) = some u) (h1 : ∀ u ∈ news,u.oneCell' = true)
  (hm : 0 < m) (h63 : n + m≤maxLen) (hbytes : (n + m) * bytes≤140737488355328) (hbase : base≤w.heap.size)
  (h : ∀ v' w',w'.ownsRow base e size v' (n + m) (xs ++ news) → w.grownBy w' v.ownBlock → R v' w') : gives P o a w R:=by
 obtain ⟨g,cap,w',hr,h2,h3,_,_⟩:=run_append_lies (P:=P) w t o.type base e i z size bytes ht hi hz hsize hby hzs hsz v n xs hown ad m c news hl hnews h1 hm h63 hbytes hbase _ rfl
 unfold gives execOp
 simp only [ho,resolve,invoke,builtin,Sem.run_bind,Sem.run_pure,Result.andThen_ok,List.map_toArray,List.map_cons,List.map_nil,hs,hx,hr]
 exact h _ _ h2 h3
structure AppInv (w0 : World) (β : Nat) (T : TypeId) (box : Array Value) (off base : Nat) (E : TypeId) (sz : Nat) (cv : Value) (n : Nat) (cells : List Value) (m : Nat) (news : List Value) (ia is : Nat) (done : Nat → Bool) (W : World) : Prop where
 os : W.os = w0.os
 tape : W.tape = w0.tape
 output : W.output = w0.output
 size : w0.heap.size≤W.heap.size
 blk : ∀ b,b < w0.heap.size → b ≠ β → some b ≠ cv.ownBlock → W.heap[b]? = w0.heap[b]?
 before : done is = false → W.heap[β]? = some (.cells box T)
 own : done ia = false → W.ownsRow base E sz cv n cells
 after : done is = true → ∃ v,W.heap[β]? = some (.cells (box.setIfInBounds off v) T)∧W.ownsRow base E sz v (n + m) (cells ++ news)
def AppT (β : Nat) (cv : Value) (ia : Nat) (i : Nat) (w w' : World) : Prop:=w.heap.size≤w'.heap.size∧∀ b,b < w.heap.size → b ≠ β → (i = ia → some b ≠ cv.ownBlock) → w'.heap[b]? = w.heap[b]?
def NewP (B : Nat) (E : TypeId) (m : Nat) (cs : Array Value) (v : Value) (W : World) : Prop:=∃ b,v = .slice (some ⟨b,0,none⟩) m m∧B≤b∧W.heap[b]? = some (.cells cs E)
def OwnP (base : Nat) (E : TypeId) (sz n : Nat) (cells : List Value) (v : Value) (W : World) : Prop:=W.ownsRow base E sz v n cells
theorem NewP.stable {B β m ia i : Nat} {E : TypeId} {cs : Array Value} {cv v : Value} {w w' : World} (hβ : β < B) (hcv : ∀ g,cv.ownBlock = some g → g < B) (hT : AppT β cv ia i w w') (h : NewP B E m cs v w) : NewP B E m cs v w':=by
 obtain ⟨b,hv,hb,hc⟩:=h
 have hlt : b < w.heap.size:=(Array.getElem?_eq_some_iff.1 hc).1
 refine ⟨b,hv,hb,?_⟩
 rw [hT.2 b hlt (by omega) (fun _ e=>by have:=hcv b e.symm;omega)]
 exact hc
theorem ownsRow_keep1 {w w' : World} {base : Nat} {E : TypeId} {sz n : Nat} {v : Value} {cells : List Value} (h : w.ownsRow base E sz v n cells) (hb : ∀ b,base≤b → b < w.heap.size → v.ownBlock = some b → w'.heap[b]? = w.heap[b]?) : w'.ownsRow base E sz v n cells:=by
 obtain ⟨h1,h2⟩:=h
 refine ⟨h1,?_⟩
 rcases h2 with h2 | ⟨g,cap,cur,hv,hg,hh,r⟩
 ·exact .inl h2
 ·exact .inr ⟨g,cap,cur,hv,hg,by rw [hb g hg (Array.getElem?_eq_some_iff.1 hh).1 (by rw [hv];rfl)];exact hh,r⟩
theorem OwnP.stable {base β sz n ia i : Nat} {E : TypeId} {cells : List Value} {cv v : Value} {w w' : World} (hβ : β < base) (hi : i ≠ ia) (hT : AppT β cv ia i w w') (h : OwnP base E sz n cells v w) : OwnP base E sz n cells v w' :=
 ownsRow_keep1 h fun b hb hlt _=>hT.2 b hlt (by omega) (fun e=>absurd e hi)
section
variable {w0 W W' : World} {β : Nat} {T : TypeId} {box : Array Value} {off base : Nat} {E : TypeId} {sz n m ia is i : Nat} {cv : Value} {cells news : List Value} {done : Nat → Bool}
theorem AppInv.start (h : w0.heap[β]? = some (.cells box T)) (ho : w0.ownsRow base E sz cv n cells) : AppInv w0 β T box off base E sz cv n cells m news ia is (fun _=>false) w0.drew :=
 ⟨rfl,rfl,rfl,Nat.le_refl _,fun _ _ _ _=>rfl,fun _=>h,fun _=>by exact ownsRow_keep1 ho fun _ _ _ _=>rfl,fun h=>by cases h⟩
theorem AppInv.step (h : AppInv w0 β T box off base E sz cv n cells m news ia is done W) (hb : Below W.heap.size W W') (h1 : i ≠ ia) (h2 : i ≠ is) : AppInv w0 β T box off base E sz cv n cells m news ia is (updDone done i) W' where
 os:=hb.os.trans h.os
 tape:=hb.tape.trans h.tape
 output:=hb.output.trans h.output
 size:=Nat.le_trans h.size hb.size
 blk:=fun b hlt hn ho=>(hb.block b (Nat.lt_of_lt_of_le hlt h.size)).trans (h.blk b hlt hn ho)
 before:=fun hd=>by
  have : done is = false:=by simpa [updDone,Ne.symm h2] using hd
  exact blk_below (h.before this) hb
 own:=fun hd=>by
  have : done ia = false:=by simpa [updDone,Ne.symm h1] using hd
  exact ownsRow_keep1 (h.own this) fun b _ hlt _=>hb.block b hlt
 after:=fun hd=>by
  have : done is = true:=by simpa [updDone,Ne.symm h2] using hd
  obtain ⟨v,h1,h2⟩:=h.after this
  exact ⟨v,blk_below h1 hb,ownsRow_keep1 h2 fun b _ hlt _=>hb.block b hlt⟩
theorem AppT.of_below (hb : Below W.heap.size W W') : AppT β cv ia i W W':=⟨hb.size,fun b hlt _ _=>hb.block b hlt⟩
theorem AppInv.appended (h : AppInv w0 β T box off base E sz cv n cells m news ia is done W) (hd : done is = false) (hne : ia ≠ is) (hcv : ∀ g,cv.ownBlock = some g → g ≠ β) (hg : W.grownBy W' cv.ownBlock) (hβ : β < w0.heap.size) : AppInv w0 β T box off base E sz cv n cells m news ia is (updDone done ia) W' where
 os:=hg.os.trans h.os
 tape:=hg.tape.trans h.tape
 output:=hg.output.trans h.output
 size:=Nat.le_trans h.size hg.size
 blk:=fun b hlt hn ho=>(hg.block b (Nat.lt_of_lt_of_le hlt h.size) ho).trans (h.blk b hlt hn ho)
 before:=fun _=>by rw [hg.block β (Nat.lt_of_lt_of_le hβ h.size) (fun e=>hcv β e.symm rfl)];exact h.before hd
 own:=fun hd=>by simp [updDone] at hd
 after:=fun hd'=>by simp [updDone,Ne.symm hne,hd] at hd'
theorem AppT.of_grown (hg : W.grownBy W' cv.ownBlock) : AppT β cv ia ia W W':=⟨hg.size,fun b hlt _ h=>hg.block b hlt (h rfl)⟩
theorem AppInv.stored {v : Value} (h : AppInv w0 β T box off base E sz cv n cells m news ia is done W) (hd : done is = false) (hda : done ia = true) (hne : is ≠ ia) (hv : W.ownsRow base E sz v (n + m) (cells ++ news)) (hβ : β < base) :
  AppInv w0 β T box off base E sz cv n cells m news ia is (updDone done is) (W.setCell ⟨β,off,none⟩ v) where
 os:=h.os
 tape:=h.tape
 output:=h.output
 size:=by show _≤(W.heap.modify _ _).size;rw [Array.size_modify];exact h.size
 blk:=fun b hlt hn ho=>by
  have : (W.setCell ⟨β,off,none⟩ v).heap[b]? = W.heap[b]?:=by
   show (W.heap.modify β _)[b]? = _
   rw [Array.getElem?_modify,if_neg (fun e=>hn e.symm)]
  rw [this];exact h.blk b hlt hn ho
 before:=fun hd=>by simp [updDone] at hd
 own:=fun hd'=>by simp [updDone,Ne.symm hne,hda] at hd'
 after:=fun _=>by
  refine ⟨v,?_,ownsRow_keep1 hv fun b hb _ _=>?_⟩
  ·show (W.heap.modify β _)[β]? = _
   rw [Array.getElem?_modify,if_pos rfl,h.before hd]
   rfl
  ·show (W.heap.modify β _)[b]? = _
   rw [Array.getElem?_modify,if_neg (by omega)]
theorem AppT.of_store {v : Value} : AppT β cv ia i W (W.setCell ⟨β,off,none⟩ v) :=
 ⟨by show _≤(W.heap.modify _ _).size;rw [Array.size_modify];exact Nat.le_refl _,fun b _ hn _=>by
  show (W.heap.modify β _)[b]? = _
  rw [Array.getElem?_modify,if_neg (fun e=>hn e.symm)]⟩
theorem AppInv.below {w : World} {B : Nat} (h : AppInv w0 β T box off base E sz cv n cells m news ia is done W) (hb : Below B w w0) (hβ : B≤β) (ho : ∀ g,cv.ownBlock = some g → B≤g) (hB : B≤w0.heap.size) : Below B w W :=
 hb.trans ⟨h.os,h.tape,h.output,h.size,fun b hlt=>h.blk b (by omega) (by omega) (fun e=>by have:=ho b e.symm;omega)⟩
def goodSpecs (N O : Value → World → Prop) (ia : Nat) : List Spec → Nat → Prop
 | [],_=>True
 | s :: r,k=>((∃ x,s = ex x) ∨ s = pr N ∨ (k = ia∧s = pr O))∧goodSpecs N O ia r (k + 1)
theorem goodSpecs_get {N O : Value → World → Prop} {ia : Nat} : ∀ (ss : List Spec) (k0 : Nat),goodSpecs N O ia ss k0 → ∀ (k : Nat) (s : Spec),ss[k]? = some s → (∃ x,s = ex x) ∨ s = pr N ∨ (k0 + k = ia∧s = pr O)
 | [],_,_,_,_,h=>by simp at h
 | s0 :: r,k0,hg,0,s,h=>by simp at h;subst h;exact hg.1
 | s0 :: r,k0,hg,k + 1,s,h=>by
  have:=goodSpecs_get r (k0 + 1) hg.2 k s (by simpa using h)
  rw [show k0 + (k + 1) = k0 + 1 + k by omega];exact this
theorem wp_region_app {P : Program} {l : List Oper} {Q : Exit → Act → World → Prop} {a : Act} {id : Nat} (β : Nat) (T : TypeId) (box : Array Value) (off base : Nat) (E : TypeId) (sz : Nat) (cv : Value) (n : Nat) (cells : List Value) (m : Nat) (news : List Value) (ia is : Nat)
  (hm : P.follows .mixedOrders = true) (hB : monoB2 (l.map prune) a.tmps.size = true) (hbox : w0.heap[β]? = some (.cells box T)) (hown : w0.ownsRow base E sz cv n cells) (hβ : β < base) (hβ' : β < w0.heap.size)
  (bs : List (List Nat)) (hbs : befores (l.map prune) [] = bs) (ss : List Spec)
  (h : walkP P l.toArray (AppInv w0 β T box off base E sz cv n cells m news ia is) (AppT β cv ia) bs (Q .normal) l.length l ss 0 a [] (fun _=>True))
  (hss : goodSpecs (NewP w0.heap.size E m news.toArray) (OwnP base E sz (n + m) (cells ++ news)) ia ss 0) : (Code.region id l.toArray true).wp P Q a w0:=by
 refine wp_region_done3 ss _ (AppT β cv ia) hm hB (fun i k s hik hk v done w w' _ hT hf=>?_) (AppInv.start hbox hown) bs hbs h
 have hlt : ∀ g,cv.ownBlock = some g → g < w0.heap.size:=fun g hg=>(hown.lt g hg).2
 rcases goodSpecs_get ss 0 hss k s hk with ⟨x,rfl⟩ | rfl | ⟨hka,rfl⟩
 ·trivial
 ·exact NewP.stable hβ' hlt hT hf
 ·exact OwnP.stable hβ (by omega) hT hf
end
end Go.Proofs.YthkgjohhbdipcaaGreatDoor
namespace Go.Proofs.YthkgjohhbdipcaaGreatDoor
open Go.RowKit
def LastI (n : Nat) (w0 : World) (Fin : World → Prop) (done : Nat → Bool) (W : World) : Prop:=if done n = true then Fin W else Cls w0.heap.size w0 W
section
variable {n k : Nat} {w0 W W' : World} {Fin : World → Prop} {done : Nat → Bool}
theorem LastI.start : LastI n w0 Fin (fun _=>false) w0.drew:=by
 unfold LastI
 rw [if_neg (by simp)]
 exact ⟨Nat.le_refl _,(Below.refl _ _).drew⟩
theorem LastI.before (h : LastI n w0 Fin done W) (hd : done n = false) : Cls w0.heap.size w0 W:=by
 unfold LastI at h
 rw [if_neg (by rw [hd];simp)] at h
 exact h
theorem LastI.step (h : LastI n w0 Fin done W) (hd : done n = false) (hk : n ≠ k) (hb : Below W.heap.size W W') : LastI n w0 Fin (updDone done k) W':=by
 have hC:=h.before hd
 unfold LastI updDone
 rw [if_neg hk,hd,if_neg (by simp)]
 exact hC.step hb
theorem LastI.at_ (h : Fin W) : LastI n w0 Fin (updDone done n) W:=by
 unfold LastI updDone
 rw [if_pos rfl,if_pos rfl]
 exact h
theorem LastI.after (h : LastI n w0 Fin done W) (hd : done n = true) : Fin W:=by
 unfold LastI at h
 rw [if_pos hd] at h
 exact h
end
def stableK (B : Nat) (p : Value → World → Prop) : Prop:=∀ v w w',KeepFrom B w w' → p v w → p v w'
def stablesK (B : Nat) : List Spec → Prop
 | []=>True
 | s :: r=>((∃ x,s = ex x) ∨ ∃ p,s = pr p∧stableK B p)∧stablesK B r
theorem stablesK_get {B : Nat} : ∀ (ss : List Spec),stablesK B ss → ∀ s ∈ ss,∀ v w w',KeepFrom B w w' → s.fact v w → s.fact v w'
 | [],_,s,h=>by cases h
 | s0 :: r,h,s,hm=>by
  rcases List.mem_cons.1 hm with rfl | hm
  ·rcases h.1 with ⟨x,rfl⟩ | ⟨p,rfl,hp⟩
   ·exact fun _ _ _ _ _=>trivial
   ·exact fun v w w' hg hf=>hp v w w' hg hf
  ·exact stablesK_get r h.2 s hm
theorem wp_region_lastop {P : Program} {l : List Oper} {Q : Exit → Act → World → Prop} {a : Act} {id : Nat} {w : World} (n B : Nat) (ss : List Spec) (Fin : World → Prop) (hm : P.follows .mixedOrders = true) (hB : monoB2 (l.map prune) a.tmps.size = true)
  (hst : stablesK B ss) (bs : List (List Nat)) (hbs : befores (l.map prune) [] = bs) (h : walkP P l.toArray (LastI n w Fin) (fun _ W W'=>KeepFrom B W W') bs (Q .normal) l.length l ss 0 a [] (fun _=>True)) : (Code.region id l.toArray true).wp P Q a w :=
 wp_region_done3 ss (LastI n w Fin) (fun _ W W'=>KeepFrom B W W') hm hB (fun _ _ s _ hk v _ w1 w2 _ hT hf=>stablesK_get ss hst s (List.mem_of_getElem? hk) v w1 w2 hT hf) LastI.start bs hbs h
def VRow (B : Nat) (T : TypeId) (cells : Array Value) (n : Nat) (v : Value) (W : World) : Prop:=∃ b,v = .slice (some ⟨b,0,none⟩) n n∧B≤b∧W.heap[b]? = some (.cells cells T)
def VAt (B : Nat) (T : TypeId) (cells : Array Value) (k : Nat) (v : Value) (W : World) : Prop:=∃ b,v = .pointer (some ⟨b,k,none⟩)∧B≤b∧W.heap[b]? = some (.cells cells T)
theorem VRow.stable {B n : Nat} {T : TypeId} {cells : Array Value} : stableK B (VRow B T cells n):=fun v w w' h ⟨b,hv,hB,hb⟩=>⟨b,hv,hB,(h.2 b hB (Array.getElem?_eq_some_iff.1 hb).1).trans hb⟩
theorem VAt.stable {B k : Nat} {T : TypeId} {cells : Array Value} : stableK B (VAt B T cells k):=fun v w w' h ⟨b,hv,hB,hb⟩=>⟨b,hv,hB,(h.2 b hB (Array.getElem?_eq_some_iff.1 hb).1).trans hb⟩
end Go.Proofs.YthkgjohhbdipcaaGreatDoor
