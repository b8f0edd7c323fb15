/- Texts laid one behind the other: Judge, Judge2, Judge3, Looser, Short, Delta, CompRule, Compile, Tighten, Begin, CellPut. No condition beyond theirs. -/
import Derived.Test.YthkgjohhbdipcaaGreatDoorK2
import Derived.Test.YthkgjohhbdipcaaGreatDoorK10
import Derived.Test.YthkgjohhbdipcaaGreatDoorK3
import Derived.Test.YthkgjohhbdipcaaGreatDoorK9
import Derived.Test.YthkgjohhbdipcaaGreatDoorK8
import Derived.Laws.ResultCell
import Derived.Test.YthkgjohhbdipcaaGreatDoorK5
set_option linter.all false
namespace Go.Proofs.YthkgjohhbdipcaaGreatDoor
open Go.RowKit
@[reducible] def callCells (x : TCall) : Array Value:=#[.int .i64 x.a0,.int .i64 x.a1,.int .i64 x.a2,.int .i64 x.a3,.int .i64 x.a4]
@[reducible] def condV (c : TCond) : Value:=.agg #[.int .i64 c.f,.int .i64 c.op,.int .i64 c.v]
set_option maxHeartbeats 2000000 in
theorem holds_any (c : TCond) (x : TCall) (w : World) (hf0 : 0≤c.f) (hf1 : c.f < 5) (ho0 : 1≤c.op) (ho1 : c.op≤4) : Calls Tryz.prog 232 #[condV c,callV x] w fun e w'=>e = .returned (.bool (holdsB c x))∧Below w.heap.size w w':=by
 obtain ⟨f,op,v⟩:=c
 dsimp only at hf0 hf1 ho0 ho1
 obtain ⟨m,rfl⟩:=Int.eq_ofNat_of_zero_le hf0
 have hm : m < 5:=by omega
 have hc : ∀ o,((w.alloc o).alloc (.cells (callCells x) 46)).cell? ⟨w.heap.size + 1,m,none⟩ = some (.int .i64 (x.get m)):=fun o=>by
  rw [World.cell?_alloc_at _ _ _ _ (by simp)];exact cell5 x m hm
 have Hx : Hid (holdsB ⟨m,op,v⟩ x = if op = 1 then x.get m == v else if op = 2 then x.get m != v else if op = 3 then decide (x.get m < v) else decide (v≤x.get m)):=rfl
 have hop : op = 1 ∨ op = 2 ∨ op = 3 ∨ op = 4:=by omega
 rcases hop with rfl | rfl | rfl | rfl
 ·rw [Hx.out];simp only [if_true]
  clear Hx ho0 ho1
  go_enter Tryz.func232,Tryz.ntmps232
  go_wp2
  go_ret
  exact ⟨rfl,bel_alloc (bel_alloc (Below.refl _ _) _) _⟩
 ·rw [Hx.out];simp only [if_true,show ¬ ((2 : Int) = 1) by decide,if_false]
  clear Hx ho0 ho1
  go_enter Tryz.func232,Tryz.ntmps232
  go_wp2
  go_ret
  exact ⟨rfl,bel_alloc (bel_alloc (Below.refl _ _) _) _⟩
 ·rw [Hx.out];simp only [if_true,show ¬ ((3 : Int) = 1) by decide,show ¬ ((3 : Int) = 2) by decide,if_false]
  clear Hx ho0 ho1
  go_enter Tryz.func232,Tryz.ntmps232
  go_wp2
  go_ret
  exact ⟨rfl,bel_alloc (bel_alloc (Below.refl _ _) _) _⟩
 ·rw [Hx.out];simp only [show ¬ ((4 : Int) = 1) by decide,show ¬ ((4 : Int) = 2) by decide,show ¬ ((4 : Int) = 3) by decide,if_false]
  clear Hx ho0 ho1
  go_enter Tryz.func232,Tryz.ntmps232
  go_wp2
  go_ret
  exact ⟨rfl,bel_alloc (bel_alloc (Below.refl _ _) _) _⟩
theorem which1_any (c : TCond) (x : TCall) (bx : Nat) (w : World) (hok : OkCond c) (hx : ∀ j,w.cell? ⟨bx,j,none⟩ = (callCells x)[j]?) (hbx : bx < w.heap.size) :
  Calls Tryz.prog 231 #[condV c,.pointer (some ⟨bx,0,none⟩)] w fun e w'=>e = .returned (.bool (!holdsB c x))∧Below w.heap.size w w':=by
 have hx' : ∀ o j,(w.alloc o).cell? ⟨bx,j,none⟩ = (callCells x)[j]?:=fun o j=>(World.cell?_alloc_lt w o ⟨bx,j,none⟩ hbx).trans (hx j)
 have Hok:=Lib.hid hok
 clear hok hx
 go_enter Tryz.func231,Tryz.ntmps231
 go_wp2_with fail
 refine (holds_any c x _ Hok.out.f0 Hok.out.f1 Hok.out.o0 Hok.out.o1).mono ?_
 rintro e w1 ⟨rfl,hb1⟩
 go_wp2
 go_ret
 exact ⟨rfl,bel_alloc_call (Below.refl _ _) hb1⟩
theorem allHold_take {x : TCall} {l : List TCond} {k : Nat} (hk : k < l.length) (h : allHold x (l.take k) = true) (hh : holdsB l[k] x = true) : allHold x (l.take (k + 1)) = true:=by
 rw [List.take_succ_eq_append_getElem hk]
 unfold allHold at *
 rw [List.all_append,h]
 simp [hh]
theorem allHold_not {x : TCall} {l : List TCond} {k : Nat} (hk : k < l.length) (hh : holdsB l[k] x = false) : allHold x l = false:=by
 unfold allHold
 rw [List.all_eq_false]
 exact ⟨l[k],List.getElem_mem hk,by simp [hh]⟩
set_option maxHeartbeats 2000000 in
theorem indexFunc_any (v : Value) (l : List TCond) (x : TCall) (bx : Nat) (D : Nat → Prop) (w : World) (h : RdConds w D v l) (hok : ∀ c ∈ l,OkCond c) (hx : ∀ j,w.cell? ⟨bx,j,none⟩ = (callCells x)[j]?) (hbx : bx < w.heap.size) :
  Calls Tryz.prog 246 #[v,.func (.func 231) #[] #[.pointer (some ⟨bx,0,none⟩)]] w fun e w' =>
   ∃ n : Int,e = .returned (.int .i64 n)∧decide (0≤n) = (!allHold x l)∧Below w.heap.size w w':=by
 obtain ⟨a,c,rfl,hlc,hcm,hat⟩:=Sl.form h
 have H:=Lib.hid h
 have Hok:=Lib.hid hok
 have Hx:=Lib.hid hx
 clear h hok hx
 go_enter Tryz.func246,Tryz.ntmps246
 go_wp2_with fail
 go_loopw [8] (fun i wr=>∃ k : Nat,k≤l.length∧i = .int .i64 k∧allHold x (l.take k) = true∧Below w.heap.size w wr) (fun i _=>l.length - (intOf i).toNat)
 case atStart=>exact ⟨0,by omega,rfl,rfl,Below.refl _ _⟩
 case round =>
  obtain ⟨k,hk,rfl,hall,hbw⟩:=hrel
  have Hall:=Lib.hid hall
  have hsz:=hbw.size
  clear hall
  by_cases hlt : k < l.length
  ·obtain ⟨b,o,rfl,hDb,hb⟩:=hat (by omega)
   obtain ⟨c0,c1,c2⟩:=RdConds.cells (RdConds.below H.out hbw) hlt
   go_wp2_with fail
   refine (which1_any l[k] x bx _ (Hok.out _ (List.getElem_mem hlt)) (fun j=>(hbw.cell (p:=⟨bx,j,none⟩) hbx).trans (Hx.out j)) (by omega)).mono ?_
   rintro e w1 ⟨rfl,hb1⟩
   cases hh : holdsB l[k] x with
   | true =>
    have Hn:=Lib.hid (allHold_take hlt Hall.out hh)
    clear hh
    go_wp2
    go_roundw
    case rel=>exact ⟨k + 1,by omega,by go_num,Hn.out,bel_call hbw hb1⟩
    case measure=>simp [intOf];omega
   | false =>
    have Hn:=Lib.hid (allHold_not hlt hh)
    clear hh
    go_wp2
    go_ret
    exact ⟨_,rfl,by rw [Hn.out];simp,bel_call hbw hb1⟩
  ·obtain rfl : k = l.length:=by omega
   have Hn : Hid (allHold x l = true):=by have:=Hall.out;rwa [List.take_length] at this
   go_wp2
   go_ret
   exact ⟨_,rfl,by rw [Hn.out];simp,hbw⟩
theorem containsFunc_any (v : Value) (l : List TCond) (x : TCall) (bx : Nat) (D : Nat → Prop) (w : World) (h : RdConds w D v l) (hok : ∀ c ∈ l,OkCond c) (hx : ∀ j,w.cell? ⟨bx,j,none⟩ = (callCells x)[j]?) (hbx : bx < w.heap.size) :
  Calls Tryz.prog 230 #[v,.func (.func 231) #[] #[.pointer (some ⟨bx,0,none⟩)]] w fun e w'=>e = .returned (.bool (!allHold x l))∧Below w.heap.size w w':=by
 have H:=Lib.hid h
 have Hok:=Lib.hid hok
 have Hx:=Lib.hid hx
 clear h hok hx
 go_enter Tryz.func230,Tryz.ntmps230
 go_wp2_with fail
 refine (indexFunc_any v l x bx D _ H.out Hok.out Hx.out hbx).mono ?_
 rintro e w1 ⟨n,rfl,hn,hb1⟩
 have Hn:=Lib.hid hn
 clear hn
 go_wp2
 go_ret
 exact ⟨ret_bool (by rw [← Hn.out]),hb1⟩
end Go.Proofs.YthkgjohhbdipcaaGreatDoor
namespace Go.Proofs.YthkgjohhbdipcaaGreatDoor
open Go.RowKit
set_option maxHeartbeats 2000000 in
theorem which_any (v : Value) (p : TPol) (x : TCall) (D : Nat → Prop) (w : World) (h : RdRules w D v p.rules) (hok : OkPol p) :
  Calls Tryz.prog 225 #[polV v p.dflt,callV x] w fun e w'=>e = .returned (.int .i64 (which x p.rules))∧Below w.heap.size w w':=by
 obtain ⟨rs,d⟩:=p
 dsimp only at h ⊢
 obtain ⟨a,c,rfl,hlc,hcm,hat⟩:=Sl.form h
 have H:=Lib.hid h
 have Hok:=Lib.hid hok
 have hmk : ∀ (fn : Fn) (first cap : Array Value) (w : World),(Instr.makeFunc fn first cap).run Tryz.prog w = .ok (.func fn first cap) w:=fun _ _ _ _=>rfl
 clear h hok
 go_enter Tryz.func225,Tryz.ntmps225
 go_wp2_with fail
 go_loopw [10] (fun i wr=>∃ k : Nat,k≤rs.length∧i = .int .i64 k∧which x rs = k + which x (rs.drop k)∧Below (w.heap.size + 2) ((w.alloc (.cells #[.slice a rs.length c,.int .i64 d] 38)).alloc (.cells (callCells x) 46)) wr) (fun i _=>rs.length - (intOf i).toNat)
 case atStart=>exact ⟨0,by omega,rfl,by simp,Below.refl _ _⟩
 case round =>
  obtain ⟨k,hk,rfl,hgo,hbx⟩:=hrel
  have Hgo:=Lib.hid hgo
  have hsz:=size_box2 hbx
  have Hb:=Lib.hid (bel_box2 hbx)
  obtain ⟨hc1,hc2⟩:=box2_cells hbx
  clear hgo
  by_cases hlt : k < rs.length
  ·obtain ⟨b,o,rfl,hDb,hb⟩:=hat (by omega)
   obtain ⟨a',c',k0,k1,hr,hlc',hcm',hat'⟩:=RdRules.cells (RdRules.below H.out Hb.out) hlt
   have Hr:=Lib.hid hr
   have Hd:=Lib.hid (which_drop x rs k hlt)
   have Hrok:=Lib.hid (Hok.out.rules _ (List.getElem_mem hlt))
   have HC:=Lib.hid hc2
   clear hr hc1 hc2 hat'
   go_wp2_with fail
   refine (containsFunc_any _ rs[k].conds x (w.heap.size + 1) D _ (RdConds.below Hr.out (bel_alloc (Below.refl _ _) _)) Hrok.out.conds (fun j=>(World.cell?_alloc_lt _ _ ⟨w.heap.size + 1,j,none⟩ (show w.heap.size + 1 < wr.heap.size by omega)).trans (HC.out j)) (by simp;omega)).mono ?_
   rintro e w1 ⟨rfl,hb1⟩
   have hb2 : Below (w.heap.size + 2) wr w1:=((Below.refl _ _).alloc (by omega) _).trans (hb1.mono (by simp;omega))
   have Hb1:=Lib.hid (hbx.trans hb2)
   clear hb1 hb2
   cases hh : allHold x rs[k].conds with
   | true =>
    have Hn:=Lib.hid (show which x rs = k by rw [Hgo.out,Hd.out,if_pos hh];omega)
    clear hh
    go_wp2
    go_ret
    exact ⟨ret_int (by rw [Hn.out]),bel_box2 Hb1.out⟩
   | false =>
    have Hn:=Lib.hid (show which x rs = (k + 1 : Nat) + which x (rs.drop (k + 1)) by rw [Hgo.out,Hd.out,hh];simp;omega)
    clear hh
    go_wp2
    go_roundw
    case rel=>exact ⟨k + 1,by omega,by go_num,Hn.out,Hb1.out⟩
    case measure=>simp [intOf];omega
  ·obtain rfl : k = rs.length:=by omega
   have Hn:=Lib.hid (show which x rs = rs.length by rw [Hgo.out,List.drop_length];rfl)
   go_wp2
   go_ret
   exact ⟨ret_int (by rw [Hn.out]),Hb.out⟩
end Go.Proofs.YthkgjohhbdipcaaGreatDoor
namespace Go.Proofs.YthkgjohhbdipcaaGreatDoor
open Go.RowKit
theorem box2_step {w wr w1 : World} {o o' : Obj} (hb : Below (w.heap.size + 2) ((w.alloc o).alloc o') wr) (h1 : Below wr.heap.size wr w1) : Below (w.heap.size + 2) ((w.alloc o).alloc o') w1:=hb.trans (h1.mono (size_box2 hb))
set_option maxHeartbeats 4000000 in
theorem judge_any (v : Value) (p : TPol) (x : TCall) (D : Nat → Prop) (w : World) (h : RdRules w D v p.rules) :
  Calls Tryz.prog 217 #[polV v p.dflt,callV x] w fun e w'=>e = .returned (.tuple #[.int .i64 (judgeE p x).1,.int .i64 (judgeE p x).2.1,.int .i64 (judgeE p x).2.2])∧Below w.heap.size w w':=by
 have H:=Lib.hid h
 obtain ⟨a,c,rfl,hlc,hcm,hat⟩:=Sl.form h
 clear h
 by_cases hp : polE p = 0
 ·have Hp:=Lib.hid hp
  by_cases hx : x.ok
  ·have e : judgeE p x = ((judged p x).1,((judged p x).2 : Int),0):=by unfold judgeE;rw [if_neg (by omega),if_pos hx]
   have hxe : Hid (callE x = 0):=if_pos hx
   have Hle:=Lib.hid (which_le x p.rules)
   rw [e]
   clear e hp hx
   go_enter Tryz.func217,Tryz.ntmps217
   go_wp2_with fail
   refine (polcheck_any _ p D _ (RdRules.below H.out (bel_alloc (bel_alloc (Below.refl _ _) _) _))).mono ?_
   rw [Hp.out]
   rintro e w1 ⟨rfl,hb1⟩
   have hb1' : Below (w.heap.size + 2) _ w1:=hb1.mono (by simp)
   obtain ⟨hc1,hc2⟩:=box2_cells hb1'
   clear hb1
   go_wp2_with fail
   refine (callcheck_any x _).mono ?_
   rw [hxe.out]
   rintro e w2 ⟨rfl,hb2⟩
   have hb2':=box2_step hb1' hb2
   clear hc1 hc2 hb1' hb2
   obtain ⟨hc1,hc2⟩:=box2_cells hb2'
   go_wp2_with fail
   refine (which_any _ p x D _ (RdRules.below H.out (bel_box2 hb2')) ((okPol_iff p).1 Hp.out)).mono ?_
   rintro e w3 ⟨rfl,hb3⟩
   have hb3':=box2_step hb2' hb3
   clear hc1 hc2 hb2' hb3
   obtain ⟨hc1,hc2⟩:=box2_cells hb3'
   have Hb:=Lib.hid (bel_box2 hb3')
   have hsz:=size_box2 hb3'
   by_cases hw : which x p.rules = p.rules.length
   ·have hj : Hid (judged p x = (p.dflt,p.rules.length)):=by
     show judged p x = _
     unfold judged verdictAt
     rw [hw,List.getElem?_eq_none (Nat.le_refl _)]
    have b0 : ((which x p.rules : Int) == (p.rules.length : Int)) = true:=beq_iff_eq.2 (by omega)
    have b1 : (which x p.rules == p.rules.length) = true:=beq_iff_eq.2 hw
    have Hw:=Lib.hid hw
    clear hw
    go_wp2
    go_ret3
    exact ⟨by rw [hj.out,Hw.out];rfl,Hb.out⟩
   ·have hlt : which x p.rules < p.rules.length:=by have:=Hle.out;omega
    have hj : Hid (judged p x = (p.rules[which x p.rules].verdict,which x p.rules)):=by
     show judged p x = _
     unfold judged verdictAt
     rw [List.getElem?_eq_getElem hlt]
    have b0 : ((which x p.rules : Int) == (p.rules.length : Int)) = false:=beq_eq_false_iff_ne.2 (by omega)
    have b1 : (which x p.rules == p.rules.length) = false:=beq_eq_false_iff_ne.2 hw
    obtain ⟨b,o,rfl,hDb,hbb⟩:=hat (by omega)
    obtain ⟨a',c',k0,k1,hr,hlc',hcm',hat'⟩:=RdRules.cells (RdRules.below H.out Hb.out) hlt
    clear hw hr hat' k0
    go_wp2
    go_ret3
    exact ⟨by rw [hj.out];rfl,Hb.out⟩
  ·have e : judgeE p x = (0,0,3):=by unfold judgeE;rw [if_neg (by omega),if_neg hx]
   have hxe : Hid (callE x = 3):=if_neg hx
   rw [e]
   clear e hp hx
   go_enter Tryz.func217,Tryz.ntmps217
   go_wp2_with fail
   refine (polcheck_any _ p D _ (RdRules.below H.out (bel_alloc (bel_alloc (Below.refl _ _) _) _))).mono ?_
   rw [Hp.out]
   rintro e w1 ⟨rfl,hb1⟩
   have hb1' : Below (w.heap.size + 2) _ w1:=hb1.mono (by simp)
   obtain ⟨hc1,hc2⟩:=box2_cells hb1'
   clear hb1
   go_wp2_with fail
   refine (callcheck_any x _).mono ?_
   rw [hxe.out]
   rintro e w2 ⟨rfl,hb2⟩
   have hb2':=box2_step hb1' hb2
   clear hc1 hc2 hb1' hb2
   go_wp2
   go_ret3
   exact ⟨rfl,bel_box2 hb2'⟩
 ·have e : judgeE p x = (0,0,polE p):=by unfold judgeE;rw [if_pos hp]
  have d : (polE p != 0) = true:=bne_iff_ne.2 hp
  rw [e]
  clear e hp
  go_enter Tryz.func217,Tryz.ntmps217
  go_wp2_with fail
  refine (polcheck_any _ p D _ (RdRules.below H.out (bel_alloc (bel_alloc (Below.refl _ _) _) _))).mono ?_
  rintro e w1 ⟨rfl,hb1⟩
  have hb1' : Below (w.heap.size + 2) _ w1:=hb1.mono (by simp)
  clear hb1
  go_wp2
  go_ret3
  exact ⟨rfl,bel_box2 hb1'⟩
end Go.Proofs.YthkgjohhbdipcaaGreatDoor
namespace Go.Proofs.YthkgjohhbdipcaaGreatDoor
open Go.RowKit
theorem two_pols {W : World} {b : Nat} {T : TypeId} {D : Nat → Prop} {u v : Value} {p q : TPol} (hb : W.heap[b]? = some (.cells #[u,.int .i64 p.dflt,v,.int .i64 q.dflt] T)) (hp : RdRules W D u p.rules) (hq : RdRules W D v q.rules) (hD : D b) : RdPols W D (.slice (some ⟨b,0,none⟩) 2 2) [p,q] :=
 sl_block (xs:=[p,q]) (rows:=[[u,.int .i64 p.dflt],[v,.int .i64 q.dflt]]) (RowsOf.cons (RowsOf.cons RowsOf.nil ⟨_,rfl,hq⟩ rfl) ⟨_,rfl,hp⟩ rfl) hb rfl hD (by simp [maxLen])
theorem one_pol {W : World} {b : Nat} {T : TypeId} {D : Nat → Prop} {u : Value} {p : TPol} (hb : W.heap[b]? = some (.cells #[u,.int .i64 p.dflt] T)) (hp : RdRules W D u p.rules) (hD : D b) : RdPols W D (.slice (some ⟨b,0,none⟩) 1 1) [p] :=
 sl_block (xs:=[p]) (rows:=[[u,.int .i64 p.dflt]]) (RowsOf.cons RowsOf.nil ⟨_,rfl,hp⟩ rfl) hb rfl hD (by simp [maxLen])
theorem condCuts_len (f : Int) (c : TCond) : (condCuts f c).length≤2:=by unfold condCuts;split <;> (try split) <;> simp
theorem flatMap_len {α β : Type} (g : α → List β) (m : Nat) : ∀ l : List α,(∀ x ∈ l,(g x).length≤m) → (l.flatMap g).length≤l.length * m
 | [],_=>by simp
 | x :: l,h=>by
  have h1:=h x (List.mem_cons_self ..)
  have h2:=flatMap_len g m l (fun y hy=>h y (List.mem_cons_of_mem _ hy))
  rw [List.flatMap_cons,List.length_append,List.length_cons,Nat.add_mul];omega
theorem polCuts_len {p : TPol} (h : OkPol p) (f : Int) : (polCuts f p).length≤2400:=by
 have h1 : ∀ r ∈ p.rules,(ruleCuts f r).length≤20:=fun r hr=>by
  have:=flatMap_len (condCuts f) 2 r.conds (fun c _=>condCuts_len f c)
  have:=(h.rules r hr).len
  show (r.conds.flatMap (condCuts f)).length≤20
  omega
 have:=flatMap_len (ruleCuts f) 20 p.rules h1
 have:=h.len
 show (p.rules.flatMap (ruleCuts f)).length≤2400
 omega
theorem vals_len {l : List TPol} (h : polsE l = 0) (hl : l.length≤2) (f : Int) : (cutVals l f).length * 8≤140737488355328:=by
 have h1:=flatMap_len (polCuts f) 2400 l (fun p hp=>polCuts_len ((polsE_iff l).1 h p hp) f)
 unfold cutVals
 simp only [List.length_cons]
 have : l.length * 2400≤2 * 2400:=Nat.mul_le_mul_right _ hl
 omega
theorem find_drop (g : TCall → Bool) (l : List TCall) (k : Nat) (h : k < l.length) : (l.drop k).find? g = if g l[k] then some l[k] else (l.drop (k + 1)).find? g:=by
 rw [List.drop_eq_getElem_cons h,List.find?_cons]
 cases g l[k] <;> rfl
theorem judgeE_says {p : TPol} (h : OkPol p) {x : TCall} (hx : x.ok) : judgeE p x = (says p x,((judged p x).2 : Int),0):=by
 unfold judgeE
 rw [if_neg (by rw [(okPol_iff p).2 h];simp),if_pos hx]
 rfl
set_option maxRecDepth 100000 in
set_option maxHeartbeats 8000000 in
theorem looser_any (u v : Value) (p q : TPol) (w : World) (hp : RdRules w (fun _=>True) u p.rules) (hq : RdRules w (fun _=>True) v q.rules) :
  Calls Tryz.prog 193 #[polV u p.dflt,polV v q.dflt] w fun e w'=>e = .returned (.tuple #[.bool (looserE p q).1,callV (looserE p q).2.1,.int .i64 (looserE p q).2.2])∧Below w.heap.size w w':=by
 have Hp:=Lib.hid hp
 have Hq:=Lib.hid hq
 obtain ⟨ap,cp,rfl,_⟩:=Sl.form hp
 obtain ⟨aq,cq,rfl,_⟩:=Sl.form hq
 clear hp hq
 go_enter Tryz.func193,Tryz.ntmps193
 go_wp2_with fail
 refine (points_any _ [p,q] (fun _=>True) _ (two_pols (blk_at (by simp)) (Hp.out.below (bel_alloc (bel_alloc (bel_alloc (bel_alloc (Below.refl _ _) _) _) _) _)) (Hq.out.below (bel_alloc (bel_alloc (bel_alloc (bel_alloc (Below.refl _ _) _) _) _) _)) trivial) (fun h0 f _ _=>vals_len h0 (by simp) f)).mono ?_
 rintro e w1 ⟨v1,rfl,ho1,hb1⟩
 have HB1:=Lib.hid (Bx.three.below ((bel_alloc (Below.refl _ _) _).trans (hb1.mono (by simp))))
 have Ho1:=Lib.hid ho1
 obtain ⟨a1,c1,rfl⟩:=ho1.slice
 clear ho1 hb1
 by_cases h0 : (pointsE [p,q]).2 = 0
 ·obtain ⟨hok,hsz5,hpe⟩:=pointsE_ok h0
  have HL : Hid (looserE p q = looserGo ((stage [p,q] 5).find? (looserAt p q))):=by
   refine looserE_eq (p:=p) (q:=q) ?_
   unfold looserE
   rw [if_neg (by rw [h0];simp)]
   split <;> rfl
  have Hok:=Lib.hid hok
  have HokP:=Lib.hid (hok p (by simp))
  have HokQ:=Lib.hid (hok q (by simp))
  rw [hpe] at Ho1 ⊢
  have Hl1 : Hid (RdCalls w1 (fun _=>True) (.slice a1 (stage [p,q] 5).length c1) (stage [p,q] 5)):=Ho1.out.sl (fun _ _=>trivial)
  have hSl : (stage [p,q] 5).length≤1000:=by rw [stage_length];assumption
  have Hpo:=Lib.hid (fun x (hx : x ∈ stage [p,q] 5)=>point_ok hok hx)
  obtain ⟨S,hS⟩ : ∃ S,S = stage [p,q] 5:=⟨_,rfl⟩
  rw [← hS] at Hl1 HL Hpo hSl ⊢
  have hat:=fun h0=>Sl.at_ Hl1.out h0
  clear h0 hok hpe hS Ho1 hsz5
  go_wp2_with fail
  go_loopw [30] (fun kv wr=>∃ k : Nat,kv = .int .i64 k∧k≤S.length∧(S.drop k).find? (looserAt p q) = S.find? (looserAt p q)∧Below w1.heap.size w1 wr) (fun kv _=>S.length - (intOf kv).toNat)
  case atStart=>exact ⟨0,rfl,Nat.zero_le _,rfl,Below.refl _ _⟩
  case round =>
   obtain ⟨k,rfl,hk,hfd,hb⟩:=hrel
   have Hfd:=Lib.hid hfd
   have Hb:=Lib.hid hb
   have hszr:=hb.size
   have HBr:=Lib.hid (HB1.out.below hb)
   have hc0:=HBr.out.cells0
   have hc1:=HBr.out.cells1
   clear hfd hb
   by_cases hlt : k < S.length
   ·obtain ⟨b,o,rfl,_,hblt⟩:=hat (by omega)
    obtain ⟨h0c,h1c,h2c,h3c,h4c⟩:=RdCalls.cells (Hl1.out.below Hb.out) hlt
    have Hs:=Lib.hid (find_drop (looserAt p q) S k hlt)
    have Hxo:=Lib.hid (Hpo.out S[k] (List.getElem_mem hlt))
    obtain ⟨x,hx⟩ : ∃ x,S[k] = x:=⟨_,rfl⟩
    rw [hx] at h0c h1c h2c h3c h4c Hs Hxo
    have HJp:=Lib.hid (judgeE_says HokP.out Hxo.out)
    have HJq:=Lib.hid (judgeE_says HokQ.out Hxo.out)
    have HBa:=Lib.hid (HBr.out.alloc (.cells (callArr x) 46))
    have Hxb : Hid ((wr.alloc (.cells (callArr x) 46)).heap[wr.heap.size]? = some (.cells (callArr x) 46)):=heap_last _ _
    have hc0':=HBa.out.cells0
    have hcx':=cells_of Hxb.out
    clear hx hc0 hc1
    go_wp2_with fail
    refine (judge_any _ p x _ _ (Hp.out.below HBa.out.bel)).mono ?_
    rw [HJp.out]
    rintro e w2 ⟨rfl,hb2⟩
    have HB2:=Lib.hid (HBa.out.below hb2)
    have Hx2:=Lib.hid (blk_below Hxb.out hb2)
    have Hbb2:=Lib.hid (bel_alloc_call (Hb.out.mono (Nat.le_refl _)) hb2)
    have hc1:=HB2.out.cells1
    have hcx:=cells_of Hx2.out
    clear hb2 hc0' hcx' h0c h1c h2c h3c h4c
    go_wp2_with fail
    refine (judge_any _ q x _ _ (Hq.out.below HB2.out.bel)).mono ?_
    rw [HJq.out]
    rintro e w3 ⟨rfl,hb3⟩
    have HB3:=Lib.hid (HB2.out.below hb3)
    have Hx3:=Lib.hid (blk_below Hx2.out hb3)
    have Hbb3:=Lib.hid (bel_call Hbb2.out hb3)
    clear hb3 hc1 hcx
    by_cases hgt : says q x < says p x
    ·have hd : decide (says q x < says p x) = true:=decide_eq_true hgt
     have HR : Hid (looserE p q = (true,x,0)):=by
      show looserE p q = _
      rw [HL.out,← Hfd.out,Hs.out,if_pos (by unfold looserAt;exact hd)]
      rfl
     have hcx:=cells_of Hx3.out
     have hc2:=HB3.out.cells2
     have hf2 : ∀ j,w3.frozen? ⟨w.heap.size + 1 + 1,j,none⟩ = false:=fun j=>HB3.out.free (i:=2) rfl j
     clear hgt
     go_wp2_with fail
     go_region
     have HBf:=Lib.hid ((HB3.out.setCall2 (x:=⟨0,0,0,0,0⟩) (y:=x)).drew)
     have hcf:=HBf.out.cells2
     go_wp2
     refine bodyPost_ret (v:=.tuple #[.bool true,callV x,.int .i64 0]) ?_ rfl ⟨by rw [HR.out],HBf.out.bel⟩
     simp [results,Tryz.results193,go_sem,hcf]
    ·have hd : decide (says q x < says p x) = false:=decide_eq_false hgt
     have HR : Hid ((S.drop (k + 1)).find? (looserAt p q) = S.find? (looserAt p q)):=by
      show _ = _
      have:=Hs.out
      rw [if_neg (by unfold looserAt;rw [hd];simp),Hfd.out] at this
      exact this.symm
     clear hgt
     go_wp2
     go_roundw
     case rel=>exact ⟨k + 1,by go_num,by omega,HR.out,Hbb3.out⟩
     case measure=>simp [intOf];omega
   ·obtain rfl : k = S.length:=by omega
    have HR : Hid (looserE p q = (false,zeroCall,0)):=by
     show looserE p q = _
     rw [HL.out,← Hfd.out,List.drop_length]
     rfl
    have hc2:=HBr.out.cells2
    have hf2 : ∀ j,wr.frozen? ⟨w.heap.size + 1 + 1,j,none⟩ = false:=fun j=>HBr.out.free (i:=2) rfl j
    clear hc0 hc1
    have HBf:=Lib.hid (HBr.out.setCall2 (x:=⟨0,0,0,0,0⟩) (y:=⟨0,0,0,0,0⟩))
    have hcf:=HBf.out.cells2
    go_wp2
    refine bodyPost_ret (v:=.tuple #[.bool false,callV ⟨0,0,0,0,0⟩,.int .i64 0]) ?_ rfl ⟨by rw [HR.out];rfl,HBf.out.bel⟩
    simp [results,Tryz.results193,go_sem,hcf]
 ·have HL : Hid (looserE p q = (false,zeroCall,(pointsE [p,q]).2)):=by
   show looserE p q = _
   unfold looserE
   rw [if_pos h0]
  have hb0 : ((pointsE [p,q]).2 != 0) = true:=bne_iff_ne.2 h0
  have hc2:=HB1.out.cells2
  have hf2 : ∀ j,w1.frozen? ⟨w.heap.size + 1 + 1,j,none⟩ = false:=fun j=>HB1.out.free (i:=2) rfl j
  clear h0
  have HBf:=Lib.hid (HB1.out.setCall2 (x:=⟨0,0,0,0,0⟩) (y:=⟨0,0,0,0,0⟩))
  have hcf:=HBf.out.cells2
  go_wp2
  refine bodyPost_ret (v:=.tuple #[.bool false,callV ⟨0,0,0,0,0⟩,.int .i64 (pointsE [p,q]).2]) ?_ rfl ⟨by rw [HL.out];rfl,HBf.out.bel⟩
  simp [results,Tryz.results193,go_sem,hcf]
end Go.Proofs.YthkgjohhbdipcaaGreatDoor
namespace Go.Proofs.YthkgjohhbdipcaaGreatDoor
open Go.RowKit Go.Maps
attribute [local go_sem] gives givesUpon
def usedF (ks : List Nat) (z : Int) : Bool:=ks.any fun i=>decide ((i : Int) = z)
theorem usedF_snoc (ks : List Nat) (k : Nat) : usedF (ks ++ [k]) = fun t=>if t = (k : Int) then true else usedF ks t:=by
 funext t
 unfold usedF
 rw [List.any_append]
 by_cases e : t = (k : Int)
 ·subst e;simp
 ·rw [if_neg e]
  have : decide ((k : Int) = t) = false:=decide_eq_false (fun h=>e h.symm)
  simp [this]
theorem usedF_at (ks : List Nat) (k : Nat) : usedF ks (k : Int) = ks.contains k:=by
 unfold usedF
 rw [Bool.eq_iff_iff,List.any_eq_true,List.contains_iff_mem]
 constructor
 ·rintro ⟨x,hx,e⟩
  have : (x : Int) = k:=of_decide_eq_true e
  have : x = k:=by omega
  subst this;exact hx
 ·intro h;exact ⟨k,h,by simp⟩
theorem usedBy_take {p : TPol} {L : List TCall} {k : Nat} (h : k < L.length) : usedBy p (L.take (k + 1)) = usedBy p (L.take k) ++ [which L[k] p.rules]:=by
 unfold usedBy
 rw [List.take_succ_eq_append_getElem h,List.map_append]
 rfl
def shortG (w0 : World) (cs : List TCond) (vd : Int) (k : Nat) (vf : Nat → Value) (W : World) : Prop :=
 if k = 4 then OwnSl W w0.heap.size 153 3 condR (vf 4) cs else if k = 7 then OwnSl W w0.heap.size 153 3 condR (vf 4) cs else if k = 8 then NewRow w0.heap.size 147 1 #[vf 4,.int .i64 vd] (vf 8) W∧OwnSl W w0.heap.size 153 3 condR (vf 4) cs else True
theorem shortG_keep {w0 w w' : World} {cs : List TCond} {vd : Int} {k : Nat} {vf : Nat → Value} (hb : ∀ b,w0.heap.size≤b → b < w.heap.size → w'.heap[b]? = w.heap[b]?) (h : shortG w0 cs vd k vf w) : shortG w0 cs vd k vf w':=by
 unfold shortG at h ⊢
 split
 ·rename_i e;rw [if_pos e] at h;exact h.keepFrom hb
 ·rename_i e
  rw [if_neg e] at h
  split
  ·rename_i e2;rw [if_pos e2] at h;exact h.keepFrom hb
  ·rename_i e2
   rw [if_neg e2] at h
   split
   ·rename_i e3;rw [if_pos e3] at h;exact ⟨h.1.keep hb,h.2.keepFrom hb⟩
   ·trivial
structure SameBut (β : Nat) (w w' : World) : Prop where
 os : w'.os = w.os
 tape : w'.tape = w.tape
 output : w'.output = w.output
 size : w.heap.size≤w'.heap.size
 blk : ∀ b,b < w.heap.size → b ≠ β → w'.heap[b]? = w.heap[b]?
theorem SameBut.refl (β : Nat) (w : World) : SameBut β w w:=⟨rfl,rfl,rfl,Nat.le_refl _,fun _ _ _=>rfl⟩
theorem SameBut.below {β : Nat} {w w' w'' : World} (h : SameBut β w w') (hb : Below w'.heap.size w' w'') : SameBut β w w'':=⟨hb.os.trans h.os,hb.tape.trans h.tape,hb.output.trans h.output,Nat.le_trans h.size hb.size,fun b hl hn=>(hb.block b (Nat.lt_of_lt_of_le hl h.size)).trans (h.blk b hl hn)⟩
theorem SameBut.set {β o : Nat} {v : Value} {w w' : World} (h : SameBut β w w') : SameBut β w (w'.setCell ⟨β,o,none⟩ v):=⟨h.os,h.tape,h.output,by rw [set_size];exact h.size,fun b hl hn=>by rw [set_other (by exact hn)];exact h.blk b hl hn⟩
theorem SameBut.bel {β B : Nat} {w w' : World} (h : SameBut β w w') (hB : B≤β) (hs : B≤w.heap.size) : Below B w w':=⟨h.os,h.tape,h.output,h.size,fun b hl=>h.blk b (by omega) (by omega)⟩
set_option maxRecDepth 100000 in
set_option maxHeartbeats 16000000 in
theorem short_any (u : Value) (p : TPol) (w : World) (hp : RdRules w (fun _=>True) u p.rules) :
  Calls Tryz.prog 195 #[polV u p.dflt] w fun e w'=>∃ r,e = .returned (.tuple #[polV r (shortE p).1.dflt,.int .i64 (shortE p).2])∧RdRules w' (fun b=>w.heap.size≤b∧NotPol w' b) r (shortE p).1.rules∧Below w.heap.size w w':=by
 have Hp:=Lib.hid hp
 obtain ⟨ap,cp,rfl,_⟩:=Sl.form hp
 clear hp
 have hmm:=@run_makeMap Tryz.prog
 go_enter Tryz.func195,Tryz.ntmps195
 go_wp2_with fail
 have HB:=Lib.hid (Bx.three (w:=w) (o:=.cells #[.slice ap p.rules.length cp,.int .i64 p.dflt] 38) (o':=.cells #[.slice none 0 0,.int .i64 0] 38) (o2:=.cells #[.slice ap p.rules.length cp,.int .i64 p.dflt] 38))
 refine (points_any _ [p] (fun _=>True) _ (one_pol (blk_at (by simp)) (Hp.out.below HB.out.bel) trivial) (fun h0 f _ _=>vals_len h0 (by simp) f)).mono ?_
 rintro e w1 ⟨v1,rfl,ho1,hb1⟩
 have HB1:=Lib.hid (HB.out.below hb1)
 have hs1 : w.heap.size + 3≤w1.heap.size:=HB1.out.top
 have Ho1:=Lib.hid ho1
 obtain ⟨a1,c1,rfl⟩:=ho1.slice
 clear ho1 hb1
 by_cases h0 : (pointsE [p]).2 = 0
 ·obtain ⟨hok,hsz5,hpe⟩:=pointsE_ok h0
  have HE : Hid (shortE p = (shortPol p,0)):=shortE_of (hok p (by simp)) hsz5
  have HokP:=Lib.hid (hok p (by simp))
  have hlp:=HokP.out.len
  rw [hpe] at Ho1 ⊢
  dsimp only at Ho1 ⊢
  have Hl1 : Hid (RdCalls w1 (fun _=>True) (.slice a1 (stage [p] 5).length c1) (stage [p] 5)):=Ho1.out.sl (fun _ _=>trivial)
  have hSl : (stage [p] 5).length≤1000:=by rw [stage_length];assumption
  have Hpo:=Lib.hid (fun x (hx : x ∈ stage [p] 5)=>point_ok hok hx)
  have HSP : Hid (shortPol p = ⟨trimD p.dflt (usedRules (usedBy p (stage [p] 5)) p.rules 0),p.dflt⟩):=rfl
  obtain ⟨S,hS⟩ : ∃ S,S = stage [p] 5:=⟨_,rfl⟩
  rw [← hS] at Hl1 Hpo hSl HSP ⊢
  have hat:=fun h0=>Sl.at_ Hl1.out h0
  clear h0 hok hpe hS Ho1 hsz5
  go_wp2_with fail
  clear hmm
  go_loopw [29] (fun kv wr=>∃ k : Nat,kv = .int .i64 k∧k≤S.length∧BoolMap wr w1.heap.size k (usedF (usedBy p (S.take k)))∧Below w1.heap.size w1 wr) (fun kv _=>S.length - (intOf kv).toNat)
  case atStart=>exact ⟨0,rfl,Nat.zero_le _,BoolMap.made w1,bel_alloc (Below.refl _ _) _⟩
  case round =>
   obtain ⟨k,rfl,hk,hm,hb⟩:=hrel
   have Hm:=Lib.hid hm
   have Hb:=Lib.hid hb
   have hszr:=hb.size
   have HBr:=Lib.hid (HB1.out.below hb)
   have hc0:=HBr.out.cells0
   clear hm hb
   by_cases hlt : k < S.length
   ·obtain ⟨b,o,rfl,_,hblt⟩:=hat (by omega)
    obtain ⟨h0c,h1c,h2c,h3c,h4c⟩:=RdCalls.cells (Hl1.out.below Hb.out) hlt
    have Hxo:=Lib.hid (Hpo.out S[k] (List.getElem_mem hlt))
    have Hut:=Lib.hid (usedBy_take (p:=p) hlt)
    obtain ⟨x,hx⟩ : ∃ x,S[k] = x:=⟨_,rfl⟩
    rw [hx] at h0c h1c h2c h3c h4c Hxo Hut
    have Hwl:=Lib.hid (which_le x p.rules)
    have HBx:=Lib.hid (HBr.out.alloc (.cells #[.int .i64 x.a0,.int .i64 x.a1,.int .i64 x.a2,.int .i64 x.a3,.int .i64 x.a4] 46))
    have hc0':=HBx.out.cells0
    clear hx
    go_wp2_with fail
    clear h0c h1c h2c h3c h4c hc0'
    refine (judge_any _ p x (fun _=>True) _ (Hp.out.below HBx.out.bel)).mono ?_
    rw [judgeE_says HokP.out Hxo.out]
    rintro e w3 ⟨rfl,hb3⟩
    have Hm3:=Lib.hid ((Hm.out.below (bel_alloc (Below.refl _ _) _)).below hb3)
    have Hb3:=Lib.hid ((Hb.out.trans ((bel_alloc (Below.refl wr.heap.size wr) _).mono hszr)).trans (hb3.mono (by simp;omega)))
    obtain ⟨wi,hwi⟩ : ∃ wi,which x p.rules = wi:=⟨_,rfl⟩
    have hj : (judged p x).2 = wi:=by rw [← hwi];rfl
    rw [hwi] at Hut Hwl
    rw [hj]
    have hwl:=Hwl.out
    clear hb3 hwi hj
    go_wp2_with (at_mapUpdate;refine wpList_putBool rfl _ _ _ rfl w1.heap.size k _ rfl Hm3.out (by unfold maxLen;omega) (wi : Int) (by omega) (by omega) true rfl rfl ?_;intro w5 hm5 hg5;have Hm5:=Lib.hid hm5;have Hb5:=Lib.hid (Below.grown Hb3.out hg5 Hb3.out.size (fun g hg=>by injection hg with hg;omega));clear hm5 hg5)
    go_roundw
    case rel=>exact ⟨k + 1,by go_num,by omega,by rw [Hut.out,usedF_snoc];exact Hm5.out,Hb5.out⟩
    case measure=>simp [intOf];omega
   ·obtain rfl : k = S.length:=by omega
    obtain ⟨wo,rfl⟩ : ∃ wo : World,wo = wr:=⟨_,rfl⟩
    rw [List.take_length] at Hm
    have hbm : w1.heap.size < wo.heap.size:=Hm.out.lt
    obtain ⟨ks,hks⟩ : ∃ ks,usedBy p S = ks:=⟨_,rfl⟩
    rw [hks] at Hm HSP
    have HBS:=Lib.hid (HBr.out.alloc (.cells #[.slice none 0 0,.int .i64 p.dflt] 38))
    have HboxS:=Lib.hid (heap_last wo (.cells #[.slice none 0 0,.int .i64 p.dflt] 38))
    have HmS:=Lib.hid (Hm.out.below (bel_alloc (Below.refl _ _) (.cells #[.slice none 0 0,.int .i64 p.dflt] 38)))
    have hcS:=HBS.out.cells0
    obtain ⟨i0,hi,hz0,hz1,hz2⟩:=info_parts infocRule
    have Hi:=Lib.hid hi
    clear hks hi
    go_wp2_with fail
    clear hcS hc0
    go_loopw [49] (fun kv wk=>∃ (k : Nat) (pk : Value),kv = .int .i64 k∧k≤p.rules.length∧GatherI (wo.heap.size + 1) wo.heap.size (.int .i64 p.dflt) (wo.alloc (.cells #[.slice none 0 0,.int .i64 p.dflt] 38)) (.slice none 0 0) wk pk (usedRules ks (p.rules.take k) 0)) (fun kv _=>p.rules.length - (intOf kv).toNat)
    case atStart=>exact ⟨0,_,rfl,by omega,GatherI.start HboxS.out OwnSl.nil⟩
    case round =>
     obtain ⟨k,pv,rfl,hk,hG⟩:=hrel
     obtain ⟨wk,rfl⟩ : ∃ wk : World,wk = wr:=⟨_,rfl⟩
     have HG:=Lib.hid hG
     clear hG
     have hszk : wo.heap.size + 1≤wk.heap.size:=by have:=HG.out.size;simpa using this
     have HBk : Hid (Bx w [.cells #[.slice ap p.rules.length cp,.int .i64 p.dflt] 38,.cells #[.slice none 0 0,.int .i64 0] 38,.cells #[.slice ap p.rules.length cp,.int .i64 p.dflt] 38] wk):=HBS.out.lift (B:=w.heap.size + 3) (HG.out.belowB (Below.refl _ _) (by simp;omega) (by omega) (fun g hg=>by simp [Value.ownBlock] at hg)) (by simp)
     by_cases hlt : k < p.rules.length
     ·have Hpk:=Lib.hid ((rules_lt Hp.out).below HBk.out.bel)
      obtain ⟨ba,oa,rfl,hDa,hba⟩:=Sl.at_ Hpk.out (by omega)
      obtain ⟨ca,cca,hca0,hca1,hra,hla,hma,_⟩:=RdRules.cells Hpk.out hlt
      have Hkr:=Lib.hid (HokP.out.rules p.rules[k] (List.getElem_mem hlt))
      have Htk:=Lib.hid (used_take (ks:=ks) hlt)
      obtain ⟨ra,hrae⟩ : ∃ ra,p.rules[k] = ra:=⟨_,rfl⟩
      rw [hrae] at hca0 hca1 hra hla Hkr Htk
      have Hra:=Lib.hid hra
      have hcl:=Hkr.out.len
      have Hmk : Hid (BoolMap wk w1.heap.size S.length (usedF ks)):=HmS.out.keep (HG.out.blk w1.heap.size (by simp;omega) (by omega) (by simp [Value.ownBlock]))
      have hlk:=((Hmk.out.below (bel_alloc (Below.refl _ _) (.cells #[.slice ca ra.conds.length cca,.int .i64 ra.verdict] 147))).look (z:=(k : Int)) (by omega) (by omega))
      rw [usedF_at] at hlk
      obtain ⟨bu,hbu⟩ : ∃ bu,ks.contains k = bu:=⟨_,rfl⟩
      rw [hbu] at hlk Htk
      have Hul : Hid ((usedRules ks (p.rules.take k) 0).length≤120):=by
       have h1:=used_len ks (p.rules.take k)
       rw [List.length_take] at h1
       show _≤_
       omega
      obtain ⟨rs,hrs⟩ : ∃ rs,usedRules ks (p.rules.take k) 0 = rs:=⟨_,rfl⟩
      rw [hrs] at HG Htk Hul
      have hrl : rs.length≤120:=Hul.out
      clear hra hrae hrs hbu
      cases bu with
      | true =>
       have H14 : Hid ((wk.alloc (.cells #[.slice ca ra.conds.length cca,.int .i64 ra.verdict] 147)).heap[wk.heap.size]? = some (.cells #[.slice ca ra.conds.length cca,.int .i64 ra.verdict] 147)):=heap_last _ _
       have Hra0 : Hid (RdConds (wk.alloc (.cells #[.slice ca ra.conds.length cca,.int .i64 ra.verdict] 147)) (fun b=>b ≠ wo.heap.size) (.slice ca ra.conds.length cca) ra.conds):=(Hra.out.keep (D':=fun b=>b ≠ wo.heap.size) (fun b h _=>by have : b < w.heap.size:=h;omega) (fun _ _ _=>rfl) (Nat.le_refl _)).below (bel_alloc (Below.refl _ _) _)
       have Hbox0 : Hid ((wk.alloc (.cells #[.slice ca ra.conds.length cca,.int .i64 ra.verdict] 147)).heap[wo.heap.size]? = some (.cells #[pv,.int .i64 p.dflt] 38)):=blk_old HG.out.box
       obtain ⟨rows,hro,hrow⟩:=HG.out.own
       have Hcv : Hid (∀ g,pv.ownBlock = some g → g ≠ wo.heap.size):=fun g hg=>by have:=(hrow.lt g hg).1;omega
       have Hro:=Lib.hid hro
       have Hrow : Hid ((wk.alloc (.cells #[.slice ca ra.conds.length cca,.int .i64 ra.verdict] 147)).ownsRow (wo.heap.size + 1) 147 2 pv rs.length rows.flatten):=ownsRow_keep1 hrow fun b _ hl _=>(bel_alloc (Below.refl wk.heap.size wk) _).block b hl
       have Hβ0 : Hid (wo.heap.size < (wk.alloc (.cells #[.slice ca ra.conds.length cca,.int .i64 ra.verdict] 147)).heap.size):=by show _ < _;simp;omega
       have H14lt : Hid (wk.heap.size < (wk.alloc (.cells #[.slice ca ra.conds.length cca,.int .i64 ra.verdict] 147)).heap.size):=by show _ < _;simp
       have H14ne : Hid (wk.heap.size ≠ wo.heap.size):=by show _ ≠ _;omega
       have HwA : Hid (wo.heap.size + 1≤(wk.alloc (.cells #[.slice ca ra.conds.length cca,.int .i64 ra.verdict] 147)).heap.size):=by show _≤_;simp;omega
       clear hro hrow
       go_wp2_with fail
       clear hca0 hca1 hlk
       revert H14 Hra0 Hbox0 Hrow Hβ0 H14lt HwA
       obtain ⟨w0,hw0⟩ : ∃ w0,wk.alloc (.cells #[.slice ca ra.conds.length cca,.int .i64 ra.verdict] 147) = w0:=⟨_,rfl⟩
       have HbJ : Hid (Below wk.heap.size wk w0):=by show Below _ _ _;rw [← hw0];exact bel_alloc (Below.refl _ _) _
       rw [hw0]
       clear hw0
       intro H14 Hra0 Hbox0 Hrow Hβ0 H14lt HwA
       refine wp_region_apr wo.heap.size 38 #[pv,.int .i64 p.dflt] 0 (wo.heap.size + 1) 147 2 pv rs.length rows.flatten 1 (fun vf=>[vf 4,.int .i64 ra.verdict]) 9 11 (shortG w0 ra.conds ra.verdict) (by kernel_rfl) (by kernel_rfl) _ rfl Hbox0.out Hrow.out (by omega) Hcv.out (by decide) (by decide) (fun k vf w1 w2 hb _ h=>shortG_keep hb h)
        (fun k f g w1 hfg hk h=>by
         unfold shortG at h ⊢
         split
         ·rename_i e;subst e;rw [if_pos rfl,hk] at h;exact h
         ·rename_i e
          rw [if_neg e] at h
          split
          ·rename_i e2;subst e2;rw [if_pos rfl,hfg 4 (by decide)] at h;exact h
          ·rename_i e2
           rw [if_neg e2] at h
           split
           ·rename_i e3;subst e3;rw [if_pos rfl,hk,hfg 4 (by decide)] at h;exact h
           ·trivial) (fun f g h=>by show [f 4,_] = [g 4,_];rw [h 4 (by decide)]) ?_
       (refine rel_ex (fun K hK=>?_);apply Exists.intro;refine ⟨fun done vf W hI h0 hd hn hf R hR=>?_,?_,?_⟩;(clear h0 hd hn hf;go_simp;exact hR _ _ (hI.step (Below.refl _ _) (by decide) (by decide) Hβ0.out) (ApT.of_below (Below.refl _ _)) rfl trivial);exact (fun _ _ _=>rfl);(go_simp;refine hK _ ?_;clear hK K))
       (refine rel_ex (fun K hK=>?_);apply Exists.intro;refine ⟨fun done vf W hI h0 hd hn hf R hR=>?_,?_,?_⟩;(have hcell:=cells_of (hI.before (hn 11 (by decide)));clear h0 hd hn hf;go_simp;exact hR _ _ (hI.step (Below.refl _ _) (by decide) (by decide) Hβ0.out) (ApT.of_below (Below.refl _ _)) rfl trivial);exact (fun _ _ _=>rfl);(go_simp;refine hK _ ?_;clear hK K))
       (refine rel_ex (fun K hK=>?_);apply Exists.intro;refine ⟨fun done vf W hI h0 hd hn hf R hR=>?_,?_,?_⟩;(clear h0 hd hn hf;go_simp;exact hR _ _ (hI.step (Below.refl _ _) (by decide) (by decide) Hβ0.out) (ApT.of_below (Below.refl _ _)) rfl trivial);exact (fun _ _ _=>rfl);(go_simp;refine hK _ ?_;clear hK K))
       (refine rel_ex (fun K hK=>?_);apply Exists.intro;refine ⟨fun done vf W hI h0 hd hn hf R hR=>?_,?_,?_⟩;(have hcell:=cells_of ((hI.old (hn 9 (by decide)) _ H14lt.out H14ne.out).trans H14.out);clear h0 hd hn hf;go_simp;exact hR _ _ (hI.step (Below.refl _ _) (by decide) (by decide) Hβ0.out) (ApT.of_below (Below.refl _ _)) rfl trivial);exact (fun _ _ _=>rfl);(go_simp;refine hK _ ?_;clear hK K))
       (refine rel_pr (fun K hK=>?_);refine ⟨fun done vf W hI h0 hd hn hf R hR=>?_,?_⟩;(have HW:=Lib.hid (hI.old (hn 9 (by decide)));have Hsz:=Lib.hid hI.size;clear h0 hd hn hf;go_simp;go_at_call 156;refine (cloneCond_any condR oneCond (.slice ca ra.conds.length cca) ra.conds (fun _=>True) W (Hra0.out.keep (fun _ _ _=>trivial) (fun b hb hl=>HW.out b hl hb) Hsz.out) (by omega)).mono ?_;(rintro e w5 ⟨v5,rfl,ho5,hb5⟩;exact ⟨_,rfl,hR _ _ (hI.step hb5 (by decide) (by decide) Hβ0.out) (ApT.of_below hb5) trivial (show OwnSl w5 w0.heap.size 153 3 condR v5 ra.conds from ho5.base Hsz.out)⟩));(go_simp;refine hK _ ?_;clear hK K))
       (refine rel_ex (fun K hK=>?_);apply Exists.intro;refine ⟨fun done vf W hI h0 hd hn hf R hR=>?_,?_,?_⟩;(clear h0 hd hn hf;go_simp;exact hR _ _ (hI.step (Below.refl _ _) (by decide) (by decide) Hβ0.out) (ApT.of_below (Below.refl _ _)) rfl trivial);exact (fun _ _ _=>rfl);(go_simp;refine hK _ ?_;clear hK K))
       (refine rel_ex (fun K hK=>?_);apply Exists.intro;refine ⟨fun done vf W hI h0 hd hn hf R hR=>?_,?_,?_⟩;(have hcell:=cells_of ((hI.old (hn 9 (by decide)) _ H14lt.out H14ne.out).trans H14.out);clear h0 hd hn hf;go_simp;exact hR _ _ (hI.step (Below.refl _ _) (by decide) (by decide) Hβ0.out) (ApT.of_below (Below.refl _ _)) rfl trivial);exact (fun _ _ _=>rfl);(go_simp;refine hK _ ?_;clear hK K))
       (refine rel_ex (fun K hK=>?_);refine ⟨fun vf=>.agg #[vf 4,.int .i64 ra.verdict],fun done vf W hI h0 hd hn hf R hR=>?_,?_,?_⟩;(have h7 : OwnSl W w0.heap.size 153 3 condR (vf 4) ra.conds:=hf 4 (hd 4 (by decide));have h7k:=h7;obtain ⟨a7,c7,h7⟩:=h7.slice;generalize ra.conds.length = n7 at h7;clear h0 hd hn hf;go_simp;exact hR _ _ (hI.step (Below.refl _ _) (by decide) (by decide) Hβ0.out) (ApT.of_below (Below.refl _ _)) (by show _ = Value.agg #[vf 4,.int .i64 ra.verdict];rw [h7]) h7k);exact (fun f g h=>by show Value.agg #[f 4,_] = Value.agg #[g 4,_];rw [h 4 (by decide)]);(go_simp;refine hK _ ?_;clear hK K))
       (refine rel_pr (fun K hK=>?_);refine ⟨fun done vf W hI h0 hd hn hf R hR=>?_,?_⟩;(have h7 : OwnSl W w0.heap.size 153 3 condR (vf 4) ra.conds:=hf 7 (hd 7 (by decide));have H7k:=Lib.hid h7;obtain ⟨a7,c7,h7⟩:=h7.slice;generalize ra.conds.length = n7 at h7;have H7:=Lib.hid h7;clear h0 hd hn hf;go_simp;exact hR _ _ (hI.step (bel_alloc (Below.refl _ _) _) (by decide) (by decide) Hβ0.out) (ApT.of_below (bel_alloc (Below.refl _ _) _)) trivial ⟨⟨_,rfl,hI.size,by rw [heap_last];show some (Obj.cells #[.slice a7 n7 c7,.int .i64 ra.verdict] _) = some (Obj.cells #[vf 4,.int .i64 ra.verdict] _);rw [H7.out]⟩,H7k.out.below (bel_alloc (Below.refl _ _) _)⟩);(go_simp;refine hK _ ?_;clear hK K))
       (refine rel_pr (fun K hK=>?_);refine ⟨fun done vf W hI h0 hd hn hf R hR=>?_,?_⟩;(have h15 : NewRow w0.heap.size 147 1 #[vf 4,.int .i64 ra.verdict] (vf 8) W∧OwnSl W w0.heap.size 153 3 condR (vf 4) ra.conds:=hf 8 (hd 8 (by decide));obtain ⟨⟨bn,hbv,hbn,hcn⟩,h7⟩:=h15;obtain ⟨a7,c7,h7⟩:=h7.slice;refine ob_plain rfl ?_;refine gives_append_at (.tmp 58) (.tmp 65) 36 rfl (wo.heap.size + 1) 147 i0 _ 2 32 Tryz.underlying36 Hi.out hz0 hz1 hz2 rfl (by omega) pv rs.length rows.flatten (by rfl) (hI.own h0) ⟨bn,0,none⟩ 1 1 [vf 4,.int .i64 ra.verdict] (by exact hbv) (by rfl) (World.news_of_block hcn) (by rw [h7];simp [Value.oneCell']) (by omega) (by unfold maxLen;omega) (by omega) (by have:=hI.size;have:=HwA.out;omega) (fun v' w' h1 h2 h3=>hR _ _ (hI.appended (hn 11 (by decide)) Hcv.out h2 Hβ0.out) (ApT.of_grown h2) trivial ⟨by exact h1,by rcases h3 with h3 | h3;exact .inl h3;exact .inr (fun g hg=>by have h9 : v'.ownBlock = some g:=hg;rw [h3] at h9;injection h9 with h9;have:=hI.size;omega)⟩));(go_simp;refine hK _ ?_;clear hK K))
       (refine rel_ex (fun K hK=>?_);apply Exists.intro;refine ⟨fun done vf W hI h0 hd hn hf R hR=>?_,?_,?_⟩;(clear h0 hd hn hf;go_simp;exact hR _ _ (hI.step (Below.refl _ _) (by decide) (by decide) Hβ0.out) (ApT.of_below (Below.refl _ _)) rfl trivial);exact (fun _ _ _=>rfl);(go_simp;refine hK _ ?_;clear hK K))
       (refine rel_ex (fun K hK=>?_);apply Exists.intro;refine ⟨fun done vf W hI h0 hd hn hf R hR=>?_,?_,?_⟩;(have h16 : W.ownsRow (wo.heap.size + 1) 147 2 (vf 9) (rs.length + 1) (rows.flatten ++ [vf 4,.int .i64 ra.verdict])∧_:=hf 9 (hd 9 (by decide));obtain ⟨gv,cpv,hv16,_,_⟩:=World.ownsRow.form h16.1 (by omega);have hst:=hI.stored (off:=0) (v:=vf 9) (hd 9 (by decide)) (by decide);have hbf:=hI.before h0;have hcb:=cells_of hbf;have hfb:=not_frozen hbf;have Hst:=Lib.hid hst;have Hset:=Lib.hid (set_at (o:=0) (v:=vf 9) hbf);have H16:=Lib.hid hv16;clear hd hn hf h16 hst hbf;go_simp;rw [← H16.out];exact hR _ _ Hst.out ApT.of_store rfl Hset.out);exact (fun _ _ _=>rfl);(go_simp;refine hK _ ?_;clear hK K))
       intro done vf W hd hI hF
       have h7 : OwnSl W w0.heap.size 153 3 condR (vf 4) ra.conds:=hF 4 (by decide)
       have h16 : W.ownsRow (wo.heap.size + 1) 147 2 (vf 9) (rs.length + 1) (rows.flatten ++ [vf 4,.int .i64 ra.verdict])∧((vf 9).ownBlock = pv.ownBlock ∨ ∀ g,(vf 9).ownBlock = some g → w0.heap.size≤g):=hF 9 (by decide)
       have h18 : W.heap[wo.heap.size]? = some (.cells (#[pv,.int .i64 p.dflt].setIfInBounds 0 (vf 9)) 38):=hF 11 (by decide)
       have HN:=Lib.hid (GatherI.step HG.out HbJ.out (by omega) HwA.out hI Hro.out h16.1 h16.2 h18 h7 ruleT_ne)
       clear hd hI hF h7 h16 h18
       go_wp2
       go_roundw
       case rel=>exact ⟨k + 1,vf 9,by go_num,by omega,by rw [Htk.out];exact HN.out⟩
       case measure=>simp [intOf];omega
      | false =>
       have HN:=Lib.hid (HG.out.below (bel_alloc (Below.refl _ _) (.cells #[.slice ca ra.conds.length cca,.int .i64 ra.verdict] 147)))
       go_wp2
       go_roundw
       case rel=>exact ⟨k + 1,pv,by go_num,by omega,by rw [Htk.out,if_neg (by simp),List.append_nil];exact HN.out⟩
       case measure=>simp [intOf];omega
     ·obtain rfl : k = p.rules.length:=by omega
      rw [List.take_length] at HG
      have Hul : Hid ((usedRules ks p.rules 0).length≤120):=by have h1:=used_len ks p.rules;show _≤_;omega
      obtain ⟨L2,hL2⟩ : ∃ L2,usedRules ks p.rules 0 = L2:=⟨_,rfl⟩
      rw [hL2] at HG HSP Hul
      obtain ⟨aP,cP,rfl,hcP,hcM,hatP⟩:=Sl.form HG.out.rules
      have hcb:=cells_of HG.out.box
      have hll:=Hul.out
      clear hL2
      go_wp2_with fail
      clear hcb
      go_loopw [15] (fun nv wn=>∃ n : Nat,nv = .int .i64 n∧n≤L2.length∧SameBut wo.heap.size wk wn∧wn.heap[wo.heap.size]? = some (.cells #[.slice aP n cP,.int .i64 p.dflt] 38)∧trimD p.dflt (L2.take n) = trimD p.dflt L2) (fun nv _=>(intOf nv).toNat)
      case atStart=>exact ⟨L2.length,rfl,Nat.le_refl _,SameBut.refl _ _,HG.out.box,by rw [List.take_length]⟩
      case round =>
       obtain ⟨n,rfl,hn,hS,hbx,htr⟩:=hrel
       have HS:=Lib.hid hS
       have Hbx:=Lib.hid hbx
       have Htr:=Lib.hid htr
       have hszn:=hS.size
       have HRn : Hid (RdRules wr (fun b=>wo.heap.size + 1≤b∧NotPol wr b) (.slice aP L2.length cP) L2):=HG.out.rules.keep (fun b h hl=>⟨h.1,h.2.keep (HS.out.blk b hl (by have:=h.1;omega))⟩) (fun b hb hl=>HS.out.blk b hl (by have:=hb.1;omega)) HS.out.size
       clear hS hbx htr
       have HBr2:=Lib.hid (HBk.out.lift (B:=w.heap.size + 3) (HS.out.bel (by omega) (by omega)) (by simp))
       rcases Nat.eq_zero_or_pos n with rfl | hpos
       ·have Hfin : Hid (trimD p.dflt L2 = L2.take 0):=by show _ = _;rw [← Htr.out];simp [trimD]
        go_wp2_with fail
        refine wp_region_exact3 wr.heap.size (Nat.le_refl _) (by kernel_rfl) (by kernel_rfl) ?_
        repeat (refine monoE_step (fun K hK=>?_);apply Exists.intro;refine ⟨fun W hC R hR=>?_,?_⟩;((go_simp;exact hR _ _ (Below.refl _ _) rfl));(go_simp;refine hK _ ?_;clear hK K))
        intro wn hCn
        have HBn:=Lib.hid (HBr2.out.below hCn.2)
        have Hbr:=Lib.hid (blk_below Hbx.out hCn.2)
        have Hrd : Hid (RdRules wn (fun b=>wo.heap.size + 1≤b∧NotPol wn b) (.slice aP 0 cP) (L2.take 0)):=(show RdRules wr (fun b=>wo.heap.size + 1≤b∧NotPol wr b) (.slice aP 0 cP) (L2.take 0) from Sl.take HRn.out (Nat.zero_le _)).keep (fun b h hl=>⟨h.1,h.2.keep (hCn.2.block b hl)⟩) (fun b _ hl=>hCn.2.block b hl) hCn.2.size
        clear hCn
        have hcb:=cells_of Hbr.out
        have HB7:=Lib.hid (HBn.out.set (i:=1) rfl 0 (.slice aP 0 cP))
        have HB8:=Lib.hid (HB7.out.set (i:=1) rfl 1 (.int .i64 p.dflt))
        have hc2:=HBn.out.cells1
        have hf2:=HBn.out.free1
        have hc3:=HB8.out.cells1
        have HR8 : Hid (RdRules ((wn.setCell ⟨w.heap.size + 1,0,none⟩ (.slice aP 0 cP)).setCell ⟨w.heap.size + 1,1,none⟩ (.int .i64 p.dflt)) (fun b=>w.heap.size≤b∧NotPol ((wn.setCell ⟨w.heap.size + 1,0,none⟩ (.slice aP 0 cP)).setCell ⟨w.heap.size + 1,1,none⟩ (.int .i64 p.dflt)) b) (.slice aP 0 cP) (L2.take 0)):=by
         have hsame : ∀ b,wo.heap.size + 1≤b → (((wn.setCell ⟨w.heap.size + 1,0,none⟩ (.slice aP 0 cP)).setCell ⟨w.heap.size + 1,1,none⟩ (.int .i64 p.dflt))).heap[b]? = wn.heap[b]?:=fun b hb=>by rw [set_other (by show b ≠ w.heap.size + 1;omega),set_other (by show b ≠ w.heap.size + 1;omega)]
         exact Hrd.out.keep (fun b h _=>⟨by have:=h.1;omega,h.2.keep (hsame b h.1)⟩) (fun b hb _=>hsame b hb.1) (by rw [set_size,set_size];exact Nat.le_refl _)
        go_wp2
        refine bodyPost_ret (v:=.tuple #[polV (.slice aP 0 cP) p.dflt,.int .i64 0]) ?_ rfl (by rw [HE.out,HSP.out,Hfin.out];exact ⟨_,rfl,HR8.out,HB8.out.bel⟩)
        rw [results_cell_tmp rfl]
        go_simp
       ·obtain ⟨m,rfl⟩ : ∃ m,n = m + 1:=⟨n - 1,by omega⟩
        obtain ⟨bP,oP,rfl,hDP,hbP⟩:=hatP (by omega)
        have hbPn : bP < wr.heap.size:=by omega
        obtain ⟨cx,ccx,_,hv1,_⟩:=RdRules.cells HRn.out (i:=m) (by omega)
        obtain ⟨vm,hvm⟩ : ∃ vm,L2[m].verdict = vm:=⟨_,rfl⟩
        rw [hvm] at hv1
        have HC : Hid (∀ W,Cls wr.heap.size wr W → (∀ j,W.cell? ⟨wo.heap.size,j,none⟩ = (#[.slice (some ⟨bP,oP,none⟩) (m + 1) cP,.int .i64 p.dflt] : Array Value)[j]?)∧W.cell? ⟨bP,oP + m * 2 + 1,none⟩ = some (.int .i64 vm)):=fun W hW =>
         ⟨cells_of (blk_below Hbx.out hW.2),(hW.2.cell (p:=⟨bP,oP + m * 2 + 1,none⟩) hbPn).trans hv1⟩
        have Hvm:=Lib.hid hvm
        have e1 : ((m : Int) + 1 - 1) = (m : Int):=by omega
        have hwm : IntKind.i64.wrap (m : Int) = (m : Int):=IntWalk.i64_in _ (by omega)
        have hm0 : (0 : Int)≤(m : Int):=by omega
        have hm1 : (m : Int) < (m : Int) + 1:=by omega
        clear hvm hv1
        go_wp2_with fail
        refine wp_region_exact3 wr.heap.size (Nat.le_refl _) (by kernel_rfl) (by kernel_rfl) ?_
        repeat (refine monoE_step (fun K hK=>?_);apply Exists.intro;refine ⟨fun W hC R hR=>?_,?_⟩;((have hcc:=HC.out W hC;go_simp;exact hR _ _ (Below.refl _ _) rfl));(go_simp;refine hK _ ?_;clear hK K))
        intro wn hCn
        have HBn:=Lib.hid (HBr2.out.below hCn.2)
        have Hbr:=Lib.hid (blk_below Hbx.out hCn.2)
        have HSn:=Lib.hid (HS.out.below hCn.2)
        have Hrd : Hid (RdRules wn (fun b=>wo.heap.size + 1≤b∧NotPol wn b) (.slice (some ⟨bP,oP,none⟩) (m + 1) cP) (L2.take (m + 1))):=(show RdRules wr (fun b=>wo.heap.size + 1≤b∧NotPol wr b) (.slice (some ⟨bP,oP,none⟩) (m + 1) cP) (L2.take (m + 1)) from Sl.take HRn.out (by omega)).keep (fun b h hl=>⟨h.1,h.2.keep (hCn.2.block b hl)⟩) (fun b _ hl=>hCn.2.block b hl) hCn.2.size
        clear hCn
        by_cases hv : vm = p.dflt
        ·have d : (vm == p.dflt) = true:=beq_iff_eq.2 hv
         simp only [d]
         have Htd:=Lib.hid (trim_down (d:=p.dflt) (l:=L2) (n:=m) (by omega) (Hvm.out.trans hv))
         have hcb:=cells_of Hbr.out
         have hfb:=not_frozen Hbr.out
         have Hst:=Lib.hid (set_at (o:=0) (v:=.slice (some ⟨bP,oP,none⟩) m cP) Hbr.out)
         clear hv
         go_wp2
         go_roundw
         case rel=>exact ⟨m,by go_num,by omega,HSn.out.set,Hst.out,by rw [← Htd.out];exact Htr.out⟩
         case measure=>simp [intOf]
        ·have d : (vm == p.dflt) = false:=by simpa using hv
         simp only [d]
         have Hfin : Hid (trimD p.dflt L2 = L2.take (m + 1)):=by show _ = _;rw [← Htr.out,trim_stop (by omega) (by rw [Hvm.out];exact hv)]
         clear hv
         have hcb:=cells_of Hbr.out
         have HB7:=Lib.hid (HBn.out.set (i:=1) rfl 0 (.slice (some ⟨bP,oP,none⟩) (m + 1) cP))
         have HB8:=Lib.hid (HB7.out.set (i:=1) rfl 1 (.int .i64 p.dflt))
         have hc2:=HBn.out.cells1
         have hf2:=HBn.out.free1
         have hc3:=HB8.out.cells1
         have HR8 : Hid (RdRules ((wn.setCell ⟨w.heap.size + 1,0,none⟩ (.slice (some ⟨bP,oP,none⟩) (m + 1) cP)).setCell ⟨w.heap.size + 1,1,none⟩ (.int .i64 p.dflt)) (fun b=>w.heap.size≤b∧NotPol ((wn.setCell ⟨w.heap.size + 1,0,none⟩ (.slice (some ⟨bP,oP,none⟩) (m + 1) cP)).setCell ⟨w.heap.size + 1,1,none⟩ (.int .i64 p.dflt)) b) (.slice (some ⟨bP,oP,none⟩) (m + 1) cP) (L2.take (m + 1))):=by
          have hsame : ∀ b,wo.heap.size + 1≤b → (((wn.setCell ⟨w.heap.size + 1,0,none⟩ (.slice (some ⟨bP,oP,none⟩) (m + 1) cP)).setCell ⟨w.heap.size + 1,1,none⟩ (.int .i64 p.dflt))).heap[b]? = wn.heap[b]?:=fun b hb=>by rw [set_other (by show b ≠ w.heap.size + 1;omega),set_other (by show b ≠ w.heap.size + 1;omega)]
          exact Hrd.out.keep (fun b h _=>⟨by have:=h.1;omega,h.2.keep (hsame b h.1)⟩) (fun b hb _=>hsame b hb.1) (by rw [set_size,set_size];exact Nat.le_refl _)
         go_wp2
         refine bodyPost_ret (v:=.tuple #[polV (.slice (some ⟨bP,oP,none⟩) (m + 1) cP) p.dflt,.int .i64 0]) ?_ rfl (by rw [HE.out,HSP.out,Hfin.out];exact ⟨_,rfl,HR8.out,HB8.out.bel⟩)
         rw [results_cell_tmp rfl]
         go_simp
 ·have hb0 : ((pointsE [p]).2 != 0) = true:=bne_iff_ne.2 h0
  have HE : Hid (shortE p = (zeroPol,(pointsE [p]).2)):=by show shortE p = _;unfold shortE;rw [if_pos h0]
  have hc2:=HB1.out.cells1
  have hf2:=HB1.out.free1
  have HB7:=Lib.hid (HB1.out.set (i:=1) rfl 0 (.slice none 0 0))
  have HB8:=Lib.hid (HB7.out.set (i:=1) rfl 1 (.int .i64 0))
  have hc3:=HB8.out.cells1
  clear h0
  go_wp2
  refine bodyPost_ret (v:=.tuple #[polV (.slice none 0 0) 0,.int .i64 (pointsE [p]).2]) ?_ rfl (by rw [HE.out];exact ⟨_,rfl,nil_rules _ _,HB8.out.bel⟩)
  rw [results_cell_tmp rfl]
  go_simp
end Go.Proofs.YthkgjohhbdipcaaGreatDoor
namespace Go.Proofs.YthkgjohhbdipcaaGreatDoor
open Go.RowKit
set_option maxHeartbeats 8000000 in
theorem delta_any (u v : Value) (p q : TPol) (w : World) (hp : RdRules w (fun _=>True) u p.rules) (hq : RdRules w (fun _=>True) v q.rules) :
  Calls Tryz.prog 163 #[polV u p.dflt,polV v q.dflt] w fun e w'=>∃ r,e = .returned (.tuple #[polV r (deltaE p q).1.dflt,.int .i64 (deltaE p q).2])∧RdRules w' (fun b=>w.heap.size≤b∧NotPol w' b) r (deltaE p q).1.rules∧Below w.heap.size w w':=by
 have Hp:=Lib.hid hp
 have Hq:=Lib.hid hq
 obtain ⟨ap,cp,rfl,_⟩:=Sl.form hp
 obtain ⟨aq,cq,rfl,_⟩:=Sl.form hq
 clear hp hq
 obtain ⟨⟨L1,L2,L3⟩,hL⟩ : ∃ E,looserE q p = E:=⟨_,rfl⟩
 have HL:=Lib.hid hL
 obtain ⟨⟨X,xe⟩,hX⟩ : ∃ E,pairE exceptOf q p = E:=⟨_,rfl⟩
 have HX:=Lib.hid hX
 obtain ⟨⟨Y,ye⟩,hY⟩ : ∃ E,shortE X = E:=⟨_,rfl⟩
 have HY:=Lib.hid hY
 have HD : Hid (deltaE p q = if L3 ≠ 0 then (zeroPol,L3) else if L1 then (zeroPol,7) else if xe ≠ 0 then (zeroPol,xe) else (Y,ye)):=by
  show deltaE p q = _
  unfold deltaE
  rw [hL,hX]
  dsimp only
  by_cases hx : xe = 0
  ·have hXe : X = pairPol exceptOf q p:=by
    have:=(pairE_ok (of:=exceptOf) (p:=q) (q:=p) (by rw [hX];exact hx)).2.2.2
    rw [hX] at this
    exact (Prod.mk.inj this).1
   rw [← hXe,hY]
  ·rw [if_pos hx,if_pos hx]
 clear hL hX hY
 go_enter Tryz.func163,Tryz.ntmps163
 go_wp2_with fail
 have HB:=Lib.hid (Bx.three (w:=w) (o:=.cells #[.slice ap p.rules.length cp,.int .i64 p.dflt] 38) (o':=.cells #[.slice aq q.rules.length cq,.int .i64 q.dflt] 38) (o2:=.cells #[.slice none 0 0,.int .i64 0] 38))
 refine (looser_any _ _ q p _ (Hq.out.below HB.out.bel) (Hp.out.below HB.out.bel)).mono ?_
 rw [HL.out]
 rintro e w1 ⟨rfl,hb1⟩
 have HB1:=Lib.hid (HB.out.below hb1)
 have hD1:=Bx.one (w:=w1) (o:=.cells #[.int .i64 0,.int .i64 0,.int .i64 0,.int .i64 0,.int .i64 0] 46)
 have HD2:=Lib.hid (Bx.one (w:=w1) (o:=.cells #[.int .i64 L2.a0,.int .i64 L2.a1,.int .i64 L2.a2,.int .i64 L2.a3,.int .i64 L2.a4] 46))
 have hcn:=hD1.cells0
 have hfn:=hD1.free0
 have HB2:=Lib.hid (HB1.out.below HD2.out.bel)
 have hq0:=HB2.out.cells0
 have hq1:=HB2.out.cells1
 have hq2:=HB2.out.cells2
 have hf2:=HB2.out.free2
 clear hD1 hb1
 by_cases h3 : L3 = 0
 ·subst h3
  cases L1 with
  | true =>
   have HE : Hid (deltaE p q = (zeroPol,7)):=by show deltaE p q = _;rw [HD.out,if_neg (by simp),if_pos rfl]
   have HB3:=Lib.hid (HB2.out.set (i:=2) rfl 0 (.slice none 0 0))
   have HB4:=Lib.hid (HB3.out.set (i:=2) rfl 1 (.int .i64 0))
   have hc4:=HB4.out.cells2
   go_wp2
   refine bodyPost_ret (v:=.tuple #[polV (.slice none 0 0) 0,.int .i64 7]) ?_ rfl (by rw [HE.out];exact ⟨_,rfl,nil_rules _ _,HB4.out.bel⟩)
   rw [results_cell_tmp rfl]
   go_simp
  | false =>
   go_wp2_with fail
   clear hcn hfn hq0 hq1 hq2 hf2 HD2
   revert HB2
   generalize (w1.alloc (.cells #[.int .i64 L2.a0,.int .i64 L2.a1,.int .i64 L2.a2,.int .i64 L2.a3,.int .i64 L2.a4] 46)) = w2
   intro HB2
   refine (exceptPol_any _ _ q p _ (Hq.out.below HB2.out.bel) (Hp.out.below HB2.out.bel)).mono ?_
   rw [HX.out]
   rintro e w3 ⟨rX,rfl,hrX,hb3⟩
   have HB3:=Lib.hid (HB2.out.below hb3)
   have RX:=Lib.hid (rules_true hrX)
   obtain ⟨aX,cX,rfl,_⟩:=Sl.form hrX
   have HC:=Lib.hid (Bx.one (w:=w3) (o:=.cells #[.slice aX X.rules.length cX,.int .i64 X.dflt] 38))
   have HB4:=Lib.hid (HB3.out.below HC.out.bel)
   have RX4:=Lib.hid (RX.out.below HC.out.bel)
   have hq2:=HB4.out.cells2
   have hf2:=HB4.out.free2
   have hqc:=HC.out.cells0
   clear hrX hb3
   by_cases hx : xe = 0
   ·subst hx
    have HE : Hid (deltaE p q = (Y,ye)):=by show deltaE p q = _;rw [HD.out,if_neg (by simp),if_neg (by simp),if_neg (by simp)]
    have htop : w.heap.size + 3≤w3.heap.size:=HB3.out.top
    go_wp2_with fail
    clear hq2 hf2 hqc
    refine (short_any _ X _ RX4.out).mono ?_
    rw [HY.out]
    rintro e w5 ⟨rY,rfl,hrY,hb5⟩
    have HB5:=Lib.hid (HB4.out.below hb5)
    have RY:=Lib.hid hrY
    obtain ⟨aY,cY,rfl,_⟩:=Sl.form hrY
    have hq2:=HB5.out.cells2
    have hf2:=HB5.out.free2
    have HB6:=Lib.hid (HB5.out.set (i:=2) rfl 0 (.slice aY Y.rules.length cY))
    have HB7:=Lib.hid (HB6.out.set (i:=2) rfl 1 (.int .i64 Y.dflt))
    have hc4:=HB7.out.cells2
    clear hrY hb5
    have HR8 : Hid (RdRules ((w5.setCell ⟨w.heap.size + 2,0,none⟩ (.slice aY Y.rules.length cY)).setCell ⟨w.heap.size + 2,1,none⟩ (.int .i64 Y.dflt)) (fun b=>w.heap.size≤b∧NotPol ((w5.setCell ⟨w.heap.size + 2,0,none⟩ (.slice aY Y.rules.length cY)).setCell ⟨w.heap.size + 2,1,none⟩ (.int .i64 Y.dflt)) b) (.slice aY Y.rules.length cY) Y.rules):=by
     have hsame : ∀ b,w.heap.size + 3≤b → ((w5.setCell ⟨w.heap.size + 2,0,none⟩ (.slice aY Y.rules.length cY)).setCell ⟨w.heap.size + 2,1,none⟩ (.int .i64 Y.dflt)).heap[b]? = w5.heap[b]?:=fun b hb=>by rw [set_other (by show b ≠ w.heap.size + 2;omega),set_other (by show b ≠ w.heap.size + 2;omega)]
     have hlow : ∀ b,(w3.alloc (.cells #[.slice aX X.rules.length cX,.int .i64 X.dflt] 38)).heap.size≤b → w.heap.size + 3≤b:=fun b hb=>by simp at hb;omega
     exact RY.out.keep (fun b h _=>⟨by have:=hlow b h.1;omega,h.2.keep (hsame b (hlow b h.1))⟩) (fun b hb _=>hsame b (hlow b hb.1)) (by rw [set_size,set_size];exact Nat.le_refl _)
    go_wp2
    refine bodyPost_ret (v:=.tuple #[polV (.slice aY Y.rules.length cY) Y.dflt,.int .i64 ye]) ?_ rfl (by rw [HE.out];exact ⟨_,rfl,HR8.out,HB7.out.bel⟩)
    rw [results_cell_tmp rfl]
    go_simp
   ·have hb0 : (xe != 0) = true:=bne_iff_ne.2 hx
    have HE : Hid (deltaE p q = (zeroPol,xe)):=by show deltaE p q = _;rw [HD.out,if_neg (by simp),if_neg (by simp),if_pos hx]
    have HB5:=Lib.hid (HB4.out.set (i:=2) rfl 0 (.slice none 0 0))
    have HB6:=Lib.hid (HB5.out.set (i:=2) rfl 1 (.int .i64 0))
    have hc4:=HB6.out.cells2
    clear hx
    go_wp2
    refine bodyPost_ret (v:=.tuple #[polV (.slice none 0 0) 0,.int .i64 xe]) ?_ rfl (by rw [HE.out];exact ⟨_,rfl,nil_rules _ _,HB6.out.bel⟩)
    rw [results_cell_tmp rfl]
    go_simp
 ·have hb0 : (L3 != 0) = true:=bne_iff_ne.2 h3
  have HE : Hid (deltaE p q = (zeroPol,L3)):=by show deltaE p q = _;rw [HD.out,if_pos h3]
  have HB3:=Lib.hid (HB2.out.set (i:=2) rfl 0 (.slice none 0 0))
  have HB4:=Lib.hid (HB3.out.set (i:=2) rfl 1 (.int .i64 0))
  have hc4:=HB4.out.cells2
  clear h3
  go_wp2
  refine bodyPost_ret (v:=.tuple #[polV (.slice none 0 0) 0,.int .i64 L3]) ?_ rfl (by rw [HE.out];exact ⟨_,rfl,nil_rules _ _,HB4.out.bel⟩)
  rw [results_cell_tmp rfl]
  go_simp
end Go.Proofs.YthkgjohhbdipcaaGreatDoor
namespace Go.Proofs.YthkgjohhbdipcaaGreatDoor
open Go.RowKit
theorem lenTo_two' {α : Type} (a b : List α) : lenTo [a,b] [a,b].length = a.length + b.length:=by simp [lenTo]
theorem condIns_drop {l : List TCond} {v : Int} {j : Nat} (h : j < l.length) : condIns (l.drop j) v = ⟨1,l[j].f,0,0⟩ :: jumpIns l[j] (condIns (l.drop (j + 1)) v).length :: condIns (l.drop (j + 1)) v:=by
 rw [List.drop_eq_getElem_cons h]
 simp only [condIns,condIns_len]
 have : ((2 * (l.drop (j + 1)).length + 1 : Nat) : Int) = 2 * ((l.drop (j + 1)).length : Int) + 1:=by omega
 rw [this]
theorem rule_arg {W : World} {b3 b4 c' : Nat} {a' : Option Addr} {D : Nat → Prop} {i1 i2 : TIns} {L : List TIns} {T T' : TypeId} (h : RdCode W D (.slice a' L.length c') L)
  (h3 : W.heap[b3]? = some (.cells #[.int .i64 i1.k,.int .i64 i1.a,.int .i64 i1.b,.int .i64 i1.c,.int .i64 i2.k,.int .i64 i2.a,.int .i64 i2.b,.int .i64 i2.c] T))
  (h4 : W.heap[b4]? = some (.cells #[.slice (some ⟨b3,0,none⟩) 2 2,.slice a' L.length c'] T')) (d3 : D b3) (d4 : D b4) : Sl W D 1 (rowsRIns W D) (.slice (some ⟨b4,0,none⟩) 2 2) [[i1,i2],L] :=
 sl_block (xs:=[[i1,i2],L]) (rows:=[[.slice (some ⟨b3,0,none⟩) 2 2],[.slice a' L.length c']])
  (RowsOf.cons (RowsOf.cons RowsOf.nil ⟨_,rfl,h⟩ rfl) ⟨_,rfl,sl_block (xs:=[i1,i2]) (rows:=[[.int .i64 i1.k,.int .i64 i1.a,.int .i64 i1.b,.int .i64 i1.c],[.int .i64 i2.k,.int .i64 i2.a,.int .i64 i2.b,.int .i64 i2.c]])
   (RowsOf.cons (RowsOf.cons RowsOf.nil rfl rfl) rfl rfl) h3 rfl d3 (by simp [maxLen])⟩ rfl) h4 rfl d4 (by simp [maxLen])
set_option maxHeartbeats 4000000 in
theorem rule_any (u : Value) (r : TRule) (D : Nat → Prop) (w : World) (h : RdConds w D u r.conds) (hl : r.conds.length≤10) :
  Calls Tryz.prog 192 #[.agg #[u,.int .i64 r.verdict]] w fun e w'=>∃ v,e = .returned v∧RdCode w' (fun b=>w.heap.size≤b) v (condIns r.conds r.verdict)∧Below w.heap.size w w':=by
 obtain ⟨a,c,rfl,hlc,hcm,hat⟩:=Sl.form h
 have H:=Lib.hid h
 obtain ⟨n,hn⟩ : ∃ n : Nat,n = r.conds.length:=⟨_,rfl⟩
 have Hn:=Lib.hid hn
 rw [← hn] at hl hlc hat ⊢
 clear h hn
 go_enter Tryz.func192,Tryz.ntmps192
 go_wp2_with fail
 go_loopw [3,4] (fun ov kv wr=>∃ (k : Nat) (vs : Value),kv = .int .i64 k∧ov = vs∧k≤n∧RdCode wr (fun b=>w.heap.size≤b) vs (condIns (r.conds.drop k) r.verdict)∧Below (w.heap.size + 1) (w.alloc (.cells #[.slice a n c,.int .i64 r.verdict] 147)) wr) (fun _ kv _=>(intOf kv).toNat)
 case atStart =>
  refine ⟨n,.slice (some ⟨w.heap.size + 1,0,none⟩) 1 1,rfl,rfl,Nat.le_refl _,?_,(Below.refl _ _).alloc (by simp) _⟩
  have e : condIns (r.conds.drop n) r.verdict = [⟨4,r.verdict,0,0⟩]:=by rw [Hn.out,List.drop_length];rfl
  rw [e]
  exact sl_block (R:=insR) (sz:=4) (xs:=[(⟨4,r.verdict,0,0⟩ : TIns)]) (rows:=[[.int .i64 4,.int .i64 r.verdict,.int .i64 0,.int .i64 0]]) (RowsOf.cons RowsOf.nil rfl rfl) (blk_at (by simp)) rfl (by simp) (by simp [maxLen])
 case round =>
  obtain ⟨k,vs,rfl,rfl,hk,hrd,hb⟩:=hrel
  have hbc:=box_cells hb
  have hbw:=bel_box hb
  have hsz:=size_box hb
  obtain ⟨a',c',rfl,hlc',hcm',_⟩:=Sl.form hrd
  have Hrd:=Lib.hid hrd
  have Hb:=Lib.hid hb
  have Hbw:=Lib.hid hbw
  clear hrd hb hbw
  cases k with
  | zero =>
   go_wp2
   go_ret
   exact ⟨_,rfl,Hrd.out,Hbw.out⟩
  | succ j =>
   have hjl : j < r.conds.length:=by have:=Hn.out;omega
   obtain ⟨b,o,rfl,hDb,hblt⟩:=hat (by omega)
   have hcells:=RdConds.cells (H.out.below Hbw.out) hjl
   have hcd : Hid (condIns (r.conds.drop j) r.verdict = ⟨1,r.conds[j].f,0,0⟩ :: jumpIns r.conds[j] (condIns (r.conds.drop (j + 1)) r.verdict).length :: condIns (r.conds.drop (j + 1)) r.verdict):=condIns_drop hjl
   have hlen : Hid ((condIns (r.conds.drop (j + 1)) r.verdict).length≤21):=by show _≤_;rw [condIns_len,List.length_drop];have:=Hn.out;omega
   obtain ⟨⟨cf,cop,cv⟩,hcj⟩ : ∃ y : TCond,r.conds[j] = y:=⟨_,rfl⟩
   rw [hcj] at hcells hcd
   generalize hL : condIns (r.conds.drop (j + 1)) r.verdict = L at *
   clear hL hcj hcm' hlc'
   rcases (by omega : cop = 2 ∨ cop ≠ 2∧cop = 3 ∨ cop ≠ 2∧cop ≠ 3∧cop = 4 ∨ cop ≠ 2∧cop ≠ 3∧cop ≠ 4) with e2 | ⟨e2,e3⟩ | ⟨e2,e3,e4⟩ | ⟨e2,e3,e4⟩
   ·have HJ : Hid (jumpIns ⟨cf,cop,cv⟩ L.length = ⟨2,cv,L.length,0⟩):=by show jumpIns _ _ = _;unfold jumpIns;dsimp only;rw [if_pos e2]
    have b2 : (cop == 2) = true:=beq_iff_eq.2 e2
    clear e2
    go_wp2_with fail
    refine (concatIns_any _ [[⟨1,cf,0,0⟩,jumpIns ⟨cf,cop,cv⟩ L.length],L] (fun b=>w.heap.size≤b) _ (rule_arg (b3:=wr.heap.size + 1 + 1) (Hrd.out.below (bel_alloc (bel_alloc (bel_alloc (bel_alloc (Below.refl _ _) _) _) _) _)) (by rw [HJ.out];exact blk_old (blk_at (by simp))) (blk_at (by simp)) (by omega) (by omega)) (by rw [lenTo_two'];have:=hlen.out;simp;omega)).mono ?_
    rintro e w1 ⟨v1,rfl,hown0,hb1⟩
    have hown:=hown0
    rw [show [[(⟨1,cf,0,0⟩ : TIns),jumpIns ⟨cf,cop,cv⟩ L.length],L].flatten = ⟨1,cf,0,0⟩ :: jumpIns ⟨cf,cop,cv⟩ L.length :: L from by simp] at hown
    clear hown0
    have hb2:=bel_call (bel_alloc (bel_alloc (bel_alloc (bel_alloc (Below.refl wr.heap.size wr) _) _) _) _) hb1
    go_wp2_with fail
    go_roundw
    case rel=>exact ⟨j,v1,by go_num,rfl,by omega,by rw [hcd.out];exact hown.sl (fun b h=>Nat.le_trans (by omega : w.heap.size≤wr.heap.size) (Nat.le_trans (bel_alloc (bel_alloc (bel_alloc (bel_alloc (Below.refl _ wr) _) _) _) _).size h)),Hb.out.trans (hb2.mono hsz)⟩
    case measure=>simp [intOf]
   ·have HJ : Hid (jumpIns ⟨cf,cop,cv⟩ L.length = ⟨3,cv,0,L.length⟩):=by show jumpIns _ _ = _;unfold jumpIns;dsimp only;rw [if_neg e2,if_pos e3]
    have b2 : (cop == 2) = false:=beq_eq_false_iff_ne.2 e2
    have b3 : (cop == 3) = true:=beq_iff_eq.2 e3
    clear e2 e3
    go_wp2_with fail
    refine (concatIns_any _ [[⟨1,cf,0,0⟩,jumpIns ⟨cf,cop,cv⟩ L.length],L] (fun b=>w.heap.size≤b) _ (rule_arg (b3:=wr.heap.size + 1 + 1) (Hrd.out.below (bel_alloc (bel_alloc (bel_alloc (bel_alloc (Below.refl _ _) _) _) _) _)) (by rw [HJ.out];exact blk_old (blk_at (by simp))) (blk_at (by simp)) (by omega) (by omega)) (by rw [lenTo_two'];have:=hlen.out;simp;omega)).mono ?_
    rintro e w1 ⟨v1,rfl,hown0,hb1⟩
    have hown:=hown0
    rw [show [[(⟨1,cf,0,0⟩ : TIns),jumpIns ⟨cf,cop,cv⟩ L.length],L].flatten = ⟨1,cf,0,0⟩ :: jumpIns ⟨cf,cop,cv⟩ L.length :: L from by simp] at hown
    clear hown0
    have hb2:=bel_call (bel_alloc (bel_alloc (bel_alloc (bel_alloc (Below.refl wr.heap.size wr) _) _) _) _) hb1
    go_wp2_with fail
    go_roundw
    case rel=>exact ⟨j,v1,by go_num,rfl,by omega,by rw [hcd.out];exact hown.sl (fun b h=>Nat.le_trans (by omega : w.heap.size≤wr.heap.size) (Nat.le_trans (bel_alloc (bel_alloc (bel_alloc (bel_alloc (Below.refl _ wr) _) _) _) _).size h)),Hb.out.trans (hb2.mono hsz)⟩
    case measure=>simp [intOf]
   ·have HJ : Hid (jumpIns ⟨cf,cop,cv⟩ L.length = ⟨3,cv,L.length,0⟩):=by show jumpIns _ _ = _;unfold jumpIns;dsimp only;rw [if_neg e2,if_neg e3,if_pos e4]
    have b2 : (cop == 2) = false:=beq_eq_false_iff_ne.2 e2
    have b3 : (cop == 3) = false:=beq_eq_false_iff_ne.2 e3
    have b4 : (cop == 4) = true:=beq_iff_eq.2 e4
    clear e2 e3 e4
    go_wp2_with fail
    refine (concatIns_any _ [[⟨1,cf,0,0⟩,jumpIns ⟨cf,cop,cv⟩ L.length],L] (fun b=>w.heap.size≤b) _ (rule_arg (b3:=wr.heap.size + 1 + 1) (Hrd.out.below (bel_alloc (bel_alloc (bel_alloc (bel_alloc (Below.refl _ _) _) _) _) _)) (by rw [HJ.out];exact blk_old (blk_at (by simp))) (blk_at (by simp)) (by omega) (by omega)) (by rw [lenTo_two'];have:=hlen.out;simp;omega)).mono ?_
    rintro e w1 ⟨v1,rfl,hown0,hb1⟩
    have hown:=hown0
    rw [show [[(⟨1,cf,0,0⟩ : TIns),jumpIns ⟨cf,cop,cv⟩ L.length],L].flatten = ⟨1,cf,0,0⟩ :: jumpIns ⟨cf,cop,cv⟩ L.length :: L from by simp] at hown
    clear hown0
    have hb2:=bel_call (bel_alloc (bel_alloc (bel_alloc (bel_alloc (Below.refl wr.heap.size wr) _) _) _) _) hb1
    go_wp2_with fail
    go_roundw
    case rel=>exact ⟨j,v1,by go_num,rfl,by omega,by rw [hcd.out];exact hown.sl (fun b h=>Nat.le_trans (by omega : w.heap.size≤wr.heap.size) (Nat.le_trans (bel_alloc (bel_alloc (bel_alloc (bel_alloc (Below.refl _ wr) _) _) _) _).size h)),Hb.out.trans (hb2.mono hsz)⟩
    case measure=>simp [intOf]
   ·have HJ : Hid (jumpIns ⟨cf,cop,cv⟩ L.length = ⟨2,cv,0,L.length⟩):=by show jumpIns _ _ = _;unfold jumpIns;dsimp only;rw [if_neg e2,if_neg e3,if_neg e4]
    have b2 : (cop == 2) = false:=beq_eq_false_iff_ne.2 e2
    have b3 : (cop == 3) = false:=beq_eq_false_iff_ne.2 e3
    have b4 : (cop == 4) = false:=beq_eq_false_iff_ne.2 e4
    clear e2 e3 e4
    go_wp2_with fail
    refine (concatIns_any _ [[⟨1,cf,0,0⟩,jumpIns ⟨cf,cop,cv⟩ L.length],L] (fun b=>w.heap.size≤b) _ (rule_arg (b3:=wr.heap.size + 1 + 1) (Hrd.out.below (bel_alloc (bel_alloc (bel_alloc (bel_alloc (Below.refl _ _) _) _) _) _)) (by rw [HJ.out];exact blk_old (blk_at (by simp))) (blk_at (by simp)) (by omega) (by omega)) (by rw [lenTo_two'];have:=hlen.out;simp;omega)).mono ?_
    rintro e w1 ⟨v1,rfl,hown0,hb1⟩
    have hown:=hown0
    rw [show [[(⟨1,cf,0,0⟩ : TIns),jumpIns ⟨cf,cop,cv⟩ L.length],L].flatten = ⟨1,cf,0,0⟩ :: jumpIns ⟨cf,cop,cv⟩ L.length :: L from by simp] at hown
    clear hown0
    have hb2:=bel_call (bel_alloc (bel_alloc (bel_alloc (bel_alloc (Below.refl wr.heap.size wr) _) _) _) _) hb1
    go_wp2_with fail
    go_roundw
    case rel=>exact ⟨j,v1,by go_num,rfl,by omega,by rw [hcd.out];exact hown.sl (fun b h=>Nat.le_trans (by omega : w.heap.size≤wr.heap.size) (Nat.le_trans (bel_alloc (bel_alloc (bel_alloc (bel_alloc (Below.refl _ wr) _) _) _) _).size h)),Hb.out.trans (hb2.mono hsz)⟩
    case measure=>simp [intOf]
end Go.Proofs.YthkgjohhbdipcaaGreatDoor
namespace Go.Proofs.YthkgjohhbdipcaaGreatDoor
open Go.RowKit
theorem oneIns' (y : TIns) (cs : List Value) (h : insR y cs) : ∀ c ∈ cs,c.oneCell' = true:=by
 unfold insR at h;subst h;simp [Value.oneCell']
theorem rulesIns_take {l : List TRule} {k : Nat} (h : k < l.length) : rulesIns (l.take (k + 1)) = rulesIns (l.take k) ++ condIns l[k].conds l[k].verdict:=by
 rw [List.take_succ_eq_append_getElem h,rulesIns_snoc]
theorem rulesIns_take_len {l : List TRule} (h : ∀ r ∈ l,r.conds.length≤10) (k : Nat) (hk : k≤l.length) : (rulesIns (l.take k)).length≤21 * l.length:=by
 have:=rulesIns_len (l:=l.take k) fun r hr=>h r (List.mem_of_mem_take hr)
 rw [List.length_take] at this
 omega
theorem rdNil (w : World) (D : Nat → Prop) : RdCode w D (.slice none 0 0) []:=⟨none,0,rfl,Nat.le_refl _,by unfold maxLen;omega,fun _=>rfl,fun h=>by cases h⟩
set_option maxRecDepth 100000 in
set_option maxHeartbeats 4000000 in
theorem compile_any (v : Value) (p : TPol) (D : Nat → Prop) (w : World) (h : RdRules w D v p.rules) :
  Calls Tryz.prog 162 #[polV v p.dflt] w fun e w'=>∃ l,e = .returned (.tuple #[l,.int .i64 (filterE p).2])∧RdCode w' (fun b=>w.heap.size≤b) l (filterE p).1∧Below w.heap.size w w':=by
 have H:=Lib.hid h
 obtain ⟨a,c,rfl,hlc,hcm,hat⟩:=Sl.form h
 clear h
 by_cases hp : polE p = 0
 ·have hok:=(okPol_iff p).1 hp
  have Hlen : Hid (∀ k,k≤p.rules.length → (rulesIns (p.rules.take k)).length≤21 * 120):=fun k hk=>by
   have h1:=rulesIns_take_len (fun r hr=>(hok.rules r hr).len) k hk
   have h2:=hok.len
   omega
  have HC : Hid (codeE (filterL p) = if 1500 < (filterL p).length then 2 else 0):=filter_code hok
  have HF : Hid (filterE p = if 1500 < (filterL p).length then ([],2) else (filterL p,0)):=by show filterE p = _;unfold filterE;rw [if_neg (by omega)]
  have hn:=hok.len
  have Hok:=Lib.hid hok
  have Hp:=Lib.hid hp
  obtain ⟨i0,hi,hz0,hz1,hz2⟩:=info_parts infoIns
  have Hi:=Lib.hid hi
  clear hok hp hi
  go_enter Tryz.func162,Tryz.ntmps162
  go_wp2_with fail
  refine (polcheck_any _ p D _ (RdRules.below H.out (bel_alloc (Below.refl _ _) _))).mono ?_
  rw [Hp.out]
  rintro e w1 ⟨rfl,hb1⟩
  have hb1' : Below (w.heap.size + 1) _ w1:=hb1.mono (by simp)
  have hc1:=box_cells hb1'
  have Hb1:=Lib.hid hb1'
  clear hb1 hb1'
  go_wp2_with fail
  go_loopw [5,17] (fun ov kv wr=>∃ (k : Nat) (vs : Value),kv = .int .i64 k∧vs = ov∧k≤p.rules.length∧OwnSl wr (w.heap.size + 1) 141 4 insR vs (rulesIns (p.rules.take k))∧Below (w.heap.size + 1) (w.alloc (.cells #[.slice a p.rules.length c,.int .i64 p.dflt] 38)) wr) (fun _ kv _=>p.rules.length - (intOf kv).toNat)
  case atStart=>exact ⟨0,_,rfl,rfl,by omega,OwnSl.nil,Hb1.out⟩
  case round =>
   obtain ⟨k,vs,rfl,rfl,hk,hown,hb⟩:=hrel
   have hbc:=box_cells hb
   have hbw:=bel_box hb
   have hsz:=size_box hb
   have Hown:=Lib.hid hown
   have Hb:=Lib.hid hb
   have Hbw:=Lib.hid hbw
   clear hc1 hown hb hbw
   by_cases hlt : k < p.rules.length
   ·obtain ⟨b,o,rfl,hDb,hblt⟩:=hat (by omega)
    obtain ⟨ca,cc,hc0,hc1,hrd,_⟩:=RdRules.cells (H.out.below Hbw.out) hlt
    have Hrd:=Lib.hid hrd
    have hl10:=(Hok.out.rules p.rules[k] (List.getElem_mem hlt)).len
    have Hl:=Lib.hid (Hlen.out (k + 1) (by omega))
    have Hs:=Lib.hid (rulesIns_take hlt)
    have Hll : Hid ((rulesIns (p.rules.take k)).length + (condIns p.rules[k].conds p.rules[k].verdict).length≤21 * 120):=by have:=Hl.out;rw [Hs.out,List.length_append] at this;exact this
    clear hrd
    go_wp2_with fail
    refine (rule_any _ p.rules[k] D _ (Hrd.out.below (bel_alloc (Below.refl _ _) _)) hl10).mono ?_
    rintro e w2 ⟨v2,rfl,hr2,hb2⟩
    have hb2':=bel_alloc_call (Below.refl _ wr) hb2
    have hown2:=Hown.out.below hb2'
    have Hown2:=Lib.hid hown2
    have Hr2:=Lib.hid hr2
    have Hb2:=Lib.hid (Hb.out.trans (hb2'.mono hsz))
    have hsz2:=hb2'.size
    clear hown2 hr2 hb2 hb2' hc0 hc1 hbc
    go_wp2_with (at_builtin;refine wpList_app rfl _ _ 98 rfl (w.heap.size + 1) 141 i0 _ 4 32 Tryz.underlying98 Hi.out hz0 hz1 hz2 rfl (by decide) _ _ rfl Hown2.out _ _ rfl Hr2.out (fun y _ cs h=>oneIns' y cs h) (by have:=Hll.out;unfold maxLen;omega) (by have:=Hll.out;omega) (by omega) ?_;intro v' w3 hown' hg)
    go_roundw
    case rel=>exact ⟨k + 1,v',by go_num,rfl,by omega,by rw [Hs.out];exact hown',Hown2.out.grown Hb2.out hg (by omega) (Nat.le_refl _)⟩
    case measure=>simp [intOf];omega
   ·obtain rfl : k = p.rules.length:=by omega
    have Hl:=Lib.hid (Hlen.out p.rules.length (Nat.le_refl _))
    have Hnew : Hid (RdCode (wr.alloc (.cells #[.int .i64 4,.int .i64 p.dflt,.int .i64 0,.int .i64 0] 141)) (fun _=>True) (.slice (some ⟨wr.heap.size,0,none⟩) 1 1) [⟨4,p.dflt,0,0⟩]) :=
     sl_block (R:=insR) (sz:=4) (xs:=[(⟨4,p.dflt,0,0⟩ : TIns)]) (rows:=[[.int .i64 4,.int .i64 p.dflt,.int .i64 0,.int .i64 0]]) (RowsOf.cons RowsOf.nil rfl rfl) (heap_last _ _) rfl trivial (by simp [maxLen])
    have Hown3:=Lib.hid (Hown.out.below (bel_alloc (Below.refl _ wr) (.cells #[.int .i64 4,.int .i64 p.dflt,.int .i64 0,.int .i64 0] 141)))
    go_wp2_with (at_builtin;refine wpList_app rfl _ _ 98 rfl (w.heap.size + 1) 141 i0 _ 4 32 Tryz.underlying98 Hi.out hz0 hz1 hz2 rfl (by decide) _ _ rfl Hown3.out _ _ rfl Hnew.out (fun y _ cs h=>oneIns' y cs h) (by have:=Hl.out;show _ + 1≤maxLen;unfold maxLen;omega) (by have:=Hl.out;show (_ + 1) * 32≤_;omega) (by simp;omega) ?_;intro v' w3 hown' hg;rw [List.take_length] at hown';have Hown':=Lib.hid hown';have Hb3:=Lib.hid (Hown3.out.grown (Hb.out.trans ((bel_alloc (Below.refl _ wr) _).mono hsz)) hg (by simp;omega) (Nat.le_refl _));clear hown' hg)
    have HcF : Hid (RdCode w3 (fun b=>w.heap.size≤b) v' (filterL p)):=Hown'.out.sl fun b h=>by omega
    go_wp2_with fail
    refine (codecheck_any v' (filterL p) _ _ HcF.out).mono ?_
    rw [HC.out]
    rintro e w4 ⟨rfl,hb4⟩
    have Hr4:=Lib.hid (HcF.out.below hb4)
    have Hb4:=Lib.hid (bel_call (bel_box Hb3.out) hb4)
    clear hb4
    by_cases hbig : 1500 < (filterL p).length
    ·rw [if_pos hbig]
     have HF2 : Hid (filterE p = ([],2)):=by show filterE p = _;rw [HF.out,if_pos hbig]
     clear hbig
     go_wp2
     go_ret2
     rw [HF2.out]
     exact ⟨_,rfl,rdNil _ _,Hb4.out⟩
    ·rw [if_neg hbig]
     have HF2 : Hid (filterE p = (filterL p,0)):=by show filterE p = _;rw [HF.out,if_neg hbig]
     clear hbig
     go_wp2
     go_ret2
     rw [HF2.out]
     exact ⟨_,rfl,Hr4.out,Hb4.out⟩
 ·have HF : Hid (filterE p = ([],polE p)):=by show filterE p = _;unfold filterE;rw [if_pos hp]
  have b0 : (polE p != 0) = true:=bne_iff_ne.2 hp
  clear hp
  go_enter Tryz.func162,Tryz.ntmps162
  go_wp2_with fail
  refine (polcheck_any _ p D _ (RdRules.below H.out (bel_alloc (Below.refl _ _) _))).mono ?_
  rintro e w1 ⟨rfl,hb1⟩
  have hb1' : Below (w.heap.size + 1) _ w1:=hb1.mono (by simp)
  have Hb1:=Lib.hid hb1'
  clear hb1 hb1'
  go_wp2
  go_ret2
  rw [HF.out]
  exact ⟨_,rfl,rdNil _ _,bel_box Hb1.out⟩
end Go.Proofs.YthkgjohhbdipcaaGreatDoor
namespace Go.Proofs.YthkgjohhbdipcaaGreatDoor
open Go.RowKit
theorem codeE_len {f : List TIns} (h : codeE f = 0) : f.length≤1500:=by
 unfold codeE at h
 split at h
 ·simp at h
 ·omega
theorem one_code {W : World} {b : Nat} {T : TypeId} {u : Value} {f : List TIns} {D : Nat → Prop} (hb : W.heap[b]? = some (.cells #[u] T)) (hu : RdCode W D u f) : Sl W (fun _=>True) 1 (chainR W D) (.slice (some ⟨b,0,none⟩) 1 1) [f] :=
 sl_block (xs:=[f]) (rows:=[[u]]) (RowsOf.cons RowsOf.nil ⟨_,rfl,hu⟩ rfl) hb rfl trivial (by simp [maxLen])
theorem nil_chain (w : World) (D : Nat → Prop) : RdChain w D (.slice none 0 0) []:=⟨none,0,rfl,Nat.le_refl _,by unfold maxLen;simp,fun _=>rfl,fun h=>by cases h⟩
set_option maxRecDepth 100000 in
set_option maxHeartbeats 8000000 in
theorem tighten_any (v u0 u1 : Value) (l : List (List TIns)) (p q : TPol) (D : Nat → Prop) (w : World) (h : RdChain w D v l) (hp : RdRules w (fun _=>True) u0 p.rules) (hq : RdRules w (fun _=>True) u1 q.rules) :
  Calls Tryz.prog 138 #[v,polV u0 p.dflt,polV u1 q.dflt] w fun e w'=>∃ v',e = .returned (.tuple #[v',.int .i64 (tightE l p q).2])∧RdChain w' (fun b=>w.heap.size≤b) v' (tightE l p q).1∧Below w.heap.size w w':=by
 have H:=Lib.hid h
 have Hp:=Lib.hid hp
 have Hq:=Lib.hid hq
 obtain ⟨a,c,rfl,hlc,hcm,hat⟩:=Sl.form h
 obtain ⟨ap,cp,rfl,_⟩:=Sl.form hp
 obtain ⟨aq,cq,rfl,_⟩:=Sl.form hq
 clear h hp hq
 obtain ⟨⟨Y,ye⟩,hY⟩ : ∃ E,deltaE p q = E:=⟨_,rfl⟩
 have HY:=Lib.hid hY
 obtain ⟨⟨F,fe⟩,hF⟩ : ∃ E,filterE Y = E:=⟨_,rfl⟩
 have HF:=Lib.hid hF
 have HFl : Hid (fe = 0 → filterL Y = F):=fun h=>by have:=(filterE_ok (p:=Y) (by rw [hF];exact h)).2.1;rw [hF] at this;exact (Prod.mk.inj this).1.symm
 have HT : Hid (tightE l p q = if chainE l ≠ 0 then ([],chainE l) else if ye ≠ 0 then ([],ye) else if l.length = 6 then ([],2) else if fe ≠ 0 then ([],fe) else (l ++ [filterL Y],0)):=by
  show tightE l p q = _
  unfold tightE
  rw [hY]
  dsimp only
  rw [hF]
 clear hY hF
 go_enter Tryz.func138,Tryz.ntmps138
 go_wp2_with fail
 have HB:=Lib.hid (Bx.two (w:=w) (o:=.cells #[.slice ap p.rules.length cp,.int .i64 p.dflt] 38) (o':=.cells #[.slice aq q.rules.length cq,.int .i64 q.dflt] 38))
 refine (chcheck_any _ l D _ (H.out.below HB.out.bel)).mono ?_
 rintro e w1 ⟨rfl,hb1⟩
 have HB1:=Lib.hid (HB.out.below hb1)
 clear hb1
 by_cases h0 : chainE l = 0
 ·obtain ⟨hl6,hcodes⟩:=(chainE_iff l).1 h0
  have Hcd:=Lib.hid hcodes
  have H0:=Lib.hid h0
  have hq0:=HB1.out.cells0
  have hq1:=HB1.out.cells1
  rw [h0]
  clear h0 hcodes
  go_wp2_with fail
  refine (delta_any _ _ p q _ (Hp.out.below HB1.out.bel) (Hq.out.below HB1.out.bel)).mono ?_
  rw [HY.out]
  rintro e w2 ⟨rY,rfl,hrY,hb2⟩
  have HB2:=Lib.hid (HB1.out.below hb2)
  have RY:=Lib.hid (rules_true hrY)
  obtain ⟨aY,cY,rfl,_⟩:=Sl.form hrY
  have HC:=Lib.hid (Bx.one (w:=w2) (o:=.cells #[.slice aY Y.rules.length cY,.int .i64 Y.dflt] 38))
  have HB3:=Lib.hid (HB2.out.below HC.out.bel)
  have RY3:=Lib.hid (RY.out.below HC.out.bel)
  have hqc:=HC.out.cells0
  clear hrY hb2 hq0 hq1
  by_cases hy : ye = 0
  ·subst hy
   by_cases h6 : l.length = 6
   ·have HE : Hid (tightE l p q = ([],2)):=by show tightE l p q = _;rw [HT.out,if_neg (by rw [H0.out];simp),if_neg (by simp),if_pos h6]
    have HBf:=Lib.hid HB3.out.bel
    have h6' : ((l.length : Int) == 6) = true:=beq_iff_eq.2 (by omega)
    go_wp2
    go_ret2
    rw [HE.out]
    exact ⟨_,rfl,nil_chain _ _,HBf.out⟩
   ·have h6' : ((l.length : Int) == 6) = false:=by simpa using (show ¬ (l.length : Int) = 6 by omega)
    go_wp2_with fail
    refine (compile_any _ Y _ _ RY3.out).mono ?_
    rw [HF.out]
    rintro e w4 ⟨vF,rfl,hrF,hb4⟩
    have HB4:=Lib.hid (HB3.out.below hb4)
    have RF:=Lib.hid hrF
    obtain ⟨aF,cF,rfl,_⟩:=Sl.form hrF
    clear hrF hb4 hqc
    by_cases hf : fe = 0
    ·subst hf
     have HE : Hid (tightE l p q = (l ++ [F],0)):=by show tightE l p q = _;rw [HT.out,if_neg (by rw [H0.out];simp),if_neg (by simp),if_neg h6,if_neg (by simp),HFl.out rfl]
     have htop : w.heap.size + 2≤w4.heap.size:=HB4.out.top
     have hsz3 : w.heap.size≤(w2.alloc (.cells #[.slice aY Y.rules.length cY,.int .i64 Y.dflt] 38)).heap.size:=HB3.out.bel.size
     obtain ⟨i0,hi,hz0,hz1,hz2⟩:=info_parts infocChain
     have Hi:=Lib.hid hi
     clear hi
     go_wp2_with fail
     refine (copy_any _ l D _ (H.out.below HB4.out.bel) (by omega) (fun f hf=>by have:=codeE_len (Hcd.out f hf);omega)).mono ?_
     rintro e w5 ⟨v5,rfl,ho5,hb5⟩
     have HB5:=Lib.hid (HB4.out.below hb5)
     obtain ⟨a5,c5,rfl⟩:=ho5.slice
     have Ho5:=Lib.hid (ho5.monoR (R':=chainR w5 (fun b=>w.heap.size≤b∧(Value.slice a5 l.length c5).ownBlock ≠ some b)) fun _ _ _ ⟨u,h1,h2⟩=>⟨u,h1,h2.keep (fun b hb _=>⟨by have:=hb.1;omega,hb.2⟩) (fun _ _ _=>rfl) (Nat.le_refl _)⟩)
     have hown5:=ho5.block
     have hrf4 : RdCode w5 (fun b=>w.heap.size≤b∧(Value.slice a5 l.length c5).ownBlock ≠ some b) (.slice aF F.length cF) F:=RF.out.keep (fun b hb hl=>⟨Nat.le_trans hsz3 hb,fun e=>by have:=hown5 b e;omega⟩) (fun b _ hl=>hb5.block b hl) hb5.size
     have hb6:=bel_alloc (Below.refl w5.heap.size w5) (.cells #[.slice aF F.length cF] 98)
     have RF6 : Hid (RdCode (w5.alloc (.cells #[.slice aF F.length cF] 98)) (fun b=>w.heap.size≤b∧(Value.slice a5 l.length c5).ownBlock ≠ some b) (.slice aF F.length cF) F):=hrf4.below hb6
     have Ho6:=Lib.hid ((Ho5.out.below hb6).monoR (R':=chainR (w5.alloc (.cells #[.slice aF F.length cF] 98)) (fun b=>w.heap.size≤b∧(Value.slice a5 l.length c5).ownBlock ≠ some b)) fun _ _ _ ⟨u,h1,h2⟩=>⟨u,h1,h2.below hb6⟩)
     have HN:=Lib.hid (one_code (T:=98) (heap_last w5 (.cells #[.slice aF F.length cF] 98)) RF6.out)
     have HB6:=Lib.hid (HB5.out.below hb6)
     have hsz5:=HB5.out.bel.size
     have hs45:=hb5.size
     clear ho5 hb5 hb6 hown5 hrf4
     go_wp2_with (at_builtin;refine wpList_app2 rfl _ _ 50 rfl w4.heap.size 98 i0 _ 1 24 Tryz.underlying50 Hi.out hz0 hz1 hz2 rfl (by decide) _ _ rfl Ho6.out _ _ rfl HN.out (fun y _ cs h=>chainR_one y cs h) (by show _ + 1≤maxLen;unfold maxLen;omega) (by show (_ + 1) * 24≤_;omega) (by simp;omega) ?_;intro v' w7 hown' hg hat';have Hown':=Lib.hid hown';have Hg:=Lib.hid hg;have Hblk:=Lib.hid Ho6.out.block;clear hown' hg hat')
     go_ret2
     rw [HE.out]
     refine ⟨v',rfl,?_,HB6.out.bel.trans (Below.grown (Below.refl w.heap.size _) Hg.out (by simp;omega) (fun g hg=>by have:=Hblk.out g hg;omega))⟩
     exact (Hown'.out.monoR (R':=chainR w7 (fun b=>w.heap.size≤b)) fun _ _ _ ⟨u,h1,h2⟩=>⟨u,h1,h2.keep (fun b hb _=>hb.1) (fun b hb hl=>Hg.out.block b hl (fun e=>hb.2 e.symm)) Hg.out.size⟩).sl (fun b hb=>by omega)
    ·have HE : Hid (tightE l p q = ([],fe)):=by show tightE l p q = _;rw [HT.out,if_neg (by rw [H0.out];simp),if_neg (by simp),if_neg h6,if_pos hf]
     have hb0 : (fe != 0) = true:=bne_iff_ne.2 hf
     have HBf:=Lib.hid HB4.out.bel
     clear hf
     go_wp2
     go_ret2
     rw [HE.out]
     exact ⟨_,rfl,nil_chain _ _,HBf.out⟩
  ·have HE : Hid (tightE l p q = ([],ye)):=by show tightE l p q = _;rw [HT.out,if_neg (by rw [H0.out];simp),if_pos hy]
   have hb0 : (ye != 0) = true:=bne_iff_ne.2 hy
   have HBf:=Lib.hid HB3.out.bel
   clear hy
   go_wp2
   go_ret2
   rw [HE.out]
   exact ⟨_,rfl,nil_chain _ _,HBf.out⟩
 ·have HE : Hid (tightE l p q = ([],chainE l)):=by show tightE l p q = _;rw [HT.out,if_pos h0]
  have hb0 : (chainE l != 0) = true:=bne_iff_ne.2 h0
  have HBf:=Lib.hid HB1.out.bel
  clear h0
  go_wp2
  go_ret2
  rw [HE.out]
  exact ⟨_,rfl,nil_chain _ _,HBf.out⟩
end Go.Proofs.YthkgjohhbdipcaaGreatDoor
namespace Go.Proofs.YthkgjohhbdipcaaGreatDoor
open Go.RowKit
set_option maxRecDepth 100000 in
set_option maxHeartbeats 4000000 in
theorem begin_any (v : Value) (p : TPol) (D : Nat → Prop) (w : World) (h : RdRules w D v p.rules) :
  Calls Tryz.prog 137 #[polV v p.dflt] w fun e w'=>∃ a1 c1 a2 c2,e = .returned (.tuple #[.agg #[.bool (beginE p).1.open_,.slice a1 (beginE p).1.chain.length c1,.slice a2 (beginE p).1.p.rules.length c2,.int .i64 (beginE p).1.p.dflt],.int .i64 (beginE p).2]) ∧
   RdChain w' (fun b=>w.heap.size≤b) (.slice a1 (beginE p).1.chain.length c1) (beginE p).1.chain∧RdRules w' (fun b=>w.heap.size≤b) (.slice a2 (beginE p).1.p.rules.length c2) (beginE p).1.p.rules∧Below w.heap.size w w':=by
 have H:=Lib.hid h
 obtain ⟨a,c,rfl,_⟩:=Sl.form h
 clear h
 obtain ⟨⟨F,fe⟩,hF⟩ : ∃ E,filterE p = E:=⟨_,rfl⟩
 have HF:=Lib.hid hF
 go_enter Tryz.func137,Tryz.ntmps137
 go_wp2_with fail
 have HB:=Lib.hid (Bx.two (w:=w) (o:=.cells #[.slice a p.rules.length c,.int .i64 p.dflt] 38) (o':=.cells #[.bool false,.slice none 0 0,.slice none 0 0,.int .i64 0] 52))
 have hq0:=HB.out.cells0
 refine (compile_any _ p D _ (H.out.below HB.out.bel)).mono ?_
 rw [HF.out]
 rintro e w1 ⟨vF,rfl,hrF,hb1⟩
 have HB1:=Lib.hid (HB.out.below hb1)
 have RF:=Lib.hid (show RdCode w1 (fun b=>w.heap.size + 2≤b) vF F from hrF.keep (fun b hb _=>by have h1:=HB.out.top;have h2:=hb;simp at h1 h2;omega) (fun _ _ _=>rfl) (Nat.le_refl _))
 have H1:=Lib.hid ((H.out.below HB.out.bel).below hb1)
 obtain ⟨aF,cF,rfl,_⟩:=Sl.form hrF
 clear hrF hb1 hq0 HB
 by_cases h0 : fe = 0
 ·subst h0
  obtain ⟨hpok,hfe2,_,_⟩:=filterE_ok (p:=p) (by rw [hF])
  have hFe : F = filterL p:=(Prod.mk.inj (hF.symm.trans hfe2)).1
  have hbe : beginE p = (⟨true,[F],p⟩,0):=by unfold beginE;rw [hF,← hFe];simp
  have Hbe:=Lib.hid hbe
  have Hok:=Lib.hid hpok
  clear hF hfe2 hFe hbe hpok
  have HC:=Lib.hid (Bx.one (w:=w1) (o:=.cells #[.slice aF F.length cF] 98))
  have HB2:=Lib.hid (HB1.out.below HC.out.bel)
  have H2:=Lib.hid (H1.out.below HC.out.bel)
  have RF2:=Lib.hid (RF.out.below HC.out.bel)
  have HT:=Lib.hid HB1.out.top
  have hq0:=HB2.out.cells0
  go_wp2_with fail
  refine (polcopy_any _ p D _ H2.out (by have:=Hok.out.len;omega) (fun r hr=>by have:=(Hok.out.rules r hr).len;omega)).mono ?_
  rintro e w2 ⟨vP,rfl,hrP,hb2⟩
  have HB3:=Lib.hid (HB2.out.below hb2)
  have RF3:=Lib.hid (RF2.out.below hb2)
  have HC3:=Lib.hid (HC.out.below hb2)
  have HrP:=Lib.hid hrP
  obtain ⟨aP,cP,rfl,_⟩:=Sl.form hrP
  clear hrP hb2 hq0 HB1 HB2 H1 H2 RF RF2 HC
  have hq1:=HB3.out.cells1
  have hf1:=HB3.out.free1
  have HS1:=Lib.hid (HB3.out.set (i:=1) rfl 0 (.bool true))
  have HS2:=Lib.hid (HS1.out.set (i:=1) rfl 1 (.slice (some ⟨w1.heap.size,0,none⟩) 1 1))
  have HS3:=Lib.hid (HS2.out.set (i:=1) rfl 2 (.slice aP p.rules.length cP))
  have HS4:=Lib.hid (HS3.out.set (i:=1) rfl 3 (.int .i64 p.dflt))
  have hqs:=HS4.out.cells1
  have hoth : ∀ b,b ≠ w.heap.size + 1 → ((((w2.setCell ⟨w.heap.size + 1,0,none⟩ (.bool true)).setCell ⟨w.heap.size + 1,1,none⟩ (.slice (some ⟨w1.heap.size,0,none⟩) 1 1)).setCell ⟨w.heap.size + 1,2,none⟩ (.slice aP p.rules.length cP)).setCell ⟨w.heap.size + 1,3,none⟩ (.int .i64 p.dflt)).heap[b]? = w2.heap[b]?:=fun b hb=>by rw [set_other (by exact hb),set_other (by exact hb),set_other (by exact hb),set_other (by exact hb)]
  have hszs : ((((w2.setCell ⟨w.heap.size + 1,0,none⟩ (.bool true)).setCell ⟨w.heap.size + 1,1,none⟩ (.slice (some ⟨w1.heap.size,0,none⟩) 1 1)).setCell ⟨w.heap.size + 1,2,none⟩ (.slice aP p.rules.length cP)).setCell ⟨w.heap.size + 1,3,none⟩ (.int .i64 p.dflt)).heap.size = w2.heap.size:=by simp only [set_size]
  have htop : w.heap.size + 2≤w1.heap.size:=HT.out
  have HRP : Hid (RdRules ((((w2.setCell ⟨w.heap.size + 1,0,none⟩ (.bool true)).setCell ⟨w.heap.size + 1,1,none⟩ (.slice (some ⟨w1.heap.size,0,none⟩) 1 1)).setCell ⟨w.heap.size + 1,2,none⟩ (.slice aP p.rules.length cP)).setCell ⟨w.heap.size + 1,3,none⟩ (.int .i64 p.dflt)) (fun b=>w.heap.size≤b) (.slice aP p.rules.length cP) p.rules):=HrP.out.keep (fun b hb _=>by have h1:=hb;simp at h1;omega) (fun b hb _=>hoth b (by have h1:=hb;simp at h1;omega)) (by rw [hszs];exact Nat.le_refl _)
  have HRC : Hid (RdChain ((((w2.setCell ⟨w.heap.size + 1,0,none⟩ (.bool true)).setCell ⟨w.heap.size + 1,1,none⟩ (.slice (some ⟨w1.heap.size,0,none⟩) 1 1)).setCell ⟨w.heap.size + 1,2,none⟩ (.slice aP p.rules.length cP)).setCell ⟨w.heap.size + 1,3,none⟩ (.int .i64 p.dflt)) (fun b=>w.heap.size≤b) (.slice (some ⟨w1.heap.size,0,none⟩) 1 1) [F]) :=
   sl_block (xs:=[F]) (rows:=[[.slice aF F.length cF]]) (RowsOf.cons RowsOf.nil ⟨_,rfl,RF3.out.keep (fun b hb _=>by have h1 : w.heap.size + 2≤b:=hb;show w.heap.size≤b;omega) (fun b hb _=>hoth b (by have h1 : w.heap.size + 2≤b:=hb;omega)) (by rw [hszs];exact Nat.le_refl _)⟩ rfl) ((hoth _ (by omega)).trans (HC3.out.at_ 0 _ rfl)) rfl (by show w.heap.size≤w1.heap.size;omega) (by simp [maxLen])
  have HBL : Hid (Below w.heap.size w ((((w2.setCell ⟨w.heap.size + 1,0,none⟩ (.bool true)).setCell ⟨w.heap.size + 1,1,none⟩ (.slice (some ⟨w1.heap.size,0,none⟩) 1 1)).setCell ⟨w.heap.size + 1,2,none⟩ (.slice aP p.rules.length cP)).setCell ⟨w.heap.size + 1,3,none⟩ (.int .i64 p.dflt))):=HS4.out.bel
  have hqr : ∀ j,((((w2.setCell ⟨w.heap.size + 1,0,none⟩ (.bool true)).setCell ⟨w.heap.size + 1,1,none⟩ (.slice (some ⟨w1.heap.size,0,none⟩) 1 1)).setCell ⟨w.heap.size + 1,2,none⟩ (.slice aP p.rules.length cP)).setCell ⟨w.heap.size + 1,3,none⟩ (.int .i64 p.dflt)).cell? ⟨w.heap.size + 1,j,none⟩ = (#[Value.bool true,.slice (some ⟨w1.heap.size,0,none⟩) 1 1,.slice aP p.rules.length cP,.int .i64 p.dflt] : Array Value)[j]?:=HS4.out.cells (i:=1) rfl
  clear hoth hszs htop hqs HS1 HS2 HS3 HS4
  go_wp2
  refine bodyPost_ret (v:=.tuple #[.agg #[.bool true,.slice (some ⟨w1.heap.size,0,none⟩) 1 1,.slice aP p.rules.length cP,.int .i64 p.dflt],.int .i64 0]) ?_ rfl (by rw [Hbe.out];exact ⟨_,_,_,_,rfl,HRC.out,HRP.out,HBL.out⟩)
  rw [results_cell_tmp rfl]
  go_simp
 ·have hne : (fe != 0) = true:=bne_iff_ne.2 h0
  have hbe : beginE p = (zeroCell,fe):=by unfold beginE;rw [hF];simp [h0]
  have Hbe:=Lib.hid hbe
  clear hF h0 hbe
  have hq1:=HB1.out.cells1
  have hf1:=HB1.out.free1
  have HS4:=Lib.hid ((((HB1.out.set (i:=1) rfl 0 (.bool false)).set (i:=1) rfl 1 (.slice none 0 0)).set (i:=1) rfl 2 (.slice none 0 0)).set (i:=1) rfl 3 (.int .i64 0))
  have HBL : Hid (Below w.heap.size w ((((w1.setCell ⟨w.heap.size + 1,0,none⟩ (.bool false)).setCell ⟨w.heap.size + 1,1,none⟩ (.slice none 0 0)).setCell ⟨w.heap.size + 1,2,none⟩ (.slice none 0 0)).setCell ⟨w.heap.size + 1,3,none⟩ (.int .i64 0))):=HS4.out.bel
  have hqr : ∀ j,((((w1.setCell ⟨w.heap.size + 1,0,none⟩ (.bool false)).setCell ⟨w.heap.size + 1,1,none⟩ (.slice none 0 0)).setCell ⟨w.heap.size + 1,2,none⟩ (.slice none 0 0)).setCell ⟨w.heap.size + 1,3,none⟩ (.int .i64 0)).cell? ⟨w.heap.size + 1,j,none⟩ = (#[Value.bool false,.slice none 0 0,.slice none 0 0,.int .i64 0] : Array Value)[j]?:=HS4.out.cells (i:=1) rfl
  clear HS4
  go_wp2
  refine bodyPost_ret (v:=.tuple #[.agg #[.bool false,.slice none 0 0,.slice none 0 0,.int .i64 0],.int .i64 fe]) ?_ rfl (by rw [Hbe.out];exact ⟨none,0,none,0,rfl,nil_chain _ _,⟨none,0,rfl,Nat.le_refl _,by decide,fun _=>rfl,fun h=>by cases h⟩,HBL.out⟩)
  rw [results_cell_tmp rfl]
  go_simp
end Go.Proofs.YthkgjohhbdipcaaGreatDoor
namespace Go.Proofs.YthkgjohhbdipcaaGreatDoor
open Go.RowKit
def Dg (B g : Nat) (b : Nat) : Prop:=B≤b∧b ≠ g
theorem cellR_set {W : World} {B g i : Nat} {x : Value} {y : TCell} {cs : List Value} (h : cellR W (Dg B g) y cs) : cellR (W.setCell ⟨g,i,none⟩ x) (Dg B g) y cs :=
 h.keep (fun _ h _=>h) (fun b hb _=>set_other (by exact hb.2)) (by rw [set_size];exact Nat.le_refl _)
theorem chainD_set {W : World} {B g i : Nat} {x v : Value} {l : List (List TIns)} (h : RdChain W (Dg B g) v l) : RdChain (W.setCell ⟨g,i,none⟩ x) (Dg B g) v l :=
 h.keep (fun _ h _=>h) (fun b hb _=>set_other (by exact hb.2)) (by rw [set_size];exact Nat.le_refl _)
theorem rulesD_set {W : World} {B g i : Nat} {x v : Value} {l : List TRule} (h : RdRules W (Dg B g) v l) : RdRules (W.setCell ⟨g,i,none⟩ x) (Dg B g) v l :=
 h.keep (fun _ h _=>h) (fun b hb _=>set_other (by exact hb.2)) (by rw [set_size];exact Nat.le_refl _)
section
variable {W : World} {B B0 g n c k : Nat} {l : List TCell} {u v : Value}
def OwnCells (W : World) (B0 B g n c : Nat) (l : List TCell) : Prop:=OwnSl W B0 52 4 (cellR W (Dg B g)) (.slice (some ⟨g,0,none⟩) n c) l
theorem OwnCells.below {W' : World} (h : OwnCells W B0 B g n c l) (hb : Below W.heap.size W W') : OwnCells W' B0 B g n c l :=
 (OwnSl.below h hb).monoR fun _ _ _ hy=>hy.keep (fun _ h _=>h) (fun b _ hl=>hb.block b hl) hb.size
theorem OwnCells.cells (h : OwnCells W B0 B g n c l) {x : TCell} (hk : l[k]? = some x) : ∃ (a1 a2 : Option Addr) (c1 c2 : Nat),W.cell? ⟨g,k * 4,none⟩ = some (.bool x.open_)∧W.cell? ⟨g,k * 4 + 1,none⟩ = some (.slice a1 x.chain.length c1)∧W.cell? ⟨g,k * 4 + 2,none⟩ = some (.slice a2 x.p.rules.length c2)∧W.cell? ⟨g,k * 4 + 3,none⟩ = some (.int .i64 x.p.dflt) ∧
      RdChain W (Dg B g) (.slice a1 x.chain.length c1) x.chain∧RdRules W (Dg B g) (.slice a2 x.p.rules.length c2) x.p.rules:=by
 obtain ⟨hlt,rfl⟩:=List.getElem?_eq_some_iff.1 hk
 have hs:=OwnSl.sl h (D:=fun _=>True) (fun _ _=>trivial)
 obtain ⟨cs,hl,⟨u,v,rfl,hc,hp⟩,hcell⟩:=Sl.get hs hlt
 obtain ⟨a1,c1,hv,_⟩:=Sl.form hc
 obtain ⟨a2,c2,hv2,_⟩:=Sl.form hp
 subst hv hv2
 exact ⟨a1,a2,c1,c2,by have:=hcell 0 _ rfl;simpa using this,by have:=hcell 1 _ rfl;simpa using this,by have:=hcell 2 _ rfl;simpa using this,by have:=hcell 3 _ rfl;simpa using this,hc,hp⟩
theorem OwnCells.frz (h : OwnCells W B0 B g n c l) (hl : 0 < l.length) (j : Nat) : W.frozen? ⟨g,j,none⟩ = false:=by
 obtain ⟨b,e,_,_,cur,hc⟩:=OwnSl.addr h hl
 injection e with e
 injection e with e
 subst e
 exact not_frozen hc j
theorem OwnCells.lt (h : OwnCells W B0 B g n c l) (hl : 0 < l.length) : B0≤g∧g < W.heap.size:=by
 obtain ⟨b,e,h1,h2,_⟩:=OwnSl.addr h hl
 injection e with e
 injection e with e
 subst e
 exact ⟨h1,h2⟩
theorem set_set' {α : Type} (l : List α) (k : Nat) (a b : α) : (l.set k a).set k b = l.set k b:=by simp
theorem OwnCells.chain (h : OwnCells W B0 B g n c l) {x : TCell} (hk : l[k]? = some x) {ch : List (List TIns)} (hu : RdChain W (Dg B g) u ch) :
  OwnCells (W.setCell ⟨g,k * 4 + 1,none⟩ u) B0 B g n c (l.set k ⟨x.open_,ch,x.p⟩):=by
 obtain ⟨hlt,rfl⟩:=List.getElem?_eq_some_iff.1 hk
 exact OwnSl.put (OwnSl.monoR h fun z _ cs hz=>cellR_set hz) hlt (by decide) (fun r ⟨u0,v0,hr,h1,h2⟩=>by subst hr;exact ⟨_,_,rfl,chainD_set hu,h2⟩)
theorem OwnCells.rules (h : OwnCells W B0 B g n c l) {x : TCell} (hk : l[k]? = some x) {rs : List TRule} (hu : RdRules W (Dg B g) u rs) :
  OwnCells (W.setCell ⟨g,k * 4 + 2,none⟩ u) B0 B g n c (l.set k ⟨x.open_,x.chain,⟨rs,x.p.dflt⟩⟩):=by
 obtain ⟨hlt,rfl⟩:=List.getElem?_eq_some_iff.1 hk
 exact OwnSl.put (OwnSl.monoR h fun z _ cs hz=>cellR_set hz) hlt (by decide) (fun r ⟨u0,v0,hr,h1,h2⟩=>by subst hr;exact ⟨_,_,rfl,h1,rulesD_set hu⟩)
theorem OwnCells.dflt (h : OwnCells W B0 B g n c l) {x : TCell} (hk : l[k]? = some x) (d : Int) :
  OwnCells (W.setCell ⟨g,k * 4 + 3,none⟩ (.int .i64 d)) B0 B g n c (l.set k ⟨x.open_,x.chain,⟨x.p.rules,d⟩⟩):=by
 obtain ⟨hlt,rfl⟩:=List.getElem?_eq_some_iff.1 hk
 exact OwnSl.put (OwnSl.monoR h fun z _ cs hz=>cellR_set hz) hlt (by decide) (fun r ⟨u0,v0,hr,h1,h2⟩=>by subst hr;exact ⟨_,_,rfl,h1,h2⟩)
theorem OwnCells.open_ (h : OwnCells W B0 B g n c l) {x : TCell} (hk : l[k]? = some x) (o : Bool) :
  OwnCells (W.setCell ⟨g,k * 4,none⟩ (.bool o)) B0 B g n c (l.set k ⟨o,x.chain,x.p⟩):=by
 obtain ⟨hlt,rfl⟩:=List.getElem?_eq_some_iff.1 hk
 exact OwnSl.put (i:=k) (j:=0) (OwnSl.monoR h fun z _ cs hz=>cellR_set hz) hlt (by decide) (fun r ⟨u0,v0,hr,h1,h2⟩=>by subst hr;exact ⟨_,_,rfl,h1,h2⟩)
theorem OwnCells.pol (h : OwnCells W B0 B g n c l) {x : TCell} (hk : l[k]? = some x) {p : TPol} (hu : RdRules W (Dg B g) u p.rules) :
  OwnCells ((W.setCell ⟨g,k * 4 + 2,none⟩ u).setCell ⟨g,k * 4 + 3,none⟩ (.int .i64 p.dflt)) B0 B g n c (l.set k ⟨x.open_,x.chain,p⟩):=by
 have hlt:=(List.getElem?_eq_some_iff.1 hk).1
 have:=(h.rules hk hu).dflt (x:=⟨x.open_,x.chain,⟨p.rules,x.p.dflt⟩⟩) (by rw [List.getElem?_set_self hlt]) p.dflt
 rwa [set_set'] at this
theorem OwnCells.put (h : OwnCells W B0 B g n c l) {x y : TCell} (hk : l[k]? = some x) (hu : RdChain W (Dg B g) u y.chain) (hv : RdRules W (Dg B g) v y.p.rules) :
  OwnCells ((((W.setCell ⟨g,k * 4,none⟩ (.bool y.open_)).setCell ⟨g,k * 4 + 1,none⟩ u).setCell ⟨g,k * 4 + 2,none⟩ v).setCell ⟨g,k * 4 + 3,none⟩ (.int .i64 y.p.dflt)) B0 B g n c (l.set k y):=by
 have hlt:=(List.getElem?_eq_some_iff.1 hk).1
 have h1:=(h.open_ hk y.open_).chain (x:=⟨y.open_,x.chain,x.p⟩) (by rw [List.getElem?_set_self hlt]) (chainD_set hu)
 rw [set_set'] at h1
 have h2:=h1.pol (x:=⟨y.open_,y.chain,x.p⟩) (by rw [List.getElem?_set_self hlt]) (p:=y.p) (rulesD_set (rulesD_set hv))
 rwa [set_set'] at h2
theorem OwnCells.read {B' : Nat} (h : OwnCells W B0 B g n c l) (h1 : B'≤B0) (h2 : B'≤B) : RdCells W (fun b=>B'≤b) (.slice (some ⟨g,0,none⟩) n c) l :=
 Sl.mono (OwnSl.sl h (D:=fun b=>B'≤b) (fun _ hb=>Nat.le_trans h1 hb)) (fun _ h _=>h) (fun _ _ _=>rfl) (Nat.le_refl _) (fun _ _ _ hy=>hy.keep (fun _ hb _=>Nat.le_trans h2 hb.1) (fun _ _ _=>rfl) (Nat.le_refl _))
end
theorem cell_small {c : TCell} (h : cellE c = 0) : smallCell c:=by
 obtain ⟨o,ch,p⟩:=c
 unfold cellE at h
 unfold smallCell
 dsimp only at h ⊢
 cases o with
 | false =>
  simp only [Bool.false_eq_true,if_false] at h
  split at h
  ·rename_i h1
   obtain ⟨h1,h2,h3⟩:=h1
   rw [h1,h3]
   simp
  ·cases h
 | true =>
  simp only [if_true] at h
  split at h
  ·cases h
  ·split at h
   ·rename_i h1;exact absurd h h1
   ·rename_i h1
    have hc:=(chainE_iff ch).1 (by simpa using h1)
    have hp:=(okPol_iff p).1 h
    exact ⟨⟨by have:=hc.1;omega,fun f hf=>by have:=codeE_len (hc.2 f hf);omega⟩,by have:=hp.len;omega,fun r hr=>by have:=(hp.rules r hr).len;omega⟩
end Go.Proofs.YthkgjohhbdipcaaGreatDoor
