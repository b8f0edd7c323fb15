/- Texts laid one behind the other: DRecover, ConcatIns, CloneIns, CloneChain, Code, Run, Chain, KeepRd, WorldSpec, WorldRd, ConcatRule, CloneRule, ConcatCond, CloneCond. No condition beyond theirs. -/
import Derived.Test.YthkgjohhbdipcaaGreatDoorK7
import Derived.Test.YthkgjohhbdipcaaGreatDoorProg
import Derived.Test.YthkgjohhbdipcaaGreatDoorK2
import Derived.KernelRfl
import Derived.Deep.LoopGhost
import Derived.Test.YthkgjohhbdipcaaGreatDoorK3
import Derived.Test.YthkgjohhbdipcaaGreatDoorK5
import Derived.Test.YthkgjohhbdipcaaGreatDoorK4
import Derived.Test.YthkgjohhbdipcaaGreatDoorK6
set_option linter.all false
namespace Go.Proofs.YthkgjohhbdipcaaGreatDoor
open Go.RowKit
attribute [local go_sem] gives givesUpon
theorem nil_recs (w : World) (D : Nat → Prop) : RdRecs w D (.slice none 0 0) []:=⟨none,0,rfl,Nat.le_refl _,by decide,fun _=>rfl,fun h=>by cases h⟩
theorem gives_append_sl {α : Type} {P : Program} {w : World} {o : Oper} {a : Act} {R' : Value → World → Prop} {R : α → List Value → Prop} {D : Nat → Prop} (s x : Operand) (t : TypeId)
  (ho : o.op = .call { callee:=.builtin .append,args:=#[s,x],argTypes:=#[t,t] }) (base : Nat) (e : TypeId) (i : TypeInfo) (z : Value) (size bytes : Nat) (ht : P.underlying t = some (.slice e)) (hi : P.info? e = some i) (hz : i.zero = some z)
  (hsize : i.size = size) (hby : i.bytes = bytes) (hzs : z.cells.size = size) (hsz : 0 < size)
  (v : Value) (xs : List α) (hs : a.eval s = v) (hown : OwnSl w base e size R v xs)
  (u : Value) (ys : List α) (hx : a.eval x = u) (hu : Sl w D size R u ys) (h1 : ∀ y ∈ ys,∀ cs,R y cs → ∀ c ∈ cs,c.oneCell' = true)
  (h63 : xs.length + ys.length≤maxLen) (hbytes : (xs.length + ys.length) * bytes≤140737488355328) (hbase : base≤w.heap.size)
  (h : ∀ v' w',OwnSl w' base e size R v' (xs ++ ys) → w.grownBy w' v.ownBlock → (v'.ownBlock = v.ownBlock ∨ v'.ownBlock = some w.heap.size) → R' v' w') : gives P o a w R':=by
 obtain ⟨au,cu,rows,hv,hr,hcm,hnone,hcell⟩:=hu.rows
 obtain ⟨rows0,hr0,ho0⟩:=hown
 cases au with
 | none =>
  obtain ⟨hc0,hy⟩:=hnone rfl
  subst hc0 hy
  have hrun:=run_append_owned_none (P:=P) (w:=w) base t o.type e i size ht hi v xs.length rows0.flatten ho0
  unfold gives execOp
  simp only [ho,resolve,invoke,builtin,Sem.run_bind,Sem.run_pure,Result.andThen_ok,List.map_toArray,List.map_cons,List.map_nil,hs,hx,hv,List.length_nil,hrun]
  exact h v w ⟨rows0,by simpa using hr0,by simpa using ho0⟩ ⟨rfl,rfl,rfl,Nat.le_refl _,fun _ _ _=>rfl⟩ (.inl rfl)
 | some ad =>
  obtain ⟨v',w',hrun,h2,h3,_,h5⟩:=run_append_own_at (P:=P) w base t o.type e i z size bytes ht hi hz hsize hby hzs hsz v xs.length rows0.flatten ho0 ad ys.length cu rows.flatten (by rw [flat_len rows hr.size,hr.len]) (hcell ad rfl) (fun c hc=>by
   obtain ⟨r,hrm,hcr⟩:=List.mem_flatten.1 hc
   obtain ⟨k,hk⟩:=List.getElem?_of_mem hrm
   have hkl : k < ys.length:=by rw [← hr.len];exact (List.getElem?_eq_some_iff.1 hk).1
   exact h1 ys[k] (List.getElem_mem hkl) r (hr.rel k _ r (List.getElem?_eq_getElem hkl) hk) c hcr) h63 hbytes hbase
  unfold gives execOp
  simp only [ho,resolve,invoke,builtin,Sem.run_bind,Sem.run_pure,Result.andThen_ok,List.map_toArray,List.map_cons,List.map_nil,hs,hx,hv,hrun]
  exact h v' w' ⟨rows0 ++ rows,hr0.app hr,by simpa using h2⟩ h3 h5
structure RcFin (w0 : World) (β : Nat) (lv : Value) (B : Nat) (L : List UInt8) (rs : List TRec) (v7 v11 : Value) (W : World) : Prop where
 os : W.os = w0.os
 tape : W.tape = w0.tape
 output : W.output = w0.output
 size : w0.heap.size≤W.heap.size
 blk : ∀ k,k < w0.heap.size → k ≠ β → some k ≠ lv.ownBlock → W.heap[k]? = w0.heap[k]?
 box : W.heap[β]? = some (.cells #[v7,.slice none 0 0] 25)
 bytes : RdBytes W (fun b=>w0.heap.size≤b) v7 L
 recs : OwnRecs W B v11 rs
structure RcI (w0 : World) (β : Nat) (lv : Value) (B : Nat) (S Wn : List UInt8) (l m : List TRec) (done : Nat → Bool) (vf : Nat → Value) (W : World) : Prop where
 fr : done 11 = false → done 12 = false → Below w0.heap.size w0 W
 o1 : done 11 = true → done 7 = true
 o2 : done 12 = true → done 11 = true
 c6 : done 6 = true → done 7 = false → Sl W (fun _=>True) 1 (rowsRByte W (fun _=>True)) (vf 6) [S,Wn]
 c7 : done 7 = true → RdBytes W (fun b=>w0.heap.size≤b) (vf 7) (S ++ Wn)
 mid : done 11 = true → done 12 = false → w0.grownBy W lv.ownBlock∧OwnRecs W B (vf 11) (l ++ m)
 fin : done 12 = true → RcFin w0 β lv B (S ++ Wn) (l ++ m) (vf 7) (vf 11) W
section
variable {w0 W W' : World} {β B : Nat} {lv : Value} {S Wn : List UInt8} {l m : List TRec} {done : Nat → Bool} {vf : Nat → Value} {v : Value} {i : Nat}
theorem RcI.start : RcI w0 β lv B S Wn l m (fun _=>false) (fun _=>undef) w0.drew:=⟨fun _ _=>(Below.refl _ _).drew,(fun h=>by cases h),(fun h=>by cases h),(fun h=>by cases h),(fun h=>by cases h),(fun h=>by cases h),(fun h=>by cases h)⟩
theorem RcI.same (h : RcI w0 β lv B S Wn l m done vf W) (h6 : 6 ≠ i) (h7 : 7 ≠ i) (h11 : 11 ≠ i) (h12 : 12 ≠ i) : RcI w0 β lv B S Wn l m (updDone done i) (updVal vf i v) W:=by
 have e6 : updDone done i 6 = done 6:=if_neg h6
 have e7 : updDone done i 7 = done 7:=if_neg h7
 have e11 : updDone done i 11 = done 11:=if_neg h11
 have e12 : updDone done i 12 = done 12:=if_neg h12
 have f6 : updVal vf i v 6 = vf 6:=if_neg h6
 have f7 : updVal vf i v 7 = vf 7:=if_neg h7
 have f11 : updVal vf i v 11 = vf 11:=if_neg h11
 refine ⟨?_,?_,?_,?_,?_,?_,?_⟩ <;> simp only [e6,e7,e11,e12,f6,f7,f11]
 ·exact h.fr
 ·exact h.o1
 ·exact h.o2
 ·exact h.c6
 ·exact h.c7
 ·exact h.mid
 ·exact h.fin
theorem RcI.new6 {x y : Value} (h : RcI w0 β lv B S Wn l m done vf W) (n7 : done 7 = false) (n11 : done 11 = false) (n12 : done 12 = false) (hx : RdBytes W (fun _=>True) x S) (hy : RdBytes W (fun _=>True) y Wn) : RcI w0 β lv B S Wn l m (updDone done 6) (updVal vf 6 (.slice (some ⟨W.heap.size,0,none⟩) 2 2)) (W.alloc (.cells #[x,y] 23)):=by
 have hb : Below W.heap.size W (W.alloc (.cells #[x,y] 23)):=bel_alloc (Below.refl _ _) _
 refine ⟨fun _ _=>bel_call (h.fr n11 n12) hb,?_,?_,fun _ _=>?_,?_,?_,?_⟩
 ·exact fun e=>by simp [updDone,n11] at e
 ·exact fun e=>by simp [updDone,n12] at e
 ·have e : updVal vf 6 (.slice (some ⟨W.heap.size,0,none⟩) 2 2) 6 = .slice (some ⟨W.heap.size,0,none⟩) 2 2:=if_pos rfl
  rw [e]
  exact two_rows (RdBytes.below hx hb) (RdBytes.below hy hb) (heap_last _ _)
 ·exact fun e=>by simp [updDone,n7] at e
 ·exact fun e=>by simp [updDone,n11] at e
 ·exact fun e=>by simp [updDone,n12] at e
theorem RcI.conc7 (h : RcI w0 β lv B S Wn l m done vf W) (n7 : done 7 = false) (n11 : done 11 = false) (n12 : done 12 = false) (hb : Below W.heap.size W W') (ho : OwnB W' W.heap.size v (S ++ Wn)) : RcI w0 β lv B S Wn l m (updDone done 7) (updVal vf 7 v) W':=by
 refine ⟨fun _ _=>bel_call (h.fr n11 n12) hb,?_,?_,?_,fun _=>?_,?_,?_⟩
 ·exact fun _=>by simp [updDone]
 ·exact fun e=>by simp [updDone,n12] at e
 ·exact fun _ e=>by simp [updDone] at e
 ·have e : updVal vf 7 v 7 = v:=if_pos rfl
  rw [e]
  exact (OwnB.read ho).keep (fun b hb' _=>by have h1 : W.heap.size≤b:=hb';have:=(h.fr n11 n12).size;show _≤_;omega) (fun _ _ _=>rfl) (Nat.le_refl _)
 ·exact fun e=>by simp [updDone,n11] at e
 ·exact fun e=>by simp [updDone,n12] at e
theorem RcI.app11 (h : RcI w0 β lv B S Wn l m done vf W) (d7 : done 7 = true) (n11 : done 11 = false) (n12 : done 12 = false) (hlv : (∀ g,lv.ownBlock = some g → g < w0.heap.size)∧∀ g,lv.ownBlock = some g → g ≠ β) (ho : OwnSl W' B 56 5 (recR W (fun b=>B≤b∧lv.ownBlock ≠ some b)) v (l ++ m)) (hg : W.grownBy W' lv.ownBlock) (hat : v.ownBlock = lv.ownBlock ∨ v.ownBlock = some W.heap.size) :
  RcI w0 β lv B S Wn l m (updDone done 11) (updVal vf 11 v) W':=by
 have hb:=h.fr n11 n12
 refine ⟨?_,?_,?_,?_,fun _=>?_,fun _ _=>⟨?_,?_⟩,?_⟩
 ·exact fun e=>by simp [updDone] at e
 ·exact fun _=>by simp [updDone,d7]
 ·exact fun e=>by simp [updDone,n12] at e
 ·exact fun _ e=>by simp [updDone,d7] at e
 ·have e : updVal vf 11 v 7 = vf 7:=if_neg (by decide)
  rw [e]
  exact (h.c7 d7).keep (fun _ hx _=>hx) (fun x hx hl=>hg.block x hl (fun e=>by have h1 : w0.heap.size≤x:=hx;have:=hlv.1 x e.symm;omega)) hg.size
 ·exact ⟨hg.os.trans hb.os,hg.tape.trans hb.tape,hg.output.trans hb.output,Nat.le_trans hb.size hg.size,fun k hk hn=>(hg.block k (Nat.lt_of_lt_of_le hk hb.size) hn).trans (hb.block k hk)⟩
 ·have e : updVal vf 11 v 11 = v:=if_pos rfl
  rw [e]
  exact OwnRecs.app ho hg hat
 ·exact fun e=>by simp [updDone,n12] at e
theorem RcI.box (h : RcI w0 β lv B S Wn l m done vf W) (d11 : done 11 = true) (n12 : done 12 = false) {o : Obj} (hβ : w0.heap[β]? = some o) (hlv : ∀ g,lv.ownBlock = some g → g ≠ β) : W.heap[β]? = some o:=by
 obtain ⟨hg,_⟩:=h.mid d11 n12
 rw [hg.block β (Array.getElem?_eq_some_iff.1 hβ).1 (fun e=>hlv β e.symm rfl)]
 exact hβ
theorem RcI.fin12 (h : RcI w0 β lv B S Wn l m done vf W) (d11 : done 11 = true) (n12 : done 12 = false) {c0 c1 : Value} (hβ : w0.heap[β]? = some (.cells #[c0,c1] 25)) (hlv : (∀ g,lv.ownBlock = some g → g < w0.heap.size)∧∀ g,lv.ownBlock = some g → g ≠ β) (hB : β < B) : RcI w0 β lv B S Wn l m (updDone done 12) (updVal vf 12 v) ((W.setCell ⟨β,0,none⟩ (vf 7)).setCell ⟨β,1,none⟩ (.slice none 0 0)):=by
 obtain ⟨hg,ho⟩:=h.mid d11 n12
 have d7:=h.o1 d11
 have hbx:=h.box d11 n12 hβ hlv.2
 have hβl:=(Array.getElem?_eq_some_iff.1 hβ).1
 have hp : W.grownBy ((W.setCell ⟨β,0,none⟩ (vf 7)).setCell ⟨β,1,none⟩ (.slice none 0 0)) (some β):=puts2_grow _ _
 have e7 : updVal vf 12 v 7 = vf 7:=if_neg (by decide)
 have e11 : updVal vf 12 v 11 = vf 11:=if_neg (by decide)
 have h7 : RdBytes ((W.setCell ⟨β,0,none⟩ (vf 7)).setCell ⟨β,1,none⟩ (.slice none 0 0)) (fun b=>w0.heap.size≤b) (vf 7) (S ++ Wn):=(h.c7 d7).keep (fun _ hx _=>hx) (fun x hx hl=>grow_keep hp hl (by have h1 : w0.heap.size≤x:=hx;omega)) hp.size
 refine ⟨?_,?_,?_,?_,fun _=>by rw [e7];exact h7,?_,fun _=>?_⟩
 ·exact fun _ e=>by simp [updDone] at e
 ·exact fun _=>by simp [updDone,d7]
 ·exact fun _=>by simp [updDone,d11]
 ·exact fun _ e=>by simp [updDone,d7] at e
 ·exact fun _ e=>by simp [updDone] at e
 ·rw [e7,e11]
  refine ⟨hp.os.trans hg.os,hp.tape.trans hg.tape,hp.output.trans hg.output,Nat.le_trans hg.size hp.size,fun k hk hn ho'=>(grow_keep hp (Nat.lt_of_lt_of_le hk hg.size) hn).trans (hg.block k hk ho'),puts2_at _ _ hbx,h7,?_⟩
  refine OwnSl.monoR (OwnSl.keepFrom ho fun b hb' hl=>grow_keep hp hl (by omega)) fun _ _ _ hr=>hr.keep (fun _ hx _=>hx) (fun x hx hl=>grow_keep hp hl (by have h1 : B≤x:=hx.1;omega)) hp.size
end
set_option maxRecDepth 100000 in
set_option maxHeartbeats 16000000 in
theorem drecover_any (u v : Value) (d : TDisk) (D : Nat → Prop) (w : World) (h : RdDisk w D u v d) (hL : Laid w) :
  Calls Tryz.prog 36 #[diskV u v] w fun e w'=>∃ u' v' vl,e = .returned (.tuple #[diskV u' v',vl,.int .i64 (recoverE d).2.2])∧RdDisk w' (fun b=>w.heap.size≤b) u' v' (recoverE d).1∧RdRecs w' (fun b=>w.heap.size≤b) vl (recoverE d).2.1∧Below w.heap.size w w':=by
 have HL:=Lib.hid hL
 have Hd:=Lib.hid (RdDisk.true h)
 obtain ⟨a1,c1,rfl,hc1⟩:=Sl.form h.1
 obtain ⟨a2,c2,rfl,hc2,hc3,hc4⟩:=Sl.form h.2
 clear h hL hc1 hc4
 go_enter Tryz.func36,Tryz.ntmps36
 go_wp2_with fail
 have HB:=Lib.hid (Bx.two (w:=w) (o:=.cells #[.slice a1 d.safe.length c1,.slice a2 d.wait.length c2] 25) (o':=.cells #[.slice none 0 0,.slice none 0 0] 25))
 refine (dcheck_any _ _ d _ _ (RdDisk.below Hd.out HB.out.bel) (HL.out.below HB.out.bel)).mono ?_
 rintro e w1 ⟨rfl,hb1⟩
 have HB1:=Lib.hid (HB.out.below hb1)
 clear hb1 HB
 by_cases h0 : diskE d = 0
 ·have H0:=Lib.hid h0
  have Hsum : Hid (d.safe.length + d.wait.length≤60000):=(diskE_ok h0).1
  rw [h0]
  clear h0
  have hq0:=HB1.out.cells0
  have hcv:=bytes_string (RdBytes.below Hd.out.1 HB1.out.bel)
  go_wp2_with fail
  clear hq0 hcv
  refine (lines_any d.safe 40 _ (HL.out.below HB1.out.bel) (by have:=Hsum.out;omega) (by decide)).mono ?_
  obtain ⟨⟨l,nl,el⟩,hl⟩ : ∃ E,linesOf d.safe 40 = E:=⟨_,rfl⟩
  have Hl:=Lib.hid hl
  have hl40 : l.length≤40:=by have:=(linesOf_spec d.safe 40).2.1;rw [hl] at this;exact this
  rw [hl]
  rintro e w2 ⟨vl,rfl,hol,hb2⟩
  dsimp only at hol
  have HB2:=Lib.hid (HB1.out.below hb2)
  have Hol:=Lib.hid hol
  have Hlt:=Lib.hid (OwnRecs.lt hol)
  have Hb2s : Hid (w1.heap.size≤w2.heap.size):=hb2.size
  obtain ⟨al,cl,rfl⟩:=OwnSl.slice hol
  have hsub : IntKind.i64.wrap (40 - (l.length : Int)) = ((40 - l.length : Nat) : Int):=by rw [show ((40 - l.length : Nat) : Int) = 40 - (l.length : Int) by omega];exact IntWalk.i64_in _ (by omega)
  have hsub2 : 40 - (l.length : Int) = ((40 - l.length : Nat) : Int):=by omega
  have Hw1 : Hid (w.heap.size + 2≤w1.heap.size):=HB1.out.top
  have Hl40:=Lib.hid hl40
  have hq0:=HB2.out.cells0
  have hcv:=bytes_string (RdBytes.below Hd.out.2 HB2.out.bel)
  clear hl hol hb2
  dsimp only
  go_wp2_with fail
  clear hq0 hcv
  refine (lines_any d.wait (40 - l.length) _ (HL.out.below HB2.out.bel) (by have:=Hsum.out;omega) (by omega)).mono ?_
  obtain ⟨⟨m,nw,em⟩,hm⟩ : ∃ E,linesOf d.wait (40 - l.length) = E:=⟨_,rfl⟩
  have Hm:=Lib.hid hm
  have hnw : nw≤d.wait.length:=by
   obtain ⟨_,_,t,h3,h4,_⟩:=linesOf_spec d.wait (40 - l.length)
   rw [hm] at h3 h4
   dsimp only at h3 h4
   have:=congrArg List.length h3
   rw [List.length_append] at this
   omega
  have hm40 : m.length≤40 - l.length:=by have:=(linesOf_spec d.wait (40 - l.length)).2.1;rw [hm] at this;exact this
  rw [hm]
  rintro e w0 ⟨vm,rfl,hom,hb3⟩
  dsimp only at hom
  have HB3:=Lib.hid (HB2.out.below hb3)
  obtain ⟨am,cm,rfl⟩:=OwnSl.slice hom
  have HE : Hid (recoverE d = (⟨d.safe ++ d.wait.take nw,[]⟩,l ++ m,0)):=by
   show _ = _
   unfold recoverE restOf
   rw [if_neg (by rw [H0.out];simp),Hl.out]
   dsimp only
   rw [Hm.out]
  have HO : Hid (OwnRecs w0 w1.heap.size (.slice al l.length cl) l):=OwnRecs.below Hol.out hb3
  have HBB : Hid (w.heap.size + 1 < w1.heap.size):=by show _ < _;have:=Hw1.out;omega
  have HM : Hid (∀ W,Below w0.heap.size w0 W → Sl W (fun b=>w1.heap.size≤b) 5 (recR W (fun b=>w1.heap.size≤b∧(Value.slice al l.length cl).ownBlock ≠ some b)) (.slice am m.length cm) m):=fun W hW=>by
   have h1:=OwnRecs.below hom hW
   refine Sl.mono (OwnSl.sl (D:=fun b=>w2.heap.size≤b) h1 (fun _ hb=>hb)) (fun b hb _=>by have h2 : w2.heap.size≤b:=hb;have:=Hb2s.out;show _≤_;omega) (fun _ _ _=>rfl) (Nat.le_refl _) fun _ _ _ hr=>hr.keep (fun b hb _=>⟨by have:=hb.1;have:=Hb2s.out;omega,fun e=>by have h2:=Hlt.out b e;have:=hb.1;omega⟩) (fun _ _ _=>rfl) (Nat.le_refl _)
  have HOb : Hid ((∀ g,(Value.slice al l.length cl).ownBlock = some g → g < w0.heap.size)∧∀ g,(Value.slice al l.length cl).ownBlock = some g → g ≠ w.heap.size + 1):=⟨fun g hg=>by have:=Hlt.out g hg;have:=hb3.size;omega,fun g hg=>by have:=OwnSl.block Hol.out g hg;have:=Hw1.out;omega⟩
  have Hlm : Hid (l.length + m.length≤40):=by show _≤_;omega
  have HBr : Hid (∀ W,Below w0.heap.size w0 W → ∀ i,W.cell? ⟨w.heap.size,i,none⟩ = (#[.slice a1 d.safe.length c1,.slice a2 d.wait.length c2] : Array Value)[i]?):=fun W hW=>(HB3.out.below hW).cells0
  have HBt : Hid (w0.heap[w.heap.size + 1]? = some (.cells #[.slice none 0 0,.slice none 0 0] 25)):=HB3.out.at_ 1 _ rfl
  have HSB : Hid (∀ W,Below w0.heap.size w0 W → RdBytes W (fun _=>True) (.slice a1 d.safe.length c1) d.safe∧RdBytes W (fun _=>True) (.slice a2 nw c2) (d.wait.take nw)):=fun W hW=>⟨RdBytes.below (RdBytes.below Hd.out.1 HB3.out.bel) hW,Sl.take (RdBytes.below (RdBytes.below Hd.out.2 HB3.out.bel) hW) hnw⟩
  have hn0 : (0 : Int)≤(nw : Int):=by omega
  have hnc : (nw : Int)≤(c2 : Int):=by omega
  have Hsz : Hid (w.heap.size + 2≤w0.heap.size):=HB3.out.top
  have Hs10 : Hid (w1.heap.size≤w0.heap.size):=by show _≤_;have:=hb3.size;have:=Hb2s.out;omega
  have HBw : Hid (Below w.heap.size w w0):=HB3.out.bel
  obtain ⟨i0,hi,hz0,hz1,hz2⟩:=info_parts infoRecL
  have Hi:=Lib.hid hi
  clear hi hm hom hb3 hnw hm40 hl40 hsub hsub2
  dsimp only
  go_wp2_with fail
  refine RV.wp_region_rel (RcI w0 (w.heap.size + 1) (.slice al l.length cl) w1.heap.size d.safe (d.wait.take nw) l m) (fun _ _ _ _=>True) (fun _ _ _ _=>True) (by kernel_rfl) (by kernel_rfl) _ rfl (fun _ _ _ _ _ _ _ _ _ _ _ _=>trivial) (fun _ _ _ _ _ _ _ _=>trivial) RcI.start ?_
  (refine RV.rel_ex (fun K hK=>?_);apply Exists.intro;refine ⟨fun done vf W hI hd0 hd hn hf R hR=>?_,?_,?_⟩;(clear hd0 hd hn hf;go_simp;exact hR _ _ (hI.same (by decide) (by decide) (by decide) (by decide)) trivial rfl trivial);exact (fun _ _ _=>rfl);(go_simp;refine hK _ ?_;clear hK K))
  (refine RV.rel_ex (fun K hK=>?_);apply Exists.intro;refine ⟨fun done vf W hI hd0 hd hn hf R hR=>?_,?_,?_⟩;(have n11 : done 11 = false:=hn 11 (by decide);have n12 : done 12 = false:=hn 12 (by decide);have hqb:=HBr.out W (hI.fr n11 n12);clear hd0 hd hn hf;go_simp;exact hR _ _ (hI.same (by decide) (by decide) (by decide) (by decide)) trivial rfl trivial);exact (fun _ _ _=>rfl);(go_simp;refine hK _ ?_;clear hK K))
  (refine RV.rel_ex (fun K hK=>?_);apply Exists.intro;refine ⟨fun done vf W hI hd0 hd hn hf R hR=>?_,?_,?_⟩;(clear hd0 hd hn hf;go_simp;exact hR _ _ (hI.same (by decide) (by decide) (by decide) (by decide)) trivial rfl trivial);exact (fun _ _ _=>rfl);(go_simp;refine hK _ ?_;clear hK K))
  (refine RV.rel_ex (fun K hK=>?_);apply Exists.intro;refine ⟨fun done vf W hI hd0 hd hn hf R hR=>?_,?_,?_⟩;(have n11 : done 11 = false:=hn 11 (by decide);have n12 : done 12 = false:=hn 12 (by decide);have hqb:=HBr.out W (hI.fr n11 n12);clear hd0 hd hn hf;go_simp;exact hR _ _ (hI.same (by decide) (by decide) (by decide) (by decide)) trivial rfl trivial);exact (fun _ _ _=>rfl);(go_simp;refine hK _ ?_;clear hK K))
  (refine RV.rel_ex (fun K hK=>?_);apply Exists.intro;refine ⟨fun done vf W hI hd0 hd hn hf R hR=>?_,?_,?_⟩;(clear hd0 hd hn hf;go_simp;exact hR _ _ (hI.same (by decide) (by decide) (by decide) (by decide)) trivial rfl trivial);exact (fun _ _ _=>rfl);(go_simp;refine hK _ ?_;clear hK K))
  (refine RV.rel_ex (fun K hK=>?_);apply Exists.intro;refine ⟨fun done vf W hI hd0 hd hn hf R hR=>?_,?_,?_⟩;(clear hd0 hd hn hf;go_simp;exact hR _ _ (hI.same (by decide) (by decide) (by decide) (by decide)) trivial rfl trivial);exact (fun _ _ _=>rfl);(go_simp;refine hK _ ?_;clear hK K))
  (refine RV.rel_pr (fun K hK=>?_);refine ⟨fun done vf W hI hd0 hd hn hf R hR=>?_,?_⟩;(have n11 : done 11 = false:=hn 11 (by decide);have n12 : done 12 = false:=hn 12 (by decide);have n7 : done 7 = false:=hn 7 (by decide);have HNW:=Lib.hid (hI.new6 n7 n11 n12 (HSB.out W (hI.fr n11 n12)).1 (HSB.out W (hI.fr n11 n12)).2);clear hd0 hd hn hf hI;go_simp;exact hR _ _ HNW.out trivial trivial trivial);(go_simp;refine hK _ ?_;clear hK K))
  (refine RV.rel_pr (fun K hK=>?_);refine ⟨fun done vf W hI hd0 hd hn hf R hR=>?_,?_⟩;(have n11 : done 11 = false:=hn 11 (by decide);have n12 : done 12 = false:=hn 12 (by decide);have d6 : done 6 = true:=hd 6 (by decide);have h6:=hI.c6 d6 hd0;obtain ⟨x6,y6,hv6,_⟩:=Sl.form h6;have hv6' : vf 6 = .slice x6 2 y6:=hv6;have H6:=Lib.hid h6;have HI:=Lib.hid hI;rw [hv6'] at H6;clear h6 hv6 hI hd hn hf;go_simp;go_at_call 81;refine (concatByte_any _ [d.safe,d.wait.take nw] _ W H6.out (by have:=Hsum.out;simp [lenTo];omega)).mono ?_;rintro e w9 ⟨v9,rfl,ho9,hb9⟩;rw [show [d.safe,d.wait.take nw].flatten = d.safe ++ d.wait.take nw by simp] at ho9;exact ⟨_,rfl,hR _ _ (HI.out.conc7 hd0 n11 n12 hb9 ho9) trivial trivial trivial⟩);(go_simp;refine hK _ ?_;clear hK K))
  (refine RV.rel_ex (fun K hK=>?_);refine ⟨fun vf=>Value.agg #[vf 7,.slice none 0 0],?_⟩;refine ⟨fun done vf W hI hd0 hd hn hf R hR=>?_,?_,?_⟩;(have d7 : done 7 = true:=hd 7 (by decide);have h7:=hI.c7 d7;obtain ⟨x7,y7,hv7,_⟩:=Sl.form h7;obtain ⟨N,hN⟩ : ∃ N,(d.safe ++ d.wait.take nw).length = N:=⟨_,rfl⟩;rw [hN] at hv7;clear hN;have HI:=Lib.hid hI;clear hI h7;clear hd0 hd hn hf;go_simp;exact hR _ _ (HI.out.same (by decide) (by decide) (by decide) (by decide)) trivial (by show _ = Value.agg #[vf 7,.slice none 0 0];rw [hv7]) trivial);exact (fun f g h=>by show Value.agg #[f 7,.slice none 0 0] = Value.agg #[g 7,.slice none 0 0];rw [h 7 (by decide)]);(go_simp;refine hK _ ?_;clear hK K))
  (refine RV.rel_ex (fun K hK=>?_);apply Exists.intro;refine ⟨fun done vf W hI hd0 hd hn hf R hR=>?_,?_,?_⟩;(clear hd0 hd hn hf;go_simp;exact hR _ _ (hI.same (by decide) (by decide) (by decide) (by decide)) trivial rfl trivial);exact (fun _ _ _=>rfl);(go_simp;refine hK _ ?_;clear hK K))
  (refine RV.rel_ex (fun K hK=>?_);apply Exists.intro;refine ⟨fun done vf W hI hd0 hd hn hf R hR=>?_,?_,?_⟩;(clear hd0 hd hn hf;go_simp;exact hR _ _ (hI.same (by decide) (by decide) (by decide) (by decide)) trivial rfl trivial);exact (fun _ _ _=>rfl);(go_simp;refine hK _ ?_;clear hK K))
  (refine RV.rel_pr (fun K hK=>?_);refine ⟨fun done vf W hI hd0 hd hn hf R hR=>?_,?_⟩;(have d7 : done 7 = true:=hd 7 (by decide);have n12 : done 12 = false:=hn 12 (by decide);have hfr:=hI.fr hd0 n12;have hO:=OwnRecs.below HO.out hfr;have hM : Sl W (fun b=>w1.heap.size≤b) 5 (recR W (fun b=>w1.heap.size≤b∧(Value.slice al l.length cl).ownBlock ≠ some b)) (.slice am m.length cm) m:=(HM.out W hfr);refine ob_plain rfl ?_;refine gives_append_sl (.tmp 46) (.tmp 47) 68 rfl w1.heap.size 56 i0 _ 5 56 Tryz.underlying68 Hi.out hz0 hz1 hz2 rfl (by decide) (.slice al l.length cl) l (by rfl) hO (.slice am m.length cm) m (by rfl) hM (fun y _ cs h=>recR_one y cs h) (by have:=Hlm.out;unfold maxLen;omega) (by have:=Hlm.out;omega) (by have:=hfr.size;have:=Hs10.out;omega) (fun v' w' h1 h2 h3=>hR _ _ (hI.app11 d7 hd0 n12 HOb.out h1 h2 h3) trivial trivial trivial));(go_simp;refine hK _ ?_;clear hK K))
  (refine RV.rel_pr (fun K hK=>?_);refine ⟨fun done vf W hI hd0 hd hn hf R hR=>?_,?_⟩;(have d11 : done 11 = true:=hd 11 (by decide);have d7:=hI.o1 d11;have h7:=hI.c7 d7;obtain ⟨x7,y7,hv7,_⟩:=Sl.form h7;obtain ⟨N,hN⟩ : ∃ N,(d.safe ++ d.wait.take nw).length = N:=⟨_,rfl⟩;rw [hN] at hv7;clear hN h7;have hbt:=hI.box d11 hd0 HBt.out HOb.out.2;have hqt:=cells_of hbt;have hft:=not_frozen hbt;have hF:=hI.fin12 (v:=undef) d11 hd0 HBt.out HOb.out HBB.out;rw [hv7] at hF;have HF:=Lib.hid hF;clear hd0 hd hn hf hF hI hbt;go_simp;exact hR _ _ HF.out trivial trivial trivial);(go_simp;refine hK _ ?_;clear hK K))
  (refine RV.rel_ex (fun K hK=>?_);apply Exists.intro;refine ⟨fun done vf W hI hd0 hd hn hf R hR=>?_,?_,?_⟩;(have HI:=Lib.hid hI;clear hI;clear hd0 hd hn hf;go_simp;exact hR _ _ (HI.out.same (by decide) (by decide) (by decide) (by decide)) trivial rfl trivial);exact (fun f g h=>h 11 (by decide));(go_simp;refine hK _ ?_;clear hK K))
  (refine RV.rel_ex (fun K hK=>?_);apply Exists.intro;refine ⟨fun done vf W hI hd0 hd hn hf R hR=>?_,?_,?_⟩;(clear hd0 hd hn hf;go_simp;exact hR _ _ (hI.same (by decide) (by decide) (by decide) (by decide)) trivial rfl trivial);exact (fun _ _ _=>rfl);(go_simp;refine hK _ ?_;clear hK K))
  intro done vf w5 hdone hI _
  have hF:=hI.fin (hdone 12 (by decide))
  clear hdone hI
  obtain ⟨v7,h7⟩ : ∃ v,vf 7 = v:=⟨_,rfl⟩
  obtain ⟨v11,h11⟩ : ∃ v,vf 11 = v:=⟨_,rfl⟩
  rw [h7,h11] at hF
  obtain ⟨x7,y7,rfl,_⟩:=Sl.form hF.bytes
  obtain ⟨x11,y11,rfl⟩:=OwnSl.slice hF.recs
  have hqb:=cells_of hF.box
  have HF:=Lib.hid hF
  have HBL : Hid (Below w.heap.size w w5):=⟨hF.os.trans HBw.out.os,hF.tape.trans HBw.out.tape,hF.output.trans HBw.out.output,Nat.le_trans HBw.out.size hF.size,fun k hk=>by
   rw [hF.blk k (Nat.lt_of_lt_of_le hk HBw.out.size) (by omega) (fun e=>by have h1:=OwnSl.block HO.out k e.symm;have:=Hw1.out;omega)]
   exact HBw.out.block k hk⟩
  have HRD : Hid (RdDisk w5 (fun b=>w.heap.size≤b) (.slice x7 (d.safe ++ d.wait.take nw).length y7) (.slice none 0 0) ⟨d.safe ++ d.wait.take nw,[]⟩):=⟨hF.bytes.keep (fun b hb _=>by have h1 : w0.heap.size≤b:=hb;have:=Hsz.out;show _≤_;omega) (fun _ _ _=>rfl) (Nat.le_refl _),nil_bytes _ _⟩
  have HRC : Hid (RdRecs w5 (fun b=>w.heap.size≤b) (.slice x11 (l ++ m).length y11) (l ++ m)):=(OwnRecs.read hF.recs).keep (fun b hb _=>by have h1 : w1.heap.size≤b:=hb;have:=Hw1.out;show _≤_;omega) (fun _ _ _=>rfl) (Nat.le_refl _)
  obtain ⟨N7,hN7⟩ : ∃ N,(d.safe ++ d.wait.take nw).length = N:=⟨_,rfl⟩
  obtain ⟨N11,hN11⟩ : ∃ N,(l ++ m).length = N:=⟨_,rfl⟩
  rw [hN7] at HRD hqb h7
  rw [hN11] at HRC h11
  clear hF hN7 hN11 HF
  dsimp only
  go_wp2
  refine bodyPost_ret (v:=.tuple #[diskV (.slice x7 N7 y7) (.slice none 0 0),.slice x11 N11 y11,.int .i64 0]) ?_ rfl (by rw [HE.out];exact ⟨_,_,_,rfl,HRD.out,HRC.out,HBL.out⟩)
  simp [results,Tryz.results36,go_sem,hqb,h11]
 ·have HE : Hid (recoverE d = (zeroDisk,[],diskE d)):=by show _ = _;unfold recoverE;rw [if_pos h0]
  have hne : (diskE d != 0) = true:=bne_iff_ne.2 h0
  generalize diskE d = E at *
  clear h0
  have hq1:=HB1.out.cells1
  have hf1:=HB1.out.free1
  have HS:=Lib.hid ((HB1.out.set (i:=1) rfl 0 (.slice none 0 0)).set (i:=1) rfl 1 (.slice none 0 0))
  have hqs:=HS.out.cells1
  have HBL:=Lib.hid HS.out.bel
  clear HS
  go_wp2
  refine bodyPost_ret (v:=.tuple #[diskV (.slice none 0 0) (.slice none 0 0),.slice none 0 0,.int .i64 E]) ?_ rfl (by rw [HE.out];exact ⟨_,_,_,rfl,nil_disk _ _,nil_recs _ _,HBL.out⟩)
  simp [results,Tryz.results36,go_sem,hqs]
end Go.Proofs.YthkgjohhbdipcaaGreatDoor
namespace Go.Proofs.YthkgjohhbdipcaaGreatDoor
open Go.RowKit
theorem infoIns : (Tryz.prog.info? 141).map (fun i=>(i.zero,i.size,i.bytes)) = some (some (.agg #[.int .i64 0,.int .i64 0,.int .i64 0,.int .i64 0]),4,32):=by kernel_rfl
set_option maxHeartbeats 1000000 in
theorem growIns_nil (n : Nat) (w : World) (hn : n * 32≤140737488355328) : Calls Tryz.prog 223 #[.slice none 0 0,.int .i64 n] w fun e w'=>∃ v,e = .returned v∧OwnSl w' w.heap.size 141 4 insR v ([] : List TIns)∧Below w.heap.size w w':=by
 by_cases h0 : n = 0
 ·subst h0
  go_enter Tryz.func223,Tryz.ntmps223
  go_wp2
  go_ret
  exact ⟨_,rfl,OwnSl.nil,Below.refl _ _⟩
 ·obtain ⟨i0,hi,hz0,hz1,hz2⟩:=info_parts infoIns
  have hrun:=fun (W : World) (ty : TypeId)=>Lib.run_append_nil_zeros (P:=Tryz.prog) W 98 3 ty 141 i0 (.agg #[.int .i64 0,.int .i64 0,.int .i64 0,.int .i64 0]) .i64 .i64 Tryz.underlying98 Tryz.underlying3 hi hz0 n (by omega) (by rw [hz1];omega) (by omega) (by rw [hz2];omega)
  have hgc : ∀ W : World,grownCap W n 0 141≤maxLen:=fun W=>grownCap_le_maxLen W n 0 141 (by unfold maxLen;omega)
  have h1 : 0 < (n : Int):=by omega
  have h2 : (n : Int)≤9223372036854775807:=by omega
  have Hrun:=Lib.hid hrun
  have Hz:=Lib.hid hz1
  clear hrun hi hz0 hz1 hz2 h0 hn
  go_enter Tryz.func223,Tryz.ntmps223
  go_wp2_with (at_builtin;refine Lib.wpList_append_run _ rfl _ _ _ _ rfl _ _ rfl rfl _ _ (Hrun.out _ _) ?_)
  go_ret
  refine ⟨_,rfl,⟨[],RowsOf.nil,by simp,.inr ⟨w.heap.size,grownCap w n 0 141,_,rfl,Nat.le_refl _,blk_at rfl,by simp,hgc w,?_,by simp⟩⟩,(bel_alloc (Below.refl _ _) _).drew⟩
  have hge:=grownCap_ge w n 0 141
  simp [size_zeroCells]
  omega
theorem oneIns (y : TIns) (cs : List Value) (h : insR y cs) : ∀ c ∈ cs,c.oneCell' = true:=by
 unfold insR at h;subst h;simp [Value.oneCell']
def rowsRIns (w : World) (D : Nat → Prop) (l : List TIns) (cs : List Value) : Prop:=∃ u,cs = [u]∧Sl w D 4 insR u l
set_option maxRecDepth 100000 in
set_option maxHeartbeats 2000000 in
theorem concatIns_any (v : Value) (ls : List (List TIns)) (D : Nat → Prop) (w : World) (h : Sl w D 1 (rowsRIns w D) v ls) (hn : lenTo ls ls.length * 32≤140737488355328) :
  Calls Tryz.prog 215 #[v] w fun e w'=>∃ v',e = .returned v'∧OwnSl w' w.heap.size 141 4 insR v' ls.flatten∧Below w.heap.size w w':=by
 obtain ⟨a,c,rfl,hlc,hcm,hat⟩:=Sl.form h
 obtain ⟨i0,hi,hz0,hz1,hz2⟩:=info_parts infoIns
 have H:=Lib.hid h
 clear h
 have hrow : ∀ k (hk : k < ls.length) b o,a = some ⟨b,o,none⟩ → ∃ (u : Value) (cu : Option Addr × Nat),u = Value.slice cu.1 ls[k].length cu.2∧Sl w D 4 insR u ls[k]∧∀ wr,Below w.heap.size w wr → wr.cell? ⟨b,o + k,none⟩ = some u:=fun k hk b o e=>by
  subst e
  obtain ⟨cs,hcs,⟨u,hu,hs⟩,hcell⟩:=Sl.get H.out hk
  obtain ⟨a',c',hv,_⟩:=Sl.form hs
  refine ⟨u,(a',c'),hv,hs,fun wr hb=>?_⟩
  subst hu
  have hc:=hcell 0 u rfl
  rw [Nat.mul_one] at hc
  exact (hb.cell (p:=⟨b,o + k,none⟩) (World.block_lt_of_cell? _ _ hc)).trans hc
 have Hrow:=Lib.hid hrow
 have Hn:=Lib.hid hn
 have hn' : lenTo ls ls.length≤140737488355328:=by omega
 clear hrow hn
 go_enter Tryz.func215,Tryz.ntmps215
 go_wp2_with fail
 go_loop [3,11] (fun s i=>∃ k : Nat,k≤ls.length∧i = .int .i64 k∧s = .int .i64 (lenTo ls k)) (fun _ i=>ls.length - (intOf i).toNat)
 case atStart=>exact ⟨0,by omega,rfl,rfl⟩
 case round =>
  obtain ⟨k,hk,rfl,rfl⟩:=hrel
  by_cases hlt : k < ls.length
  ·obtain ⟨b,o,rfl,hDb,hb⟩:=hat (by omega)
   obtain ⟨u,⟨a',c'⟩,rfl,hs,hc⟩:=Hrow.out k hlt b o rfl
   have hcw:=hc w (Below.refl _ _)
   have hle:=lenTo_le ls (k + 1) (by omega)
   have Hs:=Lib.hid (lenTo_succ ls k hlt)
   have hle' : lenTo ls k + ls[k].length≤140737488355328:=by have:=Hs.out;omega
   clear hs hc
   go_wp2
   go_round
   case rel=>exact ⟨k + 1,by omega,by go_num,by rw [Hs.out];go_num⟩
   case measure=>simp [intOf];omega
  ·obtain rfl : k = ls.length:=by omega
   go_wp2_with fail
   refine (growIns_nil (lenTo ls ls.length) _ Hn.out).mono ?_
   rintro e w1 ⟨vg,rfl,hown,hb1⟩
   go_wp2_with fail
   go_loopw [6,27] (fun s i wr=>∃ (k : Nat) (vs : Value),k≤ls.length∧i = .int .i64 k∧vs = s∧OwnSl wr w.heap.size 141 4 insR vs (ls.take k).flatten∧Below w.heap.size w wr) (fun _ i _=>ls.length - (intOf i).toNat)
   case atStart=>exact ⟨0,vg,by omega,rfl,rfl,by simpa using hown,hb1⟩
   case round =>
    obtain ⟨k,vs,hk,rfl,rfl,hown,hbw⟩:=hrel
    have Hown:=Lib.hid hown
    have hsz:=hbw.size
    clear hown
    by_cases hlt : k < ls.length
    ·obtain ⟨b,o,rfl,hDb,hb⟩:=hat (by omega)
     obtain ⟨u,⟨a',c'⟩,rfl,hs,hc⟩:=Hrow.out k hlt b o rfl
     have hcw:=hc wr hbw
     have hle:=lenTo_le ls (k + 1) (by omega)
     have Hl:=Lib.hid (lenTo_succ ls k hlt)
     have hs' : Sl wr D 4 insR (.slice a' ls[k].length c') ls[k]:=Sl.mono hs (fun _ h _=>h) (fun b _ hlt=>hbw.block b hlt) hbw.size (fun _ _ _ h=>h)
     have Hs':=Lib.hid hs'
     have Hs:=Lib.hid (flat_take_succ ls k hlt)
     clear hs hc hs'
     go_wp2_with (at_builtin;refine wpList_app rfl _ _ 98 rfl w.heap.size 141 i0 _ 4 32 Tryz.underlying98 hi hz0 hz1 hz2 rfl (by decide) _ _ rfl Hown.out _ _ rfl Hs'.out (fun y _ cs h=>oneIns y cs h) (by have:=Hl.out;unfold lenTo at *;unfold maxLen;omega) (by have:=Hn.out;have:=Hl.out;unfold lenTo at *;omega) hsz ?_;intro v' w2 hown' hg)
     go_roundw
     case rel=>exact ⟨k + 1,v',by omega,by go_num,rfl,by rw [← flat_take_succ ls k hlt];exact hown',Hown.out.grown hbw hg hsz (Nat.le_refl _)⟩
     case measure=>simp [intOf];omega
    ·obtain rfl : k = ls.length:=by omega
     have Hf : Hid (OwnSl wr w.heap.size 141 4 insR vs ls.flatten):=by have:=Hown.out;rwa [List.take_length] at this
     go_wp2
     go_ret
     exact ⟨_,rfl,Hf.out,hbw⟩
end Go.Proofs.YthkgjohhbdipcaaGreatDoor
namespace Go.Proofs.YthkgjohhbdipcaaGreatDoor
open Go.RowKit
set_option maxRecDepth 100000 in
set_option maxHeartbeats 1000000 in
theorem cloneIns_any {α : Type} (R : α → List Value → Prop) (h1R : ∀ (y : α) (cs : List Value),R y cs → ∀ c ∈ cs,c.oneCell' = true) (v : Value) (xs : List α) (D : Nat → Prop) (w : World) (h : Sl w D 4 R v xs) (hn : xs.length * 32≤140737488355328) :
  Calls Tryz.prog 154 #[v] w fun e w'=>∃ v',e = .returned v'∧OwnSl w' w.heap.size 141 4 R v' xs∧Below w.heap.size w w':=by
 obtain ⟨i0,hi,hz0,hz1,hz2⟩:=info_parts infoIns
 have H:=Lib.hid h
 obtain ⟨a,c,rfl,hlc,hcm,hnil,hat⟩:=h
 have Hi:=Lib.hid hi
 clear hi
 cases a with
 | none =>
  have hc:=hnil rfl
  subst hc
  have hx : xs = []:=List.length_eq_zero_iff.1 (by omega)
  subst hx
  have hq:=fun (a : Option Addr) (n c : Nat) (W : World)=>Lib.run_eql_slice_nil (P:=Tryz.prog) W 98 141 a n c 0 0 Tryz.underlying98
  go_enter Tryz.func154,Tryz.ntmps154
  go_wp2
  go_ret
  exact ⟨_,rfl,OwnSl.nil,Below.refl _ _⟩
 | some ad =>
  have H2:=Lib.hid (H.out.belowR (bel_alloc (Below.refl _ w) (.cells #[] 141)) (fun _ _ _ h=>h))
  have Hown : Hid (OwnSl (w.alloc (.cells #[] 141)) w.heap.size 141 4 R (.slice (some ⟨w.heap.size,0,none⟩) 0 0) ([] : List α)) :=
   ⟨[],RowsOf.nil,by simp,.inr ⟨w.heap.size,0,#[],rfl,Nat.le_refl _,heap_last _ _,by simp,by simp,by simp,by simp⟩⟩
  clear hat hnil
  have hq:=fun (a : Option Addr) (n c : Nat) (W : World)=>Lib.run_eql_slice_nil (P:=Tryz.prog) W 98 141 a n c 0 0 Tryz.underlying98
  go_enter Tryz.func154,Tryz.ntmps154
  go_wp2_with (at_builtin;refine wpList_app rfl _ _ 98 rfl w.heap.size 141 i0 _ 4 32 Tryz.underlying98 Hi.out hz0 hz1 hz2 rfl (by decide) _ _ rfl Hown.out _ _ rfl H2.out (fun y _ cs h=>h1R y cs h) (by show 0 + _≤maxLen;unfold maxLen;omega) (by show (0 + _) * 32≤_;omega) (by simp) ?_;intro v' w3 hown' hg)
  go_ret
  exact ⟨_,rfl,hown',Hown.out.grown (bel_alloc (Below.refl _ _) _) hg (by simp) (Nat.le_refl _)⟩
end Go.Proofs.YthkgjohhbdipcaaGreatDoor
namespace Go.Proofs.YthkgjohhbdipcaaGreatDoor
open Go.RowKit
theorem infocChain : (Tryz.prog.info? 98).map (fun i=>(i.zero,i.size,i.bytes)) = some (some (.slice none 0 0),1,24):=by kernel_rfl
set_option maxRecDepth 100000 in
set_option maxHeartbeats 1000000 in
theorem cloneChain_any {α : Type} (R : α → List Value → Prop) (h1R : ∀ (y : α) (cs : List Value),R y cs → ∀ c ∈ cs,c.oneCell' = true) (v : Value) (xs : List α) (D : Nat → Prop) (w : World) (h : Sl w D 1 R v xs) (hn : xs.length * 24≤140737488355328) :
  Calls Tryz.prog 153 #[v] w fun e w'=>∃ v',e = .returned v'∧OwnSl w' w.heap.size 98 1 R v' xs∧Below w.heap.size w w':=by
 obtain ⟨i0,hi,hz0,hz1,hz2⟩:=info_parts infocChain
 have H:=Lib.hid h
 obtain ⟨a,c,rfl,hlc,hcm,hnil,hat⟩:=h
 have Hi:=Lib.hid hi
 clear hi
 cases a with
 | none =>
  have hc:=hnil rfl
  subst hc
  have hx : xs = []:=List.length_eq_zero_iff.1 (by omega)
  subst hx
  have hq:=fun (a : Option Addr) (n c : Nat) (W : World)=>Lib.run_eql_slice_nil (P:=Tryz.prog) W 50 98 a n c 0 0 Tryz.underlying50
  go_enter Tryz.func153,Tryz.ntmps153
  go_wp2
  go_ret
  exact ⟨_,rfl,OwnSl.nil,Below.refl _ _⟩
 | some ad =>
  have H2:=Lib.hid (H.out.belowR (bel_alloc (Below.refl _ w) (.cells #[] 98)) (fun _ _ _ h=>h))
  have Hown : Hid (OwnSl (w.alloc (.cells #[] 98)) w.heap.size 98 1 R (.slice (some ⟨w.heap.size,0,none⟩) 0 0) ([] : List α)) :=
   ⟨[],RowsOf.nil,by simp,.inr ⟨w.heap.size,0,#[],rfl,Nat.le_refl _,heap_last _ _,by simp,by simp,by simp,by simp⟩⟩
  clear hat hnil
  have hq:=fun (a : Option Addr) (n c : Nat) (W : World)=>Lib.run_eql_slice_nil (P:=Tryz.prog) W 50 98 a n c 0 0 Tryz.underlying50
  go_enter Tryz.func153,Tryz.ntmps153
  go_wp2_with (at_builtin;refine wpList_app rfl _ _ 50 rfl w.heap.size 98 i0 _ 1 24 Tryz.underlying50 Hi.out hz0 hz1 hz2 rfl (by decide) _ _ rfl Hown.out _ _ rfl H2.out (fun y _ cs h=>h1R y cs h) (by show 0 + _≤maxLen;unfold maxLen;omega) (by show (0 + _) * 24≤_;omega) (by simp) ?_;intro v' w3 hown' hg)
  go_ret
  exact ⟨_,rfl,hown',Hown.out.grown (bel_alloc (Below.refl _ _) _) hg (by simp) (Nat.le_refl _)⟩
end Go.Proofs.YthkgjohhbdipcaaGreatDoor
namespace Go.Proofs.YthkgjohhbdipcaaGreatDoor
open Go.RowKit
set_option maxHeartbeats 4000000 in
theorem ins_any (k a b c n : Int) (w : World) : Calls Tryz.prog 161 #[.agg #[.int .i64 k,.int .i64 a,.int .i64 b,.int .i64 c],.int .i64 n] w fun e w'=>e = .returned (.int .i64 (insE ⟨k,a,b,c⟩ n))∧Below w.heap.size w w':=by
 go_enter Tryz.func161,Tryz.ntmps161
 go_wp2
 all_goals go_ret
 all_goals (refine ⟨ret_int ?_,(Below.refl _ _).alloc (Nat.le_refl _) _⟩)
 all_goals (simp only [beq_iff_eq,bne_iff_ne,beq_eq_false_iff_ne,bne_eq_false_iff_eq] at *)
 all_goals (simp [insE])
 all_goals ((repeat' split) <;> first | rfl | omega)
set_option maxHeartbeats 1000000 in
theorem codecheck_any (v : Value) (l : List TIns) (D : Nat → Prop) (w : World) (h : RdCode w D v l) : Calls Tryz.prog 134 #[v] w fun e w'=>e = .returned (.int .i64 (codeE l))∧Below w.heap.size w w':=by
 obtain ⟨a,c,rfl,hlc,hcm,hat⟩:=Sl.form h
 have H:=Lib.hid h
 clear h
 by_cases h0 : l.length = 0
 ·have b0 : ((l.length : Int) == 0) = true:=by simp [h0]
  have hs : codeE l = 2:=by simp [codeE,h0]
  rw [hs];clear hs hat H h0
  go_enter Tryz.func134,Tryz.ntmps134
  go_wp2
  go_ret
  exact ⟨rfl,Below.refl _ _⟩
 ·by_cases h1 : 1500 < l.length
  ·have b0 : ((l.length : Int) == 0) = false:=beq_eq_false_iff_ne.2 (by omega)
   have hs : codeE l = 2:=by simp [codeE,h1]
   rw [hs];clear hs hat H
   go_enter Tryz.func134,Tryz.ntmps134
   go_wp2
   go_ret
   exact ⟨rfl,Below.refl _ _⟩
  ·obtain ⟨b,o,rfl,hDb,hb⟩:=hat (by omega)
   have b0 : ((l.length : Int) == 0) = false:=beq_eq_false_iff_ne.2 (by omega)
   have b1 : ¬ (1500 < (l.length : Int)):=by omega
   have hE:=Lib.hid (show codeE l = if codeGo l ≠ 0 then codeGo l else if lastK l = 4 then 0 else 4 from if_neg (by omega))
   clear hat
   go_enter Tryz.func134,Tryz.ntmps134
   go_wp2_with fail
   go_loopw [16] (fun i wr=>∃ k : Nat,k≤l.length∧i = .int .i64 k∧codeGo l = codeGo (l.drop k)∧Below w.heap.size w wr) (fun i _=>l.length - (intOf i).toNat)
   case atStart=>exact ⟨0,by omega,rfl,rfl,Below.refl _ _⟩
   case round =>
    obtain ⟨k,hk,rfl,hgo,hbw⟩:=hrel
    have Hgo:=Lib.hid hgo
    clear hgo
    by_cases hlt : k < l.length
    ·obtain ⟨c0,c1,c2,c3⟩:=RdCode.cells (RdCode.below H.out hbw) hlt
     have Hd:=Lib.hid (codeGo_drop l k hlt)
     have hsz:=hbw.size
     go_wp2_with (go_at_call 161;refine (ins_any _ _ _ _ _ _).mono ?_;rintro e w1 ⟨rfl,hb1⟩)
     ·rename_i ht
      have ht':=bne_iff_ne.1 ht
      go_ret
      refine ⟨ret_int ?_,bel_alloc_call hbw hb1⟩
      rw [hE.out,Hgo.out,Hd.out]
      simp only [ht',if_false,ne_eq,not_false_eq_true,if_true]
     ·rename_i ht
      have ht':=bne_eq_false_iff_eq.1 ht
      go_roundw
      case rel=>exact ⟨k + 1,by omega,by go_num,by rw [Hgo.out,Hd.out,if_pos ht'],bel_alloc_call hbw hb1⟩
      case measure=>simp [intOf];omega
    ·obtain rfl : k = l.length:=by omega
     have hz : codeGo l = 0:=by rw [Hgo.out,List.drop_length];rfl
     have Hz:=Lib.hid hz
     have hl1 : l.length - 1 < l.length:=by omega
     obtain ⟨c0,_,_,_⟩:=RdCode.cells (RdCode.below H.out hbw) hl1
     have Hl:=Lib.hid (lastK_eq l (by omega))
     clear hz
     by_cases h4 : l[l.length - 1].k = 4
     ·rw [h4] at c0
      have Hf:=Lib.hid (show codeE l = 0 by rw [hE.out,Hz.out,Hl.out,h4];simp)
      clear h4
      go_wp2
      go_ret
      exact ⟨ret_int Hf.out.symm,hbw⟩
     ·have b4 : (l[l.length - 1].k != 4) = true:=bne_iff_ne.2 h4
      have Hf:=Lib.hid (show codeE l = 4 by rw [hE.out,Hz.out,Hl.out,if_neg h4];simp)
      clear h4
      go_wp2
      go_ret
      exact ⟨ret_int Hf.out.symm,hbw⟩
end Go.Proofs.YthkgjohhbdipcaaGreatDoor
namespace Go.Proofs.YthkgjohhbdipcaaGreatDoor
open Go.RowKit
attribute [local go_sem] gives givesUpon
def RunAt (x : TCall) (l : List TIns) (k : Nat) (n : Int) (d : Nat) : Prop:=∃ f,(l.drop k).length≤f∧run l x = runGo x f (l.drop k) n d
theorem RunAt.start (x : TCall) (l : List TIns) : RunAt x l 0 0 0:=⟨l.length,by simp,rfl⟩
theorem RunAt.ret {x : TCall} {l : List TIns} {k : Nat} {n : Int} {d : Nat} (h : RunAt x l k n d) (hk : k < l.length) (h4 : l[k].k = 4) : run l x = (l[k].a,d + 1):=by
 obtain ⟨f,hf,hr⟩:=h
 rw [hr,runGo_ret x f l n d k hk hf h4]
theorem RunAt.load {x : TCall} {l : List TIns} {k : Nat} {n : Int} {d : Nat} (h : RunAt x l k n d) (hk : k < l.length) (h1 : l[k].k = 1) : RunAt x l (k + 1) (x.get l[k].a) (d + 1):=by
 obtain ⟨f,hf,hr⟩:=h
 obtain ⟨f',hf',hs⟩:=runGo_step x f l n d k hk hf (by omega)
 exact ⟨f',hf',by rw [hr,hs,if_pos h1]⟩
theorem RunAt.jump {x : TCall} {l : List TIns} {k : Nat} {n : Int} {d : Nat} (h : RunAt x l k n d) (hk : k < l.length) (h1 : l[k].k = 2 ∨ l[k].k = 3) : RunAt x l (k + 1 + insNext l[k] n) n (d + 1):=by
 obtain ⟨f,hf,hr⟩:=h
 obtain ⟨f',hf',hs⟩:=runGo_step x f l n d k hk hf (by omega)
 exact ⟨f',by simp at hf' ⊢;omega,by rw [hr,hs,if_neg (by omega)]⟩
set_option maxHeartbeats 2000000 in
theorem run_ok (v : Value) (l : List TIns) (x : TCall) (D : Nat → Prop) (w : World) (h : RdCode w D v l) (hc : codeE l = 0) (hx : x.ok) :
  Calls Tryz.prog 97 #[v,callV x] w fun e w'=>e = .returned (.tuple #[.int .i64 (run l x).1,.int .i64 (run l x).2,.int .i64 0])∧Below w.heap.size w w':=by
 obtain ⟨hR,hl⟩:=right_of hc
 have hpos : 0 < l.length:=List.length_pos_iff.2 hR.ne
 obtain ⟨a,c,rfl,hlc,hcm,hat⟩:=Sl.form h
 obtain ⟨b,o,rfl,hDb,hb⟩:=hat hpos
 have H:=Lib.hid h
 have HR:=Lib.hid hR
 have Hc:=Lib.hid hc
 have Hx:=Lib.hid hx
 have hxe : Hid (callE x = 0):=if_pos hx
 clear h hR hc hx hat
 go_enter Tryz.func97,Tryz.ntmps97
 go_wp2_with (first
  | (go_at_call 134;refine (codecheck_any _ _ _ _ (RdCode.below H.out (bel_alloc (Below.refl _ _) _))).mono ?_;rw [Hc.out];rintro e w1 ⟨rfl,hb1⟩;have hb1' : Below (w.heap.size + 1) _ w1:=hb1.mono (by simp);have hcell:=box_cells hb1';clear hb1)
  | (go_at_call 96;refine (callcheck_any x _).mono ?_;rw [hxe.out];rintro e w2 ⟨rfl,hb2⟩;have hb2':=hb1'.trans (hb2.mono (size_box hb1'));clear hb2 hb1' hcell))
 go_loopw [9,10,11] (fun n d at_ wr=>∃ (k dn : Nat) (nn : Int),k < l.length∧dn≤k∧n = .int .i64 nn∧d = .int .i64 dn∧at_ = .int .i64 k∧RunAt x l k nn dn∧Below (w.heap.size + 1) (w.alloc (.cells #[.int .i64 x.a0,.int .i64 x.a1,.int .i64 x.a2,.int .i64 x.a3,.int .i64 x.a4] 46)) wr) (fun _ _ i _=>l.length - (intOf i).toNat)
 case atStart=>exact ⟨0,0,0,hpos,by omega,rfl,rfl,rfl,RunAt.start x l,hb2'⟩
 case round =>
  obtain ⟨k,dn,nn,hk,hdn,rfl,rfl,rfl,hrun,hbx⟩:=hrel
  have Hrun:=Lib.hid hrun
  have hsz:=size_box hbx
  obtain ⟨c0,c1,c2,c3⟩:=RdCode.cells (RdCode.below H.out (bel_box hbx)) hk
  have hcell:=box_cells hbx
  have hfrz : True:=trivial
  obtain ⟨hi,hn4⟩:=HR.out.at_ hk
  have Hn4:=Lib.hid hn4
  clear hrun hn4 hb2'
  rcases insE_cases hi with ⟨h4,h5,h6,h7,h8⟩ | ⟨h1,h5,h6,h7,h8⟩ | ⟨h23,h5,h6,h7,h8,h9,h10⟩
  ·rw [h4] at c0
   have Hr:=Lib.hid (Hrun.out.ret hk h4)
   clear hi h4 h5 h6 h7 h8
   go_wp2
   go_ret3
   exact ⟨by rw [Hr.out];simp,bel_alloc (bel_box hbx) _⟩
  ·obtain ⟨m,hm⟩:=Int.eq_ofNat_of_zero_le h5
   have Hn:=Lib.hid (Hrun.out.load hk h1)
   have hk1:=Hn4.out (by omega)
   rw [h1] at c0
   rw [hm] at c1 Hn
   have hm5 : m < 5:=by omega
   have hcm:=hcell m
   rw [cell5 x m hm5] at hcm
   have hcm' : ∀ o,(wr.alloc o).cell? ⟨w.heap.size,m,none⟩ = some (.int .i64 (x.get m)):=fun o=>(World.cell?_alloc_lt wr o ⟨w.heap.size,m,none⟩ (show w.heap.size < wr.heap.size by omega)).trans hcm
   clear hi h1 h5 h6 h7 h8 hm hcell Hrun
   go_wp2
   go_roundw
   case rel=>exact ⟨k + 1,dn + 1,_,hk1,by omega,rfl,by go_num,by go_num,Hn.out,hbx.trans ((Below.refl _ _).alloc (size_box hbx) _)⟩
   case measure=>simp [intOf];omega
  ·obtain ⟨mb,hmb⟩:=Int.eq_ofNat_of_zero_le h7
   obtain ⟨mc,hmc⟩:=Int.eq_ofNat_of_zero_le h9
   have Hn:=Lib.hid (Hrun.out.jump hk h23)
   rw [hmb] at c2
   rw [hmc] at c3
   have hx : Hid (insNext l[k] nn = if (l[k].k = 2∧nn = l[k].a) ∨ (l[k].k = 3∧nn < l[k].a) then mb else mc):=by unfold insNext;rw [hmb,hmc];rfl
   have hb1 : k + 1 + mb < l.length:=by omega
   have hb2 : k + 1 + mc < l.length:=by omega
   clear hi h5 h6 h7 h8 h9 h10 hmb hmc hcell Hrun
   have fin : ∀ (m : Nat) ,k + 1 + m < l.length → insNext l[k] nn = m → ∀ wz,Below w.heap.size w wz → True:=fun _ _ _ _ _=>trivial
   rcases h23 with h2 | h3
   ·rw [h2] at c0
    by_cases he : nn = l[k].a
    ·have be : (nn == l[k].a) = true:=beq_iff_eq.2 he
     have Hm : Hid (insNext l[k] nn = mb):=by rw [hx.out];exact if_pos (.inl ⟨h2,he⟩)
     clear he h2 hx fin
     go_wp2
     go_roundw
     case rel=>exact ⟨k + 1 + mb,dn + 1,nn,hb1,by omega,rfl,by go_num,by go_num,by have:=Hn.out;rwa [Hm.out] at this,hbx.trans ((Below.refl _ _).alloc (size_box hbx) _)⟩
     case measure=>simp [intOf];omega
    ·have be : (nn == l[k].a) = false:=beq_eq_false_iff_ne.2 he
     have Hm : Hid (insNext l[k] nn = mc):=by rw [hx.out];exact if_neg (by omega)
     clear he h2 hx fin
     go_wp2
     go_roundw
     case rel=>exact ⟨k + 1 + mc,dn + 1,nn,hb2,by omega,rfl,by go_num,by go_num,by have:=Hn.out;rwa [Hm.out] at this,hbx.trans ((Below.refl _ _).alloc (size_box hbx) _)⟩
     case measure=>simp [intOf];omega
   ·rw [h3] at c0
    by_cases he : nn < l[k].a
    ·have Hm : Hid (insNext l[k] nn = mb):=by rw [hx.out];exact if_pos (.inr ⟨h3,he⟩)
     clear h3 hx fin
     go_wp2
     go_roundw
     case rel=>exact ⟨k + 1 + mb,dn + 1,nn,hb1,by omega,rfl,by go_num,by go_num,by have:=Hn.out;rwa [Hm.out] at this,hbx.trans ((Below.refl _ _).alloc (size_box hbx) _)⟩
     case measure=>simp [intOf];omega
    ·have Hm : Hid (insNext l[k] nn = mc):=by rw [hx.out];exact if_neg (by omega)
     clear h3 hx fin
     go_wp2
     go_roundw
     case rel=>exact ⟨k + 1 + mc,dn + 1,nn,hb2,by omega,rfl,by go_num,by go_num,by have:=Hn.out;rwa [Hm.out] at this,hbx.trans ((Below.refl _ _).alloc (size_box hbx) _)⟩
     case measure=>simp [intOf];omega
theorem run_any (v : Value) (l : List TIns) (x : TCall) (D : Nat → Prop) (w : World) (h : RdCode w D v l) :
  Calls Tryz.prog 97 #[v,callV x] w fun e w'=>e = .returned (.tuple #[.int .i64 (runE l x).1,.int .i64 (runE l x).2.1,.int .i64 (runE l x).2.2])∧Below w.heap.size w w':=by
 by_cases hc : codeE l = 0
 ·by_cases hx : x.ok
  ·have e : runE l x = ((run l x).1,((run l x).2 : Int),0):=by unfold runE;rw [if_neg (by omega),if_pos hx]
   rw [e]
   exact run_ok v l x D w h hc hx
  ·have e : runE l x = (0,0,3):=by unfold runE;rw [if_neg (by omega),if_neg hx]
   have H:=Lib.hid h
   have Hc:=Lib.hid hc
   have hxe : Hid (callE x = 3):=if_neg hx
   rw [e]
   clear h e hc hx
   go_enter Tryz.func97,Tryz.ntmps97
   go_wp2_with (first
    | (go_at_call 134;refine (codecheck_any _ _ _ _ (RdCode.below H.out (bel_alloc (Below.refl _ _) _))).mono ?_;rw [Hc.out];rintro e w1 ⟨rfl,hb1⟩;have hb1' : Below (w.heap.size + 1) _ w1:=hb1.mono (by simp);have hcell:=box_cells hb1';clear hb1)
    | (go_at_call 96;refine (callcheck_any x _).mono ?_;rw [hxe.out];rintro e w2 ⟨rfl,hb2⟩;have hb2':=hb1'.trans (hb2.mono (size_box hb1'));clear hb2 hb1' hcell))
   go_ret3
   exact ⟨rfl,bel_box hb2'⟩
 ·have e : runE l x = (0,0,codeE l):=by unfold runE;rw [if_pos hc]
  have H:=Lib.hid h
  have be : (codeE l != 0) = true:=bne_iff_ne.2 hc
  rw [e]
  clear h e hc
  go_enter Tryz.func97,Tryz.ntmps97
  go_wp2_with (first
   | (go_at_call 134;refine (codecheck_any _ _ _ _ (RdCode.below H.out (bel_alloc (Below.refl _ _) _))).mono ?_;rintro e w1 ⟨rfl,hb1⟩;have hb1' : Below (w.heap.size + 1) _ w1:=hb1.mono (by simp);clear hb1))
  go_ret3
  exact ⟨rfl,bel_box hb1'⟩
end Go.Proofs.YthkgjohhbdipcaaGreatDoor
namespace Go.Proofs.YthkgjohhbdipcaaGreatDoor
open Go.RowKit
def chainR (w : World) (D : Nat → Prop) (f : List TIns) (cs : List Value) : Prop:=∃ u,cs = [u]∧RdCode w D u f
def RdChain (w : World) (D : Nat → Prop) (v : Value) (l : List (List TIns)) : Prop:=Sl w D 1 (chainR w D) v l
theorem RdChain.keep {w w' : World} {D D' : Nat → Prop} {v : Value} {l : List (List TIns)} (h : RdChain w D v l) (hD : ∀ b,D b → b < w.heap.size → D' b)
  (hw : ∀ b,D b → b < w.heap.size → w'.heap[b]? = w.heap[b]?) (hs : w.heap.size≤w'.heap.size) : RdChain w' D' v l :=
 Sl.mono h hD hw hs (fun _ _ _ ⟨u,h1,h2⟩=>⟨u,h1,h2.keep hD hw hs⟩)
theorem RdChain.below {w w' : World} {D : Nat → Prop} {v : Value} {l : List (List TIns)} (h : RdChain w D v l) (hb : Below w.heap.size w w') : RdChain w' D v l :=
 h.keep (fun _ h _=>h) (fun b _ hlt=>hb.block b hlt) hb.size
theorem RdChain.cells {w : World} {D : Nat → Prop} {b o n c : Nat} {s : Option Nat} {l : List (List TIns)} (h : RdChain w D (.slice (some ⟨b,o,s⟩) n c) l) {i : Nat} (hi : i < l.length) :
  ∃ (a' : Option Addr) (c' : Nat),w.cell? ⟨b,o + i,none⟩ = some (.slice a' l[i].length c')∧RdCode w D (.slice a' l[i].length c') l[i]:=by
 obtain ⟨cs,_,⟨u,hu,hr⟩,hcell⟩:=Sl.get h hi
 obtain ⟨a',c',hv,_⟩:=Sl.form hr
 subst hv hu
 have h1:=hcell 0 _ rfl
 rw [Nat.mul_one] at h1
 exact ⟨a',c',h1,hr⟩
set_option maxHeartbeats 4000000 in
theorem chcheck_any (v : Value) (l : List (List TIns)) (D : Nat → Prop) (w : World) (h : RdChain w D v l) :
  Calls Tryz.prog 95 #[v] w fun e w'=>e = .returned (.int .i64 (chainE l))∧Below w.heap.size w w':=by
 obtain ⟨a,c,rfl,hlc,hcm,hat⟩:=Sl.form h
 have H:=Lib.hid h
 clear h
 go_enter Tryz.func95,Tryz.ntmps95
 by_cases h6 : 6 < l.length
 ·have hE : chainE l = 2:=by unfold chainE;rw [if_pos h6]
  rw [hE]
  go_wp2
  go_ret
  exact ⟨rfl,Below.refl _ _⟩
 ·have HE : Hid (chainE l = codesGo l):=by show chainE l = _;unfold chainE;rw [if_neg h6]
  go_wp2_with fail
  go_loopw [11] (fun kv wr=>∃ k : Nat,kv = .int .i64 k∧k≤l.length∧codesGo l = codesGo (l.drop k)∧Below w.heap.size w wr) (fun kv _=>l.length - (intOf kv).toNat)
  case atStart=>exact ⟨0,rfl,by omega,rfl,Below.refl _ _⟩
  case round =>
   obtain ⟨k,rfl,hk,hd,hb⟩:=hrel
   have Hd:=Lib.hid hd
   have Hb:=Lib.hid hb
   clear hd hb
   by_cases hlt : k < l.length
   ·obtain ⟨b,o,rfl,_,_⟩:=hat (by omega)
    obtain ⟨a',c',hc,hr⟩:=RdChain.cells (H.out.below Hb.out) hlt
    have Hr:=Lib.hid hr
    have Hdk:=Lib.hid (codesGo_drop l k hlt)
    obtain ⟨f,hf⟩ : ∃ f,l[k] = f:=⟨_,rfl⟩
    rw [hf] at hc Hr Hdk
    clear hr hf
    go_wp2_with fail
    refine (codecheck_any _ f _ _ Hr.out).mono ?_
    rintro e w1 ⟨rfl,hb1⟩
    have Hb1:=Lib.hid (bel_call Hb.out hb1)
    clear hb1 hc
    by_cases h0 : codeE f = 0
    ·have Hn : Hid (codesGo l = codesGo (l.drop (k + 1))):=by show _ = _;rw [Hd.out,Hdk.out,if_pos h0]
     rw [h0]
     clear h0
     go_wp2
     go_roundw
     case rel=>exact ⟨k + 1,by go_num,by omega,Hn.out,Hb1.out⟩
     case measure=>simp [intOf];omega
    ·have Hn : Hid (chainE l = codeE f):=by show _ = _;rw [HE.out,Hd.out,Hdk.out,if_neg h0]
     have hb0 : (codeE f != 0) = true:=bne_iff_ne.2 h0
     clear h0
     go_wp2
     go_ret
     exact ⟨ret_int Hn.out.symm,Hb1.out⟩
   ·obtain rfl : k = l.length:=by omega
    have Hn : Hid (chainE l = 0):=by show _ = _;rw [HE.out,Hd.out,List.drop_length];rfl
    go_wp2
    go_ret
    exact ⟨ret_int Hn.out.symm,Hb.out⟩
theorem askGo_drop (x : TCall) (l : List (List TIns)) (k : Nat) (v : Int) (h : k < l.length) : askGo x (l.drop k) v = askGo x (l.drop (k + 1)) (minOf v (run l[k] x).1):=by
 rw [List.drop_eq_getElem_cons h];rfl
theorem runE_of {f : List TIns} (h : codeE f = 0) {x : TCall} (hx : x.ok) : runE f x = ((run f x).1,((run f x).2 : Int),0):=by
 unfold runE
 rw [if_neg (by rw [h];simp),if_pos hx]
set_option maxHeartbeats 4000000 in
theorem ask_any (v : Value) (l : List (List TIns)) (x : TCall) (D : Nat → Prop) (w : World) (h : RdChain w D v l) :
  Calls Tryz.prog 58 #[v,callV x] w fun e w'=>e = .returned (.tuple #[.int .i64 (askE l x).1,.int .i64 (askE l x).2])∧Below w.heap.size w w':=by
 obtain ⟨a,c,rfl,hlc,hcm,hat⟩:=Sl.form h
 have H:=Lib.hid h
 clear h
 go_enter Tryz.func58,Tryz.ntmps58
 go_wp2_with fail
 have HB:=Lib.hid (Bx.one (w:=w) (o:=.cells #[.int .i64 x.a0,.int .i64 x.a1,.int .i64 x.a2,.int .i64 x.a3,.int .i64 x.a4] 46))
 refine (chcheck_any _ l D _ (H.out.below HB.out.bel)).mono ?_
 rintro e w1 ⟨rfl,hb1⟩
 have HB1:=Lib.hid (HB.out.below hb1)
 clear hb1
 by_cases h0 : chainE l = 0
 ·obtain ⟨hl6,hcodes⟩:=(chainE_iff l).1 h0
  have Hcd:=Lib.hid hcodes
  have H0:=Lib.hid h0
  rw [h0]
  have hc0:=HB1.out.cells0
  clear h0 hcodes
  go_wp2_with fail
  refine (callcheck_any x _).mono ?_
  rintro e w2 ⟨rfl,hb2⟩
  have HB2:=Lib.hid (HB1.out.below hb2)
  clear hb2 hc0
  by_cases hx : x.ok
  ·have Hx:=Lib.hid hx
   have he : callE x = 0:=by unfold callE;rw [if_pos hx]
   rw [he]
   have HA : Hid (askE l x = (asked l x,0)):=by show askE l x = _;unfold askE;rw [if_neg (by rw [H0.out];simp),if_pos hx]
   clear hx he
   go_wp2_with fail
   go_loopw [8,26] (fun vv kv wr=>∃ (k : Nat) (t : Int),kv = .int .i64 k∧vv = .int .i64 t∧k≤l.length∧asked l x = askGo x (l.drop k) t∧Bx w [.cells #[.int .i64 x.a0,.int .i64 x.a1,.int .i64 x.a2,.int .i64 x.a3,.int .i64 x.a4] 46] wr) (fun _ kv _=>l.length - (intOf kv).toNat)
   case atStart=>exact ⟨0,4,rfl,rfl,by omega,rfl,HB2.out⟩
   case round =>
    obtain ⟨k,t,rfl,rfl,hk,hd,hb⟩:=hrel
    have Hd:=Lib.hid hd
    have HBr:=Lib.hid hb
    clear hd hb
    by_cases hlt : k < l.length
    ·obtain ⟨b,o,rfl,_,_⟩:=hat (by omega)
     obtain ⟨a',c',hc,hr⟩:=RdChain.cells (H.out.below HBr.out.bel) hlt
     have Hr:=Lib.hid hr
     have Hck:=Lib.hid (Hcd.out l[k] (List.getElem_mem hlt))
     have Hdk:=Lib.hid (askGo_drop x l k t hlt)
     obtain ⟨f,hf⟩ : ∃ f,l[k] = f:=⟨_,rfl⟩
     rw [hf] at hc Hr Hdk Hck
     have hc0:=HBr.out.cells0
     clear hr hf
     go_wp2_with fail
     refine (run_any _ f x _ _ Hr.out).mono ?_
     rw [runE_of Hck.out Hx.out]
     rintro e w3 ⟨rfl,hb3⟩
     have HB3:=Lib.hid (HBr.out.below hb3)
     clear hb3 hc hc0
     obtain ⟨u,hu⟩ : ∃ u,(run f x).1 = u:=⟨_,rfl⟩
     rw [hu] at Hdk ⊢
     have Hn : Hid (asked l x = askGo x (l.drop (k + 1)) (minOf t u)):=by show _ = _;rw [Hd.out,Hdk.out]
     by_cases htu : t≤u
     ·have e1 : minOf t u = t:=by unfold minOf;rw [if_pos htu]
      rw [e1] at Hn
      go_wp2
      go_roundw
      case rel=>exact ⟨k + 1,t,by go_num,(by first | rfl | (congr 1 <;> omega) | omega),by omega,Hn.out,HB3.out⟩
      case measure=>simp [intOf];omega
     ·have e1 : minOf t u = u:=by unfold minOf;rw [if_neg htu]
      rw [e1] at Hn
      go_wp2
      go_roundw
      case rel=>exact ⟨k + 1,u,by go_num,(by first | rfl | (congr 1 <;> omega) | omega),by omega,Hn.out,HB3.out⟩
      case measure=>simp [intOf];omega
    ·obtain rfl : k = l.length:=by omega
     have Hn : Hid (asked l x = t):=by show _ = _;rw [Hd.out,List.drop_length];rfl
     have HBf:=Lib.hid HBr.out.bel
     go_wp2
     go_ret2
     exact ⟨by rw [HA.out,Hn.out] <;> rfl,HBf.out⟩
  ·have he : callE x = 3:=by unfold callE;rw [if_neg hx]
   have HA : Hid (askE l x = (0,3)):=by show askE l x = _;unfold askE;rw [if_neg (by rw [H0.out];simp),if_neg hx]
   have HBf:=Lib.hid HB2.out.bel
   rw [he]
   clear hx
   go_wp2
   go_ret2
   exact ⟨by rw [HA.out] <;> rfl,HBf.out⟩
 ·have HA : Hid (askE l x = (0,chainE l)):=by show askE l x = _;unfold askE;rw [if_pos h0]
  have hb0 : (chainE l != 0) = true:=bne_iff_ne.2 h0
  have HBf:=Lib.hid HB1.out.bel
  clear h0
  go_wp2
  go_ret2
  exact ⟨by rw [HA.out] <;> rfl,HBf.out⟩
end Go.Proofs.YthkgjohhbdipcaaGreatDoor
namespace Go.Proofs.YthkgjohhbdipcaaGreatDoor
open Go.RowKit
def cellR (w : World) (D : Nat → Prop) (c : TCell) (cs : List Value) : Prop:=∃ u v,cs = [.bool c.open_,u,v,.int .i64 c.p.dflt]∧RdChain w D u c.chain∧RdRules w D v c.p.rules
def RdCells (w : World) (D : Nat → Prop) (v : Value) (l : List TCell) : Prop:=Sl w D 4 (cellR w D) v l
theorem cellR.keep {w w' : World} {D D' : Nat → Prop} {c : TCell} {cs : List Value} (h : cellR w D c cs) (hD : ∀ b,D b → b < w.heap.size → D' b) (hw : ∀ b,D b → b < w.heap.size → w'.heap[b]? = w.heap[b]?) (hs : w.heap.size≤w'.heap.size) : cellR w' D' c cs:=by
 obtain ⟨u,v,h1,h2,h3⟩:=h
 exact ⟨u,v,h1,h2.keep hD hw hs,h3.keep hD hw hs⟩
theorem RdCells.keep {w w' : World} {D D' : Nat → Prop} {v : Value} {l : List TCell} (h : RdCells w D v l) (hD : ∀ b,D b → b < w.heap.size → D' b)
  (hw : ∀ b,D b → b < w.heap.size → w'.heap[b]? = w.heap[b]?) (hs : w.heap.size≤w'.heap.size) : RdCells w' D' v l:=Sl.mono h hD hw hs (fun _ _ _ h=>h.keep hD hw hs)
theorem RdCells.below {w w' : World} {D : Nat → Prop} {v : Value} {l : List TCell} (h : RdCells w D v l) (hb : Below w.heap.size w w') : RdCells w' D v l :=
 h.keep (fun _ h _=>h) (fun b _ hlt=>hb.block b hlt) hb.size
theorem RdCells.cells {w : World} {D : Nat → Prop} {b o n c : Nat} {s : Option Nat} {l : List TCell} (h : RdCells w D (.slice (some ⟨b,o,s⟩) n c) l) {i : Nat} (hi : i < l.length) :
  ∃ (a1 a2 : Option Addr) (c1 c2 : Nat),w.cell? ⟨b,o + i * 4,none⟩ = some (.bool l[i].open_)∧w.cell? ⟨b,o + i * 4 + 1,none⟩ = some (.slice a1 l[i].chain.length c1)∧w.cell? ⟨b,o + i * 4 + 2,none⟩ = some (.slice a2 l[i].p.rules.length c2)∧w.cell? ⟨b,o + i * 4 + 3,none⟩ = some (.int .i64 l[i].p.dflt) ∧
   RdChain w D (.slice a1 l[i].chain.length c1) l[i].chain∧RdRules w D (.slice a2 l[i].p.rules.length c2) l[i].p.rules:=by
 obtain ⟨cs,_,⟨u,v,hu,hr,hp⟩,hcell⟩:=Sl.get h hi
 obtain ⟨a1,c1,hv,_⟩:=Sl.form hr
 obtain ⟨a2,c2,hv2,_⟩:=Sl.form hp
 subst hv hv2 hu
 exact ⟨a1,a2,c1,c2,by have:=hcell 0 _ rfl;simpa using this,by have:=hcell 1 _ rfl;simpa [Nat.add_assoc] using this,by have:=hcell 2 _ rfl;simpa [Nat.add_assoc] using this,by have:=hcell 3 _ rfl;simpa [Nat.add_assoc] using this,hr,hp⟩
theorem cellR_one {w : World} {D : Nat → Prop} (y : TCell) (cs : List Value) (h : cellR w D y cs) : ∀ c ∈ cs,c.oneCell' = true:=by
 obtain ⟨u,v,rfl,h1,h2⟩:=h
 obtain ⟨a,c,rfl,_⟩:=Sl.form h1
 obtain ⟨a2,c2,rfl,_⟩:=Sl.form h2
 simp [Value.oneCell']
end Go.Proofs.YthkgjohhbdipcaaGreatDoor
namespace Go.Proofs.YthkgjohhbdipcaaGreatDoor
structure TWorld where
 cells : List TCell
 d : TDisk
 up : Bool
deriving DecidableEq
structure THap where
 kind : Int
 cell : Int
 from_ : Int
 p : TPol
deriving DecidableEq
def newWorld : TWorld:=⟨newCells,zeroDisk,true⟩
def zeroWorld : TWorld:=⟨[],zeroDisk,false⟩
def recsOf (w : TWorld) : List TRec:=if w.up then (recoverE w.d).2.1 else []
def worldE (w : TWorld) : Int:=if (recoverE w.d).2.2 ≠ 0 then (recoverE w.d).2.2 else if w.up = true∧w.d.wait ≠ [] then 4 else
 if (replayE (recsOf w)).2 ≠ 0 then (replayE (recsOf w)).2 else if (replayE (recsOf w)).1 = w.cells then 0 else 4
def noteE (w : TWorld) (r : TRec) (tear : Bool) (kept : Int) : TWorld × Int :=
 if (nextE w.cells r).2 ≠ 0 then (w,(nextE w.cells r).2) else if (putE w.d r).2 ≠ 0 then (w,(putE w.d r).2) else
  if tear then
   (if (crashE (putE w.d r).1 (max 0 (min kept (putE w.d r).1.wait.length))).2 ≠ 0 then (w,(crashE (putE w.d r).1 (max 0 (min kept (putE w.d r).1.wait.length))).2)
    else (⟨newCells,(crashE (putE w.d r).1 (max 0 (min kept (putE w.d r).1.wait.length))).1,false⟩,0))
  else if (syncE (putE w.d r).1).2 ≠ 0 then (w,(syncE (putE w.d r).1).2) else (⟨(nextE w.cells r).1,(syncE (putE w.d r).1).1,w.up⟩,0)
def happenE (w : TWorld) (x : THap) : TWorld × Int :=
 if x.kind < 1 ∨ 7 < x.kind then (w,4) else if w.up = decide (x.kind = 6) then (w,6) else
 if x.kind = 5 then (⟨newCells,w.d,false⟩,0) else
 if x.kind = 6 then (if (recoverE w.d).2.2 ≠ 0 then (w,(recoverE w.d).2.2) else if (replayE (recoverE w.d).2.1).2 ≠ 0 then (w,(replayE (recoverE w.d).2.1).2) else (⟨(replayE (recoverE w.d).2.1).1,(recoverE w.d).1,true⟩,0)) else
 if x.kind = 7 then noteE w ⟨2,x.cell,0,x.p⟩ true x.from_ else
 if x.kind = 3 then noteE w ⟨3,x.cell,x.from_,zeroPol⟩ false 0 else
 if x.kind = 4 then noteE w ⟨4,x.cell,0,zeroPol⟩ false 0 else noteE w ⟨x.kind,x.cell,0,x.p⟩ false 0
def doE (w : TWorld) (x : THap) : TWorld × Int:=if worldE w ≠ 0 then (zeroWorld,worldE w) else if (happenE w x).2 ≠ 0 then (zeroWorld,(happenE w x).2) else ((happenE w x).1,0)
def wrunGo : TWorld → List THap → TWorld × List Int
 | w,[]=>(w,[])
 | w,x :: l=>((wrunGo (happenE w x).1 l).1,(happenE w x).2 :: (wrunGo (happenE w x).1 l).2)
def wrunE (w : TWorld) (l : List THap) : TWorld × List Int × Int:=if worldE w ≠ 0 then (zeroWorld,[],worldE w) else if 60 < l.length then (zeroWorld,[],2) else ((wrunGo w l).1,(wrunGo w l).2,0)
def wAskE (w : TWorld) (cell : Int) (x : TCall) : Int × Int:=if worldE w ≠ 0 then (0,worldE w) else if cell < 0 ∨ (w.cells.length : Int)≤cell then (0,5) else
 if (cellAt w.cells cell).open_ then askE (cellAt w.cells cell).chain x else (0,6)
structure OkW (w : TWorld) (l : List TRec) : Prop where
 recs : ∀ r ∈ l,recE r = 0
 most : l.length≤40
 safe : w.d.safe = logW l
 size : (logW l).length + w.d.wait.length≤60000
 up : w.up = true → w.d.wait = []∧replayE l = (w.cells,0)
 down : w.up = false → w.cells = newCells
theorem replay_nil : replayE [] = (newCells,0):=rfl
theorem OkW.disk {w : TWorld} {l : List TRec} (h : OkW w l) : diskE w.d = 0∧linesOf w.d.safe 40 = (l,(logW l).length,0):=by
 obtain ⟨a,b⟩:=diskE_log (w:=w.d.wait) h.recs h.most h.size
 rw [← h.safe] at a b
 rw [h.safe] at b
 refine ⟨a,?_⟩
 rw [h.safe];exact b
theorem OkW.recover {w : TWorld} {l : List TRec} (h : OkW w l) : recoverE w.d = (⟨logW l ++ w.d.wait.take (linesOf w.d.wait (40 - l.length)).2.1,[]⟩,l ++ (linesOf w.d.wait (40 - l.length)).1,0):=by
 obtain ⟨a,b⟩:=h.disk
 unfold recoverE restOf
 rw [if_neg (by rw [a];simp),b,h.safe]
theorem OkW.recover_up {w : TWorld} {l : List TRec} (h : OkW w l) (hu : w.d.wait = []) : recoverE w.d = (⟨logW l,[]⟩,l,0):=by
 rw [h.recover,hu,lines_nil];simp
theorem world_ok {w : TWorld} {l : List TRec} (h : OkW w l) : worldE w = 0:=by
 unfold worldE recsOf
 rw [if_neg (by rw [h.recover];simp)]
 cases hu : w.up with
 | true =>
  obtain ⟨a,b⟩:=h.up hu
  rw [if_neg (by rw [a];simp),h.recover_up a]
  simp [b]
 | false =>
  rw [if_neg (by simp)]
  simp [replay_nil,h.down hu]
theorem ok_world {w : TWorld} (h : worldE w = 0) : ∃ l,OkW w l:=by
 unfold worldE at h
 split at h
 ·rename_i h1;exact absurd h h1
 ·rename_i h1
  have hd : diskE w.d = 0:=by
   by_cases e : diskE w.d = 0
   ·exact e
   ·exfalso;apply h1;unfold recoverE;rw [if_pos e];exact e
  obtain ⟨a,b,c,d⟩:=diskE_ok hd
  split at h
  ·simp at h
  ·rename_i h2
   split at h
   ·rename_i h3;exact absurd h h3
   ·rename_i h3
    split at h
    ·rename_i h4
     refine ⟨_,b,c,d,by rw [← d];exact a,fun hu=>?_,fun hu=>?_⟩
     ·have hw : w.d.wait = []:=by
       by_cases e : w.d.wait = []
       ·exact e
       ·exact absurd ⟨hu,e⟩ h2
      have hr : recsOf w = (linesOf w.d.safe 40).1:=by
       unfold recsOf recoverE restOf
       rw [if_pos hu,if_neg (by rw [hd];simp),hw,lines_nil];simp
      rw [hr] at h3 h4
      exact ⟨hw,Prod.ext h4 (by simpa using h3)⟩
     ·have hr : recsOf w = []:=by unfold recsOf;rw [hu];rfl
      rw [hr,replay_nil] at h4
      exact h4.symm
    ·simp at h
theorem OkW.cellsE {w : TWorld} {l : List TRec} (h : OkW w l) (hu : w.up = true) : cellsE w.cells = 0∧∀ c ∈ w.cells,Means c:=by
 obtain ⟨_,b⟩:=h.up hu
 obtain ⟨_,_,m1,m2⟩:=replayE_ok (l:=l) (by rw [b])
 rw [b] at m1 m2
 exact ⟨m2,m1⟩
theorem replay_snoc {l : List TRec} {c : List TCell} (h : replayE l = (c,0)) (r : TRec) (hl : l.length < 40) : replayE (l ++ [r]) = if (nextE c r).2 ≠ 0 then ([],(nextE c r).2) else ((nextE c r).1,0):=by
 have h0 : replayGo l newCells = (c,0):=by
  have:=(replayE_ok (l:=l) (by rw [h])).2.1
  rw [← this,h]
 unfold replayE
 rw [if_neg (by simp;omega),replayGo_append,h0]
 simp only [ne_eq,not_true_eq_false,if_false]
 unfold replayGo
 split
 ·rfl
 ·rfl
theorem putE_ok {w : TWorld} {l : List TRec} (h : OkW w l) (hu : w.up = true) {r : TRec} (hp : (putE w.d r).2 = 0) : recE r = 0∧(logW l).length + (lineW r).length≤60000∧putE w.d r = (⟨logW l,lineW r⟩,0):=by
 obtain ⟨a,_⟩:=h.disk
 obtain ⟨b,_⟩:=h.up hu
 unfold putE at hp ⊢
 rw [if_neg (by rw [a];simp)] at hp ⊢
 split at hp
 ·rename_i h1;exact absurd hp h1
 ·rename_i h1
  split at hp
  ·simp at hp
  ·rename_i h2
   rw [if_neg h1,if_neg h2]
   rw [h.safe,b] at h2
   refine ⟨by simpa using h1,?_,?_⟩
   ·simp [lineW] at h2 ⊢;omega
   ·rw [b,h.safe];rfl
theorem syncE_put {l : List TRec} {r : TRec} (hl : ∀ x ∈ l,recE x = 0) (hm : l.length≤40) (hr : recE r = 0) (hs : (logW l).length + (lineW r).length≤60000) : syncE ⟨logW l,lineW r⟩ = if l.length < 40 then (⟨logW (l ++ [r]),[]⟩,0) else (zeroDisk,2):=by
 obtain ⟨a,_⟩:=diskE_log (w:=lineW r) hl hm hs
 have e : logW (l ++ [r]) = logW l ++ lineW r:=by rw [logW_append];simp [logW]
 unfold syncE
 rw [if_neg (by rw [a];simp)]
 dsimp only
 split
 ·rename_i h
  split
  ·rename_i h4
   exfalso
   apply h
   rw [← e]
   exact (diskE_log (l:=l ++ [r]) (w:=[]) (fun x hx=>by
    rcases List.mem_append.1 hx with hx | hx
    ·exact hl x hx
    ·simp at hx;subst hx;exact hr) (by simp;omega) (by rw [e];simp;omega)).1
  ·rename_i h4
   have h40 : l.length = 40:=by omega
   have : diskE ⟨logW l ++ lineW r,[]⟩ = 2:=by
    have h0 : linesOf (logW l ++ lineW r) 40 = (l ++ (linesOf (lineW r) (40 - l.length)).1,(logW l).length + (linesOf (lineW r) (40 - l.length)).2.1,(linesOf (lineW r) (40 - l.length)).2.2):=lines_log l (lineW r) 40 hl hm
    have h1 : linesOf (lineW r) 0 = ([],0,2):=by
     have e2 : lineW r = recW r ++ 10 :: []:=rfl
     rw [e2,lines_cons (rec_no10 hr),recW_read hr,if_neg (by simp),if_pos rfl]
    unfold diskE
    dsimp only
    rw [if_neg (by simp;omega),h0,h40,h1]
   rw [this]
 ·rename_i h
  rw [if_pos]
  ·rw [e]
  ·rcases Nat.lt_or_ge l.length 40 with h4 | h4
   ·exact h4
   ·exfalso
    apply h
    have h40 : l.length = 40:=by omega
    have h0 : linesOf (logW l ++ lineW r) 40 = (l ++ (linesOf (lineW r) (40 - l.length)).1,(logW l).length + (linesOf (lineW r) (40 - l.length)).2.1,(linesOf (lineW r) (40 - l.length)).2.2):=lines_log l (lineW r) 40 hl hm
    have h1 : linesOf (lineW r) 0 = ([],0,2):=by
     have e2 : lineW r = recW r ++ 10 :: []:=rfl
     rw [e2,lines_cons (rec_no10 hr),recW_read hr,if_neg (by simp),if_pos rfl]
    unfold diskE
    dsimp only
    rw [if_neg (by simp;omega),h0,h40,h1]
    simp
theorem note_ok {w : TWorld} {l : List TRec} (h : OkW w l) (hu : w.up = true) {r : TRec} {k : Int} (hn : (noteE w r false k).2 = 0) : (nextE w.cells r).2 = 0∧l.length < 40∧noteE w r false k = (⟨(nextE w.cells r).1,⟨logW (l ++ [r]),[]⟩,true⟩,0)∧OkW (noteE w r false k).1 (l ++ [r]):=by
 unfold noteE at hn ⊢
 split at hn
 ·rename_i h1;exact absurd hn h1
 ·rename_i h1
  split at hn
  ·rename_i h2;exact absurd hn h2
  ·rename_i h2
   obtain ⟨p1,p2,p3⟩:=putE_ok h hu (r:=r) (by simpa using h2)
   have hs:=syncE_put h.recs h.most p1 p2
   rw [if_neg (by simp)] at hn
   rw [if_neg h1,if_neg h2,if_neg (by simp)]
   rw [p3] at hn ⊢
   dsimp only at hn ⊢
   rw [hs] at hn ⊢
   by_cases h4 : l.length < 40
   ·rw [if_pos h4] at hn ⊢
    rw [if_neg (by simp),hu]
    refine ⟨by simpa using h1,h4,rfl,?_⟩
    have e : logW (l ++ [r]) = logW l ++ lineW r:=by rw [logW_append];simp [logW]
    refine ⟨fun x hx=>?_,by simp;omega,rfl,by rw [e];simp;omega,fun _=>⟨rfl,?_⟩,fun h=>by simp at h⟩
    ·rcases List.mem_append.1 hx with hx | hx
     ·exact h.recs x hx
     ·simp at hx;subst hx;exact p1
    ·rw [replay_snoc (h.up hu).2 r h4,if_neg h1]
   ·rw [if_neg h4] at hn
    simp at hn
theorem tear_ok {w : TWorld} {l : List TRec} (h : OkW w l) (hu : w.up = true) {r : TRec} {k : Int} (hn : (noteE w r true k).2 = 0) :
  (nextE w.cells r).2 = 0∧recE r = 0∧∃ t,noteE w r true k = (⟨newCells,⟨logW l,t⟩,false⟩,0)∧OkW (noteE w r true k).1 l ∧
   ((linesOf t (40 - l.length)).1 = []∧(linesOf t (40 - l.length)).2.1 = 0 ∨ l.length < 40∧(logW l).length + (lineW r).length≤60000∧(linesOf t (40 - l.length)).1 = [r]∧t.take (linesOf t (40 - l.length)).2.1 = lineW r):=by
 unfold noteE at hn ⊢
 split at hn
 ·rename_i h1;exact absurd hn h1
 ·rename_i h1
  split at hn
  ·rename_i h2;exact absurd hn h2
  ·rename_i h2
   obtain ⟨p1,p2,p3⟩:=putE_ok h hu (r:=r) (by simpa using h2)
   rw [if_pos rfl] at hn
   rw [if_neg h1,if_neg h2,if_pos rfl]
   rw [p3] at hn ⊢
   dsimp only at hn ⊢
   have hkn : ∃ n : Nat,max 0 (min k ((lineW r).length : Int)) = n∧n≤(lineW r).length:=⟨(max 0 (min k ((lineW r).length : Int))).toNat,by omega,by omega⟩
   obtain ⟨n,hn1,hn2⟩:=hkn
   have hc : crashE ⟨logW l,lineW r⟩ (max 0 (min k ((lineW r).length : Int))) = (⟨logW l,(lineW r).take n⟩,0):=by
    unfold crashE
    rw [if_neg (by rw [(diskE_log (w:=lineW r) h.recs h.most p2).1];simp),hn1,if_neg (by dsimp only;omega)]
    rfl
   rw [hc] at hn ⊢
   rw [if_neg (by simp)]
   refine ⟨by simpa using h1,p1,(lineW r).take n,rfl,⟨h.recs,h.most,rfl,by simp;omega,fun h=>by simp at h,fun _=>rfl⟩,?_⟩
   by_cases h4 : l.length < 40
   ·have e : logW [r] = lineW r:=by simp [logW]
    obtain ⟨j,hj,i1,i2⟩:=lines_take [r] n (40 - l.length) (by simpa using p1) (by simp;omega)
    rw [e] at i1 i2
    simp only [List.length_cons,List.length_nil] at hj
    obtain ⟨_,_,t,i3,i4,_⟩:=linesOf_spec ((lineW r).take n) (40 - l.length)
    rcases Nat.eq_zero_or_pos j with rfl | h0
    ·left;rw [i1,i2];simp [logW]
    ·right
     obtain rfl : j = 1:=by omega
     rw [i1] at i3 i4
     refine ⟨h4,p2,by rw [i1];rfl,?_⟩
     have e1 : List.take 1 [r] = [r]:=rfl
     rw [e1,e] at i3
     rw [i2,e1,e]
     rw [i3,List.take_left']
     rfl
   ·left
    have h0 : 40 - l.length = 0:=by omega
    rw [h0]
    obtain ⟨_,i2,t,i3,i4,_⟩:=linesOf_spec ((lineW r).take n) 0
    have e : (linesOf ((lineW r).take n) 0).1 = []:=List.length_eq_zero_iff.1 (by omega)
    refine ⟨e,?_⟩
    rw [i4,e];rfl
def later (w : TWorld) : List TCell × Int:=replayE (recoverE w.d).2.1
theorem later_up {w : TWorld} {l : List TRec} (h : OkW w l) (hu : w.up = true) : later w = (w.cells,0):=by
 obtain ⟨a,b⟩:=h.up hu
 unfold later
 rw [h.recover_up a];exact b
theorem boot_ok {w : TWorld} {l : List TRec} (h : OkW w l) : (later w).2 = 0 → ∃ l',OkW ⟨(later w).1,(recoverE w.d).1,true⟩ l':=by
 intro hl
 obtain ⟨i1,i2,t,i3,i4,_⟩:=linesOf_spec w.d.wait (40 - l.length)
 have hr:=h.recover
 have e : w.d.wait.take (linesOf w.d.wait (40 - l.length)).2.1 = logW (linesOf w.d.wait (40 - l.length)).1:=by
  rw [i4]
  generalize (linesOf w.d.wait (40 - l.length)).1 = L at i3 ⊢
  rw [i3,List.take_left' rfl]
 have hlen : (logW (linesOf w.d.wait (40 - l.length)).1).length≤w.d.wait.length:=by
  have:=congrArg List.length i3
  simp only [List.length_append] at this
  omega
 have hm:=h.most
 have hz:=h.size
 refine ⟨l ++ (linesOf w.d.wait (40 - l.length)).1,fun r hx=>?_,by simp;omega,?_,?_,fun _=>⟨?_,?_⟩,fun h=>by simp at h⟩
 ·rcases List.mem_append.1 hx with hx | hx
  ·exact h.recs r hx
  ·exact i1 r hx
 ·rw [hr];dsimp only;rw [e,logW_append]
 ·rw [hr];rw [logW_append];simp;omega
 ·rw [hr]
 ·have : replayE (l ++ (linesOf w.d.wait (40 - l.length)).1) = later w:=by unfold later;rw [hr]
  rw [this]
  exact Prod.ext rfl hl
theorem happen_ok {w : TWorld} (h : worldE w = 0) {x : THap} (hx : (happenE w x).2 = 0) : worldE (happenE w x).1 = 0∧((later w).2 = 0 → (later (happenE w x).1).2 = 0∧((later (happenE w x).1).1 = (later w).1 ∨ ∃ r,(nextE (later w).1 r).2 = 0∧(r.kind = 4 → x.kind = 4)∧r.cell = x.cell∧(later (happenE w x).1).1 = (nextE (later w).1 r).1)):=by
 obtain ⟨l,ok⟩:=ok_world h
 have noted : ∀ (r : TRec) (k : Int),w.up = true → (noteE w r false k).2 = 0 → (r.kind = 4 → x.kind = 4) → r.cell = x.cell → worldE (noteE w r false k).1 = 0∧((later w).2 = 0 → (later (noteE w r false k).1).2 = 0∧((later (noteE w r false k).1).1 = (later w).1 ∨ ∃ q,(nextE (later w).1 q).2 = 0∧(q.kind = 4 → x.kind = 4)∧q.cell = x.cell∧(later (noteE w r false k).1).1 = (nextE (later w).1 q).1)):=by
  intro r k hu hn h4 hc
  obtain ⟨n1,n2,n3,n4⟩:=note_ok ok hu hn
  refine ⟨world_ok n4,fun _=>?_⟩
  have hl:=later_up n4 (by rw [n3])
  rw [later_up ok hu]
  refine ⟨by rw [hl],.inr ⟨r,n1,h4,hc,by rw [hl,n3]⟩⟩
 have torn : ∀ (r : TRec) (k : Int),w.up = true → (noteE w r true k).2 = 0 → (r.kind = 4 → x.kind = 4) → r.cell = x.cell → worldE (noteE w r true k).1 = 0∧((later w).2 = 0 → (later (noteE w r true k).1).2 = 0∧((later (noteE w r true k).1).1 = (later w).1 ∨ ∃ q,(nextE (later w).1 q).2 = 0∧(q.kind = 4 → x.kind = 4)∧q.cell = x.cell∧(later (noteE w r true k).1).1 = (nextE (later w).1 q).1)):=by
  intro r k hu hn h4 hc
  obtain ⟨n1,n2,t,n3,n4,n5⟩:=tear_ok ok hu hn
  refine ⟨world_ok n4,fun _=>?_⟩
  rw [later_up ok hu]
  have hrec:=n4.recover
  have hw : (noteE w r true k).1.d.wait = t:=by rw [n3]
  unfold later
  rw [hrec,hw]
  dsimp only
  rcases n5 with ⟨e1,e2⟩ | ⟨e0,_,e1,e2⟩
  ·rw [e1,List.append_nil,(ok.up hu).2]
   exact ⟨rfl,.inl rfl⟩
  ·rw [e1,replay_snoc (ok.up hu).2 r e0,if_neg (by rw [n1];simp)]
   exact ⟨rfl,.inr ⟨r,n1,h4,hc,rfl⟩⟩
 revert hx
 unfold happenE
 intro hx
 split at hx
 ·simp at hx
 ·rename_i h1
  rw [if_neg h1] at *
  split at hx
  ·simp at hx
  ·rename_i h2
   rw [if_neg h2] at *
   split at hx
   ·rename_i h5
    rw [if_pos h5] at *
    have hu : w.up = true:=by
     cases hu : w.up with
     | true=>rfl
     | false=>exact absurd (by rw [hu,h5];rfl) h2
    have hw : OkW ⟨newCells,w.d,false⟩ l:=⟨ok.recs,ok.most,ok.safe,ok.size,fun h=>by simp at h,fun _=>rfl⟩
    exact ⟨world_ok hw,fun hl=>⟨hl,.inl rfl⟩⟩
   ·rename_i h5
    rw [if_neg h5] at *
    split at hx
    ·rename_i h6
     rw [if_pos h6] at *
     split at hx
     ·rename_i h7;exact absurd hx h7
     ·rename_i h7
      rw [if_neg h7] at *
      split at hx
      ·rename_i h8;exact absurd hx h8
      ·rename_i h8
       rw [if_neg h8] at *
       have hl : (later w).2 = 0:=by simpa [later] using h8
       obtain ⟨l',ok'⟩:=boot_ok ok hl
       refine ⟨world_ok ok',fun _=>?_⟩
       have:=later_up ok' rfl
       have e : later ⟨(replayE (recoverE w.d).2.1).1,(recoverE w.d).1,true⟩ = ((later w).1,0):=this
       dsimp only
       rw [e]
       exact ⟨rfl,.inl rfl⟩
    ·rename_i h6
     rw [if_neg h6] at *
     have hu : w.up = true:=by
      cases hu : w.up with
      | true=>rfl
      | false=>exact absurd (by rw [hu];simp [h6]) h2
     split at hx
     ·rename_i h7
      rw [if_pos h7] at *
      exact torn _ _ hu hx (fun e=>by simp at e) rfl
     ·rename_i h7
      rw [if_neg h7] at *
      split at hx
      ·rename_i h3
       rw [if_pos h3] at *
       exact noted _ _ hu hx (fun e=>by simp at e) rfl
      ·rename_i h3
       rw [if_neg h3] at *
       split at hx
       ·rename_i h4
        rw [if_pos h4] at *
        exact noted _ _ hu hx (fun _=>h4) rfl
       ·rename_i h4
        rw [if_neg h4] at *
        exact noted _ _ hu hx (fun e=>e) rfl
theorem happen_same {w : TWorld} {x : THap} (hx : (happenE w x).2 ≠ 0) : (happenE w x).1 = w:=by
 revert hx
 have hn : ∀ r t k,(noteE w r t k).2 ≠ 0 → (noteE w r t k).1 = w:=by
  intro r t k
  unfold noteE
  split
  ·intro;rfl
  ·split
   ·intro;rfl
   ·split
    ·split
     ·intro;rfl
     ·intro h;simp at h
    ·split
     ·intro;rfl
     ·intro h;simp at h
 unfold happenE
 split
 ·intro;rfl
 ·split
  ·intro;rfl
  ·split
   ·intro h;simp at h
   ·split
    ·split
     ·intro;rfl
     ·split
      ·intro;rfl
      ·intro h;simp at h
    ·split
     ·exact hn _ _ _
     ·split
      ·exact hn _ _ _
      ·split
       ·exact hn _ _ _
       ·exact hn _ _ _
theorem happen_world {w : TWorld} (h : worldE w = 0) (x : THap) : worldE (happenE w x).1 = 0:=by
 by_cases hx : (happenE w x).2 = 0
 ·exact (happen_ok h hx).1
 ·rw [happen_same hx];exact h
theorem wrunGo_world : ∀ (l : List THap) {w : TWorld},worldE w = 0 → worldE (wrunGo w l).1 = 0
 | [],_,h=>h
 | x :: l,_,h=>wrunGo_world l (happen_world h x)
theorem wrunGo_append : ∀ (l m : List THap) (w : TWorld),wrunGo w (l ++ m) = ((wrunGo (wrunGo w l).1 m).1,(wrunGo w l).2 ++ (wrunGo (wrunGo w l).1 m).2)
 | [],m,w=>by simp [wrunGo]
 | x :: l,m,w=>by
  show ((wrunGo (happenE w x).1 (l ++ m)).1,(happenE w x).2 :: (wrunGo (happenE w x).1 (l ++ m)).2) = _
  rw [wrunGo_append l m]
  rfl
theorem wrunGo_length : ∀ (l : List THap) (w : TWorld),(wrunGo w l).2.length = l.length
 | [],_=>rfl
 | x :: l,w=>by show (wrunGo (happenE w x).1 l).2.length + 1 = _;rw [wrunGo_length l];rfl
theorem run_parts {w : TWorld} {l : List THap} (h : (wrunE w l).2.2 = 0) (k : Nat) : (wrunE w (l.take k)).2.2 = 0∧(wrunE (wrunE w (l.take k)).1 (l.drop k)).2.2 = 0∧(wrunE (wrunE w (l.take k)).1 (l.drop k)).1 = (wrunE w l).1∧(wrunE w l).2.1 = (wrunE w (l.take k)).2.1 ++ (wrunE (wrunE w (l.take k)).1 (l.drop k)).2.1:=by
 unfold wrunE at h
 split at h
 ·rename_i h1;exact absurd h h1
 ·rename_i h1
  split at h
  ·simp at h
  ·rename_i h2
   have e1 : wrunE w (l.take k) = ((wrunGo w (l.take k)).1,(wrunGo w (l.take k)).2,0):=by
    unfold wrunE;rw [if_neg h1,if_neg (by simp;omega)]
   have hw : worldE (wrunGo w (l.take k)).1 = 0:=wrunGo_world _ (by simpa using h1)
   have e2 : wrunE (wrunGo w (l.take k)).1 (l.drop k) = ((wrunGo (wrunGo w (l.take k)).1 (l.drop k)).1,(wrunGo (wrunGo w (l.take k)).1 (l.drop k)).2,0):=by
    unfold wrunE;rw [if_neg (by rw [hw];simp),if_neg (by simp;omega)]
   have e3 : wrunE w l = ((wrunGo w l).1,(wrunGo w l).2,0):=by
    unfold wrunE;rw [if_neg h1,if_neg h2]
   have e4 : wrunGo w l = wrunGo w (l.take k ++ l.drop k):=by rw [List.take_append_drop]
   rw [e1]
   dsimp only
   rw [e2,e3,e4,wrunGo_append]
   exact ⟨rfl,rfl,rfl,rfl⟩
theorem world_stands {w : TWorld} (h : worldE w = 0) (hu : w.up = true) (c f : Int) (p : TPol) (c' f' : Int) (p' : TPol) : doE w ⟨5,c,f,p⟩ = (⟨newCells,w.d,false⟩,0)∧doE ⟨newCells,w.d,false⟩ ⟨6,c',f',p'⟩ = (w,0):=by
 obtain ⟨l,ok⟩:=ok_world h
 obtain ⟨a,b⟩:=ok.up hu
 have hw : OkW ⟨newCells,w.d,false⟩ l:=⟨ok.recs,ok.most,ok.safe,ok.size,fun h=>by simp at h,fun _=>rfl⟩
 have h1 : happenE w ⟨5,c,f,p⟩ = (⟨newCells,w.d,false⟩,0):=by
  unfold happenE;simp [hu]
 have h2 : happenE ⟨newCells,w.d,false⟩ ⟨6,c',f',p'⟩ = (w,0):=by
  unfold happenE
  have hr:=ok.recover_up a
  rw [if_neg (by simp),if_neg (by simp),if_neg (by simp),if_pos rfl]
  dsimp only
  rw [hr]
  dsimp only
  rw [b,if_neg (by simp),if_neg (by simp)]
  have:=ok.safe
  cases w with
  | mk cells d up =>
   cases d
   dsimp only at *
   rw [this,a,hu]
 unfold doE
 rw [h1,h2,if_neg (by rw [h];simp),if_neg (by simp),if_neg (by rw [world_ok hw];simp),if_neg (by simp)]
 exact ⟨rfl,rfl⟩
theorem world_torn {w : TWorld} {c n : Int} {p : TPol} (h : (doE w ⟨7,c,n,p⟩).2 = 0) (c' f' : Int) (p' : TPol) (f : Int) : (doE (doE w ⟨7,c,n,p⟩).1 ⟨6,c',f',p'⟩).2 = 0∧((doE (doE w ⟨7,c,n,p⟩).1 ⟨6,c',f',p'⟩).1 = w ∨ (doE w ⟨2,c,f,p⟩).2 = 0∧(doE (doE w ⟨7,c,n,p⟩).1 ⟨6,c',f',p'⟩).1 = (doE w ⟨2,c,f,p⟩).1):=by
 unfold doE at h
 split at h
 ·rename_i h1;exact absurd h h1
 ·rename_i h1
  split at h
  ·rename_i h2;exact absurd h h2
  ·rename_i h2
   have hw : worldE w = 0:=by simpa using h1
   have h2 : (happenE w ⟨7,c,n,p⟩).2 = 0:=by simpa using h2
   obtain ⟨l,ok⟩:=ok_world hw
   have e0 : doE w ⟨7,c,n,p⟩ = ((happenE w ⟨7,c,n,p⟩).1,0):=by
    unfold doE;rw [if_neg h1,if_neg (by rw [h2];simp)]
   rw [e0]
   dsimp only
   have hu : w.up = true:=by
    cases hu : w.up with
    | true=>rfl
    | false=>unfold happenE at h2;rw [if_neg (by simp),if_pos (by rw [hu];simp)] at h2;simp at h2
   have e1 : happenE w ⟨7,c,n,p⟩ = noteE w ⟨2,c,0,p⟩ true n:=by
    unfold happenE
    rw [if_neg (by simp),if_neg (by rw [hu];simp),if_neg (by simp),if_neg (by simp),if_pos rfl]
   rw [e1] at h2 ⊢
   obtain ⟨n1,n2,t,n3,n4,n5⟩:=tear_ok ok hu h2
   have hrec:=n4.recover
   have hwt : (noteE w ⟨2,c,0,p⟩ true n).1.d.wait = t:=by rw [n3]
   have hdn : (noteE w ⟨2,c,0,p⟩ true n).1.up = false:=by rw [n3]
   rw [hwt] at hrec
   have hb : ∀ y,(later (noteE w ⟨2,c,0,p⟩ true n).1) = (y,0) → doE (noteE w ⟨2,c,0,p⟩ true n).1 ⟨6,c',f',p'⟩ = (⟨y,(recoverE (noteE w ⟨2,c,0,p⟩ true n).1.d).1,true⟩,0):=by
    intro y hy
    have : happenE (noteE w ⟨2,c,0,p⟩ true n).1 ⟨6,c',f',p'⟩ = (⟨y,(recoverE (noteE w ⟨2,c,0,p⟩ true n).1.d).1,true⟩,0):=by
     unfold later at hy
     unfold happenE
     rw [if_neg (by simp),if_neg (by rw [hdn];simp),if_neg (by simp),if_pos rfl,hy,hrec]
     dsimp only
     rw [if_neg (by simp),if_neg (by simp)]
    unfold doE
    rw [if_neg (by rw [world_ok n4];simp),this,if_neg (by simp)]
   rcases n5 with ⟨x1,x2⟩ | ⟨x0,xs,x1,x2⟩
   ·have hy : later (noteE w ⟨2,c,0,p⟩ true n).1 = (w.cells,0):=by
     unfold later
     rw [hrec]
     dsimp only
     rw [x1,List.append_nil,(ok.up hu).2]
    rw [hb _ hy]
    refine ⟨rfl,.inl ?_⟩
    rw [hrec,x2]
    have:=ok.safe
    have ha:=(ok.up hu).1
    cases w with
    | mk cells d up =>
     cases d
     dsimp only at *
     rw [this,ha,hu]
     simp
   ·have hy : later (noteE w ⟨2,c,0,p⟩ true n).1 = ((nextE w.cells ⟨2,c,0,p⟩).1,0):=by
     unfold later
     rw [hrec]
     dsimp only
     rw [x1,replay_snoc (ok.up hu).2 _ x0,if_neg (by rw [n1];simp)]
    rw [hb _ hy]
    have e2 : happenE w ⟨2,c,f,p⟩ = noteE w ⟨2,c,0,p⟩ false 0:=by
     unfold happenE
     rw [if_neg (by simp),if_neg (by rw [hu];simp),if_neg (by simp),if_neg (by simp),if_neg (by simp),if_neg (by simp),if_neg (by simp)]
    have hp : (putE w.d ⟨2,c,0,p⟩).2 = 0:=by
     by_cases e : (putE w.d ⟨2,c,0,p⟩).2 = 0
     ·exact e
     ·unfold noteE at h2
      rw [if_neg (by rw [n1];simp),if_pos e] at h2
      exact absurd h2 e
    obtain ⟨p1,p2,p3⟩:=putE_ok ok hu hp
    have e3 : noteE w ⟨2,c,0,p⟩ false 0 = (⟨(nextE w.cells ⟨2,c,0,p⟩).1,⟨logW (l ++ [⟨2,c,0,p⟩]),[]⟩,true⟩,0):=by
     unfold noteE
     rw [if_neg (by rw [n1];simp),p3,if_neg (by simp),if_neg (by simp)]
     dsimp only
     rw [syncE_put ok.recs ok.most p1 p2,if_pos x0,if_neg (by simp),hu]
    have e4 : doE w ⟨2,c,f,p⟩ = (⟨(nextE w.cells ⟨2,c,0,p⟩).1,⟨logW (l ++ [⟨2,c,0,p⟩]),[]⟩,true⟩,0):=by
     unfold doE
     rw [if_neg h1,e2,e3,if_neg (by simp)]
    rw [e4]
    refine ⟨rfl,.inr ⟨rfl,?_⟩⟩
    rw [hrec]
    dsimp only
    rw [x2,logW_append]
    simp [logW]
def Told (w : TWorld) (cell : Int) (x : TCall) (most : Int) : Prop:=worldE w = 0∧(later w).2 = 0∧(most = -1 ∨ 0≤most∧(cellAt (later w).1 cell).open_ = true∧asked (cellAt (later w).1 cell).chain x≤most)
theorem later_ok {w : TWorld} (h : (later w).2 = 0) : cellsE (later w).1 = 0∧∀ c ∈ (later w).1,Means c:=by
 obtain ⟨_,_,a,b⟩:=replayE_ok (l:=(recoverE w.d).2.1) h
 exact ⟨b,a⟩
theorem told_new (cell : Int) (x : TCall) : Told newWorld cell x (-1):=⟨by decide,by decide,.inl rfl⟩
theorem told_next {w : TWorld} {cell : Int} {x : TCall} {most : Int} (h : Told w cell x most) (hc : 0≤cell∧cell < 4) (hx : x.ok) {y : THap} (hy : (doE w y).2 = 0) : Told (doE w y).1 cell x (if y.kind = 4∧y.cell = cell then -1 else most):=by
 obtain ⟨h1,h2,h3⟩:=h
 unfold doE at hy ⊢
 rw [if_neg (by rw [h1];simp)] at hy ⊢
 split at hy
 ·rename_i e;exact absurd hy e
 ·rename_i e
  rw [if_neg e]
  obtain ⟨a,b⟩:=happen_ok h1 (x:=y) (by simpa using e)
  obtain ⟨b1,b2⟩:=b h2
  refine ⟨a,b1,?_⟩
  split
  ·exact .inl rfl
  ·rename_i hk
   rcases h3 with h3 | ⟨h3,h4,h5⟩
   ·exact .inl h3
   ·right
    refine ⟨h3,?_⟩
    rcases b2 with b2 | ⟨r,r1,r2,r3,r4⟩
    ·dsimp only;rw [b2];exact ⟨h4,h5⟩
    ·obtain ⟨n1,n2,n3,n4,n5⟩:=nextE_ok r1
     obtain ⟨k0,k1,c0,c1,_⟩:=recE_ok n2
     have hl:=((cellsE_iff _).1 n1).1
     dsimp only
     rw [r4,n5]
     dsimp only
     rw [cellAt_set hl c0 c1]
     split
     ·rename_i hj
      have hcell : r.cell = cell:=by omega
      rw [hcell] at n3
      have ho : (nextCell (later w).1 r).1.open_ = true:=by
       rw [h4] at n3
       have hk2 : ¬ (r.kind = 1 ∨ r.kind = 3):=fun e=>n3 (by simp [e])
       have hk4 : r.kind ≠ 4:=fun e=>hk ⟨r2 e,by rw [← r3];exact hcell⟩
       have hk2 : r.kind = 2:=by omega
       unfold nextCell at n4 ⊢
       rw [if_neg (by omega),if_neg (by omega),if_pos hk2] at n4 ⊢
       split at n4
       ·rename_i e;exact absurd n4 e
       ·rename_i e;rw [if_neg e]
      obtain ⟨s1,s2,_⟩:=next_strict r1 (by rw [hcell];exact h4) ho
      refine ⟨ho,?_⟩
      rw [s2]
      have:=tight_le s1 hx
      rw [hcell] at this
      dsimp only
      rw [hcell]
      omega
     ·exact ⟨h4,h5⟩
theorem told_ask {w : TWorld} {cell : Int} {x : TCall} {most : Int} (h : Told w cell x most) (hc : 0≤cell∧cell < 4) (hx : x.ok) (hu : w.up = true) : ((wAskE w cell x).2 = 6∧most = -1) ∨ ((wAskE w cell x).2 = 0∧(most < 0 ∨ (wAskE w cell x).1≤most)∧Told w cell x (wAskE w cell x).1):=by
 obtain ⟨h1,h2,h3⟩:=h
 obtain ⟨l,ok⟩:=ok_world h1
 have hl:=later_up ok hu
 rw [hl] at h3
 dsimp only at h3
 obtain ⟨hcs,hm⟩:=ok.cellsE hu
 obtain ⟨hlen,_⟩:=(cellsE_iff _).1 hcs
 have e : wAskE w cell x = if (cellAt w.cells cell).open_ then askE (cellAt w.cells cell).chain x else (0,6):=by
  unfold wAskE
  rw [if_neg (by rw [h1];simp),if_neg (by rw [hlen];omega)]
 rw [e]
 cases ho : (cellAt w.cells cell).open_ with
 | false =>
  left
  rcases h3 with h3 | ⟨_,h4,_⟩
  ·exact ⟨rfl,h3⟩
  ·rw [ho] at h4;cases h4
 | true =>
  right
  obtain ⟨m1,m2,m3,m4⟩:=hm _ (cellAt_mem hlen hc.1 hc.2) ho
  have ea : askE (cellAt w.cells cell).chain x = (asked (cellAt w.cells cell).chain x,0):=by
   unfold askE;rw [if_neg (by rw [m2];simp),if_pos hx]
  simp only [if_true]
  rw [ea]
  refine ⟨rfl,?_,h1,h2,.inr ⟨?_,?_,?_⟩⟩
  ·rcases h3 with h3 | ⟨h3,_,h5⟩
   ·left;omega
   ·right;exact h5
  ·dsimp only
   rw [m4 x hx]
   have:=(says_range m1 x).1
   omega
  ·rw [hl];exact ho
  ·rw [hl];exact Int.le_refl _
end Go.Proofs.YthkgjohhbdipcaaGreatDoor
namespace Go.Proofs.YthkgjohhbdipcaaGreatDoor
open Go.RowKit
@[reducible] def worldV (c u v : Value) (up : Bool) : Value:=.agg #[c,u,v,.bool up]
structure RdWorld (w : World) (D : Nat → Prop) (c u v : Value) (t : TWorld) : Prop where
 cells : RdCells w D c t.cells
 disk : RdDisk w D u v t.d
theorem RdWorld.keep {w w' : World} {D D' : Nat → Prop} {c u v : Value} {t : TWorld} (h : RdWorld w D c u v t) (hD : ∀ b,D b → b < w.heap.size → D' b)
  (hw : ∀ b,D b → b < w.heap.size → w'.heap[b]? = w.heap[b]?) (hs : w.heap.size≤w'.heap.size) : RdWorld w' D' c u v t:=⟨RdCells.keep h.cells hD hw hs,RdDisk.keep h.disk hD hw hs⟩
theorem RdWorld.below {w w' : World} {D : Nat → Prop} {c u v : Value} {t : TWorld} (h : RdWorld w D c u v t) (hb : Below w.heap.size w w') : RdWorld w' D c u v t:=⟨RdCells.below h.cells hb,RdDisk.below h.disk hb⟩
theorem RdWorld.true {w : World} {D : Nat → Prop} {c u v : Value} {t : TWorld} (h : RdWorld w D c u v t) : RdWorld w (fun _=>True) c u v t:=h.keep (fun _ _ _=>trivial) (fun _ _ _=>rfl) (Nat.le_refl _)
theorem RdWorld.lt {w : World} {D : Nat → Prop} {c u v : Value} {t : TWorld} (h : RdWorld w D c u v t) : RdWorld w (fun b=>b < w.heap.size) c u v t:=h.keep (fun _ _ hl=>hl) (fun _ _ _=>rfl) (Nat.le_refl _)
@[reducible] def hapV (r : THap) (v : Value) : Value:=.agg #[.int .i64 r.kind,.int .i64 r.cell,.int .i64 r.from_,v,.int .i64 r.p.dflt]
def hapR (w : World) (D : Nat → Prop) (r : THap) (cs : List Value) : Prop:=∃ v,cs = [.int .i64 r.kind,.int .i64 r.cell,.int .i64 r.from_,v,.int .i64 r.p.dflt]∧RdRules w D v r.p.rules
def RdHaps (w : World) (D : Nat → Prop) (v : Value) (l : List THap) : Prop:=Sl w D 5 (hapR w D) v l
theorem RdHaps.keep {w w' : World} {D D' : Nat → Prop} {v : Value} {l : List THap} (h : RdHaps w D v l) (hD : ∀ b,D b → b < w.heap.size → D' b)
  (hw : ∀ b,D b → b < w.heap.size → w'.heap[b]? = w.heap[b]?) (hs : w.heap.size≤w'.heap.size) : RdHaps w' D' v l:=Sl.mono h hD hw hs (fun _ _ _ ⟨u,h1,h2⟩=>⟨u,h1,h2.keep hD hw hs⟩)
theorem RdHaps.below {w w' : World} {D : Nat → Prop} {v : Value} {l : List THap} (h : RdHaps w D v l) (hb : Below w.heap.size w w') : RdHaps w' D v l :=
 h.keep (fun _ h _=>h) (fun b _ hlt=>hb.block b hlt) hb.size
theorem RdHaps.cells {w : World} {D : Nat → Prop} {b o n c : Nat} {s : Option Nat} {l : List THap} (h : RdHaps w D (.slice (some ⟨b,o,s⟩) n c) l) {i : Nat} (hi : i < l.length) :
  ∃ (a : Option Addr) (c : Nat),w.cell? ⟨b,o + i * 5,none⟩ = some (.int .i64 l[i].kind)∧w.cell? ⟨b,o + i * 5 + 1,none⟩ = some (.int .i64 l[i].cell)∧w.cell? ⟨b,o + i * 5 + 2,none⟩ = some (.int .i64 l[i].from_)∧w.cell? ⟨b,o + i * 5 + 3,none⟩ = some (.slice a l[i].p.rules.length c)∧w.cell? ⟨b,o + i * 5 + 4,none⟩ = some (.int .i64 l[i].p.dflt) ∧
   RdRules w D (.slice a l[i].p.rules.length c) l[i].p.rules:=by
 obtain ⟨cs,_,⟨v,hu,hp⟩,hcell⟩:=Sl.get h hi
 obtain ⟨a1,c1,hv,_⟩:=Sl.form hp
 subst hv hu
 exact ⟨a1,c1,by have:=hcell 0 _ rfl;simpa using this,by have:=hcell 1 _ rfl;simpa [Nat.add_assoc] using this,by have:=hcell 2 _ rfl;simpa [Nat.add_assoc] using this,by have:=hcell 3 _ rfl;simpa [Nat.add_assoc] using this,by have:=hcell 4 _ rfl;simpa [Nat.add_assoc] using this,hp⟩
end Go.Proofs.YthkgjohhbdipcaaGreatDoor
namespace Go.Proofs.YthkgjohhbdipcaaGreatDoor
open Go.RowKit
theorem infocRule : (Tryz.prog.info? 147).map (fun i=>(i.zero,i.size,i.bytes)) = some (some (.agg #[.slice none 0 0,.int .i64 0]),2,32):=by kernel_rfl
end Go.Proofs.YthkgjohhbdipcaaGreatDoor
namespace Go.Proofs.YthkgjohhbdipcaaGreatDoor
open Go.RowKit
set_option maxRecDepth 100000 in
set_option maxHeartbeats 1000000 in
theorem cloneRule_any {α : Type} (R : α → List Value → Prop) (h1R : ∀ (y : α) (cs : List Value),R y cs → ∀ c ∈ cs,c.oneCell' = true) (v : Value) (xs : List α) (D : Nat → Prop) (w : World) (h : Sl w D 2 R v xs) (hn : xs.length * 32≤140737488355328) :
  Calls Tryz.prog 155 #[v] w fun e w'=>∃ v',e = .returned v'∧OwnSl w' w.heap.size 147 2 R v' xs∧Below w.heap.size w w':=by
 obtain ⟨i0,hi,hz0,hz1,hz2⟩:=info_parts infocRule
 have H:=Lib.hid h
 obtain ⟨a,c,rfl,hlc,hcm,hnil,hat⟩:=h
 have Hi:=Lib.hid hi
 clear hi
 cases a with
 | none =>
  have hc:=hnil rfl
  subst hc
  have hx : xs = []:=List.length_eq_zero_iff.1 (by omega)
  subst hx
  have hq:=fun (a : Option Addr) (n c : Nat) (W : World)=>Lib.run_eql_slice_nil (P:=Tryz.prog) W 36 147 a n c 0 0 Tryz.underlying36
  go_enter Tryz.func155,Tryz.ntmps155
  go_wp2
  go_ret
  exact ⟨_,rfl,OwnSl.nil,Below.refl _ _⟩
 | some ad =>
  have H2:=Lib.hid (H.out.belowR (bel_alloc (Below.refl _ w) (.cells #[] 147)) (fun _ _ _ h=>h))
  have Hown : Hid (OwnSl (w.alloc (.cells #[] 147)) w.heap.size 147 2 R (.slice (some ⟨w.heap.size,0,none⟩) 0 0) ([] : List α)) :=
   ⟨[],RowsOf.nil,by simp,.inr ⟨w.heap.size,0,#[],rfl,Nat.le_refl _,heap_last _ _,by simp,by simp,by simp,by simp⟩⟩
  clear hat hnil
  have hq:=fun (a : Option Addr) (n c : Nat) (W : World)=>Lib.run_eql_slice_nil (P:=Tryz.prog) W 36 147 a n c 0 0 Tryz.underlying36
  go_enter Tryz.func155,Tryz.ntmps155
  go_wp2_with (at_builtin;refine wpList_app rfl _ _ 36 rfl w.heap.size 147 i0 _ 2 32 Tryz.underlying36 Hi.out hz0 hz1 hz2 rfl (by decide) _ _ rfl Hown.out _ _ rfl H2.out (fun y _ cs h=>h1R y cs h) (by show 0 + _≤maxLen;unfold maxLen;omega) (by show (0 + _) * 32≤_;omega) (by simp) ?_;intro v' w3 hown' hg)
  go_ret
  exact ⟨_,rfl,hown',Hown.out.grown (bel_alloc (Below.refl _ _) _) hg (by simp) (Nat.le_refl _)⟩
end Go.Proofs.YthkgjohhbdipcaaGreatDoor
namespace Go.Proofs.YthkgjohhbdipcaaGreatDoor
open Go.RowKit
theorem infocCond : (Tryz.prog.info? 153).map (fun i=>(i.zero,i.size,i.bytes)) = some (some (.agg #[.int .i64 0,.int .i64 0,.int .i64 0]),3,24):=by kernel_rfl
set_option maxHeartbeats 1000000 in
theorem growCond_nil (n : Nat) (w : World) (hn : n * 24≤140737488355328) : Calls Tryz.prog 214 #[.slice none 0 0,.int .i64 n] w fun e w'=>∃ v,e = .returned v∧OwnSl w' w.heap.size 153 3 condR v ([] : List TCond)∧Below w.heap.size w w':=by
 by_cases h0 : n = 0
 ·subst h0
  go_enter Tryz.func214,Tryz.ntmps214
  go_wp2
  go_ret
  exact ⟨_,rfl,OwnSl.nil,Below.refl _ _⟩
 ·obtain ⟨i0,hi,hz0,hz1,hz2⟩:=info_parts infocCond
  have hrun:=fun (W : World) (ty : TypeId)=>Lib.run_append_nil_zeros (P:=Tryz.prog) W 145 3 ty 153 i0 (.agg #[.int .i64 0,.int .i64 0,.int .i64 0]) .i64 .i64 Tryz.underlying145 Tryz.underlying3 hi hz0 n (by omega) (by rw [hz1];omega) (by omega) (by rw [hz2];omega)
  have hgc : ∀ W : World,grownCap W n 0 153≤maxLen:=fun W=>grownCap_le_maxLen W n 0 153 (by unfold maxLen;omega)
  have h1 : 0 < (n : Int):=by omega
  have h2 : (n : Int)≤9223372036854775807:=by omega
  have Hrun:=Lib.hid hrun
  have Hz:=Lib.hid hz1
  clear hrun hi hz0 hz1 hz2 h0 hn
  go_enter Tryz.func214,Tryz.ntmps214
  go_wp2_with (at_builtin;refine Lib.wpList_append_run _ rfl _ _ _ _ rfl _ _ rfl rfl _ _ (Hrun.out _ _) ?_)
  go_ret
  refine ⟨_,rfl,⟨[],RowsOf.nil,by simp,.inr ⟨w.heap.size,grownCap w n 0 153,_,rfl,Nat.le_refl _,blk_at rfl,by simp,hgc w,?_,by simp⟩⟩,(bel_alloc (Below.refl _ _) _).drew⟩
  have hge:=grownCap_ge w n 0 153
  simp [size_zeroCells]
  omega
theorem oneCond (y : TCond) (cs : List Value) (h : condR y cs) : ∀ c ∈ cs,c.oneCell' = true:=by
 unfold condR at h;subst h;simp [Value.oneCell']
def rowsRCond (w : World) (D : Nat → Prop) (l : List TCond) (cs : List Value) : Prop:=∃ u,cs = [u]∧Sl w D 3 condR u l
set_option maxRecDepth 100000 in
set_option maxHeartbeats 2000000 in
theorem concatCond_any (v : Value) (ls : List (List TCond)) (D : Nat → Prop) (w : World) (h : Sl w D 1 (rowsRCond w D) v ls) (hn : lenTo ls ls.length * 24≤140737488355328) :
  Calls Tryz.prog 191 #[v] w fun e w'=>∃ v',e = .returned v'∧OwnSl w' w.heap.size 153 3 condR v' ls.flatten∧Below w.heap.size w w':=by
 obtain ⟨a,c,rfl,hlc,hcm,hat⟩:=Sl.form h
 obtain ⟨i0,hi,hz0,hz1,hz2⟩:=info_parts infocCond
 have H:=Lib.hid h
 clear h
 have hrow : ∀ k (hk : k < ls.length) b o,a = some ⟨b,o,none⟩ → ∃ (u : Value) (cu : Option Addr × Nat),u = Value.slice cu.1 ls[k].length cu.2∧Sl w D 3 condR u ls[k]∧∀ wr,Below w.heap.size w wr → wr.cell? ⟨b,o + k,none⟩ = some u:=fun k hk b o e=>by
  subst e
  obtain ⟨cs,hcs,⟨u,hu,hs⟩,hcell⟩:=Sl.get H.out hk
  obtain ⟨a',c',hv,_⟩:=Sl.form hs
  refine ⟨u,(a',c'),hv,hs,fun wr hb=>?_⟩
  subst hu
  have hc:=hcell 0 u rfl
  rw [Nat.mul_one] at hc
  exact (hb.cell (p:=⟨b,o + k,none⟩) (World.block_lt_of_cell? _ _ hc)).trans hc
 have Hrow:=Lib.hid hrow
 have Hn:=Lib.hid hn
 have hn' : lenTo ls ls.length≤140737488355328:=by omega
 clear hrow hn
 go_enter Tryz.func191,Tryz.ntmps191
 go_wp2_with fail
 go_loop [3,11] (fun s i=>∃ k : Nat,k≤ls.length∧i = .int .i64 k∧s = .int .i64 (lenTo ls k)) (fun _ i=>ls.length - (intOf i).toNat)
 case atStart=>exact ⟨0,by omega,rfl,rfl⟩
 case round =>
  obtain ⟨k,hk,rfl,rfl⟩:=hrel
  by_cases hlt : k < ls.length
  ·obtain ⟨b,o,rfl,hDb,hb⟩:=hat (by omega)
   obtain ⟨u,⟨a',c'⟩,rfl,hs,hc⟩:=Hrow.out k hlt b o rfl
   have hcw:=hc w (Below.refl _ _)
   have hle:=lenTo_le ls (k + 1) (by omega)
   have Hs:=Lib.hid (lenTo_succ ls k hlt)
   have hle' : lenTo ls k + ls[k].length≤140737488355328:=by have:=Hs.out;omega
   clear hs hc
   go_wp2
   go_round
   case rel=>exact ⟨k + 1,by omega,by go_num,by rw [Hs.out];go_num⟩
   case measure=>simp [intOf];omega
  ·obtain rfl : k = ls.length:=by omega
   go_wp2_with fail
   refine (growCond_nil (lenTo ls ls.length) _ Hn.out).mono ?_
   rintro e w1 ⟨vg,rfl,hown,hb1⟩
   go_wp2_with fail
   go_loopw [6,27] (fun s i wr=>∃ (k : Nat) (vs : Value),k≤ls.length∧i = .int .i64 k∧vs = s∧OwnSl wr w.heap.size 153 3 condR vs (ls.take k).flatten∧Below w.heap.size w wr) (fun _ i _=>ls.length - (intOf i).toNat)
   case atStart=>exact ⟨0,vg,by omega,rfl,rfl,by simpa using hown,hb1⟩
   case round =>
    obtain ⟨k,vs,hk,rfl,rfl,hown,hbw⟩:=hrel
    have Hown:=Lib.hid hown
    have hsz:=hbw.size
    clear hown
    by_cases hlt : k < ls.length
    ·obtain ⟨b,o,rfl,hDb,hb⟩:=hat (by omega)
     obtain ⟨u,⟨a',c'⟩,rfl,hs,hc⟩:=Hrow.out k hlt b o rfl
     have hcw:=hc wr hbw
     have hle:=lenTo_le ls (k + 1) (by omega)
     have Hl:=Lib.hid (lenTo_succ ls k hlt)
     have hs' : Sl wr D 3 condR (.slice a' ls[k].length c') ls[k]:=Sl.mono hs (fun _ h _=>h) (fun b _ hlt=>hbw.block b hlt) hbw.size (fun _ _ _ h=>h)
     have Hs':=Lib.hid hs'
     have Hs:=Lib.hid (flat_take_succ ls k hlt)
     clear hs hc hs'
     go_wp2_with (at_builtin;refine wpList_app rfl _ _ 145 rfl w.heap.size 153 i0 _ 3 24 Tryz.underlying145 hi hz0 hz1 hz2 rfl (by decide) _ _ rfl Hown.out _ _ rfl Hs'.out (fun y _ cs h=>oneCond y cs h) (by have:=Hl.out;unfold lenTo at *;unfold maxLen;omega) (by have:=Hn.out;have:=Hl.out;unfold lenTo at *;omega) hsz ?_;intro v' w2 hown' hg)
     go_roundw
     case rel=>exact ⟨k + 1,v',by omega,by go_num,rfl,by rw [← flat_take_succ ls k hlt];exact hown',Hown.out.grown hbw hg hsz (Nat.le_refl _)⟩
     case measure=>simp [intOf];omega
    ·obtain rfl : k = ls.length:=by omega
     have Hf : Hid (OwnSl wr w.heap.size 153 3 condR vs ls.flatten):=by have:=Hown.out;rwa [List.take_length] at this
     go_wp2
     go_ret
     exact ⟨_,rfl,Hf.out,hbw⟩
end Go.Proofs.YthkgjohhbdipcaaGreatDoor
namespace Go.Proofs.YthkgjohhbdipcaaGreatDoor
open Go.RowKit
set_option maxRecDepth 100000 in
set_option maxHeartbeats 1000000 in
theorem cloneCond_any {α : Type} (R : α → List Value → Prop) (h1R : ∀ (y : α) (cs : List Value),R y cs → ∀ c ∈ cs,c.oneCell' = true) (v : Value) (xs : List α) (D : Nat → Prop) (w : World) (h : Sl w D 3 R v xs) (hn : xs.length * 24≤140737488355328) :
  Calls Tryz.prog 156 #[v] w fun e w'=>∃ v',e = .returned v'∧OwnSl w' w.heap.size 153 3 R v' xs∧Below w.heap.size w w':=by
 obtain ⟨i0,hi,hz0,hz1,hz2⟩:=info_parts infocCond
 have H:=Lib.hid h
 obtain ⟨a,c,rfl,hlc,hcm,hnil,hat⟩:=h
 have Hi:=Lib.hid hi
 clear hi
 cases a with
 | none =>
  have hc:=hnil rfl
  subst hc
  have hx : xs = []:=List.length_eq_zero_iff.1 (by omega)
  subst hx
  have hq:=fun (a : Option Addr) (n c : Nat) (W : World)=>Lib.run_eql_slice_nil (P:=Tryz.prog) W 145 153 a n c 0 0 Tryz.underlying145
  go_enter Tryz.func156,Tryz.ntmps156
  go_wp2
  go_ret
  exact ⟨_,rfl,OwnSl.nil,Below.refl _ _⟩
 | some ad =>
  have H2:=Lib.hid (H.out.belowR (bel_alloc (Below.refl _ w) (.cells #[] 153)) (fun _ _ _ h=>h))
  have Hown : Hid (OwnSl (w.alloc (.cells #[] 153)) w.heap.size 153 3 R (.slice (some ⟨w.heap.size,0,none⟩) 0 0) ([] : List α)) :=
   ⟨[],RowsOf.nil,by simp,.inr ⟨w.heap.size,0,#[],rfl,Nat.le_refl _,heap_last _ _,by simp,by simp,by simp,by simp⟩⟩
  clear hat hnil
  have hq:=fun (a : Option Addr) (n c : Nat) (W : World)=>Lib.run_eql_slice_nil (P:=Tryz.prog) W 145 153 a n c 0 0 Tryz.underlying145
  go_enter Tryz.func156,Tryz.ntmps156
  go_wp2_with (at_builtin;refine wpList_app rfl _ _ 145 rfl w.heap.size 153 i0 _ 3 24 Tryz.underlying145 Hi.out hz0 hz1 hz2 rfl (by decide) _ _ rfl Hown.out _ _ rfl H2.out (fun y _ cs h=>h1R y cs h) (by show 0 + _≤maxLen;unfold maxLen;omega) (by show (0 + _) * 24≤_;omega) (by simp) ?_;intro v' w3 hown' hg)
  go_ret
  exact ⟨_,rfl,hown',Hown.out.grown (bel_alloc (Below.refl _ _) _) hg (by simp) (Nat.le_refl _)⟩
end Go.Proofs.YthkgjohhbdipcaaGreatDoor
