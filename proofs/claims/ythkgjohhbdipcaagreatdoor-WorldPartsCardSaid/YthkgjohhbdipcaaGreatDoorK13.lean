/- Texts laid one behind the other: WNote, WHappen, WDo, ConcatErr, WRun, WAsk. No condition beyond theirs. -/
import Derived.Test.YthkgjohhbdipcaaGreatDoorK12
import Derived.Test.YthkgjohhbdipcaaGreatDoorProg
import Derived.Test.YthkgjohhbdipcaaGreatDoorK2
import Derived.KernelRfl
import Derived.Deep.LoopGhost
import Derived.Test.YthkgjohhbdipcaaGreatDoorK5
import Derived.Test.YthkgjohhbdipcaaGreatDoorK8
set_option linter.all false
namespace Go.Proofs.YthkgjohhbdipcaaGreatDoor
open Go.RowKit
attribute [local go_sem] gives givesUpon
structure WBx (W : World) (G : Nat → Prop) (bw : Nat) (c u v : Value) (t : TWorld) : Prop where
 box : W.heap[bw]? = some (.cells #[c,u,v,.bool t.up] 27)
 rd : RdWorld W G c u v t
theorem WBx.below {W W' : World} {G : Nat → Prop} {bw : Nat} {c u v : Value} {t : TWorld} (h : WBx W G bw c u v t) (hb : Below W.heap.size W W') : WBx W' G bw c u v t:=⟨blk_below h.box hb,RdWorld.below h.rd hb⟩
def WPost (w : World) (G : Nat → Prop) (bw : Nat) (t : TWorld) (E : Int) (e : Ending) (w' : World) : Prop:=∃ c u v,e = .returned (.int .i64 E)∧WBx w' G bw c u v t∧w.grownBy w' (some bw)
theorem tupc_stable {G : Nat → Prop} {N : List TCell} {ne : Int} : stableP (fun v W=>∃ a c,v = .tuple #[.slice a N.length c,.int .i64 ne]∧RdCells W G (.slice a N.length c) N):=fun _ _ _ hb ⟨a,c,h1,h2⟩=>⟨a,c,h1,RdCells.below h2 hb⟩
theorem cells_stableW {G : Nat → Prop} {N : List TCell} : stableP (fun v W=>∃ a c,v = .slice a N.length c∧RdCells W G (.slice a N.length c) N):=fun _ _ _ hb ⟨a,c,h1,h2⟩=>⟨a,c,h1,RdCells.below h2 hb⟩
theorem cells_stableK {B : Nat} : stableK B (fun v W=>∃ a c,v = .slice a newCells.length c∧RdCells W (fun b=>B≤b) (.slice a newCells.length c) newCells):=fun _ _ _ hk ⟨a,c,h1,h2⟩=>⟨a,c,h1,RdCells.keep h2 (fun _ hx _=>hx) (fun x hx hl=>hk.2 x hx hl) hk.1⟩
theorem wagg_stableK {B : Nat} {u v : Value} {up : Bool} : stableK B (fun x W=>∃ a c,x = .agg #[.slice a newCells.length c,u,v,.bool up]∧RdCells W (fun b=>B≤b) (.slice a newCells.length c) newCells):=fun _ _ _ hk ⟨a,c,h1,h2⟩=>⟨a,c,h1,RdCells.keep h2 (fun _ hx _=>hx) (fun x hx hl=>hk.2 x hx hl) hk.1⟩
def fstV : Value → Value
 | .tuple a=>a.getD 0 undef
 | _=>undef
structure NpI (w0 : World) (d' : TDisk) (de : Int) (done : Nat → Bool) (vf : Nat → Value) (W : World) : Prop where
 fr : Below w0.heap.size w0 W
 o6 : done 6 = true → done 5 = true
 o7 : done 7 = true → done 6 = true
 c5 : done 5 = true → done 10 = false → ∃ x y,vf 5 = .tuple #[.agg #[x,y],.int .i64 de]∧RdDisk W (fun k=>w0.heap.size≤k∧(done 9 = true → vf 9 ≠ .pointer (some ⟨k,0,none⟩))) x y d'
 c5' : done 5 = true → ∃ x y,vf 5 = .tuple #[.agg #[x,y],.int .i64 de]
 c9 : done 9 = true → ∃ b,vf 9 = .pointer (some ⟨b,0,none⟩)∧w0.heap.size≤b∧(done 10 = false → W.heap[b]? = some (.cells #[.slice none 0 0,.slice none 0 0] 25))
 c10 : done 10 = true → ∃ b x y,vf 9 = .pointer (some ⟨b,0,none⟩)∧w0.heap.size≤b∧W.heap[b]? = some (.cells #[x,y] 25)∧RdDisk W (fun k=>w0.heap.size≤k∧k ≠ b) x y d'
section
variable {w0 W W' : World} {d' : TDisk} {de : Int} {done : Nat → Bool} {vf : Nat → Value} {v : Value} {i : Nat}
theorem NpI.start : NpI w0 d' de (fun _=>false) (fun _=>undef) w0.drew:=⟨(Below.refl _ _).drew,(fun h=>by cases h),(fun h=>by cases h),(fun h=>by cases h),(fun h=>by cases h),(fun h=>by cases h),(fun h=>by cases h)⟩
theorem NpI.same' (h : NpI w0 d' de done vf W) (h5 : 5 ≠ i) (h9 : 9 ≠ i) (h10 : 10 ≠ i) (h6 : i = 6 → done 5 = true) (h7 : i = 7 → done 6 = true) : NpI w0 d' de (updDone done i) (updVal vf i v) W:=by
 have e5 : updDone done i 5 = done 5:=if_neg h5
 have e9 : updDone done i 9 = done 9:=if_neg h9
 have e10 : updDone done i 10 = done 10:=if_neg h10
 have f5 : updVal vf i v 5 = vf 5:=if_neg h5
 have f9 : updVal vf i v 9 = vf 9:=if_neg h9
 refine ⟨h.fr,?_,?_,?_,?_,?_,?_⟩
 ·intro e
  rw [e5]
  by_cases e6 : 6 = i
  ·exact h6 e6.symm
  ·exact h.o6 (by rw [← e];exact (if_neg e6).symm)
 ·intro e
  by_cases e7 : 7 = i
  ·subst e7
   show updDone done 7 6 = true
   exact h7 rfl
  ·have h1:=h.o7 (by rw [← e];exact (if_neg e7).symm)
   unfold updDone
   split
   ·rfl
   ·exact h1
 all_goals simp only [e5,e9,e10,f5,f9]
 ·exact h.c5
 ·exact h.c5'
 ·exact h.c9
 ·exact h.c10
theorem NpI.call5 {x y : Value} (h : NpI w0 d' de done vf W) (n10 : done 10 = false) (hb : Below W.heap.size W W') (hr : RdDisk W' (fun b=>W.heap.size≤b) x y d') : NpI w0 d' de (updDone done 5) (updVal vf 5 (.tuple #[.agg #[x,y],.int .i64 de])) W':=by
 have f5 : updVal vf 5 (.tuple #[.agg #[x,y],.int .i64 de]) 5 = .tuple #[.agg #[x,y],.int .i64 de]:=if_pos rfl
 have f9 : updVal vf 5 (.tuple #[.agg #[x,y],.int .i64 de]) 9 = vf 9:=if_neg (by decide)
 have e9 : updDone done 5 9 = done 9:=if_neg (by decide)
 have e10 : updDone done 5 10 = done 10:=if_neg (by decide)
 refine ⟨bel_call h.fr hb,fun _=>by simp [updDone],fun e=>?_,fun _ _=>⟨x,y,f5,?_⟩,fun _=>⟨x,y,f5⟩,fun e=>?_,fun e=>by rw [e10,n10] at e;cases e⟩
 ·have:=h.o7 (by simpa [updDone] using e);simpa [updDone] using this
 ·refine RdDisk.keep hr (fun b hb' hl=>⟨by have h1 : W.heap.size≤b:=hb';have:=h.fr.size;omega,fun h9 e=>?_⟩) (fun _ _ _=>rfl) (Nat.le_refl _)
  rw [e9] at h9
  rw [f9] at e
  obtain ⟨b9,hb9,_,hc9⟩:=h.c9 h9
  rw [hb9] at e
  injection e with e;injection e with e;injection e with e
  have h2:=(Array.getElem?_eq_some_iff.1 (hc9 n10)).1
  have h1 : W.heap.size≤b:=hb'
  omega
 ·rw [e9] at e
  obtain ⟨b9,hb9,hl9,hc9⟩:=h.c9 e
  exact ⟨b9,by rw [f9];exact hb9,hl9,fun _=>blk_below (hc9 n10) hb⟩
theorem NpI.new9 (h : NpI w0 d' de done vf W) (n10 : done 10 = false) : NpI w0 d' de (updDone done 9) (updVal vf 9 (.pointer (some ⟨W.heap.size,0,none⟩))) (W.alloc (.cells #[.slice none 0 0,.slice none 0 0] 25)):=by
 have hb : Below W.heap.size W (W.alloc (.cells #[.slice none 0 0,.slice none 0 0] 25)):=bel_alloc (Below.refl _ _) _
 have f5 : updVal vf 9 (.pointer (some ⟨W.heap.size,0,none⟩)) 5 = vf 5:=if_neg (by decide)
 have f9 : updVal vf 9 (.pointer (some ⟨W.heap.size,0,none⟩)) 9 = .pointer (some ⟨W.heap.size,0,none⟩):=if_pos rfl
 have e5 : updDone done 9 5 = done 5:=if_neg (by decide)
 have e10 : updDone done 9 10 = done 10:=if_neg (by decide)
 refine ⟨bel_call h.fr hb,fun e=>?_,fun e=>?_,fun e _=>?_,fun e=>?_,fun _=>⟨_,f9,h.fr.size,fun _=>heap_last _ _⟩,fun e=>by rw [e10,n10] at e;cases e⟩
 ·have:=h.o6 (by simpa [updDone] using e);simpa [updDone] using this
 ·have:=h.o7 (by simpa [updDone] using e);simpa [updDone] using this
 ·rw [e5] at e
  obtain ⟨x,y,h1,h2⟩:=h.c5 e n10
  refine ⟨x,y,by rw [f5];exact h1,RdDisk.keep h2 (fun b hb' hl=>⟨hb'.1,fun _ e9=>?_⟩) (fun b _ hl=>hb.block b hl) hb.size⟩
  rw [f9] at e9
  injection e9 with e9;injection e9 with e9;injection e9 with e9
  omega
 ·rw [e5] at e
  rw [f5]
  exact h.c5' e
theorem NpI.st10 (h : NpI w0 d' de done vf W) (d5 : done 5 = true) (d9 : done 9 = true) (n10 : done 10 = false) : ∀ (b : Nat) (x y : Value),vf 9 = .pointer (some ⟨b,0,none⟩) → vf 5 = .tuple #[.agg #[x,y],.int .i64 de] → NpI w0 d' de (updDone done 10) (updVal vf 10 v) ((W.setCell ⟨b,0,none⟩ x).setCell ⟨b,1,none⟩ y):=by
 intro b x y hb9 h5
 obtain ⟨b',hb',hl,hc⟩:=h.c9 d9
 rw [hb9] at hb'
 injection hb' with hb';injection hb' with hb';injection hb' with hb'
 subst hb'
 obtain ⟨x',y',h5',hr⟩:=h.c5 d5 n10
 rw [h5] at h5'
 simp only [Value.tuple.injEq,Array.mk.injEq,List.cons.injEq,Value.agg.injEq,and_true] at h5'
 obtain ⟨rfl,rfl⟩:=h5'
 have hg : W.grownBy ((W.setCell ⟨b,0,none⟩ x).setCell ⟨b,1,none⟩ y) (some b):=puts2_grow x y
 have f5 : updVal vf 10 v 5 = vf 5:=if_neg (by decide)
 have f9 : updVal vf 10 v 9 = vf 9:=if_neg (by decide)
 refine ⟨below_of_grow h.fr hg h.fr.size hl,fun e=>?_,fun e=>?_,fun _ e=>by simp [updDone] at e,fun _=>⟨x,y,by rw [f5];exact h5⟩,fun _=>⟨b,by rw [f9];exact hb9,hl,fun e=>by simp [updDone] at e⟩,fun _=>⟨b,x,y,by rw [f9];exact hb9,hl,puts2_at x y (hc n10),?_⟩⟩
 ·have:=h.o6 (by simpa [updDone] using e);simpa [updDone] using this
 ·have:=h.o7 (by simpa [updDone] using e);simpa [updDone] using this
 ·exact RdDisk.keep hr (fun k hk _=>⟨hk.1,fun e=>hk.2 d9 (by rw [e];exact hb9)⟩) (fun k hk hl'=>grow_keep hg hl' (fun e=>hk.2 d9 (by rw [e];exact hb9))) hg.size
end
theorem puts4_keep {W : World} {b k : Nat} {v0 v1 v2 v3 : Value} (hk : k < W.heap.size) (hb : k ≠ b) : ((((W.setCell ⟨b,0,none⟩ v0).setCell ⟨b,1,none⟩ v1).setCell ⟨b,2,none⟩ v2).setCell ⟨b,3,none⟩ v3).heap[k]? = W.heap[k]?:=grow_keep (puts4_grow v0 v1 v2 v3) hk hb
theorem keep_puts4 {B β : Nat} {W : World} {a b c d : Value} (hβ : β < B) : KeepFrom B W ((((W.setCell ⟨β,0,none⟩ a).setCell ⟨β,1,none⟩ b).setCell ⟨β,2,none⟩ c).setCell ⟨β,3,none⟩ d) :=
 ⟨(puts4_grow (W:=W) (b:=β) a b c d).size,fun k hk hl=>puts4_keep hl (by omega)⟩
def PFinN (w0 : World) (β : Nat) (u v : Value) (W : World) : Prop:=∃ x,W.heap[β]? = some (.cells #[x,u,v,.bool false] 27)∧RdCells W (fun b=>w0.heap.size≤b) x newCells∧w0.grownBy W (some β)
theorem put_finN {w0 W : World} {β : Nat} {x c c0 c1 c2 c3 : Value} {up : Bool} (hb : Below w0.heap.size w0 W) (hβ : W.heap[β]? = some (.cells #[c,c0,c3,.bool up] 27)) (hlt : β < w0.heap.size) (hx : RdCells W (fun b=>w0.heap.size≤b) x newCells) :
  PFinN w0 β c1 c2 ((((W.setCell ⟨β,0,none⟩ x).setCell ⟨β,1,none⟩ c1).setCell ⟨β,2,none⟩ c2).setCell ⟨β,3,none⟩ (.bool false)) :=
 ⟨x,puts4_at x c1 c2 (.bool false) hβ,RdCells.keep hx (fun _ h _=>h) (fun k hk hl=>puts4_keep hl (by have h1 : w0.heap.size≤k:=hk;omega)) (puts4_grow x c1 c2 (.bool false)).size,grown_trans_below hb (puts4_grow x c1 c2 (.bool false))⟩
structure NwI (w0 : World) (bw : Nat) (c u v N x y : Value) (up : Bool) (done : Nat → Bool) (vf : Nat → Value) (W : World) : Prop where
 gr : w0.grownBy W (some bw)
 b : W.heap[bw]? = some (.cells #[if done 6 then N else c,if done 9 then x else u,if done 9 then y else v,.bool up] 27)
section
variable {w0 W : World} {bw : Nat} {c u v N x y z : Value} {up : Bool} {done : Nat → Bool} {vf : Nat → Value} {i : Nat}
theorem NwI.start (h : w0.heap[bw]? = some (.cells #[c,u,v,.bool up] 27)) : NwI w0 bw c u v N x y up (fun _=>false) (fun _=>undef) w0.drew:=⟨⟨rfl,rfl,rfl,Nat.le_refl _,fun _ _ _=>rfl⟩,h⟩
theorem NwI.same (h : NwI w0 bw c u v N x y up done vf W) (h6 : 6 ≠ i) (h9 : 9 ≠ i) : NwI w0 bw c u v N x y up (updDone done i) (updVal vf i z) W:=by
 have e6 : updDone done i 6 = done 6:=if_neg h6
 have e9 : updDone done i 9 = done 9:=if_neg h9
 exact ⟨h.gr,by rw [e6,e9];exact h.b⟩
theorem NwI.st6 {v' : Value} (h : NwI w0 bw c u v' N x y up done vf W) (n6 : done 6 = false) (n9 : done 9 = false) : NwI w0 bw c u v' N x y up (updDone done 6) (updVal vf 6 v) (W.setCell ⟨bw,0,none⟩ N):=by
 refine ⟨grow_trans h.gr (grow_set _ _ _ _),?_⟩
 have hb:=h.b
 rw [n6,n9] at hb
 have e6 : updDone done 6 6 = true:=if_pos rfl
 have e9 : updDone done 6 9 = false:=(if_neg (by decide)).trans n9
 rw [e6,e9]
 exact set_at hb
theorem NwI.st9 {v' : Value} (h : NwI w0 bw c u v' N x y up done vf W) (n9 : done 9 = false) (d6 : done 6 = true) : NwI w0 bw c u v' N x y up (updDone done 9) (updVal vf 9 v) ((W.setCell ⟨bw,1,none⟩ x).setCell ⟨bw,2,none⟩ y):=by
 refine ⟨grow_trans (grow_trans h.gr (grow_set _ _ _ _)) (grow_set _ _ _ _),?_⟩
 have hb:=h.b
 rw [d6,n9] at hb
 have e6 : updDone done 9 6 = true:=(if_neg (by decide)).trans d6
 have e9 : updDone done 9 9 = true:=if_pos rfl
 rw [e6,e9]
 exact set_at (set_at hb)
end
theorem below_grown {w W : World} {bw : Nat} (hb : Below w.heap.size w W) : w.grownBy W (some bw):=⟨hb.os,hb.tape,hb.output,hb.size,fun k hk _=>hb.block k hk⟩
set_option maxRecDepth 100000 in
set_option maxHeartbeats 32000000 in
theorem wnote_any (bw : Nat) (c u v ur : Value) (t : TWorld) (r : TRec) (tear : Bool) (kept : Int) (G D : Nat → Prop) (w : World) (hG0 : ¬ G bw) (hGu : ∀ b,w.heap.size≤b → G b) (h : WBx w G bw c u v t) (hr : RdRules w D ur r.p.rules) (hL : Laid w) :
  Calls Tryz.prog 88 #[.pointer (some ⟨bw,0,none⟩),recV r ur,.bool tear,.int .i64 kept] w (WPost w G bw (noteE t r tear kept).1 (noteE t r tear kept).2):=by
 have HL:=Lib.hid hL
 have Hw:=Lib.hid h
 have HG0:=Lib.hid hG0
 have HGu:=Lib.hid hGu
 clear hG0 hGu
 obtain ⟨kd,cl,fr,p⟩:=r
 dsimp only at hr ⊢
 have Hr:=Lib.hid hr
 obtain ⟨a0,c0,rfl,hf0⟩:=Sl.form h.rd.cells
 obtain ⟨a1,c1,rfl,hf1⟩:=Sl.form h.rd.disk.1
 obtain ⟨a2,c2,rfl,hf2⟩:=Sl.form h.rd.disk.2
 obtain ⟨ar,cr,rfl,hf3⟩:=Sl.form hr
 obtain ⟨⟨N,ne⟩,hN⟩ : ∃ E,nextE t.cells ⟨kd,cl,fr,p⟩ = E:=⟨_,rfl⟩
 obtain ⟨⟨d',de⟩,hP⟩ : ∃ E,putE t.d ⟨kd,cl,fr,p⟩ = E:=⟨_,rfl⟩
 have HN:=Lib.hid hN
 have HPt:=Lib.hid hP
 clear h hr hL hf0 hf1 hf2 hf3 hN hP
 go_enter Tryz.func88,Tryz.ntmps88
 go_wp2_with fail
 have HB0:=Lib.hid (Bx.one (w:=w) (o:=.cells #[.int .i64 kd,.int .i64 cl,.int .i64 fr,.slice ar p.rules.length cr,.int .i64 p.dflt] 56))
 have Hbw1:=Lib.hid (Hw.out.below HB0.out.bel).box
 have Ht1 : Hid (RdWorld _ (fun b=>b < w.heap.size∧G b) _ _ _ t):=RdWorld.below (RdWorld.keep (D':=fun b=>b < w.heap.size∧G b) Hw.out.rd (fun b hb hl=>⟨hl,hb⟩) (fun _ _ _=>rfl) (Nat.le_refl _)) HB0.out.bel
 have Hr1:=Lib.hid (RdRules.below Hr.out HB0.out.bel)
 have HL1:=Lib.hid (HL.out.below HB0.out.bel)
 have Hbw : Hid (bw < w.heap.size):=(Array.getElem?_eq_some_iff.1 Hw.out.box).1
 revert HB0 Hbw1 Ht1 Hr1 HL1
 generalize (w.alloc (.cells #[.int .i64 kd,.int .i64 cl,.int .i64 fr,.slice ar p.rules.length cr,.int .i64 p.dflt] 56)) = w1
 intro HB0 Hbw1 Ht1 Hr1 HL1
 refine wp_region_B [ex (.pointer (some ⟨bw,0,none⟩)),ex (.pointer (some ⟨bw,0,none⟩)),ex (.pointer (some ⟨bw,0,none⟩)),ex (.slice a0 t.cells.length c0),ex (recV ⟨kd,cl,fr,p⟩ (.slice ar p.rules.length cr)),pr (fun v W=>∃ a c,v = .tuple #[.slice a N.length c,.int .i64 ne]∧RdCells W G (.slice a N.length c) N),pr (fun v W=>∃ a c,v = .tuple #[.slice a N.length c,.int .i64 ne]∧RdCells W G (.slice a N.length c) N),pr (fun v W=>∃ a c,v = .slice a N.length c∧RdCells W G (.slice a N.length c) N),ex (.int .i64 ne),pr (fun v W=>∃ a c,v = .slice a N.length c∧RdCells W G (.slice a N.length c) N),ex (.int .i64 ne)] w1.heap.size (Nat.le_refl _) (by kernel_rfl) (by kernel_rfl) ⟨.inl ⟨_,rfl⟩,.inl ⟨_,rfl⟩,.inl ⟨_,rfl⟩,.inl ⟨_,rfl⟩,.inl ⟨_,rfl⟩,.inr ⟨_,rfl,tupc_stable⟩,.inr ⟨_,rfl,tupc_stable⟩,.inr ⟨_,rfl,cells_stableW⟩,.inl ⟨_,rfl⟩,.inr ⟨_,rfl,cells_stableW⟩,.inl ⟨_,rfl⟩,trivial⟩ ?_
 (refine walkB_ex (fun K hK=>?_);refine ⟨fun W hC hd R hR=>?_,?_⟩;(clear hd;go_simp;exact hR _ _ (Below.refl _ _) rfl);(go_simp;refine hK _ ?_;clear hK K))
 (refine walkB_ex (fun K hK=>?_);refine ⟨fun W hC hd R hR=>?_,?_⟩;(clear hd;go_simp;exact hR _ _ (Below.refl _ _) rfl);(go_simp;refine hK _ ?_;clear hK K))
 (refine walkB_ex (fun K hK=>?_);refine ⟨fun W hC hd R hR=>?_,?_⟩;(clear hd;go_simp;exact hR _ _ (Below.refl _ _) rfl);(go_simp;refine hK _ ?_;clear hK K))
 (refine walkB_ex (fun K hK=>?_);refine ⟨fun W hC hd R hR=>?_,?_⟩;(have hqw:=cells_of (blk_below Hbw1.out hC.2);have hqr:=(HB0.out.below hC.2).cells0;clear hd;go_simp;exact hR _ _ (Below.refl _ _) rfl);(go_simp;refine hK _ ?_;clear hK K))
 (refine walkB_ex (fun K hK=>?_);refine ⟨fun W hC hd R hR=>?_,?_⟩;(have hqw:=cells_of (blk_below Hbw1.out hC.2);have hqr:=(HB0.out.below hC.2).cells0;clear hd;go_simp;exact hR _ _ (Below.refl _ _) rfl);(go_simp;refine hK _ ?_;clear hK K))
 (refine walkB_pr (fun K hK=>?_);refine ⟨fun W hC hd R hR=>?_,fun v5=>?_⟩;(have hcw:=(Ht1.out.below hC.2).cells;have hrw:=RdRules.below Hr1.out hC.2;have HCW:=Lib.hid hcw;have HRW:=Lib.hid hrw;have HLT : Hid (w.heap.size≤W.heap.size):=(by show _≤_;have:=hC.1;have:=HB0.out.bel.size;omega);clear hcw hrw;clear hd;go_simp;go_at_call 98;refine (next_any _ _ t.cells ⟨kd,cl,fr,p⟩ _ _ W HCW.out HRW.out).mono ?_;rw [HN.out];rintro e w9 ⟨a9,c9,rfl,hr9,hb9⟩;exact ⟨_,rfl,hR _ _ hb9 ⟨_,_,rfl,hr9.keep (fun b hb _=>HGu.out _ (by have h1 : _≤b:=hb;have:=HLT.out;omega)) (fun _ _ _=>rfl) (Nat.le_refl _)⟩⟩);(go_simp;refine hK _ _ ?_;clear hK K))
 (refine walkB_pr (fun K hK=>?_);refine ⟨fun W hC hd R hR=>?_,fun v6=>?_⟩;(have h5 : ∃ a c,v5 = .tuple #[.slice a N.length c,.int .i64 ne]∧RdCells W G (.slice a N.length c) N:=hd 5 (by decide);have H5:=Lib.hid h5;clear h5;clear hd;go_simp;exact hR _ _ (Below.refl _ _) H5.out);(go_simp;refine hK _ _ ?_;clear hK K))
 (refine walkB_pr (fun K hK=>?_);refine ⟨fun W hC hd R hR=>?_,fun v7=>?_⟩;(have h6 : ∃ a c,v6 = .tuple #[.slice a N.length c,.int .i64 ne]∧RdCells W G (.slice a N.length c) N:=hd 6 (by decide);obtain ⟨a6,c6,rfl,h6⟩:=h6;have H6:=Lib.hid h6;clear h6;clear hd;go_simp;exact hR _ _ (Below.refl _ _) ⟨_,_,rfl,H6.out⟩);(go_simp;refine hK _ _ ?_;clear hK K))
 (refine walkB_ex (fun K hK=>?_);refine ⟨fun W hC hd R hR=>?_,?_⟩;(have h6 : ∃ a c,v6 = .tuple #[.slice a N.length c,.int .i64 ne]∧RdCells W G (.slice a N.length c) N:=hd 6 (by decide);obtain ⟨a6,c6,rfl,h6⟩:=h6;clear h6;clear hd;go_simp;exact hR _ _ (Below.refl _ _) rfl);(go_simp;refine hK _ ?_;clear hK K))
 (refine walkB_pr (fun K hK=>?_);refine ⟨fun W hC hd R hR=>?_,fun v9=>?_⟩;(have h7 : ∃ a c,v7 = .slice a N.length c∧RdCells W G (.slice a N.length c) N:=hd 7 (by decide);have H7:=Lib.hid h7;clear h7;clear hd;go_simp;exact hR _ _ (Below.refl _ _) H7.out);(go_simp;refine hK _ _ ?_;clear hK K))
 (refine walkB_ex (fun K hK=>?_);refine ⟨fun W hC hd R hR=>?_,?_⟩;(clear hd;go_simp;exact hR _ _ (Below.refl _ _) rfl);(go_simp;refine hK _ ?_;clear hK K))
 intro w2 hC2 hfacts
 obtain ⟨⟨⟨⟨_,h5⟩,h6⟩,h7⟩,h9⟩:=hfacts
 obtain ⟨a9,c9,rfl,hrc9⟩:=h9
 have HB2:=Lib.hid (HB0.out.below hC2.2)
 have Hbw2:=Lib.hid (blk_below Hbw1.out hC2.2)
 have Ht2:=Lib.hid (RdWorld.below Ht1.out hC2.2)
 have Hr2:=Lib.hid (RdRules.below Hr1.out hC2.2)
 have HL2:=Lib.hid (HL1.out.below hC2.2)
 have Hrc2 : Hid (RdCells w2 (fun b=>b < w2.heap.size∧G b) (.slice a9 N.length c9) N):=hrc9.keep (fun b hb hl=>⟨hl,hb⟩) (fun _ _ _=>rfl) (Nat.le_refl _)
 clear hC2 h5 h6 h7 hrc9 HB0 Hbw1 Ht1 Hr1 HL1
 by_cases hne : ne = 0
 ·subst hne
  have HNo : Hid (noteE t ⟨kd,cl,fr,p⟩ tear kept = if de ≠ 0 then (t,de) else if tear then (if (crashE d' (max 0 (min kept d'.wait.length))).2 ≠ 0 then (t,(crashE d' (max 0 (min kept d'.wait.length))).2) else (⟨newCells,(crashE d' (max 0 (min kept d'.wait.length))).1,false⟩,0)) else if (syncE d').2 ≠ 0 then (t,(syncE d').2) else (⟨N,(syncE d').1,t.up⟩,0)):=by
   show noteE _ _ _ _ = _
   unfold noteE
   rw [HN.out,HPt.out,if_neg (by simp)]
  go_wp2_with fail
  refine RV.wp_region_rel (NpI w2 d' de) (fun _ _ _ _=>True) (fun _ _ _ _=>True) (by kernel_rfl) (by kernel_rfl) _ rfl (fun _ _ _ _ _ _ _ _ _ _ _ _=>trivial) (fun _ _ _ _ _ _ _ _=>trivial) NpI.start ?_
  (refine RV.rel_ex (fun K hK=>?_);apply Exists.intro;refine ⟨fun done vf W hI hd0 hd hn hf R hR=>?_,?_,?_⟩;(clear hd0 hd hn hf;go_simp;exact hR _ _ (hI.same' (by decide) (by decide) (by decide) (fun e=>absurd e (by decide)) (fun e=>absurd e (by decide))) trivial rfl trivial);exact (fun _ _ _=>rfl);(go_simp;refine hK _ ?_;clear hK K))
  (refine RV.rel_ex (fun K hK=>?_);apply Exists.intro;refine ⟨fun done vf W hI hd0 hd hn hf R hR=>?_,?_,?_⟩;(clear hd0 hd hn hf;go_simp;exact hR _ _ (hI.same' (by decide) (by decide) (by decide) (fun e=>absurd e (by decide)) (fun e=>absurd e (by decide))) trivial rfl trivial);exact (fun _ _ _=>rfl);(go_simp;refine hK _ ?_;clear hK K))
  (refine RV.rel_ex (fun K hK=>?_);apply Exists.intro;refine ⟨fun done vf W hI hd0 hd hn hf R hR=>?_,?_,?_⟩;(clear hd0 hd hn hf;go_simp;exact hR _ _ (hI.same' (by decide) (by decide) (by decide) (fun e=>absurd e (by decide)) (fun e=>absurd e (by decide))) trivial rfl trivial);exact (fun _ _ _=>rfl);(go_simp;refine hK _ ?_;clear hK K))
  (refine RV.rel_ex (fun K hK=>?_);apply Exists.intro;refine ⟨fun done vf W hI hd0 hd hn hf R hR=>?_,?_,?_⟩;(have hqw:=cells_of (blk_below Hbw2.out hI.fr);have hqr:=(HB2.out.below hI.fr).cells0;clear hd0 hd hn hf;go_simp;exact hR _ _ (hI.same' (by decide) (by decide) (by decide) (fun e=>absurd e (by decide)) (fun e=>absurd e (by decide))) trivial rfl trivial);exact (fun _ _ _=>rfl);(go_simp;refine hK _ ?_;clear hK K))
  (refine RV.rel_ex (fun K hK=>?_);apply Exists.intro;refine ⟨fun done vf W hI hd0 hd hn hf R hR=>?_,?_,?_⟩;(have hqw:=cells_of (blk_below Hbw2.out hI.fr);have hqr:=(HB2.out.below hI.fr).cells0;clear hd0 hd hn hf;go_simp;exact hR _ _ (hI.same' (by decide) (by decide) (by decide) (fun e=>absurd e (by decide)) (fun e=>absurd e (by decide))) trivial rfl trivial);exact (fun _ _ _=>rfl);(go_simp;refine hK _ ?_;clear hK K))
  (refine RV.rel_pr (fun K hK=>?_);refine ⟨fun done vf W hI hd0 hd hn hf R hR=>?_,?_⟩;(have n10 : done 10 = false:=hn 10 (by decide);have hdw:=(Ht2.out.below hI.fr).disk;have HDW:=Lib.hid hdw;have HRW:=Lib.hid (RdRules.below Hr2.out hI.fr);have HLW:=Lib.hid (HL2.out.below hI.fr);have HI:=Lib.hid hI;clear hdw hI hd hn hf;go_simp;go_at_call 33;refine (dput_any _ _ _ t.d ⟨kd,cl,fr,p⟩ _ _ W HDW.out HRW.out HLW.out).mono ?_;rw [HPt.out];rintro e w9 ⟨u9,v9,rfl,hr9,hb9⟩;exact ⟨_,rfl,hR _ _ (HI.out.call5 n10 hb9 hr9) trivial trivial trivial⟩);(go_simp;refine hK _ ?_;clear hK K))
  (refine RV.rel_ex (fun K hK=>?_);apply Exists.intro;refine ⟨fun done vf W hI hd0 hd hn hf R hR=>?_,?_,?_⟩;(have d5 : done 5 = true:=hd 5 (by decide);clear hd0 hd hn hf;go_simp;exact hR _ _ (hI.same' (by decide) (by decide) (by decide) (fun _=>d5) (fun e=>absurd e (by decide))) trivial rfl trivial);exact (fun f g h=>h 5 (by decide));(go_simp;refine hK _ ?_;clear hK K))
  (refine RV.rel_ex (fun K hK=>?_);refine ⟨fun vf=>fstV (vf 5),?_⟩;refine ⟨fun done vf W hI hd0 hd hn hf R hR=>?_,?_,?_⟩;(have d6r : done 6 = true:=hd 6 (by decide);have d6 : done 5 = true:=hI.o6 d6r;have n10 : done 10 = false:=hn 10 (by decide);obtain ⟨x,y,h5,_⟩:=hI.c5 d6 n10;have HI:=Lib.hid hI;clear hI;clear hd0 hd hn hf;go_simp;exact hR _ _ (HI.out.same' (by decide) (by decide) (by decide) (fun e=>absurd e (by decide)) (fun _=>d6r)) trivial (by show _ = fstV (vf 5);rw [h5];rfl) trivial);exact (fun f g h=>by show fstV (f 5) = fstV (g 5);rw [h 5 (by decide)]);(go_simp;refine hK _ ?_;clear hK K))
  (refine RV.rel_ex (fun K hK=>?_);apply Exists.intro;refine ⟨fun done vf W hI hd0 hd hn hf R hR=>?_,?_,?_⟩;(have d6 : done 5 = true:=hI.o6 (hd 6 (by decide));obtain ⟨x,y,h5⟩:=hI.c5' d6;have HI:=Lib.hid hI;clear hI;clear hd0 hd hn hf;go_simp;exact hR _ _ (HI.out.same' (by decide) (by decide) (by decide) (fun e=>absurd e (by decide)) (fun e=>absurd e (by decide))) trivial rfl trivial);exact (fun _ _ _=>rfl);(go_simp;refine hK _ ?_;clear hK K))
  (refine RV.rel_pr (fun K hK=>?_);refine ⟨fun done vf W hI hd0 hd hn hf R hR=>?_,?_⟩;(have n10 : done 10 = false:=hn 10 (by decide);have HNW:=Lib.hid (hI.new9 n10);clear hd hn hf hI;go_simp;exact hR _ _ HNW.out trivial trivial trivial);(go_simp;refine hK _ ?_;clear hK K))
  (refine RV.rel_pr (fun K hK=>?_);refine ⟨fun done vf W hI hd0 hd hn hf R hR=>?_,?_⟩;(have d9 : done 9 = true:=hd 9 (by decide);have d5 : done 5 = true:=hI.o6 (hI.o7 (hd 7 (by decide)));have hF:=(fun v=>hI.st10 (v:=v) d5 d9 hd0);obtain ⟨b,hb9,hbl,hbc⟩:=hI.c9 d9;obtain ⟨x,y,h5,hrx⟩:=hI.c5 d5 hd0;obtain ⟨x1,y1,rfl,_⟩:=Sl.form hrx.1;obtain ⟨x2,y2,rfl,_⟩:=Sl.form hrx.2;have hF':=hF undef _ _ _ hb9 h5;have hqc:=cells_of (hbc hd0);have hfc:=not_frozen (hbc hd0);have HF:=Lib.hid hF';have hfst : fstV (vf 5) = .agg #[.slice x1 d'.safe.length y1,.slice x2 d'.wait.length y2]:=(by rw [h5];rfl);clear hd0 hd hn hf hF hF' hI hrx hbc h5;go_simp;exact hR _ _ HF.out trivial trivial trivial);(go_simp;refine hK _ ?_;clear hK K))
  (refine RV.rel_ex (fun K hK=>?_);apply Exists.intro;refine ⟨fun done vf W hI hd0 hd hn hf R hR=>?_,?_,?_⟩;(have HI:=Lib.hid hI;clear hI;clear hd0 hd hn hf;go_simp;exact hR _ _ (HI.out.same' (by decide) (by decide) (by decide) (fun e=>absurd e (by decide)) (fun e=>absurd e (by decide))) trivial rfl trivial);exact (fun _ _ _=>rfl);(go_simp;refine hK _ ?_;clear hK K))
  intro done vf w3 hdone hI _
  obtain ⟨bd,x,y,hbd,hbl,hbc,hrd⟩:=hI.c10 (hdone 10 (by decide))
  have HB3:=Lib.hid (HB2.out.below hI.fr)
  have Hbw3:=Lib.hid (blk_below Hbw2.out hI.fr)
  have Ht3:=Lib.hid (RdWorld.below Ht2.out hI.fr)
  have HL3:=Lib.hid (HL2.out.below hI.fr)
  have Hrc3:=Lib.hid (RdCells.below Hrc2.out hI.fr)
  have hbw2:=(Array.getElem?_eq_some_iff.1 Hbw2.out).1
  have HDB : Hid (DBox w2 w3 bd x y d'):=⟨hI.fr,hbl,hbc,RdDisk.keep hrd (fun k hk _=>hk.2) (fun _ _ _=>rfl) (Nat.le_refl _)⟩
  have Hbd2 : Hid (w2.heap.size≤bd):=hbl
  have Hbdw : Hid (w.heap.size≤bd):=by show _≤_;have:=HB2.out.bel.size;omega
  have Hbn : Hid (bd ≠ bw):=by show _ ≠ _;omega
  obtain ⟨x1,y1,rfl,_⟩:=Sl.form hrd.1
  obtain ⟨x2,y2,rfl,_⟩:=Sl.form hrd.2
  simp only [Exit.then]
  rw [hbd]
  clear hdone hI hbl hbc hrd hbw2 hbd
  by_cases hde : de = 0
  ·subst hde
   cases tear with
   | true =>
    obtain ⟨mi,hmi⟩ : ∃ mi,min kept (d'.wait.length : Int) = mi:=⟨_,rfl⟩
    obtain ⟨ma,hma⟩ : ∃ ma,max 0 mi = ma:=⟨_,rfl⟩
    obtain ⟨⟨d5,ce⟩,hcr⟩ : ∃ E,crashE d' ma = E:=⟨_,rfl⟩
    have HCR:=Lib.hid hcr
    have HNc : Hid (noteE t ⟨kd,cl,fr,p⟩ true kept = if ce ≠ 0 then (t,ce) else (⟨newCells,d5,false⟩,0)):=by show _ = _;rw [HNo.out,if_neg (by simp),if_pos rfl,hmi,hma,hcr]
    have hmin : (if (d'.wait.length : Int) < kept then (d'.wait.length : Int) else kept) = mi:=by rw [← hmi];omega
    have hmax : (if (0 : Int) < mi then mi else 0) = ma:=by rw [← hma];omega
    have hqd:=HDB.out.cells
    clear hcr HNo
    go_wp2_with fail
    refine (dcrash_any _ _ d' ma _ _ HDB.out.rd HL3.out).mono ?_
    rw [HCR.out]
    rintro e w4 ⟨u5,v5,rfl,hr5,hb5⟩
    dsimp only at hr5
    obtain ⟨x1,y1,rfl,_⟩:=Sl.form hr5.1
    obtain ⟨x2,y2,rfl,_⟩:=Sl.form hr5.2
    have hqe:=cells_of (blk_below HDB.out.box hb5)
    have hfe:=not_frozen (blk_below HDB.out.box hb5)
    have HD5:=Lib.hid (HDB.out.put hb5 hr5)
    have Hg4 : Hid (w3.grownBy _ (some bd)):=grown_trans_below hb5 (puts2_grow (b:=bd) (.slice x1 d5.safe.length y1) (.slice x2 d5.wait.length y2))
    have Hrd5 : Hid (RdDisk _ (fun k=>G k∧k ≠ bd) (.slice x1 d5.safe.length y1) (.slice x2 d5.wait.length y2) d5):=RdDisk.keep hr5 (fun k hk _=>by have h1 : w3.heap.size≤k:=hk;have h2:=(Array.getElem?_eq_some_iff.1 HDB.out.box).1;have h3:=HB3.out.bel.size;exact ⟨HGu.out _ (by omega),by omega⟩) (fun k hk hl=>grow_keep (puts2_grow (b:=bd) (.slice x1 d5.safe.length y1) (.slice x2 d5.wait.length y2)) hl (by have h1 : w3.heap.size≤k:=hk;have h2:=(Array.getElem?_eq_some_iff.1 HDB.out.box).1;omega)) (puts2_grow (b:=bd) (.slice x1 d5.safe.length y1) (.slice x2 d5.wait.length y2)).size
    clear hqd hr5 hb5
    dsimp only
    by_cases hce : ce = 0
    ·subst hce
     have HE : Hid (noteE t ⟨kd,cl,fr,p⟩ true kept = (⟨newCells,d5,false⟩,0)):=by show _ = _;rw [HNc.out,if_neg (by simp)]
     go_wp2_with fail
     clear hqe hfe hmin hmax hmi hma
     revert HD5 Hg4 Hrd5
     generalize ((w4.setCell ⟨bd,0,none⟩ (.slice x1 d5.safe.length y1)).setCell ⟨bd,1,none⟩ (.slice x2 d5.wait.length y2)) = w5
     intro HD5 Hg4 Hrd5
     have Hbw5 : Hid (w5.heap[bw]? = some _):=(grow_keep Hg4.out (Array.getElem?_eq_some_iff.1 Hbw3.out).1 Hbn.out.symm).trans Hbw3.out
     have Hbd5 : Hid (w5.heap[bd]? = some _):=HD5.out.box
     have Hsz5 : Hid (w.heap.size≤w5.heap.size):=by show _≤_;have:=HB2.out.bel.size;have:=HD5.out.bel.size;omega
     have Hlw5 : Hid (bw < w5.heap.size):=(Array.getElem?_eq_some_iff.1 Hbw5.out).1
     refine wp_region_lastop 5 w5.heap.size [ex (.pointer (some ⟨bw,0,none⟩)),pr (fun v W=>∃ a c,v = .slice a newCells.length c∧RdCells W (fun b=>w5.heap.size≤b) (.slice a newCells.length c) newCells),ex (.agg #[.slice x1 d5.safe.length y1,.slice x2 d5.wait.length y2]),pr (fun v W=>∃ a c,v = .agg #[.slice a newCells.length c,.slice x1 d5.safe.length y1,.slice x2 d5.wait.length y2,.bool false]∧RdCells W (fun b=>w5.heap.size≤b) (.slice a newCells.length c) newCells),ex (.pointer (some ⟨bw,0,none⟩)),ex (undef)] (PFinN w5 bw (.slice x1 d5.safe.length y1) (.slice x2 d5.wait.length y2)) (by kernel_rfl) (by kernel_rfl) ⟨.inl ⟨_,rfl⟩,.inr ⟨_,rfl,cells_stableK⟩,.inl ⟨_,rfl⟩,.inr ⟨_,rfl,wagg_stableK⟩,.inl ⟨_,rfl⟩,.inl ⟨_,rfl⟩,trivial⟩ _ rfl ?_
     (refine walkP_ex (fun K hK=>?_);refine ⟨fun done W hI h0 hd hn hf R hR=>?_,?_⟩;(have hno : done 5 = false:=hn 5 (by decide);have hC:=hI.before hno;clear h0 hd hn hf;go_simp;exact hR _ _ (hI.step hno (by decide) (Below.refl _ _)) (KeepFrom.of_below (Below.refl _ _)) rfl);(go_simp;refine hK _ ?_;clear hK K))
     (refine walkP_pr (fun K hK=>?_);refine ⟨fun done W hI h0 hd hn hf R hR=>?_,fun v1=>?_⟩;(have hno : done 5 = false:=hn 5 (by decide);have hC:=hI.before hno;have hsz0 : w5.heap.size≤W.heap.size:=hC.1;have HSZ:=Lib.hid hsz0;clear hsz0;clear h0 hd hn hf;go_simp;go_at_call 61;refine (keepnew_any _).mono ?_;rintro e w9 ⟨v9,rfl,hr9,hb9⟩;obtain ⟨a9,c9,rfl,_⟩:=Sl.form hr9;exact ⟨_,rfl,hR _ _ (hI.step hno (by decide) hb9) (KeepFrom.of_below hb9) ⟨_,_,rfl,hr9.keep (fun b hb _=>by have h1 : _≤b:=hb;have:=HSZ.out;show _≤_;omega) (fun _ _ _=>rfl) (Nat.le_refl _)⟩⟩);(go_simp;refine hK _ _ ?_;clear hK K))
     (refine walkP_ex (fun K hK=>?_);refine ⟨fun done W hI h0 hd hn hf R hR=>?_,?_⟩;(have hno : done 5 = false:=hn 5 (by decide);have hC:=hI.before hno;have hqw:=cells_of (blk_below Hbw5.out hC.2);have hqd:=cells_of (blk_below Hbd5.out hC.2);clear h0 hd hn hf;go_simp;exact hR _ _ (hI.step hno (by decide) (Below.refl _ _)) (KeepFrom.of_below (Below.refl _ _)) rfl);(go_simp;refine hK _ ?_;clear hK K))
     (refine walkP_pr (fun K hK=>?_);refine ⟨fun done W hI h0 hd hn hf R hR=>?_,fun v3=>?_⟩;(have hno : done 5 = false:=hn 5 (by decide);have hC:=hI.before hno;have h1 : ∃ a c,v1 = .slice a newCells.length c∧RdCells W (fun b=>w5.heap.size≤b) (.slice a newCells.length c) newCells:=hf 1 (by decide);obtain ⟨a1,c1,rfl,h1⟩:=h1;have H1:=Lib.hid h1;clear h1 hC;clear h0 hd hn hf;go_simp;exact hR _ _ (hI.step hno (by decide) (Below.refl _ _)) (KeepFrom.of_below (Below.refl _ _)) ⟨_,_,rfl,H1.out⟩);(go_simp;refine hK _ _ ?_;clear hK K))
     (refine walkP_ex (fun K hK=>?_);refine ⟨fun done W hI h0 hd hn hf R hR=>?_,?_⟩;(have hno : done 5 = false:=hn 5 (by decide);have hC:=hI.before hno;clear h0 hd hn hf;go_simp;exact hR _ _ (hI.step hno (by decide) (Below.refl _ _)) (KeepFrom.of_below (Below.refl _ _)) rfl);(go_simp;refine hK _ ?_;clear hK K))
     (refine walkP_ex (fun K hK=>?_);refine ⟨fun done W hI h0 hd hn hf R hR=>?_,?_⟩;(have hno : done 5 = false:=h0;have hC:=hI.before hno;have h3 : ∃ a c,v3 = .agg #[.slice a newCells.length c,.slice x1 d5.safe.length y1,.slice x2 d5.wait.length y2,.bool false]∧RdCells W (fun b=>w5.heap.size≤b) (.slice a newCells.length c) newCells:=hf 3 (by decide);obtain ⟨a3,c3,rfl,h3⟩:=h3;have hbW:=blk_below Hbw5.out hC.2;have hqw:=cells_of hbW;have hfw:=not_frozen hbW;have HFn:=Lib.hid (put_finN (up:=t.up) hC.2 hbW Hlw5.out h3 (c1:=.slice x1 d5.safe.length y1) (c2:=.slice x2 d5.wait.length y2));have HKF : Hid (KeepFrom w5.heap.size W _):=keep_puts4 (W:=W) (β:=bw) (a:=.slice a3 newCells.length c3) (b:=.slice x1 d5.safe.length y1) (c:=.slice x2 d5.wait.length y2) (d:=.bool false) Hlw5.out;clear h3 hbW hC;clear h0 hd hn hf;go_simp;exact hR _ _ (LastI.at_ HFn.out) HKF.out rfl);(go_simp;refine hK _ ?_;clear hK K))
     intro done w6 hdone hI _
     obtain ⟨x,hbx,hrx,hgx⟩:=hI.after (hdone 5 (by decide))
     clear hdone hI
     have HWB : Hid (WBx w6 G bw x (.slice x1 d5.safe.length y1) (.slice x2 d5.wait.length y2) ⟨newCells,d5,false⟩):=⟨hbx,RdCells.keep hrx (fun k hk _=>HGu.out _ (by have h1 : w5.heap.size≤k:=hk;have:=Hsz5.out;omega)) (fun _ _ _=>rfl) (Nat.le_refl _),RdDisk.keep Hrd5.out (fun k hk _=>hk.1) (fun k hk hl=>grow_keep hgx hl (fun e=>HG0.out (e ▸ hk.1))) hgx.size⟩
     have HG : Hid (w.grownBy w6 (some bw)):=grown_trans_below (HB2.out.bel.trans (HD5.out.bel.mono HB2.out.bel.size)) hgx
     clear hbx hrx hgx
     go_wp2
     go_ret
     rw [HE.out]
     exact ⟨_,_,_,rfl,HWB.out,HG.out⟩
    ·have HE : Hid (noteE t ⟨kd,cl,fr,p⟩ true kept = (t,ce)):=by show _ = _;rw [HNc.out,if_pos hce]
     have hnz : (ce == 0) = false:=beq_eq_false_iff_ne.2 hce
     have Hbw5 : Hid (_ = some _):=(grow_keep Hg4.out (Array.getElem?_eq_some_iff.1 Hbw3.out).1 Hbn.out.symm).trans Hbw3.out
     have Hrw5:=Lib.hid (RdWorld.keep (D':=G) Ht3.out (fun k hk _=>hk.2) (fun k hk hl=>grow_keep Hg4.out hl (by have:=hk.1;have:=Hbdw.out;omega)) Hg4.out.size)
     have HG:=Lib.hid (HB2.out.bel.trans (HD5.out.bel.mono HB2.out.bel.size))
     clear hce
     go_wp2
     go_ret
     rw [HE.out]
     exact ⟨_,_,_,rfl,⟨Hbw5.out,Hrw5.out⟩,below_grown HG.out⟩
   | false =>
    obtain ⟨⟨d5,se⟩,hsy⟩ : ∃ E,syncE d' = E:=⟨_,rfl⟩
    have HSY:=Lib.hid hsy
    have HNc : Hid (noteE t ⟨kd,cl,fr,p⟩ false kept = if se ≠ 0 then (t,se) else (⟨N,d5,t.up⟩,0)):=by show _ = _;rw [HNo.out,if_neg (by simp),if_neg (by simp),hsy]
    have hqd:=HDB.out.cells
    clear hsy HNo
    go_wp2_with fail
    refine (dsync_any _ _ d' _ _ HDB.out.rd HL3.out).mono ?_
    rw [HSY.out]
    rintro e w4 ⟨u5,v5,rfl,hr5,hb5⟩
    dsimp only at hr5
    obtain ⟨x1,y1,rfl,_⟩:=Sl.form hr5.1
    obtain ⟨x2,y2,rfl,_⟩:=Sl.form hr5.2
    have hqe:=cells_of (blk_below HDB.out.box hb5)
    have hfe:=not_frozen (blk_below HDB.out.box hb5)
    have HD5:=Lib.hid (HDB.out.put hb5 hr5)
    have Hg4 : Hid (w3.grownBy _ (some bd)):=grown_trans_below hb5 (puts2_grow (b:=bd) (.slice x1 d5.safe.length y1) (.slice x2 d5.wait.length y2))
    have Hrd5 : Hid (RdDisk _ (fun k=>G k∧k ≠ bd) (.slice x1 d5.safe.length y1) (.slice x2 d5.wait.length y2) d5):=RdDisk.keep hr5 (fun k hk _=>by have h1 : w3.heap.size≤k:=hk;have h2:=(Array.getElem?_eq_some_iff.1 HDB.out.box).1;have h3:=HB3.out.bel.size;exact ⟨HGu.out _ (by omega),by omega⟩) (fun k hk hl=>grow_keep (puts2_grow (b:=bd) (.slice x1 d5.safe.length y1) (.slice x2 d5.wait.length y2)) hl (by have h1 : w3.heap.size≤k:=hk;have h2:=(Array.getElem?_eq_some_iff.1 HDB.out.box).1;omega)) (puts2_grow (b:=bd) (.slice x1 d5.safe.length y1) (.slice x2 d5.wait.length y2)).size
    clear hqd hr5 hb5
    dsimp only
    by_cases hse : se = 0
    ·subst hse
     have HE : Hid (noteE t ⟨kd,cl,fr,p⟩ false kept = (⟨N,d5,t.up⟩,0)):=by show _ = _;rw [HNc.out,if_neg (by simp)]
     have Hrc5:=Lib.hid (RdCells.keep (D':=G) Hrc3.out (fun k hk _=>hk.2) (fun k hk hl=>grow_keep Hg4.out hl (by have:=hk.1;have:=Hbd2.out;omega)) Hg4.out.size)
     go_wp2_with fail
     clear hqe hfe
     revert HD5 Hg4 Hrd5 Hrc5
     generalize ((w4.setCell ⟨bd,0,none⟩ (.slice x1 d5.safe.length y1)).setCell ⟨bd,1,none⟩ (.slice x2 d5.wait.length y2)) = w5
     intro HD5 Hg4 Hrd5 Hrc5
     have Hbw5 : Hid (w5.heap[bw]? = some _):=(grow_keep Hg4.out (Array.getElem?_eq_some_iff.1 Hbw3.out).1 Hbn.out.symm).trans Hbw3.out
     have Hbd5 : Hid (w5.heap[bd]? = some _):=HD5.out.box
     have Hld5 : Hid (bd < w5.heap.size):=(Array.getElem?_eq_some_iff.1 Hbd5.out).1
     have Hne5 : Hid (bd ≠ bw):=Hbn.out
     refine RV.wp_region_rel (NwI w5 bw (.slice a0 t.cells.length c0) (.slice a1 t.d.safe.length c1) (.slice a2 t.d.wait.length c2) (.slice a9 N.length c9) (.slice x1 d5.safe.length y1) (.slice x2 d5.wait.length y2) t.up) (fun _ _ _ _=>True) (fun _ _ _ _=>True) (by kernel_rfl) (by kernel_rfl) _ rfl (fun _ _ _ _ _ _ _ _ _ _ _ _=>trivial) (fun _ _ _ _ _ _ _ _=>trivial) (NwI.start Hbw5.out) ?_
     (refine RV.rel_ex (fun K hK=>?_);apply Exists.intro;refine ⟨fun done vf W hI hd0 hd hn hf R hR=>?_,?_,?_⟩;(have HI:=Lib.hid hI;clear hI;clear hd0 hd hn hf;go_simp;exact hR _ _ (HI.out.same (by decide) (by decide)) trivial rfl trivial);exact (fun _ _ _=>rfl);(go_simp;refine hK _ ?_;clear hK K))
     (refine RV.rel_ex (fun K hK=>?_);apply Exists.intro;refine ⟨fun done vf W hI hd0 hd hn hf R hR=>?_,?_,?_⟩;(have HI:=Lib.hid hI;clear hI;clear hd0 hd hn hf;go_simp;exact hR _ _ (HI.out.same (by decide) (by decide)) trivial rfl trivial);exact (fun _ _ _=>rfl);(go_simp;refine hK _ ?_;clear hK K))
     (refine RV.rel_ex (fun K hK=>?_);apply Exists.intro;refine ⟨fun done vf W hI hd0 hd hn hf R hR=>?_,?_,?_⟩;(have HI:=Lib.hid hI;clear hI;clear hd0 hd hn hf;go_simp;exact hR _ _ (HI.out.same (by decide) (by decide)) trivial rfl trivial);exact (fun _ _ _=>rfl);(go_simp;refine hK _ ?_;clear hK K))
     (refine RV.rel_ex (fun K hK=>?_);apply Exists.intro;refine ⟨fun done vf W hI hd0 hd hn hf R hR=>?_,?_,?_⟩;(have hqd:=cells_of ((grow_keep hI.gr Hld5.out Hne5.out).trans Hbd5.out);clear hd0 hd hn hf;go_simp;exact hR _ _ (hI.same (by decide) (by decide)) trivial rfl trivial);exact (fun _ _ _=>rfl);(go_simp;refine hK _ ?_;clear hK K))
     (refine RV.rel_ex (fun K hK=>?_);apply Exists.intro;refine ⟨fun done vf W hI hd0 hd hn hf R hR=>?_,?_,?_⟩;(have HI:=Lib.hid hI;clear hI;clear hd0 hd hn hf;go_simp;exact hR _ _ (HI.out.same (by decide) (by decide)) trivial rfl trivial);exact (fun _ _ _=>rfl);(go_simp;refine hK _ ?_;clear hK K))
     (refine RV.rel_ex (fun K hK=>?_);apply Exists.intro;refine ⟨fun done vf W hI hd0 hd hn hf R hR=>?_,?_,?_⟩;(have HI:=Lib.hid hI;clear hI;clear hd0 hd hn hf;go_simp;exact hR _ _ (HI.out.same (by decide) (by decide)) trivial rfl trivial);exact (fun _ _ _=>rfl);(go_simp;refine hK _ ?_;clear hK K))
     (refine RV.rel_pr (fun K hK=>?_);refine ⟨fun done vf W hI hd0 hd hn hf R hR=>?_,?_⟩;(have n9 : done 9 = false:=hn 9 (by decide);have hbW:=hI.b;rw [hd0,n9] at hbW;have hqw:=cells_of hbW;have hfw:=not_frozen hbW;have HF:=Lib.hid (hI.st6 (v:=undef) hd0 n9);clear hd0 hd hn hf hI hbW;go_simp;exact hR _ _ HF.out trivial trivial trivial);(go_simp;refine hK _ ?_;clear hK K))
     (refine RV.rel_ex (fun K hK=>?_);apply Exists.intro;refine ⟨fun done vf W hI hd0 hd hn hf R hR=>?_,?_,?_⟩;(have HI:=Lib.hid hI;clear hI;clear hd0 hd hn hf;go_simp;exact hR _ _ (HI.out.same (by decide) (by decide)) trivial rfl trivial);exact (fun _ _ _=>rfl);(go_simp;refine hK _ ?_;clear hK K))
     (refine RV.rel_ex (fun K hK=>?_);apply Exists.intro;refine ⟨fun done vf W hI hd0 hd hn hf R hR=>?_,?_,?_⟩;(have HI:=Lib.hid hI;clear hI;clear hd0 hd hn hf;go_simp;exact hR _ _ (HI.out.same (by decide) (by decide)) trivial rfl trivial);exact (fun _ _ _=>rfl);(go_simp;refine hK _ ?_;clear hK K))
     (refine RV.rel_pr (fun K hK=>?_);refine ⟨fun done vf W hI hd0 hd hn hf R hR=>?_,?_⟩;(have d6 : done 6 = true:=hd 6 (by decide);have hbW:=hI.b;rw [hd0,d6] at hbW;have hqw:=cells_of hbW;have hfw:=not_frozen hbW;have HF:=Lib.hid (hI.st9 (v:=undef) hd0 d6);clear hd0 hd hn hf hI hbW;go_simp;exact hR _ _ HF.out trivial trivial trivial);(go_simp;refine hK _ ?_;clear hK K))
     intro done vf w6 hdone hI _
     have hb6:=hI.b
     rw [hdone 6 (by decide),hdone 9 (by decide)] at hb6
     have HWB : Hid (WBx w6 G bw (.slice a9 N.length c9) (.slice x1 d5.safe.length y1) (.slice x2 d5.wait.length y2) ⟨N,d5,t.up⟩):=⟨hb6,RdCells.keep Hrc5.out (fun k hk _=>hk) (fun k hk hl=>grow_keep hI.gr hl (fun e=>HG0.out (e ▸ hk))) hI.gr.size,RdDisk.keep Hrd5.out (fun k hk _=>hk.1) (fun k hk hl=>grow_keep hI.gr hl (fun e=>HG0.out (e ▸ hk.1))) hI.gr.size⟩
     have HG : Hid (w.grownBy w6 (some bw)):=grown_trans_below (HB2.out.bel.trans (HD5.out.bel.mono HB2.out.bel.size)) hI.gr
     clear hdone hI hb6
     go_wp2
     go_ret
     rw [HE.out]
     exact ⟨_,_,_,rfl,HWB.out,HG.out⟩
    ·have HE : Hid (noteE t ⟨kd,cl,fr,p⟩ false kept = (t,se)):=by show _ = _;rw [HNc.out,if_pos hse]
     have hnz : (se == 0) = false:=beq_eq_false_iff_ne.2 hse
     have Hbw5 : Hid (_ = some _):=(grow_keep Hg4.out (Array.getElem?_eq_some_iff.1 Hbw3.out).1 Hbn.out.symm).trans Hbw3.out
     have Hrw5:=Lib.hid (RdWorld.keep (D':=G) Ht3.out (fun k hk _=>hk.2) (fun k hk hl=>grow_keep Hg4.out hl (by have:=hk.1;have:=Hbdw.out;omega)) Hg4.out.size)
     have HG:=Lib.hid (HB2.out.bel.trans (HD5.out.bel.mono HB2.out.bel.size))
     clear hse
     go_wp2
     go_ret
     rw [HE.out]
     exact ⟨_,_,_,rfl,⟨Hbw5.out,Hrw5.out⟩,below_grown HG.out⟩
  ·have HE : Hid (noteE t ⟨kd,cl,fr,p⟩ tear kept = (t,de)):=by show _ = _;rw [HNo.out,if_pos hde]
   have hnz : (de != 0) = true:=bne_iff_ne.2 hde
   have HG:=Lib.hid HB3.out.bel
   clear hde
   go_wp2
   go_ret
   rw [HE.out]
   exact ⟨_,_,_,rfl,⟨Hbw3.out,RdWorld.keep Ht3.out (fun k hk _=>hk.2) (fun _ _ _=>rfl) (Nat.le_refl _)⟩,below_grown HG.out⟩
 ·have HE : Hid (noteE t ⟨kd,cl,fr,p⟩ tear kept = (t,ne)):=by show noteE _ _ _ _ = _;unfold noteE;rw [HN.out];exact if_pos hne
  have hnz : (ne != 0) = true:=bne_iff_ne.2 hne
  have HG:=Lib.hid HB2.out.bel
  clear hne
  go_wp2
  go_ret
  rw [HE.out]
  exact ⟨_,_,_,rfl,⟨Hbw2.out,RdWorld.keep Ht2.out (fun k hk _=>hk.2) (fun _ _ _=>rfl) (Nat.le_refl _)⟩,below_grown HG.out⟩
end Go.Proofs.YthkgjohhbdipcaaGreatDoor
namespace Go.Proofs.YthkgjohhbdipcaaGreatDoor
open Go.RowKit
attribute [local go_sem] gives givesUpon
set_option maxRecDepth 100000 in
set_option maxHeartbeats 32000000 in
theorem happen_any (bw : Nat) (c u v ur : Value) (t : TWorld) (x : THap) (G D : Nat → Prop) (w : World) (hG0 : ¬ G bw) (hGu : ∀ b,w.heap.size≤b → G b) (h : WBx w G bw c u v t) (hr : RdRules w D ur x.p.rules) (hL : Laid w) :
  Calls Tryz.prog 50 #[.pointer (some ⟨bw,0,none⟩),hapV x ur] w (WPost w G bw (happenE t x).1 (happenE t x).2):=by
 have HL:=Lib.hid hL
 have HG0:=Lib.hid hG0
 have HGu:=Lib.hid hGu
 clear hG0 hGu
 obtain ⟨kd,cl,fr,p⟩:=x
 obtain ⟨cs,d,up⟩:=t
 dsimp only at hr ⊢
 have Hw:=Lib.hid h
 have Hr:=Lib.hid hr
 obtain ⟨a0,c0,rfl,hf0⟩:=Sl.form h.rd.cells
 obtain ⟨a1,c1,rfl,hf1⟩:=Sl.form h.rd.disk.1
 obtain ⟨a2,c2,rfl,hf2⟩:=Sl.form h.rd.disk.2
 obtain ⟨ar,cr,rfl,hf3⟩:=Sl.form hr
 clear h hr hL hf0 hf1 hf2 hf3
 have HB0:=Lib.hid (Bx.one (w:=w) (o:=.cells #[.int .i64 kd,.int .i64 cl,.int .i64 fr,.slice ar p.rules.length cr,.int .i64 p.dflt] 40))
 have Hbw1 : Hid ((w.alloc (.cells #[.int .i64 kd,.int .i64 cl,.int .i64 fr,.slice ar p.rules.length cr,.int .i64 p.dflt] 40)).heap[bw]? = some (.cells #[.slice a0 cs.length c0,.slice a1 d.safe.length c1,.slice a2 d.wait.length c2,.bool up] 27)):=(Hw.out.below HB0.out.bel).box
 have Ht1 : Hid (RdWorld _ (fun b=>b < w.heap.size∧G b) _ _ _ ⟨cs,d,up⟩):=RdWorld.below (RdWorld.keep (D':=fun b=>b < w.heap.size∧G b) Hw.out.rd (fun b hb hl=>⟨hl,hb⟩) (fun _ _ _=>rfl) (Nat.le_refl _)) HB0.out.bel
 have Hr1 : Hid (RdRules _ (fun b=>b < w.heap.size) _ p.rules):=RdRules.below (RdRules.keep (D':=fun b=>b < w.heap.size) Hr.out (fun b hb hl=>hl) (fun _ _ _=>rfl) (Nat.le_refl _)) HB0.out.bel
 have HL1:=Lib.hid (HL.out.below HB0.out.bel)
 have Hbw : Hid (bw < w.heap.size):=(Array.getElem?_eq_some_iff.1 Hw.out.box).1
 have hqb:=HB0.out.cells0
 by_cases hk : kd < 1 ∨ 7 < kd
 ·have HE : Hid (happenE ⟨cs,d,up⟩ ⟨kd,cl,fr,p⟩ = (⟨cs,d,up⟩,4)):=by show happenE _ _ = _;unfold happenE;exact if_pos hk
  have Hrd:=Lib.hid (RdWorld.keep (D':=G) Ht1.out (fun k hk _=>hk.2) (fun _ _ _=>rfl) (Nat.le_refl _))
  by_cases hk1 : kd < 1
  ·clear hk
   go_enter Tryz.func50,Tryz.ntmps50
   go_wp2
   go_ret
   rw [HE.out]
   exact ⟨_,_,_,rfl,⟨Hbw1.out,Hrd.out⟩,below_grown HB0.out.bel⟩
  ·have hk7 : 7 < kd:=by omega
   clear hk
   go_enter Tryz.func50,Tryz.ntmps50
   go_wp2
   go_ret
   rw [HE.out]
   exact ⟨_,_,_,rfl,⟨Hbw1.out,Hrd.out⟩,below_grown HB0.out.bel⟩
 ·have hk1 : ¬ kd < 1:=by omega
  have hk7 : ¬ 7 < kd:=by omega
  have Hk:=Lib.hid hk
  clear hk
  go_enter Tryz.func50,Tryz.ntmps50
  go_wp2_with fail
  clear hqb
  revert HB0 Hbw1 Ht1 Hr1 HL1
  generalize (w.alloc (.cells #[.int .i64 kd,.int .i64 cl,.int .i64 fr,.slice ar p.rules.length cr,.int .i64 p.dflt] 40)) = w1
  intro HB0 Hbw1 Ht1 Hr1 HL1
  obtain ⟨q6,h6⟩ : ∃ q,(kd == 6) = q:=⟨_,rfl⟩
  obtain ⟨qe,he⟩ : ∃ q,(up == q6) = q:=⟨_,rfl⟩
  refine wp_region_B [ex (.pointer (some ⟨bw,0,none⟩)),ex (.pointer (some ⟨bw,0,none⟩)),ex (.pointer (some ⟨bw,3,none⟩)),ex (.bool up),ex (.pointer (some ⟨w.heap.size,0,none⟩)),ex (.int .i64 kd),ex (.bool q6),ex (.bool qe)] w1.heap.size (Nat.le_refl _) (by kernel_rfl) (by kernel_rfl) ⟨.inl ⟨_,rfl⟩,.inl ⟨_,rfl⟩,.inl ⟨_,rfl⟩,.inl ⟨_,rfl⟩,.inl ⟨_,rfl⟩,.inl ⟨_,rfl⟩,.inl ⟨_,rfl⟩,.inl ⟨_,rfl⟩,trivial⟩ ?_
  (refine walkB_ex (fun K hK=>?_);refine ⟨fun W hC hd R hR=>?_,?_⟩;(clear hd;go_simp;exact hR _ _ (Below.refl _ _) rfl);(go_simp;refine hK _ ?_;clear hK K))
  (refine walkB_ex (fun K hK=>?_);refine ⟨fun W hC hd R hR=>?_,?_⟩;(clear hd;go_simp;exact hR _ _ (Below.refl _ _) rfl);(go_simp;refine hK _ ?_;clear hK K))
  (refine walkB_ex (fun K hK=>?_);refine ⟨fun W hC hd R hR=>?_,?_⟩;(clear hd;go_simp;exact hR _ _ (Below.refl _ _) rfl);(go_simp;refine hK _ ?_;clear hK K))
  (refine walkB_ex (fun K hK=>?_);refine ⟨fun W hC hd R hR=>?_,?_⟩;(have hqw:=cells_of (blk_below Hbw1.out hC.2);clear hd;go_simp;exact hR _ _ (Below.refl _ _) rfl);(go_simp;refine hK _ ?_;clear hK K))
  (refine walkB_ex (fun K hK=>?_);refine ⟨fun W hC hd R hR=>?_,?_⟩;(clear hd;go_simp;exact hR _ _ (Below.refl _ _) rfl);(go_simp;refine hK _ ?_;clear hK K))
  (refine walkB_ex (fun K hK=>?_);refine ⟨fun W hC hd R hR=>?_,?_⟩;(have hqr:=(HB0.out.below hC.2).cells0;clear hd;go_simp;exact hR _ _ (Below.refl _ _) rfl);(go_simp;refine hK _ ?_;clear hK K))
  (refine walkB_ex (fun K hK=>?_);refine ⟨fun W hC hd R hR=>?_,?_⟩;(clear hd;go_simp;exact hR _ _ (Below.refl _ _) rfl);(go_simp;refine hK _ ?_;clear hK K))
  (refine walkB_ex (fun K hK=>?_);refine ⟨fun W hC hd R hR=>?_,?_⟩;(clear hd;go_simp;exact hR _ _ (Below.refl _ _) rfl);(go_simp;refine hK _ ?_;clear hK K))
  intro w2 hC2 hfacts
  have HB2:=Lib.hid (HB0.out.below hC2.2)
  have Hbw2:=Lib.hid (blk_below Hbw1.out hC2.2)
  have Ht2:=Lib.hid (RdWorld.below Ht1.out hC2.2)
  have Hr2:=Lib.hid (RdRules.below Hr1.out hC2.2)
  have HL2:=Lib.hid (HL1.out.below hC2.2)
  have Hlw2 : Hid (bw < w2.heap.size):=(Array.getElem?_eq_some_iff.1 Hbw2.out).1
  have hqb:=HB2.out.cells0
  clear hC2 hfacts HB0 Hbw1 Ht1 Hr1 HL1
  cases qe with
  | true =>
   have HE : Hid (happenE ⟨cs,d,up⟩ ⟨kd,cl,fr,p⟩ = (⟨cs,d,up⟩,6)):=by
    show happenE _ _ = _
    unfold happenE
    dsimp only
    rw [if_neg Hk.out,if_pos]
    have:=of_decide_eq_true he
    rw [this,← h6]
    rfl
   have Hrd:=Lib.hid (RdWorld.keep (D':=G) Ht2.out (fun k hk _=>hk.2) (fun _ _ _=>rfl) (Nat.le_refl _))
   clear hqb
   go_wp2
   go_ret
   rw [HE.out]
   exact ⟨_,_,_,rfl,⟨Hbw2.out,Hrd.out⟩,below_grown HB2.out.bel⟩
  | false =>
  have Hu : Hid (¬ up = decide (kd = 6)):=by
   show ¬ _
   intro e
   have h7 : (kd == 6) = decide (kd = 6):=rfl
   rw [e,← h6,h7] at he
   simp at he
  have Hn : Hid (∀ y : TWorld × Int,happenE ⟨cs,d,up⟩ ⟨kd,cl,fr,p⟩ = y ↔ (if kd = 5 then (⟨newCells,d,false⟩,0) else
   if kd = 6 then (if (recoverE d).2.2 ≠ 0 then (⟨cs,d,up⟩,(recoverE d).2.2) else if (replayE (recoverE d).2.1).2 ≠ 0 then (⟨cs,d,up⟩,(replayE (recoverE d).2.1).2) else (⟨(replayE (recoverE d).2.1).1,(recoverE d).1,true⟩,0)) else
   if kd = 7 then noteE ⟨cs,d,up⟩ ⟨2,cl,0,p⟩ true fr else
   if kd = 3 then noteE ⟨cs,d,up⟩ ⟨3,cl,fr,zeroPol⟩ false 0 else
   if kd = 4 then noteE ⟨cs,d,up⟩ ⟨4,cl,0,zeroPol⟩ false 0 else noteE ⟨cs,d,up⟩ ⟨kd,cl,0,p⟩ false 0) = y):=by
   intro y
   unfold happenE
   dsimp only
   rw [if_neg Hk.out,if_neg Hu.out]
  by_cases k5 : kd = 5
  ·subst k5
   have HE : Hid (happenE ⟨cs,d,up⟩ ⟨5,cl,fr,p⟩ = (⟨newCells,d,false⟩,0)):=(Hn.out _).2 (if_pos rfl)
   clear he h6 hk1 hk7
   go_wp2_with fail
   clear hqb
   refine wp_region_lastop 8 w2.heap.size [ex (.pointer (some ⟨bw,0,none⟩)),pr (fun v W=>∃ a c,v = .slice a newCells.length c∧RdCells W (fun b=>w2.heap.size≤b) (.slice a newCells.length c) newCells),ex (.pointer (some ⟨bw,0,none⟩)),ex (.pointer (some ⟨bw,0,none⟩)),ex (.pointer (some ⟨bw,1,none⟩)),ex (.agg #[.slice a1 d.safe.length c1,.slice a2 d.wait.length c2]),pr (fun v W=>∃ a c,v = .agg #[.slice a newCells.length c,.slice a1 d.safe.length c1,.slice a2 d.wait.length c2,.bool false]∧RdCells W (fun b=>w2.heap.size≤b) (.slice a newCells.length c) newCells),ex (.pointer (some ⟨bw,0,none⟩)),ex (undef)] (PFinN w2 bw (.slice a1 d.safe.length c1) (.slice a2 d.wait.length c2)) (by kernel_rfl) (by kernel_rfl) ⟨.inl ⟨_,rfl⟩,.inr ⟨_,rfl,cells_stableK⟩,.inl ⟨_,rfl⟩,.inl ⟨_,rfl⟩,.inl ⟨_,rfl⟩,.inl ⟨_,rfl⟩,.inr ⟨_,rfl,wagg_stableK⟩,.inl ⟨_,rfl⟩,.inl ⟨_,rfl⟩,trivial⟩ _ rfl ?_
   (refine walkP_ex (fun K hK=>?_);refine ⟨fun done W hI h0 hd hn hf R hR=>?_,?_⟩;(have hno : done 8 = false:=hn 8 (by decide);have hC:=hI.before hno;clear h0 hd hn hf;go_simp;exact hR _ _ (hI.step hno (by decide) (Below.refl _ _)) (KeepFrom.of_below (Below.refl _ _)) rfl);(go_simp;refine hK _ ?_;clear hK K))
   (refine walkP_pr (fun K hK=>?_);refine ⟨fun done W hI h0 hd hn hf R hR=>?_,fun v1=>?_⟩;(have hno : done 8 = false:=hn 8 (by decide);have hC:=hI.before hno;have hsz0 : w2.heap.size≤W.heap.size:=hC.1;have HSZ:=Lib.hid hsz0;clear hsz0;clear h0 hd hn hf;go_simp;go_at_call 61;refine (keepnew_any _).mono ?_;rintro e w9 ⟨v9,rfl,hr9,hb9⟩;obtain ⟨a9,c9,rfl,_⟩:=Sl.form hr9;exact ⟨_,rfl,hR _ _ (hI.step hno (by decide) hb9) (KeepFrom.of_below hb9) ⟨_,_,rfl,hr9.keep (fun b hb _=>by have h1 : _≤b:=hb;have:=HSZ.out;show _≤_;omega) (fun _ _ _=>rfl) (Nat.le_refl _)⟩⟩);(go_simp;refine hK _ _ ?_;clear hK K))
   (refine walkP_ex (fun K hK=>?_);refine ⟨fun done W hI h0 hd hn hf R hR=>?_,?_⟩;(have hno : done 8 = false:=hn 8 (by decide);have hC:=hI.before hno;clear h0 hd hn hf;go_simp;exact hR _ _ (hI.step hno (by decide) (Below.refl _ _)) (KeepFrom.of_below (Below.refl _ _)) rfl);(go_simp;refine hK _ ?_;clear hK K))
   (refine walkP_ex (fun K hK=>?_);refine ⟨fun done W hI h0 hd hn hf R hR=>?_,?_⟩;(have hno : done 8 = false:=hn 8 (by decide);have hC:=hI.before hno;clear h0 hd hn hf;go_simp;exact hR _ _ (hI.step hno (by decide) (Below.refl _ _)) (KeepFrom.of_below (Below.refl _ _)) rfl);(go_simp;refine hK _ ?_;clear hK K))
   (refine walkP_ex (fun K hK=>?_);refine ⟨fun done W hI h0 hd hn hf R hR=>?_,?_⟩;(have hno : done 8 = false:=hn 8 (by decide);have hC:=hI.before hno;clear h0 hd hn hf;go_simp;exact hR _ _ (hI.step hno (by decide) (Below.refl _ _)) (KeepFrom.of_below (Below.refl _ _)) rfl);(go_simp;refine hK _ ?_;clear hK K))
   (refine walkP_ex (fun K hK=>?_);refine ⟨fun done W hI h0 hd hn hf R hR=>?_,?_⟩;(have hno : done 8 = false:=hn 8 (by decide);have hC:=hI.before hno;have hqw:=cells_of (blk_below Hbw2.out hC.2);clear h0 hd hn hf;go_simp;exact hR _ _ (hI.step hno (by decide) (Below.refl _ _)) (KeepFrom.of_below (Below.refl _ _)) rfl);(go_simp;refine hK _ ?_;clear hK K))
   (refine walkP_pr (fun K hK=>?_);refine ⟨fun done W hI h0 hd hn hf R hR=>?_,fun v6=>?_⟩;(have hno : done 8 = false:=hn 8 (by decide);have hC:=hI.before hno;have h1 : ∃ a c,v1 = .slice a newCells.length c∧RdCells W (fun b=>w2.heap.size≤b) (.slice a newCells.length c) newCells:=hf 1 (by decide);obtain ⟨a3,c3,rfl,h1⟩:=h1;have H1:=Lib.hid h1;clear h1 hC;clear h0 hd hn hf;go_simp;exact hR _ _ (hI.step hno (by decide) (Below.refl _ _)) (KeepFrom.of_below (Below.refl _ _)) ⟨_,_,rfl,H1.out⟩);(go_simp;refine hK _ _ ?_;clear hK K))
   (refine walkP_ex (fun K hK=>?_);refine ⟨fun done W hI h0 hd hn hf R hR=>?_,?_⟩;(have hno : done 8 = false:=hn 8 (by decide);have hC:=hI.before hno;clear h0 hd hn hf;go_simp;exact hR _ _ (hI.step hno (by decide) (Below.refl _ _)) (KeepFrom.of_below (Below.refl _ _)) rfl);(go_simp;refine hK _ ?_;clear hK K))
   (refine walkP_ex (fun K hK=>?_);refine ⟨fun done W hI h0 hd hn hf R hR=>?_,?_⟩;(have hno : done 8 = false:=h0;have hC:=hI.before hno;have h3 : ∃ a c,v6 = .agg #[.slice a newCells.length c,.slice a1 d.safe.length c1,.slice a2 d.wait.length c2,.bool false]∧RdCells W (fun b=>w2.heap.size≤b) (.slice a newCells.length c) newCells:=hf 6 (by decide);obtain ⟨a3,c3,rfl,h3⟩:=h3;have hbW:=blk_below Hbw2.out hC.2;have hqw:=cells_of hbW;have hfw:=not_frozen hbW;have HFn:=Lib.hid (put_finN (up:=up) hC.2 hbW Hlw2.out h3 (c1:=.slice a1 d.safe.length c1) (c2:=.slice a2 d.wait.length c2));have HKF : Hid (KeepFrom w2.heap.size W _):=keep_puts4 (W:=W) (β:=bw) (a:=.slice a3 newCells.length c3) (b:=.slice a1 d.safe.length c1) (c:=.slice a2 d.wait.length c2) (d:=.bool false) Hlw2.out;clear h3 hbW hC;clear h0 hd hn hf;go_simp;exact hR _ _ (LastI.at_ HFn.out) HKF.out rfl);(go_simp;refine hK _ ?_;clear hK K))
   intro done w6 hdone hI _
   obtain ⟨y,hbx,hrx,hgx⟩:=hI.after (hdone 8 (by decide))
   clear hdone hI
   have HWB : Hid (WBx w6 G bw y (.slice a1 d.safe.length c1) (.slice a2 d.wait.length c2) ⟨newCells,d,false⟩):=⟨hbx,RdCells.keep hrx (fun k hk _=>HGu.out _ (by have h1 : w2.heap.size≤k:=hk;have:=HB2.out.bel.size;omega)) (fun _ _ _=>rfl) (Nat.le_refl _),RdDisk.keep Ht2.out.disk (fun k hk _=>hk.2) (fun k hk hl=>grow_keep hgx hl (fun e=>HG0.out (e ▸ hk.2))) hgx.size⟩
   have HG : Hid (w.grownBy w6 (some bw)):=grown_trans_below HB2.out.bel hgx
   clear hbx hrx hgx
   go_wp2
   go_ret
   rw [HE.out]
   exact ⟨_,_,_,rfl,HWB.out,HG.out⟩
  have b5 : (kd == 5) = false:=beq_eq_false_iff_ne.2 k5
  by_cases k6 : kd = 6
  ·subst k6
   have hu' : up = false:=by
    have:=Hu.out
    cases up with
    | true=>exact absurd rfl this
    | false=>rfl
   obtain ⟨⟨d',l',e1⟩,hrec⟩ : ∃ E,recoverE d = E:=⟨_,rfl⟩
   obtain ⟨⟨N,e2⟩,hrep⟩ : ∃ E,replayE l' = E:=⟨_,rfl⟩
   have HREC:=Lib.hid hrec
   have HREP:=Lib.hid hrep
   have HE : Hid (happenE ⟨cs,d,up⟩ ⟨6,cl,fr,p⟩ = if e1 ≠ 0 then (⟨cs,d,up⟩,e1) else if e2 ≠ 0 then (⟨cs,d,up⟩,e2) else (⟨N,d',true⟩,0)):=by
    refine (Hn.out _).2 ?_
    rw [if_neg (by simp),if_pos rfl,hrec]
    dsimp only
    rw [hrep]
   have Hrd:=Lib.hid (RdWorld.keep (D':=G) Ht2.out (fun k hk _=>hk.2) (fun _ _ _=>rfl) (Nat.le_refl _))
   have hqw:=cells_of Hbw2.out
   clear he h6 hk1 hk7 hrec hrep k5
   go_wp2_with fail
   clear hqw
   refine (drecover_any _ _ d _ _ Ht2.out.disk HL2.out).mono ?_
   rw [HREC.out]
   rintro e w3 ⟨u',v',vl,rfl,hrd3,hrl3,hb3⟩
   dsimp only at hrd3 hrl3
   obtain ⟨x1,y1,rfl,_⟩:=Sl.form hrd3.1
   obtain ⟨x2,y2,rfl,_⟩:=Sl.form hrd3.2
   dsimp only
   have HD3:=Lib.hid (DBox.new (hb3.mono (Nat.le_refl _)) hrd3)
   have HRL3:=Lib.hid (RdRecs.below hrl3 (bel_alloc (Below.refl _ _) (.cells #[.slice x1 d'.safe.length y1,.slice x2 d'.wait.length y2] 25)))
   have HDK3:=Lib.hid (RdDisk.below hrd3 (bel_alloc (Below.refl _ _) (.cells #[.slice x1 d'.safe.length y1,.slice x2 d'.wait.length y2] 25)))
   have HBL3:=Lib.hid (HB2.out.bel.trans (HD3.out.bel.mono HB2.out.bel.size))
   have Hbw3:=Lib.hid (blk_below Hbw2.out HD3.out.bel)
   have Hrd3:=Lib.hid (RdWorld.below Hrd.out HD3.out.bel)
   clear hb3 hrl3 hqb hrd3
   by_cases he1 : e1 = 0
   ·subst he1
    have HE1 : Hid (happenE ⟨cs,d,up⟩ ⟨6,cl,fr,p⟩ = if e2 ≠ 0 then (⟨cs,d,up⟩,e2) else (⟨N,d',true⟩,0)):=by show _ = _;rw [HE.out,if_neg (by simp)]
    go_wp2_with fail
    refine (replay_any vl l' _ _ HRL3.out).mono ?_
    rw [HREP.out]
    rintro e w4 ⟨a4,c4,rfl,hrc4,hb4⟩
    dsimp only at hrc4
    dsimp only
    have HD4:=Lib.hid (HD3.out.below hb4)
    have Hbw4:=Lib.hid (blk_below Hbw3.out hb4)
    have HBL4 : Hid (Below w.heap.size w w4):=bel_call HBL3.out hb4
    have Hrd4:=Lib.hid (RdWorld.below Hrd3.out hb4)
    have Hdk4:=Lib.hid (RdDisk.below HDK3.out hb4)
    have Hl3 : Hid (bw < w2.heap.size):=Hlw2
    by_cases he2 : e2 = 0
    ·subst he2
     have HE2 : Hid (happenE ⟨cs,d,up⟩ ⟨6,cl,fr,p⟩ = (⟨N,d',true⟩,0)):=by show _ = _;rw [HE1.out,if_neg (by simp)]
     have HPA:=Lib.hid (puts4_at (.slice a4 N.length c4) (.slice x1 d'.safe.length y1) (.slice x2 d'.wait.length y2) (.bool true) Hbw4.out)
     have HPG:=Lib.hid (puts4_grow (W:=w4) (b:=bw) (.slice a4 N.length c4) (.slice x1 d'.safe.length y1) (.slice x2 d'.wait.length y2) (.bool true))
     have HWB:=Lib.hid (WBx.mk (t:=⟨N,d',true⟩) HPA.out ⟨RdCells.keep (D':=G) hrc4 (fun k hk _=>HGu.out _ (by have h1 : _≤k:=hk;have h2:=HBL3.out.size;omega)) (fun k hk hl=>grow_keep HPG.out hl (by have h1 : _≤k:=hk;have h2:=HD3.out.bel.size;have:=Hl3.out;simp at h1 h2;omega)) HPG.out.size,RdDisk.keep (D':=G) Hdk4.out (fun k hk _=>HGu.out _ (by have h1 : _≤k:=hk;have h2:=HB2.out.bel.size;omega)) (fun k hk hl=>grow_keep HPG.out hl (by have h1 : _≤k:=hk;have:=Hl3.out;omega)) HPG.out.size⟩)
     have HG:=Lib.hid (grown_trans_below HBL4.out HPG.out)
     have hqd:=HD4.out.cells
     have hqw:=cells_of Hbw4.out
     have hfw:=not_frozen Hbw4.out
     clear hrc4 hb4
     go_wp2
     go_ret
     rw [HE2.out]
     exact ⟨_,_,_,rfl,HWB.out,HG.out⟩
    ·have HE2 : Hid (happenE ⟨cs,d,up⟩ ⟨6,cl,fr,p⟩ = (⟨cs,d,up⟩,e2)):=by show _ = _;rw [HE1.out,if_pos he2]
     have hnz : (e2 == 0) = false:=beq_eq_false_iff_ne.2 he2
     clear he2 hrc4 hb4
     go_wp2
     go_ret
     rw [HE2.out]
     exact ⟨_,_,_,rfl,⟨Hbw4.out,Hrd4.out⟩,below_grown HBL4.out⟩
   ·have HE1 : Hid (happenE ⟨cs,d,up⟩ ⟨6,cl,fr,p⟩ = (⟨cs,d,up⟩,e1)):=by show _ = _;rw [HE.out,if_pos he1]
    have hnz : (e1 != 0) = true:=bne_iff_ne.2 he1
    clear he1
    go_wp2
    go_ret
    rw [HE1.out]
    exact ⟨_,_,_,rfl,⟨Hbw3.out,Hrd3.out⟩,below_grown HBL3.out⟩
  have b6 : (kd == 6) = false:=beq_eq_false_iff_ne.2 k6
  by_cases k7 : kd = 7
  ·subst k7
   clear he h6 hk1 hk7
   have HE : Hid (happenE ⟨cs,d,up⟩ ⟨7,cl,fr,p⟩ = noteE ⟨cs,d,up⟩ ⟨2,cl,0,p⟩ true fr):=by show happenE _ _ = _;unfold happenE;dsimp only;exact (Hn.out _).2 (by rw [if_neg (by decide),if_neg (by decide),if_pos rfl])
   go_wp2_with fail
   refine (wnote_any bw _ _ _ (.slice ar p.rules.length cr) ⟨cs,d,up⟩ ⟨2,cl,0,p⟩ true fr G _ _ HG0.out (fun b hb=>HGu.out b (Nat.le_trans HB2.out.bel.size hb)) ⟨Hbw2.out,RdWorld.keep Ht2.out (fun k hk _=>hk.2) (fun _ _ _=>rfl) (Nat.le_refl _)⟩ Hr2.out HL2.out).mono ?_
   rintro e w4 ⟨c',u',v',rfl,hw4,hg4⟩
   have HW:=Lib.hid hw4
   have HG : Hid (w.grownBy w4 (some bw)):=grown_trans_below HB2.out.bel hg4
   clear hw4 hg4 hqb
   go_wp2
   go_ret
   rw [HE.out]
   exact ⟨_,_,_,rfl,HW.out,HG.out⟩
  have b7 : (kd == 7) = false:=beq_eq_false_iff_ne.2 k7
  by_cases k3 : kd = 3
  ·subst k3
   clear he h6 hk1 hk7
   have HE : Hid (happenE ⟨cs,d,up⟩ ⟨3,cl,fr,p⟩ = noteE ⟨cs,d,up⟩ ⟨3,cl,fr,zeroPol⟩ false 0):=by show happenE _ _ = _;unfold happenE;dsimp only;exact (Hn.out _).2 (by rw [if_neg (by decide),if_neg (by decide),if_neg (by decide),if_pos rfl])
   go_wp2_with fail
   refine (wnote_any bw _ _ _ (.slice none 0 0) ⟨cs,d,up⟩ ⟨3,cl,fr,zeroPol⟩ false 0 G _ _ HG0.out (fun b hb=>HGu.out b (Nat.le_trans HB2.out.bel.size hb)) ⟨Hbw2.out,RdWorld.keep Ht2.out (fun k hk _=>hk.2) (fun _ _ _=>rfl) (Nat.le_refl _)⟩ (nil_rules' _ (fun _=>True)) HL2.out).mono ?_
   rintro e w4 ⟨c',u',v',rfl,hw4,hg4⟩
   have HW:=Lib.hid hw4
   have HG : Hid (w.grownBy w4 (some bw)):=grown_trans_below HB2.out.bel hg4
   clear hw4 hg4 hqb
   go_wp2
   go_ret
   rw [HE.out]
   exact ⟨_,_,_,rfl,HW.out,HG.out⟩
  have b3 : (kd == 3) = false:=beq_eq_false_iff_ne.2 k3
  by_cases k4 : kd = 4
  ·subst k4
   clear he h6 hk1 hk7
   have HE : Hid (happenE ⟨cs,d,up⟩ ⟨4,cl,fr,p⟩ = noteE ⟨cs,d,up⟩ ⟨4,cl,0,zeroPol⟩ false 0):=by show happenE _ _ = _;unfold happenE;dsimp only;exact (Hn.out _).2 (by rw [if_neg (by decide),if_neg (by decide),if_neg (by decide),if_neg (by decide),if_pos rfl])
   go_wp2_with fail
   refine (wnote_any bw _ _ _ (.slice none 0 0) ⟨cs,d,up⟩ ⟨4,cl,0,zeroPol⟩ false 0 G _ _ HG0.out (fun b hb=>HGu.out b (Nat.le_trans HB2.out.bel.size hb)) ⟨Hbw2.out,RdWorld.keep Ht2.out (fun k hk _=>hk.2) (fun _ _ _=>rfl) (Nat.le_refl _)⟩ (nil_rules' _ (fun _=>True)) HL2.out).mono ?_
   rintro e w4 ⟨c',u',v',rfl,hw4,hg4⟩
   have HW:=Lib.hid hw4
   have HG : Hid (w.grownBy w4 (some bw)):=grown_trans_below HB2.out.bel hg4
   clear hw4 hg4 hqb
   go_wp2
   go_ret
   rw [HE.out]
   exact ⟨_,_,_,rfl,HW.out,HG.out⟩
  have b4 : (kd == 4) = false:=beq_eq_false_iff_ne.2 k4
  clear he h6 hk1 hk7
  have HE : Hid (happenE ⟨cs,d,up⟩ ⟨kd,cl,fr,p⟩ = noteE ⟨cs,d,up⟩ ⟨kd,cl,0,p⟩ false 0):=by show happenE _ _ = _;unfold happenE;dsimp only;exact (Hn.out _).2 (by rw [if_neg k5,if_neg k6,if_neg k7,if_neg k3,if_neg k4])
  go_wp2_with fail
  refine (wnote_any bw _ _ _ (.slice ar p.rules.length cr) ⟨cs,d,up⟩ ⟨kd,cl,0,p⟩ false 0 G _ _ HG0.out (fun b hb=>HGu.out b (Nat.le_trans HB2.out.bel.size hb)) ⟨Hbw2.out,RdWorld.keep Ht2.out (fun k hk _=>hk.2) (fun _ _ _=>rfl) (Nat.le_refl _)⟩ Hr2.out HL2.out).mono ?_
  rintro e w4 ⟨c',u',v',rfl,hw4,hg4⟩
  have HW:=Lib.hid hw4
  have HG : Hid (w.grownBy w4 (some bw)):=grown_trans_below HB2.out.bel hg4
  clear hw4 hg4 hqb
  go_wp2
  go_ret
  rw [HE.out]
  exact ⟨_,_,_,rfl,HW.out,HG.out⟩
end Go.Proofs.YthkgjohhbdipcaaGreatDoor
namespace Go.Proofs.YthkgjohhbdipcaaGreatDoor
open Go.RowKit
attribute [local go_sem] gives givesUpon
theorem sz3 {w W : World} {bs : List Obj} (h : Bx w bs W) (hl : bs.length = 3) : w.heap.size + 3≤W.heap.size:=by have:=h.top;omega
set_option maxRecDepth 100000 in
set_option maxHeartbeats 16000000 in
theorem wdo_any (c u v ur : Value) (t : TWorld) (x : THap) (D D' : Nat → Prop) (w : World) (h : RdWorld w D c u v t) (hr : RdRules w D' ur x.p.rules) (hL : Laid w) :
  Calls Tryz.prog 17 #[worldV c u v t.up,hapV x ur] w fun e w'=>∃ c' u' v',e = .returned (.tuple #[worldV c' u' v' (doE t x).1.up,.int .i64 (doE t x).2])∧RdWorld w' (fun b=>w.heap.size≤b) c' u' v' (doE t x).1∧Below w.heap.size w w':=by
 have HL:=Lib.hid hL
 have Ht:=Lib.hid (RdWorld.lt h)
 obtain ⟨kd,cl,fr,p⟩:=x
 dsimp only at hr ⊢
 have Hr:=Lib.hid (RdRules.keep (D':=fun b=>b < w.heap.size) hr (fun _ _ hl=>hl) (fun _ _ _=>rfl) (Nat.le_refl _))
 obtain ⟨a0,c0,rfl,_⟩:=Sl.form h.cells
 obtain ⟨a1,c1,rfl,_⟩:=Sl.form h.disk.1
 obtain ⟨a2,c2,rfl,_⟩:=Sl.form h.disk.2
 obtain ⟨ar,cr,rfl,_⟩:=Sl.form hr
 clear h hr hL
 have HB:=Lib.hid (Bx.three (w:=w) (o:=.cells #[.slice a0 t.cells.length c0,.slice a1 t.d.safe.length c1,.slice a2 t.d.wait.length c2,.bool t.up] 27) (o':=.cells #[.int .i64 kd,.int .i64 cl,.int .i64 fr,.slice ar p.rules.length cr,.int .i64 p.dflt] 40) (o2:=.cells #[.slice none 0 0,.slice none 0 0,.slice none 0 0,.bool false] 27))
 go_enter Tryz.func17,Tryz.ntmps17
 go_wp2_with fail
 refine (wcheck_any _ _ _ t _ _ (RdWorld.below Ht.out HB.out.bel) (HL.out.below HB.out.bel)).mono ?_
 rintro e w1 ⟨rfl,hb1⟩
 have HB1:=Lib.hid (HB.out.below hb1)
 clear hb1 HB
 by_cases hW : worldE t = 0
 ·have Hsm:=Lib.hid (world_small hW)
  have HD1 : Hid (doE t ⟨kd,cl,fr,p⟩ = if (happenE t ⟨kd,cl,fr,p⟩).2 ≠ 0 then (zeroWorld,(happenE t ⟨kd,cl,fr,p⟩).2) else ((happenE t ⟨kd,cl,fr,p⟩).1,0)):=by show doE _ _ = _;unfold doE;rw [if_neg (by simp [hW])]
  rw [hW]
  clear hW
  have hq0:=HB1.out.cells0
  go_wp2_with fail
  clear hq0
  refine (wcopy_any _ _ _ t _ _ (RdWorld.below Ht.out HB1.out.bel) Hsm.out.1 Hsm.out.2).mono ?_
  rintro e w2 ⟨c',u',v',rfl,hr2,hb2⟩
  obtain ⟨x0,y0,rfl,_⟩:=Sl.form hr2.cells
  obtain ⟨x1,y1,rfl,_⟩:=Sl.form hr2.disk.1
  obtain ⟨x2,y2,rfl,_⟩:=Sl.form hr2.disk.2
  have HB2:=Lib.hid (HB1.out.below hb2)
  have hq0:=HB2.out.cells0
  have hf0:=HB2.out.free0
  have hsz:=sz3 HB1.out rfl
  have HB3:=Lib.hid (HB2.out.put4 (.slice x0 t.cells.length y0) (.slice x1 t.d.safe.length y1) (.slice x2 t.d.wait.length y2) (.bool t.up) rfl)
  have HPG:=puts4_grow (W:=w2) (b:=w.heap.size) (.slice x0 t.cells.length y0) (.slice x1 t.d.safe.length y1) (.slice x2 t.d.wait.length y2) (.bool t.up)
  have Hr3:=Lib.hid (RdWorld.keep (D':=fun b=>w.heap.size + 3≤b) hr2 (fun k hk _=>by have h1 : w1.heap.size≤k:=hk;show _≤_;omega) (fun k hk hl=>grow_keep HPG hl (by have h1 : w1.heap.size≤k:=hk;omega)) HPG.size)
  have hq1:=HB3.out.cells1
  have hq0':=HB3.out.cells0
  clear hr2 hb2 hsz HPG HB1 HB2
  go_wp2_with fail
  clear hq0 hf0 hq1 hq0'
  revert HB3 Hr3
  generalize ((((w2.setCell ⟨w.heap.size,0,none⟩ (.slice x0 t.cells.length y0)).setCell ⟨w.heap.size,1,none⟩ (.slice x1 t.d.safe.length y1)).setCell ⟨w.heap.size,2,none⟩ (.slice x2 t.d.wait.length y2)).setCell ⟨w.heap.size,3,none⟩ (.bool t.up)) = w3
  intro HB3 Hr3
  have Hrr3:=Lib.hid (RdRules.below Hr.out HB3.out.bel)
  refine (happen_any w.heap.size _ _ _ (.slice ar p.rules.length cr) t ⟨kd,cl,fr,p⟩ (fun b=>w.heap.size + 3≤b) _ w3 (by omega) (fun b hb=>by have:=sz3 HB3.out rfl;omega) ⟨HB3.out.at_ 0 _ rfl,Hr3.out⟩ Hrr3.out (HL.out.below HB3.out.bel)).mono ?_
  obtain ⟨⟨s,he⟩,hh⟩ : ∃ E,happenE t ⟨kd,cl,fr,p⟩ = E:=⟨_,rfl⟩
  rw [hh] at HD1 ⊢
  rintro e w4 ⟨c4,u4,v4,rfl,hw4,hg4⟩
  dsimp only at hw4 HD1
  obtain ⟨z0,k0,rfl,_⟩:=Sl.form hw4.rd.cells
  obtain ⟨z1,k1,rfl,_⟩:=Sl.form hw4.rd.disk.1
  obtain ⟨z2,k2,rfl,_⟩:=Sl.form hw4.rd.disk.2
  have hsz:=sz3 HB3.out rfl
  have HB4 : Hid (Bx w [.cells #[.slice z0 s.cells.length k0,.slice z1 s.d.safe.length k1,.slice z2 s.d.wait.length k2,.bool s.up] 27,.cells #[.int .i64 kd,.int .i64 cl,.int .i64 fr,.slice ar p.rules.length cr,.int .i64 p.dflt] 40,.cells #[.slice none 0 0,.slice none 0 0,.slice none 0 0,.bool false] 27] w4):=by
   refine ⟨below_of_grow HB3.out.bel hg4 HB3.out.bel.size (Nat.le_refl _),fun i o hi=>?_⟩
   match i,hi with
   | 0,hi=>injection hi with hi;subst hi;exact hw4.box
   | 1,hi=>injection hi with hi;subst hi;exact (grow_keep hg4 (by omega) (by omega)).trans (HB3.out.at_ 1 _ rfl)
   | 2,hi=>injection hi with hi;subst hi;exact (grow_keep hg4 (by omega) (by omega)).trans (HB3.out.at_ 2 _ rfl)
  have Hr4 : Hid (RdWorld w4 (fun b=>w.heap.size + 3≤b) _ _ _ s):=hw4.rd
  clear hw4 hg4 hsz HB3 Hr3 hh
  dsimp only
  by_cases hhe : he = 0
  ·subst hhe
   have HE : Hid (doE t ⟨kd,cl,fr,p⟩ = (s,0)):=by show _ = _;rw [HD1.out,if_neg (by simp)]
   have HS:=Lib.hid (puts4_at (.slice z0 s.cells.length k0) (.slice z1 s.d.safe.length k1) (.slice z2 s.d.wait.length k2) (.bool s.up) (HB4.out.at_ 2 _ rfl))
   have HPG:=puts4_grow (W:=w4) (b:=w.heap.size + 1 + 1) (.slice z0 s.cells.length k0) (.slice z1 s.d.safe.length k1) (.slice z2 s.d.wait.length k2) (.bool s.up)
   have hq0:=HB4.out.cells0
   have hq2:=HB4.out.cells2
   have hf2:=HB4.out.free2
   have hqs:=cells_of HS.out
   have HBL:=Lib.hid (below_of_grow HB4.out.bel HPG HB4.out.bel.size (by omega))
   have HRF:=Lib.hid (RdWorld.keep (D':=fun b=>w.heap.size≤b) Hr4.out (fun k hk _=>by have h1 : w.heap.size + 3≤k:=hk;show _≤_;omega) (fun k hk hl=>grow_keep HPG hl (by have h1 : w.heap.size + 3≤k:=hk;omega)) HPG.size)
   clear HPG HS
   go_wp2
   refine bodyPost_ret (v:=.tuple #[worldV (.slice z0 s.cells.length k0) (.slice z1 s.d.safe.length k1) (.slice z2 s.d.wait.length k2) s.up,.int .i64 0]) ?_ rfl (by rw [HE.out];exact ⟨_,_,_,rfl,HRF.out,HBL.out⟩)
   simp [results,Tryz.results17,go_sem,hqs]
  ·have HE : Hid (doE t ⟨kd,cl,fr,p⟩ = (zeroWorld,he)):=by show _ = _;rw [HD1.out,if_pos hhe]
   have hnz : (he != 0) = true:=bne_iff_ne.2 hhe
   clear hhe
   have HS:=Lib.hid (puts4_at (.slice none 0 0) (.slice none 0 0) (.slice none 0 0) (.bool false) (HB4.out.at_ 2 _ rfl))
   have hq2:=HB4.out.cells2
   have hf2:=HB4.out.free2
   have hqs:=cells_of HS.out
   have HBL:=Lib.hid (below_of_grow HB4.out.bel (puts4_grow (b:=w.heap.size + 1 + 1) (.slice none 0 0) (.slice none 0 0) (.slice none 0 0) (.bool false)) HB4.out.bel.size (by omega))
   clear HS
   go_wp2
   refine bodyPost_ret (v:=.tuple #[worldV (.slice none 0 0) (.slice none 0 0) (.slice none 0 0) false,.int .i64 (he)]) ?_ rfl (by rw [HE.out];exact ⟨_,_,_,rfl,⟨nil_cells _ _,nil_disk _ _⟩,HBL.out⟩)
   simp [results,Tryz.results17,go_sem,hqs]
 ·have HE : Hid (doE t ⟨kd,cl,fr,p⟩ = (zeroWorld,worldE t)):=by show doE _ _ = _;unfold doE;rw [if_pos hW]
  obtain ⟨L,hLw⟩ : ∃ L,worldE t = L:=⟨_,rfl⟩
  rw [hLw] at HE hW ⊢
  have hnz : (L != 0) = true:=bne_iff_ne.2 hW
  clear hW hLw
  have HS:=Lib.hid (puts4_at (.slice none 0 0) (.slice none 0 0) (.slice none 0 0) (.bool false) (HB1.out.at_ 2 _ rfl))
  have hq2:=HB1.out.cells2
  have hf2:=HB1.out.free2
  have hqs:=cells_of HS.out
  have HBL:=Lib.hid (below_of_grow HB1.out.bel (puts4_grow (b:=w.heap.size + 1 + 1) (.slice none 0 0) (.slice none 0 0) (.slice none 0 0) (.bool false)) HB1.out.bel.size (by omega))
  clear HS
  go_wp2
  refine bodyPost_ret (v:=.tuple #[worldV (.slice none 0 0) (.slice none 0 0) (.slice none 0 0) false,.int .i64 (L)]) ?_ rfl (by rw [HE.out];exact ⟨_,_,_,rfl,⟨nil_cells _ _,nil_disk _ _⟩,HBL.out⟩)
  simp [results,Tryz.results17,go_sem,hqs]
end Go.Proofs.YthkgjohhbdipcaaGreatDoor
namespace Go.Proofs.YthkgjohhbdipcaaGreatDoor
open Go.RowKit
theorem infoErr : (Tryz.prog.info? 30).map (fun i=>(i.zero,i.size,i.bytes)) = some (some (.int .i64 0),1,8):=by kernel_rfl
set_option maxHeartbeats 1000000 in
theorem growErr_nil (n : Nat) (w : World) (hn : n * 8≤140737488355328) : Calls Tryz.prog 86 #[.slice none 0 0,.int .i64 n] w fun e w'=>∃ v,e = .returned v∧OwnSl w' w.heap.size 30 1 intR v ([] : List Int)∧Below w.heap.size w w':=by
 by_cases h0 : n = 0
 ·subst h0
  go_enter Tryz.func86,Tryz.ntmps86
  go_wp2
  go_ret
  exact ⟨_,rfl,OwnSl.nil,Below.refl _ _⟩
 ·obtain ⟨i0,hi,hz0,hz1,hz2⟩:=info_parts infoErr
  have hrun:=fun (W : World) (ty : TypeId)=>Lib.run_append_nil_zeros (P:=Tryz.prog) W 29 3 ty 30 i0 (.int .i64 0) .i64 .i64 Tryz.underlying29 Tryz.underlying3 hi hz0 n (by omega) (by rw [hz1];omega) (by omega) (by rw [hz2];omega)
  have hgc : ∀ W : World,grownCap W n 0 30≤maxLen:=fun W=>grownCap_le_maxLen W n 0 30 (by unfold maxLen;omega)
  have h1 : 0 < (n : Int):=by omega
  have h2 : (n : Int)≤9223372036854775807:=by omega
  have Hrun:=Lib.hid hrun
  have Hz:=Lib.hid hz1
  clear hrun hi hz0 hz1 hz2 h0 hn
  go_enter Tryz.func86,Tryz.ntmps86
  go_wp2_with (at_builtin;refine Lib.wpList_append_run _ rfl _ _ _ _ rfl _ _ rfl rfl _ _ (Hrun.out _ _) ?_)
  go_ret
  refine ⟨_,rfl,⟨[],RowsOf.nil,by simp,.inr ⟨w.heap.size,grownCap w n 0 30,_,rfl,Nat.le_refl _,blk_at rfl,by simp,hgc w,?_,by simp⟩⟩,(bel_alloc (Below.refl _ _) _).drew⟩
  have hge:=grownCap_ge w n 0 30
  simp [size_zeroCells]
  omega
theorem oneErr (y : Int) (cs : List Value) (h : intR y cs) : ∀ c ∈ cs,c.oneCell' = true:=by
 unfold intR at h;subst h;simp [Value.oneCell']
def rowsRErr (w : World) (D : Nat → Prop) (l : List Int) (cs : List Value) : Prop:=∃ u,cs = [u]∧Sl w D 1 intR u l
set_option maxRecDepth 100000 in
set_option maxHeartbeats 2000000 in
theorem concatErr_any (v : Value) (ls : List (List Int)) (D : Nat → Prop) (w : World) (h : Sl w D 1 (rowsRErr w D) v ls) (hn : lenTo ls ls.length * 8≤140737488355328) :
  Calls Tryz.prog 47 #[v] w fun e w'=>∃ v',e = .returned v'∧OwnSl w' w.heap.size 30 1 intR v' ls.flatten∧Below w.heap.size w w':=by
 obtain ⟨a,c,rfl,hlc,hcm,hat⟩:=Sl.form h
 obtain ⟨i0,hi,hz0,hz1,hz2⟩:=info_parts infoErr
 have H:=Lib.hid h
 clear h
 have hrow : ∀ k (hk : k < ls.length) b o,a = some ⟨b,o,none⟩ → ∃ (u : Value) (cu : Option Addr × Nat),u = Value.slice cu.1 ls[k].length cu.2∧Sl w D 1 intR u ls[k]∧∀ wr,Below w.heap.size w wr → wr.cell? ⟨b,o + k,none⟩ = some u:=fun k hk b o e=>by
  subst e
  obtain ⟨cs,hcs,⟨u,hu,hs⟩,hcell⟩:=Sl.get H.out hk
  obtain ⟨a',c',hv,_⟩:=Sl.form hs
  refine ⟨u,(a',c'),hv,hs,fun wr hb=>?_⟩
  subst hu
  have hc:=hcell 0 u rfl
  rw [Nat.mul_one] at hc
  exact (hb.cell (p:=⟨b,o + k,none⟩) (World.block_lt_of_cell? _ _ hc)).trans hc
 have Hrow:=Lib.hid hrow
 have Hn:=Lib.hid hn
 have hn' : lenTo ls ls.length≤140737488355328:=by omega
 clear hrow hn
 go_enter Tryz.func47,Tryz.ntmps47
 go_wp2_with fail
 go_loop [3,11] (fun s i=>∃ k : Nat,k≤ls.length∧i = .int .i64 k∧s = .int .i64 (lenTo ls k)) (fun _ i=>ls.length - (intOf i).toNat)
 case atStart=>exact ⟨0,by omega,rfl,rfl⟩
 case round =>
  obtain ⟨k,hk,rfl,rfl⟩:=hrel
  by_cases hlt : k < ls.length
  ·obtain ⟨b,o,rfl,hDb,hb⟩:=hat (by omega)
   obtain ⟨u,⟨a',c'⟩,rfl,hs,hc⟩:=Hrow.out k hlt b o rfl
   have hcw:=hc w (Below.refl _ _)
   have hle:=lenTo_le ls (k + 1) (by omega)
   have Hs:=Lib.hid (lenTo_succ ls k hlt)
   have hle' : lenTo ls k + ls[k].length≤140737488355328:=by have:=Hs.out;omega
   clear hs hc
   go_wp2
   go_round
   case rel=>exact ⟨k + 1,by omega,by go_num,by rw [Hs.out];go_num⟩
   case measure=>simp [intOf];omega
  ·obtain rfl : k = ls.length:=by omega
   go_wp2_with fail
   refine (growErr_nil (lenTo ls ls.length) _ Hn.out).mono ?_
   rintro e w1 ⟨vg,rfl,hown,hb1⟩
   go_wp2_with fail
   go_loopw [6,27] (fun s i wr=>∃ (k : Nat) (vs : Value),k≤ls.length∧i = .int .i64 k∧vs = s∧OwnSl wr w.heap.size 30 1 intR vs (ls.take k).flatten∧Below w.heap.size w wr) (fun _ i _=>ls.length - (intOf i).toNat)
   case atStart=>exact ⟨0,vg,by omega,rfl,rfl,by simpa using hown,hb1⟩
   case round =>
    obtain ⟨k,vs,hk,rfl,rfl,hown,hbw⟩:=hrel
    have Hown:=Lib.hid hown
    have hsz:=hbw.size
    clear hown
    by_cases hlt : k < ls.length
    ·obtain ⟨b,o,rfl,hDb,hb⟩:=hat (by omega)
     obtain ⟨u,⟨a',c'⟩,rfl,hs,hc⟩:=Hrow.out k hlt b o rfl
     have hcw:=hc wr hbw
     have hle:=lenTo_le ls (k + 1) (by omega)
     have Hl:=Lib.hid (lenTo_succ ls k hlt)
     have hs' : Sl wr D 1 intR (.slice a' ls[k].length c') ls[k]:=Sl.mono hs (fun _ h _=>h) (fun b _ hlt=>hbw.block b hlt) hbw.size (fun _ _ _ h=>h)
     have Hs':=Lib.hid hs'
     have Hs:=Lib.hid (flat_take_succ ls k hlt)
     clear hs hc hs'
     go_wp2_with (at_builtin;refine wpList_app rfl _ _ 29 rfl w.heap.size 30 i0 _ 1 8 Tryz.underlying29 hi hz0 hz1 hz2 rfl (by decide) _ _ rfl Hown.out _ _ rfl Hs'.out (fun y _ cs h=>oneErr y cs h) (by have:=Hl.out;unfold lenTo at *;unfold maxLen;omega) (by have:=Hn.out;have:=Hl.out;unfold lenTo at *;omega) hsz ?_;intro v' w2 hown' hg)
     go_roundw
     case rel=>exact ⟨k + 1,v',by omega,by go_num,rfl,by rw [← flat_take_succ ls k hlt];exact hown',Hown.out.grown hbw hg hsz (Nat.le_refl _)⟩
     case measure=>simp [intOf];omega
    ·obtain rfl : k = ls.length:=by omega
     have Hf : Hid (OwnSl wr w.heap.size 30 1 intR vs ls.flatten):=by have:=Hown.out;rwa [List.take_length] at this
     go_wp2
     go_ret
     exact ⟨_,rfl,Hf.out,hbw⟩
end Go.Proofs.YthkgjohhbdipcaaGreatDoor
namespace Go.Proofs.YthkgjohhbdipcaaGreatDoor
open Go.RowKit
attribute [local go_sem] gives givesUpon
theorem nil_ints (w : World) (D : Nat → Prop) : RdInts w D (.slice none 0 0) []:=⟨none,0,rfl,Nat.le_refl _,by decide,fun _=>rfl,fun h=>by cases h⟩
structure RunI (w W : World) (sv c u v : Value) (ts : TWorld) (said : List Int) : Prop where
 bx : Bx w [.cells #[c,u,v,.bool ts.up] 27,.cells #[.slice none 0 0,.slice none 0 0,.slice none 0 0,.bool false] 27] W
 rd : RdWorld W (fun b=>w.heap.size + 2≤b∧sv.ownBlock ≠ some b) c u v ts
 own : OwnSl W (w.heap.size + 2) 30 1 intR sv said
section
variable {w W W' : World} {sv sv' c u v c' u' v' : Value} {ts s : TWorld} {said said' : List Int} {β : Nat}
theorem RunI.below (h : RunI w W sv c u v ts said) (hb : Below W.heap.size W W') : RunI w W' sv c u v ts said:=⟨h.bx.below hb,RdWorld.below h.rd hb,OwnSl.below h.own hb⟩
theorem RunI.lt (h : RunI w W sv c u v ts said) : ∀ g,sv.ownBlock = some g → g < W.heap.size:=fun g hg=>by
 obtain ⟨o,h1,_⟩:=OwnSl.typed h.own g hg
 exact (Array.getElem?_eq_some_iff.1 h1).1
theorem RunI.grown (h : RunI w W sv c u v ts said) {W1 : World} (hb : Below W.heap.size W W1) (hβ : W.heap.size≤β) (hg : W1.grownBy W' (some β)) : RunI w W' sv c u v ts said :=
 h.below (below_of_grow hb hg hb.size hβ)
theorem RunI.app (h : RunI w W sv c u v ts said) (ho : OwnSl W' (w.heap.size + 2) 30 1 intR sv' said') (hg : W.grownBy W' sv.ownBlock) (hat : sv'.ownBlock = sv.ownBlock ∨ sv'.ownBlock = some W.heap.size) : RunI w W' sv' c u v ts said':=by
 have hblk : ∀ k,k < w.heap.size + 2 → k < W.heap.size → W'.heap[k]? = W.heap[k]?:=fun k hk hl=>hg.block k hl (fun e=>by have:=OwnSl.block h.own k e.symm;omega)
 refine ⟨⟨OwnSl.grown h.own h.bx.bel hg h.bx.bel.size (by omega),fun i o hi=>?_⟩,?_,ho⟩
 ·have hlt:=(List.getElem?_eq_some_iff.1 hi).1
  have:=h.bx.top
  simp at hlt this
  exact (hblk _ (by omega) (by omega)).trans (h.bx.at_ i o hi)
 ·refine RdWorld.keep h.rd (fun k hk hl=>⟨hk.1,fun e=>?_⟩) (fun k hk hl=>hg.block k hl (fun e=>hk.2 e.symm)) hg.size
  rcases hat with h9 | h9
  ·exact hk.2 (h9.symm.trans e)
  ·rw [h9] at e;injection e with e;omega
theorem RunI.start {c u v : Value} {t : TWorld} (h : Bx w [.cells #[c,u,v,.bool t.up] 27,.cells #[.slice none 0 0,.slice none 0 0,.slice none 0 0,.bool false] 27] W) (hr : RdWorld W (fun b=>w.heap.size + 2≤b) c u v t) : RunI w W (.slice none 0 0) c u v t []:=⟨h,RdWorld.keep hr (fun k hk _=>⟨hk,fun e=>by cases e⟩) (fun _ _ _=>rfl) (Nat.le_refl _),OwnSl.nil⟩
theorem RunI.put (h : RunI w W sv c u v ts said) (hr : RdWorld W (fun b=>w.heap.size + 2≤b∧sv.ownBlock ≠ some b) c' u' v' s) : RunI w ((((W.setCell ⟨w.heap.size,0,none⟩ c').setCell ⟨w.heap.size,1,none⟩ u').setCell ⟨w.heap.size,2,none⟩ v').setCell ⟨w.heap.size,3,none⟩ (.bool s.up)) sv c' u' v' s said:=by
 have hg:=puts4_grow (W:=W) (b:=w.heap.size) c' u' v' (.bool s.up)
 refine ⟨h.bx.put4 c' u' v' (.bool s.up) rfl,RdWorld.keep hr (fun _ hk _=>hk) (fun k hk hl=>grow_keep hg hl (by omega)) hg.size,OwnSl.keepFrom h.own fun b hb hl=>grow_keep hg hl (by omega)⟩
end
theorem wrunGo_drop (l : List THap) (k : Nat) (h : k < l.length) (t : TWorld) : wrunGo t (l.drop k) = ((wrunGo (happenE t l[k]).1 (l.drop (k + 1))).1,(happenE t l[k]).2 :: (wrunGo (happenE t l[k]).1 (l.drop (k + 1))).2):=by
 rw [List.drop_eq_getElem_cons h];rfl
set_option maxRecDepth 100000 in
set_option maxHeartbeats 32000000 in
theorem wrun_any (c u v lv : Value) (t : TWorld) (l : List THap) (D D' : Nat → Prop) (w : World) (h : RdWorld w D c u v t) (hl : RdHaps w D' lv l) (hL : Laid w) :
  Calls Tryz.prog 11 #[worldV c u v t.up,lv] w fun e w'=>∃ c' u' v' sv,e = .returned (.tuple #[worldV c' u' v' (wrunE t l).1.up,sv,.int .i64 (wrunE t l).2.2])∧RdWorld w' (fun b=>w.heap.size≤b) c' u' v' (wrunE t l).1∧RdInts w' (fun b=>w.heap.size≤b) sv (wrunE t l).2.1∧Below w.heap.size w w':=by
 have HL:=Lib.hid hL
 have Ht:=Lib.hid (RdWorld.lt h)
 have H:=Lib.hid hl
 obtain ⟨i0,hi,hz0,hz1,hz2⟩:=info_parts infoErr
 have Hi:=Lib.hid hi
 obtain ⟨a0,c0,rfl,_⟩:=Sl.form h.cells
 obtain ⟨a1,c1,rfl,_⟩:=Sl.form h.disk.1
 obtain ⟨a2,c2,rfl,_⟩:=Sl.form h.disk.2
 obtain ⟨a,c,rfl,hlc,hcm,hat⟩:=Sl.form hl
 clear h hl hL hi
 have HB:=Lib.hid (Bx.two (w:=w) (o:=.cells #[.slice a0 t.cells.length c0,.slice a1 t.d.safe.length c1,.slice a2 t.d.wait.length c2,.bool t.up] 27) (o':=.cells #[.slice none 0 0,.slice none 0 0,.slice none 0 0,.bool false] 27))
 go_enter Tryz.func11,Tryz.ntmps11
 go_wp2_with fail
 refine (wcheck_any _ _ _ t _ _ (RdWorld.below Ht.out HB.out.bel) (HL.out.below HB.out.bel)).mono ?_
 rintro e w1 ⟨rfl,hb1⟩
 have HB1:=Lib.hid (HB.out.below hb1)
 clear hb1 HB
 by_cases hW : worldE t = 0
 ·have HW:=Lib.hid hW
  have Hsm:=Lib.hid (world_small hW)
  have HD1 : Hid (wrunE t l = if 60 < l.length then (zeroWorld,[],2) else ((wrunGo t l).1,(wrunGo t l).2,0)):=by show wrunE _ _ = _;unfold wrunE;rw [if_neg (by simp [hW])]
  rw [hW]
  clear hW
  by_cases h60 : 60 < l.length
  ·have HE : Hid (wrunE t l = (zeroWorld,[],2)):=by show _ = _;rw [HD1.out,if_pos h60]
   have hz : 60 < (l.length : Int):=by omega
   clear h60
   have HS:=Lib.hid (puts4_at (.slice none 0 0) (.slice none 0 0) (.slice none 0 0) (.bool false) (HB1.out.at_ 1 _ rfl))
   have hq2:=HB1.out.cells1
   have hf2:=HB1.out.free1
   have hqs:=cells_of HS.out
   have HBL:=Lib.hid (below_of_grow HB1.out.bel (puts4_grow (b:=w.heap.size + 1) (.slice none 0 0) (.slice none 0 0) (.slice none 0 0) (.bool false)) HB1.out.bel.size (by omega))
   clear HS
   go_wp2
   refine bodyPost_ret (v:=.tuple #[worldV (.slice none 0 0) (.slice none 0 0) (.slice none 0 0) false,.slice none 0 0,.int .i64 (2)]) ?_ rfl (by rw [HE.out];exact ⟨_,_,_,_,rfl,⟨nil_cells _ _,nil_disk _ _⟩,nil_ints _ _,HBL.out⟩)
   simp [results,Tryz.results11,go_sem,hqs]
  have HD : Hid (wrunE t l = ((wrunGo t l).1,(wrunGo t l).2,0)):=by show _ = _;rw [HD1.out,if_neg h60]
  have hz : ¬ 60 < (l.length : Int):=by omega
  clear h60
  have hq0:=HB1.out.cells0
  go_wp2_with fail
  clear hq0
  refine (wcopy_any _ _ _ t _ _ (RdWorld.below Ht.out HB1.out.bel) Hsm.out.1 Hsm.out.2).mono ?_
  rintro e w2 ⟨c',u',v',rfl,hr2,hb2⟩
  obtain ⟨x0,y0,rfl,_⟩:=Sl.form hr2.cells
  obtain ⟨x1,y1,rfl,_⟩:=Sl.form hr2.disk.1
  obtain ⟨x2,y2,rfl,_⟩:=Sl.form hr2.disk.2
  have HB2:=Lib.hid (HB1.out.below hb2)
  have hq0:=HB2.out.cells0
  have hf0:=HB2.out.free0
  have hsz:=HB1.out.top
  simp at hsz
  have HB3:=Lib.hid (HB2.out.put4 (.slice x0 t.cells.length y0) (.slice x1 t.d.safe.length y1) (.slice x2 t.d.wait.length y2) (.bool t.up) rfl)
  have HPG:=puts4_grow (W:=w2) (b:=w.heap.size) (.slice x0 t.cells.length y0) (.slice x1 t.d.safe.length y1) (.slice x2 t.d.wait.length y2) (.bool t.up)
  have HR3:=Lib.hid (RunI.start HB3.out (RdWorld.keep (D':=fun b=>w.heap.size + 2≤b) hr2 (fun k hk _=>by have h1 : w1.heap.size≤k:=hk;show _≤_;omega) (fun k hk hl=>grow_keep HPG hl (by have h1 : w1.heap.size≤k:=hk;omega)) HPG.size))
  clear hr2 hb2 hsz HPG HB1 HB2 HB3
  go_wp2_with fail
  clear hq0 hf0
  go_loopw [8,27] (fun sv kv wr=>∃ (k : Nat) (ts : TWorld) (sv' : Value) (said : List Int) (c u v : Value),kv = .int .i64 k∧sv = sv'∧k≤l.length∧wrunGo t l = ((wrunGo ts (l.drop k)).1,said ++ (wrunGo ts (l.drop k)).2)∧said.length = k∧worldE ts = 0∧RunI w wr sv' c u v ts said) (fun _ kv _=>l.length - (intOf kv).toNat)
  case atStart=>exact ⟨0,t,_,[],_,_,_,rfl,rfl,by omega,rfl,rfl,HW.out,HR3.out⟩
  case round =>
   obtain ⟨k,ts,sv,said,cv,uv,vv,rfl,rfl,hk,hgo,hsl,hwe,hR⟩:=hrel
   have Hgo:=Lib.hid hgo
   have Hsl:=Lib.hid hsl
   have Hwe:=Lib.hid hwe
   have HR:=Lib.hid hR
   obtain ⟨sa,sc,rfl⟩:=OwnSl.slice hR.own
   obtain ⟨b0,d0,rfl,_⟩:=Sl.form hR.rd.cells
   obtain ⟨b1,d1,rfl,_⟩:=Sl.form hR.rd.disk.1
   obtain ⟨b2,d2,rfl,_⟩:=Sl.form hR.rd.disk.2
   clear hgo hwe hR hsl
   by_cases hlt : k < l.length
   ·obtain ⟨b,o,rfl,_,_⟩:=hat (by omega)
    obtain ⟨a3,c3,x0,x1,x2,x3,x4,hp⟩:=RdHaps.cells (H.out.below HR.out.bx.bel) hlt
    have Hp:=Lib.hid (RdRules.keep (D':=fun b=>b < wr.heap.size) hp (fun _ _ hl=>hl) (fun _ _ _=>rfl) (Nat.le_refl _))
    have Hd:=Lib.hid (wrunGo_drop l k hlt ts)
    have HA0:=Lib.hid (bel_alloc (Below.refl wr.heap.size wr) (.cells #[.int .i64 l[k].kind,.int .i64 l[k].cell,.int .i64 l[k].from_,.slice a3 l[k].p.rules.length c3,.int .i64 l[k].p.dflt] 40))
    have Hx1:=Lib.hid (heap_last wr (.cells #[.int .i64 l[k].kind,.int .i64 l[k].cell,.int .i64 l[k].from_,.slice a3 l[k].p.rules.length c3,.int .i64 l[k].p.dflt] 40))
    have HR1:=Lib.hid (HR.out.below HA0.out)
    have hq0:=HR.out.bx.cells0
    have hq0':=HR1.out.bx.cells0
    have Hsm2:=Lib.hid (world_small Hwe.out)
    clear hp
    go_wp2_with fail
    clear x0 x1 x2 x3 x4 hq0 hq0'
    refine (wcopy_any _ _ _ ts _ _ HR1.out.rd Hsm2.out.1 Hsm2.out.2).mono ?_
    rintro e w2 ⟨c',u',v',rfl,hr2,hb2⟩
    obtain ⟨x0,y0,rfl,_⟩:=Sl.form hr2.cells
    obtain ⟨x1,y1,rfl,_⟩:=Sl.form hr2.disk.1
    obtain ⟨x2,y2,rfl,_⟩:=Sl.form hr2.disk.2
    have hsz1 : wr.heap.size < w2.heap.size:=by have:=hb2.size;simp at this;omega
    have HA2:=Lib.hid (bel_alloc (Below.refl w2.heap.size w2) (.cells #[.slice x0 ts.cells.length y0,.slice x1 ts.d.safe.length y1,.slice x2 ts.d.wait.length y2,.bool ts.up] 27))
    have Hx3:=Lib.hid (blk_below (blk_below Hx1.out hb2) HA2.out)
    have HB3 : Hid (Below wr.heap.size wr _):=bel_call HA0.out (hb2.trans (HA2.out.mono hb2.size))
    have Hbx3:=Lib.hid (heap_last w2 (.cells #[.slice x0 ts.cells.length y0,.slice x1 ts.d.safe.length y1,.slice x2 ts.d.wait.length y2,.bool ts.up] 27))
    have Hr3:=Lib.hid (RdWorld.below (RdWorld.keep (D':=fun b=>(w.heap.size + 2≤b∧(Value.slice sa said.length sc).ownBlock ≠ some b)∧b ≠ w2.heap.size) hr2 (fun k hk hl=>by
     have h1 : _≤k:=hk
     simp at h1
     have h2:=HR.out.bx.top
     simp at h2
     exact ⟨⟨by omega,fun e=>by have:=HR.out.lt k e;omega⟩,by omega⟩) (fun _ _ _=>rfl) (Nat.le_refl _)) HA2.out)
    have hqx:=cells_of Hx3.out
    have Hsz1:=Lib.hid hsz1
    clear hr2 hb2 hsz1 HA0 HA2 Hx1 HR1
    go_wp2_with fail
    clear hqx
    revert Hx3 HB3 Hbx3 Hr3
    obtain ⟨w3,hw3⟩ : ∃ w3,w2.alloc (.cells #[.slice x0 ts.cells.length y0,.slice x1 ts.d.safe.length y1,.slice x2 ts.d.wait.length y2,.bool ts.up] 27) = w3:=⟨_,rfl⟩
    have Hw3s : Hid (w3.heap.size = w2.heap.size + 1):=by rw [← hw3];show _ = _;simp
    rw [hw3]
    clear hw3
    intro Hx3 HB3 Hbx3 Hr3
    refine (happen_any w2.heap.size _ _ _ (.slice a3 l[k].p.rules.length c3) ts l[k] (fun b=>(w.heap.size + 2≤b∧(Value.slice sa said.length sc).ownBlock ≠ some b)∧b ≠ w2.heap.size) _ w3 (fun h=>h.2 rfl) (fun b hb=>by
     have h1:=HR.out.bx.top
     simp at h1
     have h2:=Hw3s.out
     have h3:=Hsz1.out
     exact ⟨⟨by omega,fun e=>by have:=HR.out.lt b e;omega⟩,by omega⟩) ⟨Hbx3.out,Hr3.out⟩ (RdRules.below Hp.out HB3.out) (HL.out.below (bel_call HR.out.bx.bel HB3.out))).mono ?_
    obtain ⟨⟨s,he⟩,hh⟩ : ∃ E,happenE ts l[k] = E:=⟨_,rfl⟩
    have HH:=Lib.hid hh
    rw [hh]
    rintro e w4 ⟨c4,u4,v4,rfl,hw4,hg4⟩
    dsimp only at hw4
    obtain ⟨z0,k0,rfl,_⟩:=Sl.form hw4.rd.cells
    obtain ⟨z1,k1,rfl,_⟩:=Sl.form hw4.rd.disk.1
    obtain ⟨z2,k2,rfl,_⟩:=Sl.form hw4.rd.disk.2
    have HR4:=Lib.hid (RunI.grown HR.out HB3.out (by have:=Hsz1.out;omega) hg4)
    have Hw4:=Lib.hid hw4
    have Hgo2 : Hid (wrunGo t l = ((wrunGo s (l.drop (k + 1))).1,(said ++ [he]) ++ (wrunGo s (l.drop (k + 1))).2)):=by show _ = _;rw [Hgo.out,Hd.out,hh];simp
    have HW2 : Hid (worldE s = 0):=by have:=happen_world Hwe.out l[k];rw [hh] at this;exact this
    have hs60 : said.length≤60:=by have:=Hsl.out;omega
    clear hw4 hg4 hh Hr3 HB3 Hx3 Hbx3 Hgo Hd
    dsimp only
    by_cases hhe : he = 0
    ·subst hhe
     have HR5:=Lib.hid (RunI.put HR4.out (RdWorld.keep Hw4.out.rd (fun k hk _=>hk.1) (fun _ _ _=>rfl) (Nat.le_refl _)))
     have hq0:=HR4.out.bx.cells0
     have hf0:=HR4.out.bx.free0
     have hqw:=cells_of Hw4.out.box
     have HA:=Lib.hid (bel_alloc (Below.refl (((((w4.setCell ⟨w.heap.size,0,none⟩ (.slice z0 s.cells.length k0)).setCell ⟨w.heap.size,1,none⟩ (.slice z1 s.d.safe.length k1)).setCell ⟨w.heap.size,2,none⟩ (.slice z2 s.d.wait.length k2)).setCell ⟨w.heap.size,3,none⟩ (.bool s.up))).heap.size (((((w4.setCell ⟨w.heap.size,0,none⟩ (.slice z0 s.cells.length k0)).setCell ⟨w.heap.size,1,none⟩ (.slice z1 s.d.safe.length k1)).setCell ⟨w.heap.size,2,none⟩ (.slice z2 s.d.wait.length k2)).setCell ⟨w.heap.size,3,none⟩ (.bool s.up)))) (.cells #[.int .i64 0] 30))
     have HR6:=Lib.hid (RunI.below HR5.out HA.out)
     have HR1 : Hid (Sl ((((((w4.setCell ⟨w.heap.size,0,none⟩ (.slice z0 s.cells.length k0)).setCell ⟨w.heap.size,1,none⟩ (.slice z1 s.d.safe.length k1)).setCell ⟨w.heap.size,2,none⟩ (.slice z2 s.d.wait.length k2)).setCell ⟨w.heap.size,3,none⟩ (.bool s.up))).alloc (.cells #[.int .i64 0] 30)) (fun _=>True) 1 intR (.slice (some ⟨w4.heap.size,0,none⟩) 1 1) [0]) :=
      sl_block (sz:=1) (xs:=[0]) (rows:=[[.int .i64 0]]) (RowsOf.cons RowsOf.nil rfl rfl) (blk_at (by simp)) rfl trivial (by simp [maxLen])
     go_wp2_with (at_builtin;(
      refine wpList_app2 rfl _ _ 29 rfl (w.heap.size + 2) 30 i0 _ 1 8 Tryz.underlying29 Hi.out hz0 hz1 hz2 rfl (by decide) _ _ rfl HR6.out.own _ _ rfl HR1.out (fun y _ cs h=>oneErr y cs h) (by show _ + 1≤maxLen;unfold maxLen;omega) (by show (_ + 1) * 8≤_;omega) HR6.out.bx.top ?_
      intro v8 w8 hown8 hg8 hat8
      have HR8:=Lib.hid (RunI.app HR6.out hown8 hg8 hat8)
      clear hown8 hg8 hat8))
     go_roundw
     case rel=>exact ⟨k + 1,_,_,said ++ [0],_,_,_,by go_num,rfl,by omega,Hgo2.out,by simp [Hsl.out],HW2.out,HR8.out⟩
     case measure=>simp [intOf];omega
    ·have hnz : (he == 0) = false:=beq_eq_false_iff_ne.2 hhe
     obtain rfl : s = ts:=by have:=happen_same (w:=ts) (x:=l[k]) (by rw [HH.out];exact hhe);rw [HH.out] at this;exact this
     clear hhe
     have HA:=Lib.hid (bel_alloc (Below.refl (w4).heap.size (w4)) (.cells #[.int .i64 he] 30))
     have HR6:=Lib.hid (RunI.below HR4.out HA.out)
     have HR1 : Hid (Sl ((w4).alloc (.cells #[.int .i64 he] 30)) (fun _=>True) 1 intR (.slice (some ⟨w4.heap.size,0,none⟩) 1 1) [he]) :=
      sl_block (sz:=1) (xs:=[he]) (rows:=[[.int .i64 he]]) (RowsOf.cons RowsOf.nil rfl rfl) (blk_at (by simp)) rfl trivial (by simp [maxLen])
     go_wp2_with (at_builtin;(
      refine wpList_app2 rfl _ _ 29 rfl (w.heap.size + 2) 30 i0 _ 1 8 Tryz.underlying29 Hi.out hz0 hz1 hz2 rfl (by decide) _ _ rfl HR6.out.own _ _ rfl HR1.out (fun y _ cs h=>oneErr y cs h) (by show _ + 1≤maxLen;unfold maxLen;omega) (by show (_ + 1) * 8≤_;omega) HR6.out.bx.top ?_
      intro v8 w8 hown8 hg8 hat8
      have HR8:=Lib.hid (RunI.app HR6.out hown8 hg8 hat8)
      clear hown8 hg8 hat8))
     go_roundw
     case rel=>exact ⟨k + 1,_,_,said ++ [he],_,_,_,by go_num,rfl,by omega,Hgo2.out,by simp [Hsl.out],HW2.out,HR8.out⟩
     case measure=>simp [intOf];omega
   ·obtain rfl : k = l.length:=by omega
    have HE : Hid (wrunE t l = (ts,said,0)):=by show _ = _;rw [HD.out,Hgo.out,List.drop_length];simp [wrunGo]
    have HS:=Lib.hid (puts4_at (.slice b0 ts.cells.length d0) (.slice b1 ts.d.safe.length d1) (.slice b2 ts.d.wait.length d2) (.bool ts.up) (HR.out.bx.at_ 1 _ rfl))
    have HPG:=puts4_grow (W:=wr) (b:=w.heap.size + 1) (.slice b0 ts.cells.length d0) (.slice b1 ts.d.safe.length d1) (.slice b2 ts.d.wait.length d2) (.bool ts.up)
    have hq0:=HR.out.bx.cells0
    have hq2:=HR.out.bx.cells1
    have hf2:=HR.out.bx.free1
    have hqs:=cells_of HS.out
    have HBL:=Lib.hid (below_of_grow HR.out.bx.bel HPG HR.out.bx.bel.size (by omega))
    have HRF:=Lib.hid (RdWorld.keep (D':=fun b=>w.heap.size≤b) HR.out.rd (fun k hk _=>by have h1:=hk.1;show _≤_;omega) (fun k hk hl=>grow_keep HPG hl (by have h1:=hk.1;omega)) HPG.size)
    have HSD : Hid (RdInts _ (fun b=>w.heap.size≤b) _ said):=OwnSl.sl (OwnSl.keepFrom HR.out.own fun b hb hl=>grow_keep HPG hl (by omega)) (fun b hb=>by show _≤_;omega)
    clear HPG HS
    go_wp2
    (try simp only [Exit.inBlock,Exit.then])
    refine bodyPost_ret (v:=.tuple #[worldV (.slice b0 ts.cells.length d0) (.slice b1 ts.d.safe.length d1) (.slice b2 ts.d.wait.length d2) ts.up,.slice sa said.length sc,.int .i64 0]) ?_ rfl (by rw [HE.out];exact ⟨_,_,_,_,rfl,HRF.out,HSD.out,HBL.out⟩)
    simp [results,Tryz.results11,go_sem,hqs]
 ·have HE : Hid (wrunE t l = (zeroWorld,[],worldE t)):=by show wrunE _ _ = _;unfold wrunE;rw [if_pos hW]
  obtain ⟨L,hLw⟩ : ∃ L,worldE t = L:=⟨_,rfl⟩
  rw [hLw] at HE hW ⊢
  have hnz : (L != 0) = true:=bne_iff_ne.2 hW
  clear hW hLw
  have HS:=Lib.hid (puts4_at (.slice none 0 0) (.slice none 0 0) (.slice none 0 0) (.bool false) (HB1.out.at_ 1 _ rfl))
  have hq2:=HB1.out.cells1
  have hf2:=HB1.out.free1
  have hqs:=cells_of HS.out
  have HBL:=Lib.hid (below_of_grow HB1.out.bel (puts4_grow (b:=w.heap.size + 1) (.slice none 0 0) (.slice none 0 0) (.slice none 0 0) (.bool false)) HB1.out.bel.size (by omega))
  clear HS
  go_wp2
  refine bodyPost_ret (v:=.tuple #[worldV (.slice none 0 0) (.slice none 0 0) (.slice none 0 0) false,.slice none 0 0,.int .i64 (L)]) ?_ rfl (by rw [HE.out];exact ⟨_,_,_,_,rfl,⟨nil_cells _ _,nil_disk _ _⟩,nil_ints _ _,HBL.out⟩)
  simp [results,Tryz.results11,go_sem,hqs]
end Go.Proofs.YthkgjohhbdipcaaGreatDoor
namespace Go.Proofs.YthkgjohhbdipcaaGreatDoor
open Go.RowKit
attribute [local go_sem] gives givesUpon
set_option maxRecDepth 100000 in
set_option maxHeartbeats 16000000 in
theorem wask_any (c u v : Value) (t : TWorld) (cell : Int) (x : TCall) (D : Nat → Prop) (w : World) (h : RdWorld w D c u v t) (hL : Laid w) :
  Calls Tryz.prog 18 #[worldV c u v t.up,.int .i64 cell,callV x] w fun e w'=>e = .returned (.tuple #[.int .i64 (wAskE t cell x).1,.int .i64 (wAskE t cell x).2])∧Below w.heap.size w w':=by
 have HL:=Lib.hid hL
 have Ht:=Lib.hid (RdWorld.true h)
 obtain ⟨a0,c0,rfl,hl0,hm0,hat⟩:=Sl.form h.cells
 obtain ⟨a1,c1,rfl,_⟩:=Sl.form h.disk.1
 obtain ⟨a2,c2,rfl,_⟩:=Sl.form h.disk.2
 clear h hL
 have HB:=Lib.hid (Bx.two (w:=w) (o:=.cells #[.slice a0 t.cells.length c0,.slice a1 t.d.safe.length c1,.slice a2 t.d.wait.length c2,.bool t.up] 27) (o':=.cells #[.int .i64 x.a0,.int .i64 x.a1,.int .i64 x.a2,.int .i64 x.a3,.int .i64 x.a4] 46))
 go_enter Tryz.func18,Tryz.ntmps18
 go_wp2_with fail
 refine (wcheck_any _ _ _ t _ _ (RdWorld.below Ht.out HB.out.bel) (HL.out.below HB.out.bel)).mono ?_
 rintro e w1 ⟨rfl,hb1⟩
 have HB1:=Lib.hid (HB.out.below hb1)
 clear hb1 HB
 by_cases hW : worldE t = 0
 ·have HE : Hid (wAskE t cell x = if cell < 0 ∨ (t.cells.length : Int)≤cell then (0,5) else if (cellAt t.cells cell).open_ then askE (cellAt t.cells cell).chain x else (0,6)):=by show wAskE _ _ _ = _;unfold wAskE;rw [if_neg (by simp [hW])]
  rw [hW]
  clear hW
  have hq0:=HB1.out.cells0
  by_cases hr : cell < 0 ∨ (t.cells.length : Int)≤cell
  ·have HE2 : Hid (wAskE t cell x = (0,5)):=by show _ = _;rw [HE.out,if_pos hr]
   by_cases hr1 : cell < 0
   ·clear hr
    go_wp2
    go_ret2
    exact ⟨by rw [HE2.out];rfl,HB1.out.bel⟩
   ·have hr2 : (t.cells.length : Int)≤cell:=by omega
    clear hr
    go_wp2
    go_ret2
    exact ⟨by rw [HE2.out];rfl,HB1.out.bel⟩
  ·obtain ⟨k,rfl⟩ : ∃ k : Nat,cell = (k : Int):=⟨cell.toNat,by omega⟩
   have hlt : k < t.cells.length:=by omega
   have hk0 : ¬ (k : Int) < 0:=by omega
   have hk1 : ¬ (t.cells.length : Int)≤(k : Int):=by omega
   have hca : cellAt t.cells (k : Int) = t.cells[k]:=by unfold cellAt;simp [hlt]
   rw [hca] at HE
   have HE1 : Hid (wAskE t (k : Int) x = if t.cells[k].open_ then askE t.cells[k].chain x else (0,6)):=by show _ = _;rw [HE.out,if_neg hr]
   clear hr hca HE
   obtain ⟨b,o,rfl,_,_⟩:=hat (by omega)
   clear hat
   obtain ⟨ca,a6,cc,c6,y0,y1,y2,y3,hp,hp2⟩:=RdCells.cells (Ht.out.cells.below HB1.out.bel) hlt
   have Hch:=Lib.hid hp
   have Hlt : Hid (k < t.cells.length∧True):=⟨hlt,trivial⟩
   have hblt : ∀ j,w1.cell? ⟨b,o + k * 4 + 1,none⟩ = some (.slice ca t.cells[k].chain.length cc):=fun _=>y1
   obtain ⟨op,hop⟩ : ∃ q,t.cells[k].open_ = q:=⟨_,rfl⟩
   have y0' : w1.cell? ⟨b,o + k * 4,none⟩ = some (.bool op):=y0.trans (congrArg (fun q=>some (Value.bool q)) hop)
   rw [hop] at HE1
   clear y0
   have y0:=y0'
   clear y0'
   cases op with
   | false =>
    have HE2 : Hid (wAskE t (k : Int) x = (0,6)):=by show _ = _;rw [HE1.out];rfl
    clear hp hp2 y1 y2 y3 hblt hop
    go_wp2
    go_ret2
    exact ⟨by rw [HE2.out];rfl,HB1.out.bel⟩
   | true =>
    have HE2 : Hid (wAskE t (k : Int) x = askE t.cells[k].chain x):=by show _ = _;rw [HE1.out];rfl
    obtain ⟨⟨ve,ee⟩,ha⟩ : ∃ E,askE t.cells[k].chain x = E:=⟨_,rfl⟩
    have HA:=Lib.hid ha
    have Hcc : Hid (∀ W,Below w1.heap.size w1 W → W.cell? ⟨b,o + k * 4 + 1,none⟩ = some (.slice ca t.cells[k].chain.length cc)):=fun W hW=>by
     obtain ⟨o1,h1,h2⟩ : ∃ o1,w1.heap[b]? = some o1∧W.heap[b]? = some o1:=by
      cases hb : w1.heap[b]? with
      | none=>simp [World.cell?,hb] at y1
      | some o1=>exact ⟨o1,rfl,blk_below hb hW⟩
     rw [← y1];simp [World.cell?,h1,h2]
    clear hp hp2 y1 y2 y3 hblt hop ha
    go_wp2_with fail
    clear hq0 y0
    refine wp_region_B [ex (.pointer (some ⟨w.heap.size,0,none⟩)),ex (.slice (some ⟨b,o,none⟩) t.cells.length c0),ex (.int .i64 (k : Int)),ex (.pointer (some ⟨b,o + k * 4,none⟩)),ex (.pointer (some ⟨b,o + k * 4 + 1,none⟩)),ex (.slice ca t.cells[k].chain.length cc),ex (callV x),ex (.tuple #[.int .i64 ve,.int .i64 ee]),ex (.int .i64 ve),ex (.int .i64 ee),ex (.int .i64 ve),ex (.int .i64 ee)] w1.heap.size (Nat.le_refl _) (by kernel_rfl) (by kernel_rfl) ⟨.inl ⟨_,rfl⟩,.inl ⟨_,rfl⟩,.inl ⟨_,rfl⟩,.inl ⟨_,rfl⟩,.inl ⟨_,rfl⟩,.inl ⟨_,rfl⟩,.inl ⟨_,rfl⟩,.inl ⟨_,rfl⟩,.inl ⟨_,rfl⟩,.inl ⟨_,rfl⟩,.inl ⟨_,rfl⟩,.inl ⟨_,rfl⟩,trivial⟩ ?_
    (refine walkB_ex (fun K hK=>?_);refine ⟨fun W hC hd R hR=>?_,?_⟩;(clear hd;go_simp;exact hR _ _ (Below.refl _ _) rfl);(go_simp;refine hK _ ?_;clear hK K))
    (refine walkB_ex (fun K hK=>?_);refine ⟨fun W hC hd R hR=>?_,?_⟩;(have hq0:=(HB1.out.below hC.2).cells0;clear hd;go_simp;exact hR _ _ (Below.refl _ _) rfl);(go_simp;refine hK _ ?_;clear hK K))
    (refine walkB_ex (fun K hK=>?_);refine ⟨fun W hC hd R hR=>?_,?_⟩;(clear hd;go_simp;exact hR _ _ (Below.refl _ _) rfl);(go_simp;refine hK _ ?_;clear hK K))
    (refine walkB_ex (fun K hK=>?_);refine ⟨fun W hC hd R hR=>?_,?_⟩;(have hlt:=Hlt.out.1;clear hd;go_simp;exact hR _ _ (Below.refl _ _) rfl);(go_simp;refine hK _ ?_;clear hK K))
    (refine walkB_ex (fun K hK=>?_);refine ⟨fun W hC hd R hR=>?_,?_⟩;(clear hd;go_simp;exact hR _ _ (Below.refl _ _) rfl);(go_simp;refine hK _ ?_;clear hK K))
    (refine walkB_ex (fun K hK=>?_);refine ⟨fun W hC hd R hR=>?_,?_⟩;(have hcc:=Hcc.out W hC.2;clear hd;go_simp;exact hR _ _ (Below.refl _ _) rfl);(go_simp;refine hK _ ?_;clear hK K))
    (refine walkB_ex (fun K hK=>?_);refine ⟨fun W hC hd R hR=>?_,?_⟩;(have hq1:=(HB1.out.below hC.2).cells1;clear hd;go_simp;exact hR _ _ (Below.refl _ _) rfl);(go_simp;refine hK _ ?_;clear hK K))
    (refine walkB_ex (fun K hK=>?_);refine ⟨fun W hC hd R hR=>?_,?_⟩;(clear hd;go_simp;go_at_call 58;refine (ask_any _ t.cells[k].chain x _ W (RdChain.below Hch.out hC.2)).mono ?_;rw [HA.out];rintro e w9 ⟨rfl,hb9⟩;exact ⟨_,rfl,hR _ _ hb9 rfl⟩);(go_simp;refine hK _ ?_;clear hK K))
    (refine walkB_ex (fun K hK=>?_);refine ⟨fun W hC hd R hR=>?_,?_⟩;(clear hd;go_simp;exact hR _ _ (Below.refl _ _) rfl);(go_simp;refine hK _ ?_;clear hK K))
    (refine walkB_ex (fun K hK=>?_);refine ⟨fun W hC hd R hR=>?_,?_⟩;(clear hd;go_simp;exact hR _ _ (Below.refl _ _) rfl);(go_simp;refine hK _ ?_;clear hK K))
    (refine walkB_ex (fun K hK=>?_);refine ⟨fun W hC hd R hR=>?_,?_⟩;(clear hd;go_simp;exact hR _ _ (Below.refl _ _) rfl);(go_simp;refine hK _ ?_;clear hK K))
    (refine walkB_ex (fun K hK=>?_);refine ⟨fun W hC hd R hR=>?_,?_⟩;(clear hd;go_simp;exact hR _ _ (Below.refl _ _) rfl);(go_simp;refine hK _ ?_;clear hK K))
    intro w2 hC2 hfacts
    have HBf:=Lib.hid (HB1.out.below hC2.2).bel
    clear hC2 hfacts
    go_wp2
    go_ret2
    exact ⟨by rw [HE2.out,HA.out];rfl,HBf.out⟩
 ·have HE : Hid (wAskE t cell x = (0,worldE t)):=by show wAskE _ _ _ = _;unfold wAskE;rw [if_pos hW]
  obtain ⟨L,hLw⟩ : ∃ L,worldE t = L:=⟨_,rfl⟩
  rw [hLw] at HE hW ⊢
  have hnz : (L != 0) = true:=bne_iff_ne.2 hW
  clear hW hLw
  go_wp2
  go_ret2
  exact ⟨by rw [HE.out];rfl,HB1.out.bel⟩
end Go.Proofs.YthkgjohhbdipcaaGreatDoor
