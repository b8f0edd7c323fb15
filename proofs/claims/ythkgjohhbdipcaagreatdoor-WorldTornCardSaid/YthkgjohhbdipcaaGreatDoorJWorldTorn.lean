/- WorldTorn returns true at every world, place, policy and number. Condition: Laid. -/
import Derived.Test.YthkgjohhbdipcaaGreatDoorK14
namespace Go.Proofs.YthkgjohhbdipcaaGreatDoor
open Go.RowKit
set_option maxRecDepth 100000 in
set_option maxHeartbeats 16000000 in
theorem worldTorn_walk {w : World} (hL : Laid w) (v0 : Value) (t : TWorld) (rd0 : ∃ c u1 u2,v0 = worldV c u1 u2 t.up∧RdWorld w (fun _=>True) c u1 u2 t) (cl : Int) (up : Value) (p : TPol) (rdp : RdRules w (fun _=>True) up p.rules) (n : Int) :
  Calls Tryz.prog 10 #[v0,.int .i64 cl,polV up p.dflt,.int .i64 n] w fun e w'=>e = .returned (.bool true)∧Below w.heap.size w w':=by
 have HL:=Lib.hid hL
 obtain ⟨c,u,v,rfl,hr⟩:=rd0
 have Ht:=Lib.hid hr
 have Hp:=Lib.hid rdp
 obtain ⟨a0,c0,rfl,_⟩:=Sl.form hr.cells
 obtain ⟨a1,c1,rfl,_⟩:=Sl.form hr.disk.1
 obtain ⟨a2,c2,rfl,_⟩:=Sl.form hr.disk.2
 obtain ⟨ap,cp,rfl,_⟩:=Sl.form rdp
 clear hL hr rdp
 have HB:=Lib.hid (Bx.two (w:=w) (o:=.cells #[.slice a0 t.cells.length c0,.slice a1 t.d.safe.length c1,.slice a2 t.d.wait.length c2,.bool t.up] 27) (o':=.cells #[.slice ap p.rules.length cp,.int .i64 p.dflt] 38))
 go_enter Tryz.func10,Tryz.ntmps10
 go_wp2_with fail
 refine (wdo_any _ _ _ (.slice ap p.rules.length cp) t ⟨7,cl,n,p⟩ _ _ _ (RdWorld.below Ht.out HB.out.bel) (RdRules.below Hp.out HB.out.bel) (HL.out.below HB.out.bel)).mono ?_
 obtain ⟨⟨x,xe⟩,hx⟩ : ∃ E,doE t ⟨7,cl,n,p⟩ = E:=⟨_,rfl⟩
 have HX:=Lib.hid hx
 rw [hx]
 rintro e w1 ⟨c',u',v',rfl,hr1,hb1⟩
 dsimp only at hr1
 obtain ⟨x0,y0,rfl,_⟩:=Sl.form hr1.cells
 obtain ⟨x1,y1,rfl,_⟩:=Sl.form hr1.disk.1
 obtain ⟨x2,y2,rfl,_⟩:=Sl.form hr1.disk.2
 have HA1:=Lib.hid (bel_alloc (Below.refl w1.heap.size w1) (.cells #[.slice x0 x.cells.length y0,.slice x1 x.d.safe.length y1,.slice x2 x.d.wait.length y2,.bool x.up] 27))
 have HB1:=Lib.hid ((HB.out.below hb1).below HA1.out)
 have Hx1:=Lib.hid (heap_last w1 (.cells #[.slice x0 x.cells.length y0,.slice x1 x.d.safe.length y1,.slice x2 x.d.wait.length y2,.bool x.up] 27))
 have Hr1:=Lib.hid (RdWorld.below (RdWorld.true hr1) HA1.out)
 clear hx hr1 hb1 HA1 HB
 dsimp only
 go_wp2_with fail
 refine (kept_walk _ (HL.out.below HB1.out.bel)).mono ?_
 rintro e w2 ⟨rfl,hb2⟩
 have HB2:=Lib.hid (HB1.out.below hb2)
 have Hx2:=Lib.hid (blk_below Hx1.out hb2)
 have Hr2:=Lib.hid (RdWorld.below Hr1.out hb2)
 clear hb2 HB1 Hx1 Hr1
 by_cases h0 : xe = 0
 ·subst h0
  have HT : Hid ((doE x ⟨6,0,0,zeroPol⟩).2 = 0∧((doE x ⟨6,0,0,zeroPol⟩).1 = t ∨ (doE t ⟨2,cl,0,p⟩).2 = 0∧(doE x ⟨6,0,0,zeroPol⟩).1 = (doE t ⟨2,cl,0,p⟩).1)):=by
   have:=world_torn (w:=t) (c:=cl) (n:=n) (p:=p) (by rw [HX.out]) 0 0 zeroPol 0
   rw [HX.out] at this
   exact this
  have hqx:=cells_of Hx2.out
  go_wp2_with fail
  clear hqx
  refine (wdo_any _ _ _ (.slice none 0 0) x ⟨6,0,0,zeroPol⟩ _ (fun _=>True) _ Hr2.out (nil_rules' _ _) (HL.out.below HB2.out.bel)).mono ?_
  obtain ⟨⟨y,ye⟩,hy⟩ : ∃ E,doE x ⟨6,0,0,zeroPol⟩ = E:=⟨_,rfl⟩
  rw [hy] at HT ⊢
  rintro e w3 ⟨c',u',v',rfl,hr3,hb3⟩
  dsimp only at hr3 HT
  obtain rfl : ye = 0:=HT.out.1
  obtain ⟨d0,b0,rfl,_⟩:=Sl.form hr3.cells
  obtain ⟨d1,b1,rfl,_⟩:=Sl.form hr3.disk.1
  obtain ⟨d2,b2,rfl,_⟩:=Sl.form hr3.disk.2
  have HA3:=Lib.hid (bel_alloc (Below.refl w3.heap.size w3) (.cells #[.slice d0 y.cells.length b0,.slice d1 y.d.safe.length b1,.slice d2 y.d.wait.length b2,.bool y.up] 27))
  have HB3:=Lib.hid ((HB2.out.below hb3).below HA3.out)
  have Hy3:=Lib.hid (heap_last w3 (.cells #[.slice d0 y.cells.length b0,.slice d1 y.d.safe.length b1,.slice d2 y.d.wait.length b2,.bool y.up] 27))
  have Hr3:=Lib.hid (RdWorld.below (RdWorld.true hr3) HA3.out)
  have hq0:=(HB2.out.below hb3).cells0
  have hq1:=(HB2.out.below hb3).cells1
  have hq0':=HB3.out.cells0
  have hq1':=HB3.out.cells1
  clear hy hr3 hb3 HA3
  dsimp only
  go_wp2_with fail
  clear hq0 hq1 hq0' hq1'
  refine (wdo_any _ _ _ (.slice ap p.rules.length cp) t ⟨2,cl,0,p⟩ _ _ _ (RdWorld.below Ht.out HB3.out.bel) (RdRules.below Hp.out HB3.out.bel) (HL.out.below HB3.out.bel)).mono ?_
  obtain ⟨⟨z,ze⟩,hz⟩ : ∃ E,doE t ⟨2,cl,0,p⟩ = E:=⟨_,rfl⟩
  rw [hz] at HT ⊢
  rintro e w4 ⟨c',u',v',rfl,hr4,hb4⟩
  dsimp only at hr4 HT
  obtain ⟨z0,k0,rfl,_⟩:=Sl.form hr4.cells
  obtain ⟨z1,k1,rfl,_⟩:=Sl.form hr4.disk.1
  obtain ⟨z2,k2,rfl,_⟩:=Sl.form hr4.disk.2
  have HA4:=Lib.hid (bel_alloc (Below.refl w4.heap.size w4) (.cells #[.slice z0 z.cells.length k0,.slice z1 z.d.safe.length k1,.slice z2 z.d.wait.length k2,.bool z.up] 27))
  have HB4:=Lib.hid ((HB3.out.below hb4).below HA4.out)
  have Hy4:=Lib.hid (blk_below (blk_below Hy3.out hb4) HA4.out)
  have Hz4:=Lib.hid (heap_last w4 (.cells #[.slice z0 z.cells.length k0,.slice z1 z.d.safe.length k1,.slice z2 z.d.wait.length k2,.bool z.up] 27))
  have Hr4:=Lib.hid (RdWorld.below (RdWorld.true hr4) HA4.out)
  have Hry4:=Lib.hid (RdWorld.below (RdWorld.below Hr3.out hb4) HA4.out)
  have hq0:=(HB3.out.below hb4).cells0
  have hqy:=cells_of (blk_below Hy3.out hb4)
  have hq0':=HB4.out.cells0
  have hqy':=cells_of Hy4.out
  clear hz hr4 hb4 HA4
  dsimp only
  go_wp2_with fail
  clear hq0 hqy hq0' hqy'
  refine (wsame_any _ _ _ _ _ _ y t _ Hry4.out (RdWorld.below Ht.out HB4.out.bel)).mono ?_
  rintro e w5 ⟨rfl,hb5⟩
  have HB5:=Lib.hid (HB4.out.below hb5)
  have Hy5:=Lib.hid (blk_below Hy4.out hb5)
  have Hz5:=Lib.hid (blk_below Hz4.out hb5)
  have Hr5:=Lib.hid (RdWorld.below Hr4.out hb5)
  have Hry5:=Lib.hid (RdWorld.below Hry4.out hb5)
  clear hb5
  by_cases hyt : y = t
  ·rw [decide_eq_true hyt]
   have HBf:=Lib.hid HB5.out.bel
   clear hyt
   go_wp2
   go_ret
   exact ⟨rfl,HBf.out⟩
  ·rw [decide_eq_false hyt]
   obtain ⟨hze,hyz⟩ : ze = 0∧y = z:=by
    rcases HT.out.2 with h | h
    ·exact absurd h hyt
    ·exact h
   subst hze
   clear hyt
   have hqy:=cells_of Hy5.out
   have hqz:=cells_of Hz5.out
   have Hyz : Hid (y = z):=hyz
   clear hyz
   go_wp2_with fail
   clear hqy hqz
   refine (wsame_any _ _ _ _ _ _ y z _ Hry5.out Hr5.out).mono ?_
   rw [decide_eq_true Hyz.out]
   rintro e w6 ⟨rfl,hb6⟩
   have HBf:=Lib.hid (HB5.out.below hb6).bel
   clear hb6
   go_wp2
   go_ret
   exact ⟨rfl,HBf.out⟩
 ·have hnz : (xe != 0) = true:=bne_iff_ne.2 h0
  clear h0
  go_wp2_with fail
  refine (kept_walk _ (HL.out.below HB2.out.bel)).mono ?_
  rintro e w9 ⟨rfl,hb9⟩
  have HBf:=Lib.hid (bel_call HB2.out.bel hb9)
  clear hb9
  go_wp2
  go_ret
  exact ⟨rfl,HBf.out⟩
end Go.Proofs.YthkgjohhbdipcaaGreatDoor
