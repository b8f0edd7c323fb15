/- WorldStands returns true at every world. Condition: Laid. -/
import Derived.Test.YthkgjohhbdipcaaGreatDoorK14
namespace Go.Proofs.YthkgjohhbdipcaaGreatDoor
open Go.RowKit
set_option maxRecDepth 100000 in
set_option maxHeartbeats 16000000 in
theorem worldStands_walk {w : World} (hL : Laid w) (v0 : Value) (t0 : TWorld) (rd0 : ∃ c u1 u2,v0 = worldV c u1 u2 t0.up∧RdWorld w (fun _=>True) c u1 u2 t0) :
  Calls Tryz.prog 9 #[v0] w fun e w'=>e = .returned (.bool true)∧Below w.heap.size w w':=by
 have HL:=Lib.hid hL
 obtain ⟨c,u,v,rfl,hr⟩:=rd0
 obtain ⟨cs,d,up⟩:=t0
 have Ht:=Lib.hid hr
 obtain ⟨a0,c0,rfl,_⟩:=Sl.form hr.cells
 obtain ⟨a1,c1,rfl,_⟩:=Sl.form hr.disk.1
 obtain ⟨a2,c2,rfl,_⟩:=Sl.form hr.disk.2
 clear hL hr
 dsimp only
 have HB:=Lib.hid (Bx.one (w:=w) (o:=.cells #[.slice a0 cs.length c0,.slice a1 d.safe.length c1,.slice a2 d.wait.length c2,.bool up] 27))
 go_enter Tryz.func9,Tryz.ntmps9
 go_wp2_with fail
 refine (kept_walk _ (HL.out.below HB.out.bel)).mono ?_
 rintro e w1 ⟨rfl,hb1⟩
 have HB1:=Lib.hid (HB.out.below hb1)
 clear hb1 HB
 have hq0:=HB1.out.cells0
 go_wp2_with fail
 clear hq0
 refine (wcheck_any _ _ _ ⟨cs,d,up⟩ _ _ (RdWorld.below Ht.out HB1.out.bel) (HL.out.below HB1.out.bel)).mono ?_
 rintro e w2 ⟨rfl,hb2⟩
 have HB2:=Lib.hid (HB1.out.below hb2)
 clear hb2 HB1
 obtain ⟨L,hLw⟩ : ∃ L,worldE ⟨cs,d,up⟩ = L:=⟨_,rfl⟩
 have HLw:=Lib.hid hLw
 rw [hLw]
 clear hLw
 have hq0:=HB2.out.cells0
 by_cases h0 : L = 0
 ·subst h0
  cases up with
  | false =>
   go_wp2_with fail
   clear hq0
   refine (kept_walk _ (HL.out.below HB2.out.bel)).mono ?_
   rintro e w3 ⟨rfl,hb3⟩
   have HBf:=Lib.hid (HB2.out.below hb3).bel
   clear hb3
   go_wp2
   go_ret
   exact ⟨rfl,HBf.out⟩
  | true =>
   have HS:=Lib.hid (world_stands HLw.out rfl 0 0 zeroPol 0 0 zeroPol)
   go_wp2_with fail
   clear hq0
   refine (wdo_any _ _ _ (.slice none 0 0) ⟨cs,d,true⟩ ⟨5,0,0,zeroPol⟩ _ (fun _=>True) _ (RdWorld.below Ht.out HB2.out.bel) (nil_rules' _ _) (HL.out.below HB2.out.bel)).mono ?_
   rw [HS.out.1]
   rintro e w3 ⟨c',u',v',rfl,hr3,hb3⟩
   dsimp only at hr3
   obtain ⟨x0,y0,rfl,_⟩:=Sl.form hr3.cells
   obtain ⟨x1,y1,rfl,_⟩:=Sl.form hr3.disk.1
   obtain ⟨x2,y2,rfl,_⟩:=Sl.form hr3.disk.2
   have HA3:=Lib.hid (bel_alloc (Below.refl w3.heap.size w3) (.cells #[.slice x0 newCells.length y0,.slice x1 d.safe.length y1,.slice x2 d.wait.length y2,.bool false] 27))
   have HB3:=Lib.hid ((HB2.out.below hb3).below HA3.out)
   have Hr3:=Lib.hid (RdWorld.below (RdWorld.true hr3) HA3.out)
   clear hr3 hb3
   dsimp only
   go_wp2_with fail
   refine (wdo_any _ _ _ (.slice none 0 0) ⟨newCells,d,false⟩ ⟨6,0,0,zeroPol⟩ _ (fun _=>True) _ Hr3.out (nil_rules' _ _) (HL.out.below HB3.out.bel)).mono ?_
   rw [HS.out.2]
   rintro e w4 ⟨c',u',v',rfl,hr4,hb4⟩
   dsimp only at hr4
   obtain ⟨z0,k0,rfl,_⟩:=Sl.form hr4.cells
   obtain ⟨z1,k1,rfl,_⟩:=Sl.form hr4.disk.1
   obtain ⟨z2,k2,rfl,_⟩:=Sl.form hr4.disk.2
   have HA4:=Lib.hid (bel_alloc (Below.refl w4.heap.size w4) (.cells #[.slice z0 cs.length k0,.slice z1 d.safe.length k1,.slice z2 d.wait.length k2,.bool true] 27))
   have HB4:=Lib.hid ((HB3.out.below hb4).below HA4.out)
   have Hr4:=Lib.hid (RdWorld.below (RdWorld.true hr4) HA4.out)
   have hq0:=(HB3.out.below hb4).cells0
   have hq0':=HB4.out.cells0
   clear hr4 hb4
   dsimp only
   go_wp2_with fail
   clear hq0 hq0'
   refine (wsame_any _ _ _ _ _ _ ⟨cs,d,true⟩ ⟨cs,d,true⟩ _ Hr4.out (RdWorld.below Ht.out HB4.out.bel)).mono ?_
   rw [decide_eq_true rfl]
   rintro e w5 ⟨rfl,hb5⟩
   have HBf:=Lib.hid (HB4.out.below hb5).bel
   clear hb5
   go_wp2
   go_ret
   exact ⟨rfl,HBf.out⟩
 ·have hnz : (L != 0) = true:=bne_iff_ne.2 h0
  clear h0
  go_wp2_with fail
  clear hq0
  refine (kept_walk _ (HL.out.below HB2.out.bel)).mono ?_
  rintro e w3 ⟨rfl,hb3⟩
  have HBf:=Lib.hid (HB2.out.below hb3).bel
  clear hb3
  go_wp2
  go_ret
  exact ⟨rfl,HBf.out⟩
end Go.Proofs.YthkgjohhbdipcaaGreatDoor
