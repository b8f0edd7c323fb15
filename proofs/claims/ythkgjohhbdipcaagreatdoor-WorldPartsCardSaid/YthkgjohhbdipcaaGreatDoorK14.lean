/- Texts laid one behind the other: EqByte, EqErr, ReadMaps, RPolCheck, ReadSt, Read, Made, Strict, WKept, DSame, WSame, Open, OpenPol, OpenRec, OpenKeep, OpenCells, OpenWorld. No condition beyond theirs. -/
import Derived.Test.YthkgjohhbdipcaaGreatDoorK1
import Derived.Test.YthkgjohhbdipcaaGreatDoorProg
import Derived.Test.YthkgjohhbdipcaaGreatDoorK6
import Derived.KernelRfl
import Derived.Test.YthkgjohhbdipcaaGreatDoorK4
import Derived.Test.YthkgjohhbdipcaaGreatDoorK2
import Derived.Laws.ResultCell
import Derived.Test.YthkgjohhbdipcaaGreatDoorK13
import Derived.Test.YthkgjohhbdipcaaGreatDoorK8
import Derived.Test.YthkgjohhbdipcaaGreatDoorK12
import Derived.OpenShut
import Derived.Deep.Slices
import Derived.ProofKit
import Derived.ChangeOld
import Derived.ChangeSame
import Derived.Carry
import Derived.SizedLaws
import Derived.Test.YthkgjohhbdipcaaGreatDoorK3
set_option linter.all false
namespace Go.Proofs.YthkgjohhbdipcaaGreatDoor
open Go.RowKit
attribute [local go_sem] gives givesUpon
theorem take_eq_stepS {α : Type} {xs ys : List α} {k : Nat} (hx : k < xs.length) (hy : k < ys.length) (h : xs.take k = ys.take k) (e : xs[k] = ys[k]) : xs.take (k + 1) = ys.take (k + 1):=by
 rw [List.take_succ_eq_append_getElem hx,List.take_succ_eq_append_getElem hy,h,e]
theorem ne_of_getS {α : Type} {xs ys : List α} {k : Nat} (hx : k < xs.length) (hy : k < ys.length) (e : xs[k] ≠ ys[k]) : xs ≠ ys:=fun h=>e (by subst h;rfl)
set_option maxHeartbeats 1000000 in
theorem eqbytes_any (v u : Value) (xs ys : List UInt8) (D : Nat → Prop) (w : World) (h : RdBytes w D v xs) (h' : RdBytes w D u ys) :
  Calls Tryz.prog 84 #[v,u] w fun e w'=>e = .returned (.bool (decide (xs = ys)))∧Below w.heap.size w w':=by
 obtain ⟨a,c,rfl,hlc,hcm,hat⟩:=Sl.form h
 obtain ⟨a',c',rfl,hlc',hcm',hat'⟩:=Sl.form h'
 have H:=Lib.hid h
 have H':=Lib.hid h'
 clear h h'
 by_cases hl : xs.length = ys.length
 ·have b0 : ((xs.length : Int) != (ys.length : Int)) = false:=bne_eq_false_iff_eq.2 (by omega)
  have hl':=Lib.hid hl
  have hl1 : xs.length≤ys.length:=by omega
  have hl2 : ys.length≤xs.length:=by omega
  clear hl
  go_enter Tryz.func84,Tryz.ntmps84
  go_wp2_with fail
  go_loopw [13] (fun i wr=>∃ k : Nat,k≤xs.length∧i = .int .i64 k∧xs.take k = ys.take k∧Below w.heap.size w wr) (fun i _=>xs.length - (intOf i).toNat)
  case atStart=>exact ⟨0,by omega,rfl,rfl,Below.refl _ _⟩
  case round =>
   obtain ⟨k,hk,rfl,htk,hbw⟩:=hrel
   have Ht:=Lib.hid htk
   have hsz:=hbw.size
   clear htk
   by_cases hlt : k < xs.length
   ·obtain ⟨b,o,rfl,hDb,hb⟩:=hat (by omega)
    obtain ⟨b',o',rfl,hDb',hb'⟩:=hat' (by omega)
    have hlt' : k < ys.length:=by omega
    have hc : ∀ W,Cls w.heap.size wr W → W.cell? ⟨b,o + k,none⟩ = some (.int .u8 xs[k].toNat)∧W.cell? ⟨b',o' + k,none⟩ = some (.int .u8 ys[k].toNat):=fun W hW =>
     ⟨RdBytes.cell (H.out.below (hbw.trans hW.2)) hlt,RdBytes.cell (H'.out.below (hbw.trans hW.2)) hlt'⟩
    have Hc:=Lib.hid hc
    clear hc
    go_wp2_with fail
    refine wp_region_exact3 w.heap.size hsz (by kernel_rfl) (by kernel_rfl) ?_
    repeat (refine monoE_step (fun K hK=>?_);apply Exists.intro;refine ⟨fun W hC R hR=>?_,?_⟩;(have hcc:=Hc.out W hC;go_simp;exact hR _ _ (Below.refl _ _) rfl);(go_simp;refine hK _ ?_;clear hK K))
    intro w2 hC2
    by_cases he : xs[k] = ys[k]
    ·have Hn:=Lib.hid (take_eq_stepS hlt hlt' Ht.out he)
     have d : ((xs[k].toNat : Int) != (ys[k].toNat : Int)) = false:=bne_eq_false_iff_eq.2 (by rw [he])
     clear he
     simp only [d]
     go_wp2
     go_roundw
     case rel=>exact ⟨k + 1,by omega,by go_num,Hn.out,hbw.trans hC2.2⟩
     case measure=>simp [intOf];omega
    ·have Hn:=Lib.hid (ne_of_getS hlt hlt' he)
     have d : ((xs[k].toNat : Int) != (ys[k].toNat : Int)) = true:=bne_iff_ne.2 (fun e=>he (UInt8.toNat_inj.1 (by omega)))
     clear he
     simp only [d]
     go_wp2
     go_ret
     exact ⟨ret_bool (decide_eq_false Hn.out).symm,hbw.trans hC2.2⟩
   ·obtain rfl : k = xs.length:=by omega
    have Hn : Hid (xs = ys):=by
     have:=Ht.out
     rw [List.take_length,hl'.out,List.take_length] at this
     exact this
    go_wp2
    go_ret
    exact ⟨ret_bool (decide_eq_true Hn.out).symm,hbw⟩
 ·have b0 : ((xs.length : Int) != (ys.length : Int)) = true:=bne_iff_ne.2 (by omega)
  have hn : decide (xs = ys) = false:=decide_eq_false fun e=>hl (by rw [e])
  rw [hn]
  clear hn hl
  go_enter Tryz.func84,Tryz.ntmps84
  go_wp2
  go_ret
  exact ⟨rfl,Below.refl _ _⟩
end Go.Proofs.YthkgjohhbdipcaaGreatDoor
namespace Go.Proofs.YthkgjohhbdipcaaGreatDoor
open Go.RowKit
attribute [local go_sem] gives givesUpon
set_option maxHeartbeats 1000000 in
theorem eqerrs_any (v u : Value) (xs ys : List Int) (D : Nat → Prop) (w : World) (h : RdInts w D v xs) (h' : RdInts w D u ys) :
  Calls Tryz.prog 16 #[v,u] w fun e w'=>e = .returned (.bool (decide (xs = ys)))∧Below w.heap.size w w':=by
 obtain ⟨a,c,rfl,hlc,hcm,hat⟩:=Sl.form h
 obtain ⟨a',c',rfl,hlc',hcm',hat'⟩:=Sl.form h'
 have H:=Lib.hid h
 have H':=Lib.hid h'
 clear h h'
 by_cases hl : xs.length = ys.length
 ·have b0 : ((xs.length : Int) != (ys.length : Int)) = false:=bne_eq_false_iff_eq.2 (by omega)
  have hl':=Lib.hid hl
  have hl1 : xs.length≤ys.length:=by omega
  have hl2 : ys.length≤xs.length:=by omega
  clear hl
  go_enter Tryz.func16,Tryz.ntmps16
  go_wp2_with fail
  go_loopw [13] (fun i wr=>∃ k : Nat,k≤xs.length∧i = .int .i64 k∧xs.take k = ys.take k∧Below w.heap.size w wr) (fun i _=>xs.length - (intOf i).toNat)
  case atStart=>exact ⟨0,by omega,rfl,rfl,Below.refl _ _⟩
  case round =>
   obtain ⟨k,hk,rfl,htk,hbw⟩:=hrel
   have Ht:=Lib.hid htk
   have hsz:=hbw.size
   clear htk
   by_cases hlt : k < xs.length
   ·obtain ⟨b,o,rfl,hDb,hb⟩:=hat (by omega)
    obtain ⟨b',o',rfl,hDb',hb'⟩:=hat' (by omega)
    have hlt' : k < ys.length:=by omega
    have hc : ∀ W,Cls w.heap.size wr W → W.cell? ⟨b,o + k,none⟩ = some (.int .i64 xs[k])∧W.cell? ⟨b',o' + k,none⟩ = some (.int .i64 ys[k]):=fun W hW =>
     ⟨RdInts.cell (H.out.below (hbw.trans hW.2)) hlt,RdInts.cell (H'.out.below (hbw.trans hW.2)) hlt'⟩
    have Hc:=Lib.hid hc
    clear hc
    go_wp2_with fail
    refine wp_region_exact3 w.heap.size hsz (by kernel_rfl) (by kernel_rfl) ?_
    repeat (refine monoE_step (fun K hK=>?_);apply Exists.intro;refine ⟨fun W hC R hR=>?_,?_⟩;(have hcc:=Hc.out W hC;go_simp;exact hR _ _ (Below.refl _ _) rfl);(go_simp;refine hK _ ?_;clear hK K))
    intro w2 hC2
    by_cases he : xs[k] = ys[k]
    ·have Hn:=Lib.hid (take_eq_stepS hlt hlt' Ht.out he)
     have d : (xs[k] != ys[k]) = false:=bne_eq_false_iff_eq.2 (by rw [he])
     clear he
     simp only [d]
     go_wp2
     go_roundw
     case rel=>exact ⟨k + 1,by omega,by go_num,Hn.out,hbw.trans hC2.2⟩
     case measure=>simp [intOf];omega
    ·have Hn:=Lib.hid (ne_of_getS hlt hlt' he)
     have d : (xs[k] != ys[k]) = true:=bne_iff_ne.2 he
     clear he
     simp only [d]
     go_wp2
     go_ret
     exact ⟨ret_bool (decide_eq_false Hn.out).symm,hbw.trans hC2.2⟩
   ·obtain rfl : k = xs.length:=by omega
    have Hn : Hid (xs = ys):=by
     have:=Ht.out
     rw [List.take_length,hl'.out,List.take_length] at this
     exact this
    go_wp2
    go_ret
    exact ⟨ret_bool (decide_eq_true Hn.out).symm,hbw⟩
 ·have b0 : ((xs.length : Int) != (ys.length : Int)) = true:=bne_iff_ne.2 (by omega)
  have hn : decide (xs = ys) = false:=decide_eq_false fun e=>hl (by rw [e])
  rw [hn]
  clear hn hl
  go_enter Tryz.func16,Tryz.ntmps16
  go_wp2
  go_ret
  exact ⟨rfl,Below.refl _ _⟩
end Go.Proofs.YthkgjohhbdipcaaGreatDoor
namespace Go.Proofs.YthkgjohhbdipcaaGreatDoor
open Go.RowKit
@[reducible] def bs (l : List UInt8) : Value:=.string ⟨l.toArray⟩
@[reducible] def vmap : Array MapEntry:=#[⟨bs [107,105,108,108],.int .i64 0,0⟩,⟨bs [116,114,97,112],.int .i64 1,1⟩,⟨bs [102,97,105,108],.int .i64 2,2⟩,⟨bs [108,111,103],.int .i64 3,3⟩,⟨bs [97,108,108,111,119],.int .i64 4,4⟩]
@[reducible] def fmap : Array MapEntry:=#[⟨bs [110,114],.int .i64 0,0⟩,⟨bs [107,105,110,100],.int .i64 1,1⟩,⟨bs [97],.int .i64 2,2⟩,⟨bs [98],.int .i64 3,3⟩,⟨bs [99],.int .i64 4,4⟩]
@[reducible] def omap : Array MapEntry:=#[⟨.int .u8 61,.int .i64 1,0⟩,⟨.int .u8 33,.int .i64 2,1⟩,⟨.int .u8 60,.int .i64 3,2⟩,⟨.int .u8 62,.int .i64 4,3⟩]
theorem same_str (u : ByteArray) (l : List UInt8) : Instr.sameNow .string (.string u) (bs l) = some (decide (u.data.toList = l)):=by
 have : (u == (⟨l.toArray⟩ : ByteArray)) = decide (u.data.toList = l):=by
  rw [beq_toListBytes,ByteArray.toList_eq,ByteArray.toList_eq,Bool.eq_iff_iff]
  simp
 rw [← this]
 rfl
theorem same_u8 (n m : Int) : Instr.sameNow (.int .u8) (.int .u8 n) (.int .u8 m) = some (decide (n = m)):=by
 have : (n == m) = decide (n = m):=by rw [Bool.eq_iff_iff];simp
 rw [← this]
 rfl
theorem find_step {kd : TypeDesc} {k key v : Value} {born : Nat} {es : List MapEntry} {i : Nat} {b : Bool} (h : Instr.sameNow kd k key = some b) : Instr.findNow kd k (⟨key,v,born⟩ :: es) i = if b then some (some (i,v)) else Instr.findNow kd k es (i + 1):=by
 cases b <;> simp [Instr.findNow,h]
theorem find_v (u : ByteArray) : ∃ f,Instr.findNow .string (.string u) vmap.toList 0 = some f∧f.map (·.2) = (verdictOf u.data.toList).map fun n=>Value.int .i64 n:=by
 simp only [find_step (same_str _ _),verdictOf,decide_eq_true_eq]
 repeat (split;· exact ⟨_,rfl,rfl⟩)
 exact ⟨none,rfl,rfl⟩
theorem find_f (u : ByteArray) : ∃ f,Instr.findNow .string (.string u) fmap.toList 0 = some f∧f.map (·.2) = (fieldOf u.data.toList).map fun n=>Value.int .i64 n:=by
 simp only [find_step (same_str _ _),fieldOf,decide_eq_true_eq]
 repeat (split;· exact ⟨_,rfl,rfl⟩)
 exact ⟨none,rfl,rfl⟩
theorem find_o (b : UInt8) : ∃ f,Instr.findNow (.int .u8) (.int .u8 b.toNat) omap.toList 0 = some f∧(f.map (·.2)).getD (.int .i64 0) = Value.int .i64 (opOf b):=by
 have e : ∀ n : UInt8,((b.toNat : Int) = (n.toNat : Int)) = (b = n):=fun n=>by
  rw [eq_iff_iff]
  constructor
  ·intro h;exact UInt8.toNat_inj.1 (by omega)
  ·rintro rfl;rfl
 have e1:=e 61
 have e2:=e 33
 have e3:=e 60
 have e4:=e 62
 simp only [show ((61 : UInt8).toNat : Int) = 61 from rfl,show ((33 : UInt8).toNat : Int) = 33 from rfl,show ((60 : UInt8).toNat : Int) = 60 from rfl,show ((62 : UInt8).toNat : Int) = 62 from rfl] at e1 e2 e3 e4
 simp only [find_step (same_u8 _ _),opOf,decide_eq_true_eq,e1,e2,e3,e4]
 repeat (split;· exact ⟨_,rfl,rfl⟩)
 exact ⟨none,rfl,rfl⟩
theorem slice_tail (b n : Nat) : ∃ off : Nat,(0 < n → off = 1)∧∀ W : World,(Instr.slice 101 (.slice (some ⟨b,0,none⟩) (n + 1) (n + 1)) (some (.int .i64 1)) none none).run Tryz.prog W = .ok (.slice (some ⟨b,off,none⟩) n n) W:=by
 by_cases h : n = 0
 ·subst h
  exact ⟨0,fun h=>by omega,fun W=>by kernel_rfl⟩
 ·refine ⟨1,fun _=>rfl,fun W=>?_⟩
  go_simp
  intro h'
  omega
end Go.Proofs.YthkgjohhbdipcaaGreatDoor
namespace Go.Proofs.YthkgjohhbdipcaaGreatDoor
open Go.RowKit
attribute [local go_sem] gives givesUpon
set_option maxHeartbeats 8000000 in
theorem rpolcheck_any (v : Value) (p : TPol) (D : Nat → Prop) (w : World) (h : RdRules w D v p.rules) : Calls Tryz.prog 112 #[polV v p.dflt] w fun e w'=>e = .returned (.int .i64 (polE p))∧Below w.heap.size w w':=by
 obtain ⟨rs,d⟩:=p
 dsimp only at h ⊢
 obtain ⟨a,c,rfl,hlc,hcm,hat⟩:=Sl.form h
 have H:=Lib.hid h
 clear h
 by_cases h1 : 120 < rs.length
 ·have he : polE ⟨rs,d⟩ = 2:=by unfold polE;rw [if_pos h1]
  have hz : 120 < (rs.length : Int):=by omega
  rw [he];clear he h1 hat H
  go_enter Tryz.func112,Tryz.ntmps112
  go_wp2
  go_ret
  exact ⟨rfl,bel_alloc (Below.refl _ _) _⟩
 ·have hz : ¬ 120 < (rs.length : Int):=by omega
  by_cases h2 : 0≤d∧d≤4
  ·have hd:=inB_yes h2.1 h2.2
   have He:=Lib.hid (show polE ⟨rs,d⟩ = rulesGo rs by unfold polE;rw [if_neg h1,if_neg (by simp only;omega)])
   clear h1 h2
   go_enter Tryz.func112,Tryz.ntmps112
   go_wp2_with (go_at_call 56;refine (in_any _ _ _ _).mono ?_;rintro e w1 ⟨rfl,rfl⟩)
   go_loopw [18] (fun i wr=>∃ k : Nat,k≤rs.length∧i = .int .i64 k∧rulesGo rs = rulesGo (rs.drop k)∧Below w.heap.size w wr) (fun i _=>rs.length - (intOf i).toNat)
   case atStart=>exact ⟨0,by omega,rfl,rfl,bel_alloc (Below.refl _ _) _⟩
   case round =>
    obtain ⟨k,hk,rfl,hgo,hbw⟩:=hrel
    have Hgo:=Lib.hid hgo
    have hsz:=hbw.size
    clear hgo hd
    by_cases hlt : k < rs.length
    ·obtain ⟨b,o,rfl,hDb,hb⟩:=hat (by omega)
     obtain ⟨a',c',k0,k1,hr,hlc',hcm',hat'⟩:=RdRules.cells (RdRules.below H.out hbw) hlt
     have Hr:=Lib.hid hr
     have bad : ∀ e : Int,ruleE rs[k] = e → e ≠ 0 → ∀ wz,Below w.heap.size w wz → Ending.returned (.int .i64 e) = .returned (.int .i64 (polE ⟨rs,d⟩))∧Below w.heap.size w wz:=fun e he h0 wz hz=>by
      refine ⟨ret_int ?_,hz⟩
      rw [He.out,Hgo.out,rulesGo_drop rs k hlt,he,if_neg h0]
     have good : ruleE rs[k] = 0 → rulesGo rs = rulesGo (rs.drop (k + 1)):=fun he=>by rw [Hgo.out,rulesGo_drop rs k hlt,if_pos he]
     have Hbad:=Lib.hid bad
     have Hgood:=Lib.hid good
     clear bad good hr
     generalize hX : rs[k] = X at *
     clear hX
     obtain ⟨cs,vd⟩:=X
     dsimp only at k0 k1 hlc' hat'
     have Hr' : Hid (RdConds wr D (.slice a' cs.length c') cs):=Hr
     clear Hr
     by_cases h3 : 10 < cs.length
     ·have Hb:=Lib.hid (Hbad.out 2 (by unfold ruleE;rw [if_pos h3]) (by decide))
      have hz3 : 10 < (cs.length : Int):=by omega
      clear Hbad Hgood hat' h3
      go_wp2
      go_ret
      exact Hb.out _ (bel_alloc hbw _)
     ·have hz3 : ¬ 10 < (cs.length : Int):=by omega
      by_cases h4 : 0≤vd∧vd≤4
      ·have hvd:=inB_yes h4.1 h4.2
       have Hre:=Lib.hid (show ruleE ⟨cs,vd⟩ = condsGo cs by unfold ruleE;rw [if_neg h3,if_neg (by simp only;omega)])
       clear h3 h4
       go_wp2_with (go_at_call 56;refine (in_any _ _ _ _).mono ?_;rintro e w1 ⟨rfl,rfl⟩)
       obtain ⟨wo,rfl⟩ : ∃ wo : World,wo = wr:=⟨_,rfl⟩
       go_loopw [35] (fun i wi=>∃ j : Nat,j≤cs.length∧i = .int .i64 j∧condsGo cs = condsGo (cs.drop j)∧Below w.heap.size w wi∧Below wo.heap.size wo wi) (fun i _=>cs.length - (intOf i).toNat)
       case atStart=>exact ⟨0,by omega,rfl,rfl,bel_alloc hbw _,bel_alloc (Below.refl _ _) _⟩
       case round =>
        obtain ⟨j,hj,rfl,hgo,hbi,hbi'⟩:=hrel
        have Hgi:=Lib.hid hgo
        have hszi:=hbi.size
        clear hgo hvd
        by_cases hlj : j < cs.length
        ·obtain ⟨b',o',rfl,hDb',hb'⟩:=hat' (by omega)
         obtain ⟨c0,c1,c2⟩:=RdConds.cells (RdConds.below Hr'.out hbi') hlj
         have badc : ∀ e : Int,condE cs[j] = e → e ≠ 0 → ruleE ⟨cs,vd⟩ = e:=fun e he h0=>by rw [Hre.out,Hgi.out,condsGo_drop cs j hlj,he,if_neg h0]
         have goodc : condE cs[j] = 0 → condsGo cs = condsGo (cs.drop (j + 1)):=fun he=>by rw [Hgi.out,condsGo_drop cs j hlj,if_pos he]
         have Hbadc:=Lib.hid badc
         have Hgoodc:=Lib.hid goodc
         clear badc goodc
         generalize hY : cs[j] = Y at *
         clear hY
         obtain ⟨cf,co,cv⟩:=Y
         dsimp only at c0 c1 c2
         by_cases q1 : 0≤cf∧cf≤4
         ·have d1:=inB_yes q1.1 q1.2
          by_cases q2 : 1≤co∧co≤4
          ·have d2:=inB_yes q2.1 q2.2
           have hcl : ∀ W,Cls (wr.heap.size + 1) (wr.alloc (.cells #[.int .i64 cf,.int .i64 co,.int .i64 cv] 153)) W → ∀ j : Nat,W.cell? ⟨wr.heap.size,j,none⟩ = (#[Value.int .i64 cf,.int .i64 co,.int .i64 cv] : Array Value)[j]?:=fun W hW j=>box_cells hW.2 j
           have Hcl:=Lib.hid hcl
           clear hcl
           by_cases q3 : 0≤cv∧cv≤mostOf cf
           ·have d3:=inB_yes q3.1 q3.2
            have Hg:=Lib.hid (Hgoodc.out (by unfold condE;rw [if_neg (by simp only;omega),if_neg (by simp only;omega),if_neg (by simp only;omega)]))
            clear q1 q2 q3
            go_wp2_with (go_at_call 56;refine (in_any _ _ _ _).mono ?_;rintro e w1 ⟨rfl,rfl⟩)
            refine wp_region_exact (wr.heap.size + 1) (by simp) (by kernel_rfl) (by kernel_rfl) ?_
            repeat (refine monoE_step (fun K hK=>?_);apply Exists.intro;refine ⟨fun W hC R hR=>?_,?_⟩;(first
             | (have hcell:=Hcl.out W hC;go_simp;refine hR _ _ (Below.refl _ _) rfl)
             | (go_simp;go_at_call 62;refine (mostof_any _ _).mono ?_;rintro e w1 ⟨rfl,hb1⟩;exact ⟨_,rfl,hR _ _ hb1 rfl⟩)
             | (go_simp;go_at_call 56;refine (in_any _ _ _ _).mono ?_;rintro e w1 ⟨rfl,rfl⟩;exact ⟨_,rfl,hR _ _ (Below.refl _ _) rfl⟩));(go_simp;refine hK _ ?_;clear hK K))
            intro w2 hC2
            go_wp2
            go_roundw
            case rel=>exact ⟨j + 1,by omega,by go_num,Hg.out,hbi.trans ((bel_box hC2.2).mono hszi),hbi'.trans ((bel_box hC2.2).mono hbi'.size)⟩
            case measure=>simp [intOf];omega
           ·have d3:=inB_no q3
            have Hb:=Lib.hid (Hbad.out 3 (Hbadc.out 3 (by unfold condE;rw [if_neg (by simp only;omega),if_neg (by simp only;omega),if_pos (by simp only;omega)]) (by decide)) (by decide))
            clear q1 q2 q3
            go_wp2_with (go_at_call 56;refine (in_any _ _ _ _).mono ?_;rintro e w1 ⟨rfl,rfl⟩)
            refine wp_region_exact (wr.heap.size + 1) (by simp) (by kernel_rfl) (by kernel_rfl) ?_
            repeat (refine monoE_step (fun K hK=>?_);apply Exists.intro;refine ⟨fun W hC R hR=>?_,?_⟩;(first
             | (have hcell:=Hcl.out W hC;go_simp;refine hR _ _ (Below.refl _ _) rfl)
             | (go_simp;go_at_call 62;refine (mostof_any _ _).mono ?_;rintro e w1 ⟨rfl,hb1⟩;exact ⟨_,rfl,hR _ _ hb1 rfl⟩)
             | (go_simp;go_at_call 56;refine (in_any _ _ _ _).mono ?_;rintro e w1 ⟨rfl,rfl⟩;exact ⟨_,rfl,hR _ _ (Below.refl _ _) rfl⟩));(go_simp;refine hK _ ?_;clear hK K))
            intro w2 hC2
            go_wp2
            go_ret
            exact Hb.out _ (hbi.trans ((bel_box hC2.2).mono hszi))
          ·have d2:=inB_no q2
           have Hb:=Lib.hid (Hbad.out 4 (Hbadc.out 4 (by unfold condE;rw [if_neg (by simp only;omega),if_pos (by simp only;omega)]) (by decide)) (by decide))
           clear q1 q2
           go_wp2_with (go_at_call 56;refine (in_any _ _ _ _).mono ?_;rintro e w1 ⟨rfl,rfl⟩)
           go_ret
           exact Hb.out _ (bel_alloc hbi _)
         ·have d1:=inB_no q1
          have Hb:=Lib.hid (Hbad.out 5 (Hbadc.out 5 (by unfold condE;rw [if_pos (by simp only;omega)]) (by decide)) (by decide))
          clear q1
          go_wp2_with (go_at_call 56;refine (in_any _ _ _ _).mono ?_;rintro e w1 ⟨rfl,rfl⟩)
          go_ret
          exact Hb.out _ (bel_alloc hbi _)
        ·obtain rfl : j = cs.length:=by omega
         have Hg:=Lib.hid (Hgood.out (by rw [Hre.out,Hgi.out,List.drop_length];rfl))
         go_wp2
         go_roundw
         case rel=>exact ⟨k + 1,by omega,by go_num,Hg.out,hbi⟩
         case measure=>simp [intOf];omega
      ·have hvd:=inB_no h4
       have Hb:=Lib.hid (Hbad.out 3 (by unfold ruleE;rw [if_neg h3,if_pos (by simp only;omega)]) (by decide))
       clear Hbad Hgood hat' h3 h4
       go_wp2_with (go_at_call 56;refine (in_any _ _ _ _).mono ?_;rintro e w1 ⟨rfl,rfl⟩)
       go_ret
       exact Hb.out _ (bel_alloc hbw _)
    ·obtain rfl : k = rs.length:=by omega
     go_wp2
     go_ret
     exact ⟨ret_int (by rw [He.out,Hgo.out,List.drop_length];rfl),hbw⟩
  ·have hd:=inB_no h2
   have he : polE ⟨rs,d⟩ = 3:=by unfold polE;rw [if_neg h1,if_pos (by simp only;omega)]
   rw [he];clear he hat H h1 h2
   go_enter Tryz.func112,Tryz.ntmps112
   go_wp2_with (go_at_call 56;refine (in_any _ _ _ _).mono ?_;rintro e w1 ⟨rfl,rfl⟩)
   go_ret
   exact ⟨rfl,bel_alloc (Below.refl _ _) _⟩
end Go.Proofs.YthkgjohhbdipcaaGreatDoor
namespace Go.Proofs.YthkgjohhbdipcaaGreatDoor
open Go.RowKit
open Go.MapKept (IsKey)
set_option maxHeartbeats 1000000 in
theorem bad_any (e : Int) (w : World) : Calls Tryz.prog 121 #[.int .i64 e] w fun en w'=>en = .returned (.tuple #[polV (.slice none 0 0) 0,.int .i64 e])∧Below w.heap.size w w':=by
 go_enter Tryz.func121,Tryz.ntmps121
 go_wp2
 refine bodyPost_ret (v:=.tuple #[polV (.slice none 0 0) 0,.int .i64 e]) ?_ rfl ⟨rfl,bel_alloc (Below.refl _ _) _⟩
 rw [results_cell_tmp rfl]
 go_simp
def But (B : Nat) (pv : Value) (b : Nat) : Prop:=B + 5≤b∧pv.ownBlock ≠ some b
structure RdState (w wr : World) (rs : List TRule) (pv : Value) : Prop where
 bel : Below w.heap.size w wr
 sz : w.heap.size + 5≤wr.heap.size
 res : wr.heap[w.heap.size]? = some (.cells #[.slice none 0 0,.int .i64 0] 38)
 vm : wr.heap[w.heap.size + 1]? = some (.map vmap 5)
 fm : wr.heap[w.heap.size + 2]? = some (.map fmap 5)
 om : wr.heap[w.heap.size + 3]? = some (.map omap 4)
 pc : wr.heap[w.heap.size + 4]? = some (.cells #[pv,.int .i64 0] 38)
 own : OwnSl wr (w.heap.size + 5) 147 2 (ruleR wr (But w.heap.size pv)) pv rs
theorem RdState.below {w wr w1 : World} {rs : List TRule} {pv : Value} (h : RdState w wr rs pv) (hb : Below wr.heap.size wr w1) : RdState w w1 rs pv where
 bel:=bel_call h.bel hb
 sz:=Nat.le_trans h.sz hb.size
 res:=blk_below h.res hb
 vm:=blk_below h.vm hb
 fm:=blk_below h.fm hb
 om:=blk_below h.om hb
 pc:=blk_below h.pc hb
 own:=(h.own.below hb).monoR fun _ _ _ ⟨v,h1,h2⟩=>⟨v,h1,h2.below hb⟩
theorem RdState.rules {w wr : World} {rs : List TRule} {pv : Value} (h : RdState w wr rs pv) : RdRules wr (fun b=>w.heap.size + 5≤b) pv rs :=
 (h.own.monoR fun _ _ _ ⟨v,h1,h2⟩=>⟨v,h1,h2.keep (fun _ hb _=>hb.1) (fun _ _ _=>rfl) (Nat.le_refl _)⟩).sl fun _ h=>h
theorem rdState0 (w : World) : RdState w (((((w.alloc (.cells #[.slice none 0 0,.int .i64 0] 38)).alloc (.map vmap 5)).alloc (.map fmap 5)).alloc (.map omap 4)).alloc (.cells #[.slice none 0 0,.int .i64 0] 38)) [] (.slice none 0 0) where
 bel:=bel_alloc (bel_alloc (bel_alloc (bel_alloc (bel_alloc (Below.refl _ _) _) _) _) _) _
 sz:=by simp
 res:=blk_old (blk_old (blk_old (blk_old (blk_at rfl))))
 vm:=blk_old (blk_old (blk_old (blk_at (by simp))))
 fm:=blk_old (blk_old (blk_at (by simp)))
 om:=blk_old (blk_at (by simp))
 pc:=blk_at (by simp)
 own:=OwnSl.nil
theorem infoCond : (Tryz.prog.info? 153).map (fun i=>(i.zero,i.size,i.bytes)) = some (some (.agg #[.int .i64 0,.int .i64 0,.int .i64 0]),3,24):=by kernel_rfl
theorem infoRule : (Tryz.prog.info? 147).map (fun i=>(i.zero,i.size,i.bytes)) = some (some (.agg #[.slice none 0 0,.int .i64 0]),2,32):=by kernel_rfl
theorem rd_step {w w2 wr w4 : World} {rs : List TRule} {pv : Value} {cs : List TCond} {cv : Value} {vd : Int} {gg cap : Nat} {rows : List (List Value)} {O : Obj} (hst : RdState w w2 rs pv) (hbw : Below w2.heap.size w2 wr)
  (hown : OwnSl wr (w2.heap.size + 1) 153 3 condR cv cs) (hgrow : (wr.alloc O).grownBy w4 pv.ownBlock)
  (hown4 : w4.ownsRow (w.heap.size + 5) 147 2 (.slice (some ⟨gg,0,none⟩) (rs.length + 1) cap) (rs.length + 1) (rows.flatten ++ [cv,.int .i64 vd]))
  (hro : RowsOf 2 (ruleR wr (But w.heap.size pv)) rs rows) (hat : pv.ownBlock = some gg ∨ gg = wr.heap.size + 1) :
  RdState w (w4.setCell ⟨w.heap.size + 4,0,none⟩ (.slice (some ⟨gg,0,none⟩) (rs.length + 1) cap)) (rs ++ [⟨cs,vd⟩]) (.slice (some ⟨gg,0,none⟩) (rs.length + 1) cap):=by
 have h1:=hst.below hbw
 have hsz2:=hst.sz
 have hsw:=hbw.size
 have hpo : ∀ g,pv.ownBlock = some g → w.heap.size + 5≤g∧g < w2.heap.size:=fun g hg=>by
  obtain ⟨rows',_,hr'⟩:=hst.own
  exact hr'.lt g hg
 have hal : (wr.alloc O).heap.size = wr.heap.size + 1:=by simp
 have hg4:=hgrow.size
 -- a block that is neither the box nor the rules' row stays
 have keep : ∀ b,b < wr.heap.size → b ≠ w.heap.size + 4 → pv.ownBlock ≠ some b → (w4.setCell ⟨w.heap.size + 4,0,none⟩ (.slice (some ⟨gg,0,none⟩) (rs.length + 1) cap)).heap[b]? = wr.heap[b]?:=fun b hb hn ho=>by
  rw [set_other (by exact hn),hgrow.block b (by omega) (fun e=>ho e.symm)]
  show (wr.heap.push O)[b]? = _
  rw [Array.getElem?_push,if_neg (by omega)]
 have small : ∀ b,b < w.heap.size + 4 → (w4.setCell ⟨w.heap.size + 4,0,none⟩ (.slice (some ⟨gg,0,none⟩) (rs.length + 1) cap)).heap[b]? = wr.heap[b]?:=fun b hb =>
  keep b (by omega) (by omega) (fun e=>by have:=(hpo b e).1;omega)
 have hss : wr.heap.size≤(w4.setCell ⟨w.heap.size + 4,0,none⟩ (.slice (some ⟨gg,0,none⟩) (rs.length + 1) cap)).heap.size:=by rw [set_size];omega
 exact {
  bel:=by
   refine set_below ?_ (by show w.heap.size≤w.heap.size + 4;omega)
   exact h1.bel.trans ⟨hgrow.os,hgrow.tape,hgrow.output,by omega,fun i hi=>by
    rw [hgrow.block i (by omega) (fun e=>by have:=(hpo i e.symm).1;omega)]
    show (wr.heap.push O)[i]? = _
    rw [Array.getElem?_push,if_neg (by omega)]⟩
  sz:=by omega
  res:=(small _ (by omega)).trans h1.res
  vm:=(small _ (by omega)).trans h1.vm
  fm:=(small _ (by omega)).trans h1.fm
  om:=(small _ (by omega)).trans h1.om
  pc:=by
   have : w4.heap[w.heap.size + 4]? = some (.cells #[pv,.int .i64 0] 38):=by
    rw [hgrow.block _ (by omega) (fun e=>by have:=(hpo _ e.symm).1;omega)]
    show (wr.heap.push O)[w.heap.size + 4]? = _
    rw [Array.getElem?_push,if_neg (by omega)]
    exact h1.pc
   exact set_at this
  own:=by
   refine ⟨rows ++ [[cv,.int .i64 vd]],(hro.mono fun x _ c hx=>?_).app (RowsOf.cons (sz:=2) (x:=(⟨cs,vd⟩ : TRule)) (r:=[cv,.int .i64 vd]) RowsOf.nil ?_ rfl),?_⟩
   ·obtain ⟨v,e1,e2⟩:=hx
    exact ⟨v,e1,e2.keep (fun b hb hlt=>⟨hb.1,fun e=>by
     have e' : gg = b:=by simpa [Value.ownBlock] using e
     rcases hat with h | h
     ·exact hb.2 (by rw [h,e'])
     ·omega⟩) (fun b hb hlt=>keep b hlt (by have:=hb.1;omega) hb.2) hss⟩
   ·refine ⟨cv,rfl,?_⟩
    have hs : RdConds wr (fun b=>w2.heap.size + 1≤b) cv cs:=hown.sl fun _ h=>h
    exact hs.keep (fun b hb hlt=>⟨by have : w2.heap.size + 1≤b:=hb;omega,fun e=>by
     have e' : gg = b:=by simpa [Value.ownBlock] using e
     have hb' : w2.heap.size + 1≤b:=hb
     rcases hat with h | h
     ·have:=(hpo gg h).2;omega
     ·omega⟩) (fun b hb hlt=>keep b hlt (by have : w2.heap.size + 1≤b:=hb;omega) (fun e=>by have : w2.heap.size + 1≤b:=hb;have:=(hpo b e).2;omega)) hss
   ·have:=ownsRow_keep1 (w':=w4.setCell ⟨w.heap.size + 4,0,none⟩ (.slice (some ⟨gg,0,none⟩) (rs.length + 1) cap)) hown4 (fun b hb _ _=>set_other (by show b ≠ w.heap.size + 4;omega))
    simpa using this }
end Go.Proofs.YthkgjohhbdipcaaGreatDoor
namespace Go.Proofs.YthkgjohhbdipcaaGreatDoor
open Go.RowKit
open Go.MapKept (IsKey)
attribute [local go_sem] gives givesUpon
attribute [-go_sem] run_slice_l
set_option maxRecDepth 8000 in
set_option maxHeartbeats 4000000 in
theorem read_walk (s : ByteArray) (w : World) (hL : Laid w) (hs : s.size≤281474976710656) (hs' : s.size < 4294967281) :
  Calls Tryz.prog 79 #[.string s] w fun e w'=>∃ v,e = .returned (.tuple #[polV v (readP s.data.toList).1.dflt,.int .i64 (readP s.data.toList).2])∧RdRules w' (fun b=>w.heap.size≤b) v (readP s.data.toList).1.rules∧Below w.heap.size w w':=by
 have HL:=Lib.hid hL
 clear hL
 have hmm:=@run_makeMap Tryz.prog
 have hb0 : w.heap.size + 1 = (w.alloc (.cells #[.slice none 0 0,.int .i64 0] 38)).heap.size:=by simp
 have hv0:=run_insert_at (P:=Tryz.prog) (t:=117) (es:=#[]) (c:=0) (key:=bs [107,105,108,108]) (v:=.int .i64 0) hb0 Tryz.underlying117 Tryz.underlying9 (by first | exact trivial | rfl) (by kernel_rfl)
 have hv1:=run_insert_at (P:=Tryz.prog) (t:=117) (es:=#[⟨bs [107,105,108,108],.int .i64 0,0⟩]) (c:=1) (key:=bs [116,114,97,112]) (v:=.int .i64 1) hb0 Tryz.underlying117 Tryz.underlying9 (by first | exact trivial | rfl) (by kernel_rfl)
 have hv2:=run_insert_at (P:=Tryz.prog) (t:=117) (es:=#[⟨bs [107,105,108,108],.int .i64 0,0⟩,⟨bs [116,114,97,112],.int .i64 1,1⟩]) (c:=2) (key:=bs [102,97,105,108]) (v:=.int .i64 2) hb0 Tryz.underlying117 Tryz.underlying9 (by first | exact trivial | rfl) (by kernel_rfl)
 have hv3:=run_insert_at (P:=Tryz.prog) (t:=117) (es:=#[⟨bs [107,105,108,108],.int .i64 0,0⟩,⟨bs [116,114,97,112],.int .i64 1,1⟩,⟨bs [102,97,105,108],.int .i64 2,2⟩]) (c:=3) (key:=bs [108,111,103]) (v:=.int .i64 3) hb0 Tryz.underlying117 Tryz.underlying9 (by first | exact trivial | rfl) (by kernel_rfl)
 have hv4:=run_insert_at (P:=Tryz.prog) (t:=117) (es:=#[⟨bs [107,105,108,108],.int .i64 0,0⟩,⟨bs [116,114,97,112],.int .i64 1,1⟩,⟨bs [102,97,105,108],.int .i64 2,2⟩,⟨bs [108,111,103],.int .i64 3,3⟩]) (c:=4) (key:=bs [97,108,108,111,119]) (v:=.int .i64 4) hb0 Tryz.underlying117 Tryz.underlying9 (by first | exact trivial | rfl) (by kernel_rfl)
 have hb1 : w.heap.size + 2 = ((w.alloc (.cells #[.slice none 0 0,.int .i64 0] 38)).alloc (.map vmap 5)).heap.size:=by simp
 have hf0:=run_insert_at (P:=Tryz.prog) (t:=117) (es:=#[]) (c:=0) (key:=bs [110,114]) (v:=.int .i64 0) hb1 Tryz.underlying117 Tryz.underlying9 (by first | exact trivial | rfl) (by kernel_rfl)
 have hf1:=run_insert_at (P:=Tryz.prog) (t:=117) (es:=#[⟨bs [110,114],.int .i64 0,0⟩]) (c:=1) (key:=bs [107,105,110,100]) (v:=.int .i64 1) hb1 Tryz.underlying117 Tryz.underlying9 (by first | exact trivial | rfl) (by kernel_rfl)
 have hf2:=run_insert_at (P:=Tryz.prog) (t:=117) (es:=#[⟨bs [110,114],.int .i64 0,0⟩,⟨bs [107,105,110,100],.int .i64 1,1⟩]) (c:=2) (key:=bs [97]) (v:=.int .i64 2) hb1 Tryz.underlying117 Tryz.underlying9 (by first | exact trivial | rfl) (by kernel_rfl)
 have hf3:=run_insert_at (P:=Tryz.prog) (t:=117) (es:=#[⟨bs [110,114],.int .i64 0,0⟩,⟨bs [107,105,110,100],.int .i64 1,1⟩,⟨bs [97],.int .i64 2,2⟩]) (c:=3) (key:=bs [98]) (v:=.int .i64 3) hb1 Tryz.underlying117 Tryz.underlying9 (by first | exact trivial | rfl) (by kernel_rfl)
 have hf4:=run_insert_at (P:=Tryz.prog) (t:=117) (es:=#[⟨bs [110,114],.int .i64 0,0⟩,⟨bs [107,105,110,100],.int .i64 1,1⟩,⟨bs [97],.int .i64 2,2⟩,⟨bs [98],.int .i64 3,3⟩]) (c:=4) (key:=bs [99]) (v:=.int .i64 4) hb1 Tryz.underlying117 Tryz.underlying9 (by first | exact trivial | rfl) (by kernel_rfl)
 have hb2 : w.heap.size + 3 = (((w.alloc (.cells #[.slice none 0 0,.int .i64 0] 38)).alloc (.map vmap 5)).alloc (.map fmap 5)).heap.size:=by simp
 have ho0:=run_insert_at (P:=Tryz.prog) (t:=169) (es:=#[]) (c:=0) (key:=.int .u8 61) (v:=.int .i64 1) hb2 Tryz.underlying169 Tryz.underlying5 (by first | exact trivial | rfl) (by kernel_rfl)
 have ho1:=run_insert_at (P:=Tryz.prog) (t:=169) (es:=#[⟨.int .u8 61,.int .i64 1,0⟩]) (c:=1) (key:=.int .u8 33) (v:=.int .i64 2) hb2 Tryz.underlying169 Tryz.underlying5 (by first | exact trivial | rfl) (by kernel_rfl)
 have ho2:=run_insert_at (P:=Tryz.prog) (t:=169) (es:=#[⟨.int .u8 61,.int .i64 1,0⟩,⟨.int .u8 33,.int .i64 2,1⟩]) (c:=2) (key:=.int .u8 60) (v:=.int .i64 3) hb2 Tryz.underlying169 Tryz.underlying5 (by first | exact trivial | rfl) (by kernel_rfl)
 have ho3:=run_insert_at (P:=Tryz.prog) (t:=169) (es:=#[⟨.int .u8 61,.int .i64 1,0⟩,⟨.int .u8 33,.int .i64 2,1⟩,⟨.int .u8 60,.int .i64 3,2⟩]) (c:=3) (key:=.int .u8 62) (v:=.int .i64 4) hb2 Tryz.underlying169 Tryz.underlying5 (by first | exact trivial | rfl) (by kernel_rfl)
 simp only [List.push_toArray,List.nil_append,List.cons_append,Nat.reduceAdd] at hv0 hv1 hv2 hv3 hv4 hf0 hf1 hf2 hf3 hf4 ho0 ho1 ho2 ho3
 clear hb0 hb1 hb2
 go_enter Tryz.func79,Tryz.ntmps79
 go_wp2_with fail
 clear hv0 hv1 hv2 hv3 hv4 hf0 hf1 hf2 hf3 hf4 ho0 ho1 ho2 ho3 hmm
 go_loopw [0] (fun sv wr=>∃ (n : Nat) (t : ByteArray) (rs : List TRule) (pv : Value),sv = .string t∧t.size < n∧rs.length + t.size≤s.size∧Hid (pread (s.data.toList.length + 1) s.data.toList = (pread n t.data.toList).map fun p=>⟨rs ++ p.rules,p.dflt⟩)∧RdState w wr rs pv) (fun sv _=>(match sv with | .string t=>t.size | _=>0))
 case atStart=>exact ⟨s.size + 1,s,[],.slice none 0 0,rfl,by omega,by simp,by
  have e : s.data.toList.length = s.size:=rfl
  rw [e]
  cases pread (s.size + 1) s.data.toList <;> rfl,rdState0 w⟩
 case round =>
  obtain ⟨n,t,rs,pv,rfl,hn,hts,hp,hst⟩:=hrel
  obtain ⟨pa,pcap,hpv,hpl,hpm,_⟩:=Sl.form hst.rules
  have Hpv:=Lib.hid hpv
  have Hst:=Lib.hid hst
  clear hpv hpl hpm
  have hsz:=hst.sz
  have HLr:=Lib.hid (HL.out.below hst.bel)
  clear hst
  go_wp2_with fail
  refine (cut_any t _ HLr.out (by omega)).mono ?_
  rintro e w1 ⟨ta,tr,more,rfl,hta,htr,hmore,hsa,hsr,hb1⟩
  have Hta:=Lib.hid hta
  have Htr:=Lib.hid htr
  have Hmore:=Lib.hid hmore
  clear hta htr hmore
  have Hst1:=Lib.hid (Hst.out.below hb1)
  have HL1:=Lib.hid (HLr.out.below hb1)
  have hsz1:=Hst1.out.sz
  clear Hst HLr hb1 hsz
  go_wp2_with fail
  refine (split_any ta w1 HL1.out (by omega)).mono ?_
  rintro e w2 ⟨ws,rfl,hw2,hws,hw0,hwl,hwu⟩
  obtain ⟨u0,us,rfl⟩ : ∃ u0 us,ws = u0 :: us:=by cases ws with
   | nil=>simp at hw0
   | cons u0 us=>exact ⟨u0,us,rfl⟩
  have hb2 : Below w1.heap.size w1 w2:=by rw [hw2];exact bel_alloc (Below.refl _ _) _
  have hbl : w2.heap[w1.heap.size]? = some (.cells ((u0 :: us).map Value.string).toArray 9):=by rw [hw2];exact heap_last _ _
  have hc0 : w2.cell? ⟨w1.heap.size,0,none⟩ = some (.string u0):=by rw [hw2];exact (World.cell?_alloc_at _ _ _ _ rfl).trans (by simp)
  have Hst2:=Lib.hid (Hst1.out.below hb2)
  have HL2:=Lib.hid (HL1.out.below hb2)
  have hsz2:=Hst2.out.sz
  have Hbl:=Lib.hid hbl
  have Hstep : Hid (∀ k,pread (k + 1) t.data.toList = match verdictOf u0.data.toList with
    | none=>none
    | some v=>if more then (match condsOf (us.map (·.data.toList)) with
      | none=>none
      | some cs=>(pread k tr.data.toList).map fun p=>⟨⟨cs,v⟩ :: p.rules,p.dflt⟩) else if 1 < us.length + 1 then none else some ⟨[],v⟩):=fun k=>by
   rw [pread_step (u0:=u0.data.toList) (us:=us.map (·.data.toList)) (by rw [← Hta.out,← hws];rfl),Hmore.out,Htr.out,List.length_map] <;> rfl
  obtain ⟨k,rfl⟩ : ∃ k,n = k + 1:=⟨n - 1,by omega⟩
  have Hwu:=Lib.hid hwu
  clear hw2 hb2 hbl hws hwu Hst1 HL1 Hta Hmore
  obtain ⟨fv,hfv,hfv'⟩:=find_v u0
  have hz : ∀ W : World,(zeroValue 3).run Tryz.prog W = .ok (.int .i64 0) W:=fun W=>by kernel_rfl
  have hlk:=run_lookup_ok (P:=Tryz.prog) (key:=.string u0) (t:=117) Tryz.underlying117 Tryz.underlying9 Hst2.out.vm (hz _) (by exact trivial) hfv
  have hfs : fv.isSome = (verdictOf u0.data.toList).isSome:=by
   have:=congrArg Option.isSome hfv'
   simpa using this
  rw [hfs,hfv'] at hlk
  have h1l : (1 : Nat)≤us.length + 1:=by omega
  clear hfv hfv' hfs hz hw0
  cases hvd : verdictOf u0.data.toList with
  | none =>
   rw [hvd] at hlk
   simp only [Option.map_none,Option.getD_none,Option.isSome_none] at hlk
   go_wp2_with fail
   refine (bad_any 1 _).mono ?_
   rintro e w3 ⟨rfl,hb3⟩
   have hr3:=blk_below Hst2.out.res hb3
   have hc3:=cells_of hr3
   have hf3:=not_frozen hr3
   have hr4:=set_at (o:=1) (v:=.int .i64 0) (set_at (o:=0) (v:=.slice none 0 0) hr3)
   have hc4:=cells_of hr4
   have Hb4:=Lib.hid (set_below (a:=⟨w.heap.size,1,none⟩) (v:=.int .i64 0) (set_below (a:=⟨w.heap.size,0,none⟩) (v:=.slice none 0 0) (bel_call Hst2.out.bel hb3) (Nat.le_refl _)) (Nat.le_refl _))
   go_wp2
   have hrd : readP s.data.toList = (⟨[],0⟩,1):=readP_none (by rw [hp.out,Hstep.out k,hvd];rfl)
   rw [hrd]
   refine bodyPost_ret (v:=.tuple #[polV (.slice none 0 0) 0,.int .i64 1]) ?_ rfl ⟨_,rfl,⟨none,0,rfl,Nat.le_refl _,by unfold maxLen;omega,fun _=>rfl,fun h=>by cases h⟩,Hb4.out⟩
   rw [results_cell_tmp rfl]
   go_simp
  | some vd =>
   rw [hvd] at hlk
   simp only [Option.map_some,Option.getD_some,Option.isSome_some] at hlk
   have Hvd:=Lib.hid hvd
   clear hvd
   cases more with
   | false =>
    by_cases hus : us.length = 0
    ·have d1 : ¬ (1 : Int) < (us.length : Int) + 1:=by omega
     have hpc:=Hst2.out.pc
     have hcp:=cells_of hpc
     have hfp:=not_frozen hpc
     have hR4 : RdRules (w2.setCell ⟨w.heap.size + 4,1,none⟩ (.int .i64 vd)) (fun b=>w.heap.size + 5≤b) pv rs :=
      RdRules.keep Hst2.out.rules (fun _ h _=>h) (fun b hb _=>set_other (by show b ≠ w.heap.size + 4;have : w.heap.size + 5≤b:=hb;omega)) (by rw [set_size];exact Nat.le_refl _)
     have hb4 : Below w.heap.size w (w2.setCell ⟨w.heap.size + 4,1,none⟩ (.int .i64 vd)):=set_below Hst2.out.bel (by show w.heap.size≤w.heap.size + 4;omega)
     have hr4 : (w2.setCell ⟨w.heap.size + 4,1,none⟩ (.int .i64 vd)).heap[w.heap.size]? = some (.cells #[.slice none 0 0,.int .i64 0] 38):=(set_other (by show w.heap.size ≠ w.heap.size + 4;omega)).trans Hst2.out.res
     have hp4:=set_at (o:=1) (v:=.int .i64 vd) hpc
     have hre : Hid (readP s.data.toList = if polE ⟨rs,vd⟩ = 0 then (⟨rs,vd⟩,0) else (⟨[],0⟩,polE ⟨rs,vd⟩)):=readP_some (by
      rw [hp.out,Hstep.out k,Hvd.out]
      simp only [Bool.false_eq_true,if_false]
      rw [if_neg (by omega)]
      simp only [Option.map_some,List.append_nil])
     have HR4:=Lib.hid hR4
     have Hb4:=Lib.hid hb4
     have Hr4:=Lib.hid hr4
     have Hp4:=Lib.hid hp4
     clear hR4 hb4 hr4 hp4
     go_wp2_with fail
     refine (rpolcheck_any pv ⟨rs,vd⟩ _ _ HR4.out).mono ?_
     rintro e w5 ⟨rfl,hb5⟩
     have hR5:=RdRules.below HR4.out hb5
     have hr5:=blk_below Hr4.out hb5
     have hp5:=blk_below Hp4.out hb5
     have hb5':=bel_call Hb4.out hb5
     have HR5:=Lib.hid hR5
     have Hb5:=Lib.hid hb5'
     clear hR5 hb5' hb5 hpc hcp hfp HR4 Hb4 Hr4 Hp4
     by_cases hpe : polE ⟨rs,vd⟩ = 0
     ·have d2 : (polE ⟨rs,vd⟩ != 0) = false:=bne_eq_false_iff_eq.2 hpe
      have Hpe:=Lib.hid hpe
      have hcp:=cells_of hp5
      have hcr:=cells_of hr5
      have hfr:=not_frozen hr5
      have hr6:=set_at (o:=1) (v:=.int .i64 vd) (set_at (o:=0) (v:=pv) hr5)
      have hc6:=cells_of hr6
      have Hb6:=Lib.hid (set_below (a:=⟨w.heap.size,1,none⟩) (v:=.int .i64 vd) (set_below (a:=⟨w.heap.size,0,none⟩) (v:=pv) Hb5.out (Nat.le_refl _)) (Nat.le_refl _))
      have hR6 : Hid (RdRules ((w5.setCell ⟨w.heap.size,0,none⟩ pv).setCell ⟨w.heap.size,1,none⟩ (.int .i64 vd)) (fun b=>w.heap.size≤b) pv rs) :=
       RdRules.keep HR5.out (fun b h _=>by have : w.heap.size + 5≤b:=h;show w.heap.size≤b;omega) (fun b hb _=>by
        have h1 : w.heap.size + 5≤b:=hb
        rw [set_other (by show b ≠ w.heap.size;omega),set_other (by show b ≠ w.heap.size;omega)]) (by rw [set_size,set_size];exact Nat.le_refl _)
      clear hpe hp5
      have Hre:=hre
      clear hre
      obtain rfl:=Hpv.out
      go_wp2
      rw [Hre.out,if_pos Hpe.out]
      refine bodyPost_ret (v:=.tuple #[polV (.slice pa rs.length pcap) vd,.int .i64 0]) ?_ rfl ⟨_,rfl,hR6.out,Hb6.out⟩
      rw [results_cell_tmp rfl]
      go_simp
     ·have d2 : (polE ⟨rs,vd⟩ != 0) = true:=bne_iff_ne.2 hpe
      have Hpe:=Lib.hid hpe
      clear hpe hp5
      go_wp2_with fail
      refine (bad_any _ _).mono ?_
      rintro e w6 ⟨rfl,hb6⟩
      have hr6:=blk_below hr5 hb6
      have hc6:=cells_of hr6
      have hf6:=not_frozen hr6
      have hr7:=set_at (o:=1) (v:=.int .i64 0) (set_at (o:=0) (v:=.slice none 0 0) hr6)
      have hc7:=cells_of hr7
      have Hb7:=Lib.hid (set_below (a:=⟨w.heap.size,1,none⟩) (v:=.int .i64 0) (set_below (a:=⟨w.heap.size,0,none⟩) (v:=.slice none 0 0) (bel_call Hb5.out hb6) (Nat.le_refl _)) (Nat.le_refl _))
      clear hr5
      go_wp2
      rw [hre.out,if_neg Hpe.out]
      refine bodyPost_ret (v:=.tuple #[polV (.slice none 0 0) 0,.int .i64 (polE ⟨rs,vd⟩)]) ?_ rfl ⟨_,rfl,⟨none,0,rfl,Nat.le_refl _,by unfold maxLen;omega,fun _=>rfl,fun h=>by cases h⟩,Hb7.out⟩
      rw [results_cell_tmp rfl]
      go_simp
    ·have d1 : (1 : Int) < (us.length : Int) + 1:=by omega
     go_wp2_with fail
     refine (bad_any 1 _).mono ?_
     rintro e w3 ⟨rfl,hb3⟩
     have hr3:=blk_below Hst2.out.res hb3
     have hc3:=cells_of hr3
     have hf3:=not_frozen hr3
     have hr4:=set_at (o:=1) (v:=.int .i64 0) (set_at (o:=0) (v:=.slice none 0 0) hr3)
     have hc4:=cells_of hr4
     have Hb4:=Lib.hid (set_below (a:=⟨w.heap.size,1,none⟩) (v:=.int .i64 0) (set_below (a:=⟨w.heap.size,0,none⟩) (v:=.slice none 0 0) (bel_call Hst2.out.bel hb3) (Nat.le_refl _)) (Nat.le_refl _))
     have hrd : Hid (readP s.data.toList = (⟨[],0⟩,1)):=readP_none (by
      rw [hp.out,Hstep.out k,Hvd.out]
      simp only [Bool.false_eq_true,if_false]
      rw [if_pos (by omega)];rfl)
     go_wp2
     rw [hrd.out]
     refine bodyPost_ret (v:=.tuple #[polV (.slice none 0 0) 0,.int .i64 1]) ?_ rfl ⟨_,rfl,⟨none,0,rfl,Nat.le_refl _,by unfold maxLen;omega,fun _=>rfl,fun h=>by cases h⟩,Hb4.out⟩
     rw [results_cell_tmp rfl]
     go_simp
   | true =>
    have d1 : (1 : Int)≤(us.length : Int) + 1:=by omega
    obtain ⟨off,hoff,htl⟩:=slice_tail w1.heap.size us.length
    have Hoff:=Lib.hid hoff
    clear hoff
    go_wp2_with fail
    all_goals
     clear htl
     go_loopw [70] (fun jv wr=>∃ (j : Nat) (cs : List TCond) (cv : Value),jv = .int .i64 j∧j≤us.length∧cs.length = j∧Hid (condsOf (us.map (·.data.toList)) = (condsOf ((us.map (·.data.toList)).drop j)).map (cs ++ ·)) ∧
      Below w2.heap.size w2 wr∧wr.heap[w2.heap.size]? = some (.cells #[cv,.int .i64 vd] 147)∧OwnSl wr (w2.heap.size + 1) 153 3 condR cv cs) (fun jv _=>us.length - (intOf jv).toNat)
     case atStart=>exact ⟨0,[],.slice none 0 0,rfl,by omega,rfl,by rw [List.drop_zero];cases condsOf (us.map (·.data.toList)) <;> rfl,bel_alloc (Below.refl _ _) _,heap_last _ _,OwnSl.nil⟩
     case round =>
      obtain ⟨j,cs,cv,rfl,hj,hcl,hcs,hbw,hrb,hown⟩:=hrel
      have hul : us.length≤4294967281:=by have : us.length + 1≤ta.size + 1:=hwl;omega
      have hjb : j≤4294967281:=by omega
      have hcb : cs.length≤4294967281:=by omega
      have Hcl:=Lib.hid hcl
      clear hcl
      have Hown:=Lib.hid hown
      have Hbw:=Lib.hid hbw
      have hszw:=hbw.size
      clear hown hbw
      by_cases hlt : j < us.length
      ·have hwd : wr.heap[w1.heap.size]? = some (.cells ((u0 :: us).map Value.string).toArray 9):=blk_below Hbl.out Hbw.out
       have hoff1:=Hoff.out (by omega)
       have hwc : wr.cell? ⟨w1.heap.size,off + j,none⟩ = some (.string us[j]):=by
        rw [cells_of hwd,hoff1,Nat.add_comm]
        simp [hlt]
       clear hwd hoff1
       obtain ⟨wo,rfl⟩ : ∃ wo : World,wo = wr:=⟨_,rfl⟩
       obtain ⟨u,hu⟩ : ∃ u : ByteArray,us[j] = u:=⟨_,rfl⟩
       rw [hu] at hwc
       have hus : u.size≤ta.size:=Hwu.out u (by rw [← hu];exact List.mem_cons_of_mem _ (List.getElem_mem _))
       have Hu:=Lib.hid hu
       clear hu
       have Hlt : Hid (j < us.length):=Lib.hid hlt
       have hbad : Hid (condOf u.data.toList = none → readP s.data.toList = (⟨[],0⟩,1)):=fun hc=>readP_none (by
        rw [hp.out,Hstep.out k,Hvd.out]
        have h1 : condsOf (us.map (·.data.toList)) = none:=by
         rw [hcs.out,condsOf_drop (by simpa using hlt)]
         simp [Hu.out,hc]
        simp [h1])
       go_wp2_with fail
       go_loopw [18] (fun kv wr=>∃ k : Nat,kv = .int .i64 k∧k≤u.size∧(∀ i,i < k → ∀ b,u.data.toList[i]? = some b → opOf b = 0)∧Below wo.heap.size wo wr) (fun kv _=>u.size - (intOf kv).toNat)
       case atStart=>exact ⟨0,rfl,by omega,fun i h=>by omega,Below.refl _ _⟩
       case round =>
        obtain ⟨k,rfl,hk,hop,hbo⟩:=hrel
        have Hop:=Lib.hid hop
        have Hbo:=Lib.hid hbo
        have hszo:=hbo.size
        clear hop hbo hwc
        have hom : wr.heap[w.heap.size + 3]? = some (.map omap 4):=blk_below (blk_below Hst2.out.om Hbw.out) Hbo.out
        by_cases hkl : k < u.size
        ·have hkz : (k : Int) < (u.size : Int):=by omega
         obtain ⟨b,hb⟩ : ∃ b : UInt8,u[k] = b:=⟨_,rfl⟩
         have hbl' : u.data.toList[k]? = some b:=by
          rw [← hb];exact Lib.data_getElem? u k hkl
         obtain ⟨fo,hfo,hfo'⟩:=find_o b
         have hz : ∀ W : World,(zeroValue 3).run Tryz.prog W = .ok (.int .i64 0) W:=fun W=>by kernel_rfl
         have hlo:=run_lookup_bare (P:=Tryz.prog) (key:=.int .u8 b.toNat) (t:=169) Tryz.underlying169 Tryz.underlying5 hom (hz _) rfl hfo
         rw [hfo'] at hlo
         clear hz hfo hfo' hom
         have Hbl':=Lib.hid hbl'
         clear hbl'
         by_cases h0 : opOf b = 0
         ·have d3 : (opOf b == 0) = true:=beq_iff_eq.2 h0
          have H0:=Lib.hid h0
          clear h0
          go_wp2_with fail
          go_roundw
          case rel=>exact ⟨k + 1,by go_num,by omega,fun i hi c hc=>by
           by_cases hik : i = k
           ·subst hik
            rw [Hbl'.out] at hc
            injection hc with hc
            rw [← hc];exact H0.out
           ·exact Hop.out i (by omega) c hc,Hbo.out⟩
          case measure=>simp [intOf];omega
         ·have d3 : (opOf b == 0) = false:=beq_eq_false_iff_ne.2 h0
          have d4 : (k == u.size) = false:=beq_eq_false_iff_ne.2 (by omega)
          have d5 : ((k : Int) == (u.size : Int)) = false:=beq_eq_false_iff_ne.2 (by omega)
          have Hat : Hid (opAt u.data.toList = k):=opAt_spec _ k Hop.out (by show k≤u.size;omega) (fun c hc=>by
           rw [Hbl'.out] at hc
           injection hc with hc
           rw [← hc];exact h0)
          clear h0
          have hfm : wr.heap[w.heap.size + 2]? = some (.map fmap 5):=blk_below (blk_below Hst2.out.fm Hbw.out) Hbo.out
          obtain ⟨ff,hff,hff'⟩:=find_f (u.extract 0 k)
          have hz : ∀ W : World,(zeroValue 3).run Tryz.prog W = .ok (.int .i64 0) W:=fun W=>by kernel_rfl
          have hlf:=run_lookup_ok (P:=Tryz.prog) (key:=.string (u.extract 0 k)) (t:=117) Tryz.underlying117 Tryz.underlying9 hfm (hz _) (by exact trivial) hff
          have hfs : ff.isSome = (fieldOf (u.extract 0 k).data.toList).isSome:=by
           have:=congrArg Option.isSome hff'
           simpa using this
          rw [hfs,hff',Lib.extract_from_zero] at hlf
          clear hfm hff hff' hfs hz
          have HLr:=Lib.hid ((HL2.out.below Hbw.out).below Hbo.out)
          have hkk : (k : Int) + 1≤(u.size : Int):=by omega
          have hco : Hid (condOf u.data.toList = match fieldOf (u.data.toList.take k) with
           | none=>none
           | some f=>if (wholeS (u.data.toList.drop (k + 1))).2 then some ⟨f,opOf b,(wholeS (u.data.toList.drop (k + 1))).1⟩ else none):=by
           unfold condOf
           rw [Hat.out,if_neg (by show k ≠ u.size;omega),List.getD_eq_getElem?_getD,Hbl'.out]
           rfl
          cases hfd : fieldOf (u.data.toList.take k) with
          | none =>
           rw [hfd] at hlf
           simp only [Option.map_none,Option.getD_none,Option.isSome_none] at hlf
           have hrd : Hid (readP s.data.toList = (⟨[],0⟩,1)):=hbad.out (by rw [hco.out,hfd])
           clear hfd hco
           go_wp2_with fail
           refine (whole_any (u.extract (k + 1) u.size) wr HLr.out (by rw [ByteArray.size_extract];omega)).mono ?_
           rintro e w3 ⟨rfl,hb3⟩
           have Hb3:=Lib.hid hb3
           clear hb3
           go_wp2_with fail
           refine (bad_any 1 _).mono ?_
           rintro e w7 ⟨rfl,hb7⟩
           have hr7:=blk_below (blk_below (blk_below (blk_below Hst2.out.res Hbw.out) Hbo.out) Hb3.out) hb7
           have hc7:=cells_of hr7
           have hf7:=not_frozen hr7
           have hr8:=set_at (o:=1) (v:=.int .i64 0) (set_at (o:=0) (v:=.slice none 0 0) hr7)
           have hc8:=cells_of hr8
           have Hb8:=Lib.hid (set_below (a:=⟨w.heap.size,1,none⟩) (v:=.int .i64 0) (set_below (a:=⟨w.heap.size,0,none⟩) (v:=.slice none 0 0) (bel_call (bel_call (bel_call (bel_call Hst2.out.bel Hbw.out) Hbo.out) Hb3.out) hb7) (Nat.le_refl _)) (Nat.le_refl _))
           go_wp2
           rw [hrd.out]
           refine bodyPost_ret (v:=.tuple #[polV (.slice none 0 0) 0,.int .i64 1]) ?_ rfl ⟨_,rfl,⟨none,0,rfl,Nat.le_refl _,by unfold maxLen;omega,fun _=>rfl,fun h=>by cases h⟩,Hb8.out⟩
           rw [results_cell_tmp rfl]
           go_simp
          | some fd =>
           rw [hfd] at hlf
           simp only [Option.map_some,Option.getD_some,Option.isSome_some] at hlf
           have Hfd:=Lib.hid hfd
           clear hfd
           go_wp2_with fail
           refine (whole_any (u.extract (k + 1) u.size) wr HLr.out (by rw [ByteArray.size_extract];omega)).mono ?_
           rintro e w3 ⟨rfl,hb3⟩
           have Hb3:=Lib.hid hb3
           clear hb3
           rw [Lib.extract_to_end]
           rw [Hfd.out] at hco
           obtain ⟨nn,hnn⟩ : ∃ nn : Int,(wholeS (u.data.toList.drop (k + 1))).1 = nn:=⟨_,rfl⟩
           cases hgd : (wholeS (u.data.toList.drop (k + 1))).2 with
           | false =>
            have hrd : Hid (readP s.data.toList = (⟨[],0⟩,1)):=hbad.out (by rw [hco.out,hgd];rfl)
            clear hgd hco
            go_wp2_with fail
            refine (bad_any 1 _).mono ?_
            rintro e w7 ⟨rfl,hb7⟩
            have hr7:=blk_below (blk_below (blk_below (blk_below Hst2.out.res Hbw.out) Hbo.out) Hb3.out) hb7
            have hc7:=cells_of hr7
            have hf7:=not_frozen hr7
            have hr8:=set_at (o:=1) (v:=.int .i64 0) (set_at (o:=0) (v:=.slice none 0 0) hr7)
            have hc8:=cells_of hr8
            have Hb8:=Lib.hid (set_below (a:=⟨w.heap.size,1,none⟩) (v:=.int .i64 0) (set_below (a:=⟨w.heap.size,0,none⟩) (v:=.slice none 0 0) (bel_call (bel_call (bel_call (bel_call Hst2.out.bel Hbw.out) Hbo.out) Hb3.out) hb7) (Nat.le_refl _)) (Nat.le_refl _))
            go_wp2
            rw [hrd.out]
            refine bodyPost_ret (v:=.tuple #[polV (.slice none 0 0) 0,.int .i64 1]) ?_ rfl ⟨_,rfl,⟨none,0,rfl,Nat.le_refl _,by unfold maxLen;omega,fun _=>rfl,fun h=>by cases h⟩,Hb8.out⟩
            rw [results_cell_tmp rfl]
            go_simp
           | true =>
            have hc1 : Hid (condOf u.data.toList = some ⟨fd,opOf b,nn⟩):=by
             have:=hco.out
             rw [hgd,hnn] at this
             exact this
            rw [hnn]
            clear hgd hnn hco
            go_wp2_with fail
            have hk0 : (0 : Int)≤(k : Int):=by omega
            have hbx3 : w3.cell? ⟨w2.heap.size,0,none⟩ = some cv:=by rw [cells_of (blk_below (blk_below hrb Hbo.out) Hb3.out)];rfl
            have hrb3:=blk_below (blk_below hrb Hbo.out) Hb3.out
            have hom3 : w3.heap[w.heap.size + 3]? = some (.map omap 4):=blk_below (blk_below (blk_below Hst2.out.om Hbw.out) Hbo.out) Hb3.out
            have hlk : ∀ W : World,W.heap[w.heap.size + 3]? = some (.map omap 4) → (Instr.lookup 169 (.map (some (w.heap.size + 3))) (.int .u8 b.toNat) false).run Tryz.prog W = .ok (.int .i64 (opOf b)) W:=fun W hW=>by
             obtain ⟨fo,hfo,hfo'⟩:=find_o b
             have:=run_lookup_bare (P:=Tryz.prog) (z:=.int .i64 0) (key:=.int .u8 b.toNat) (t:=169) Tryz.underlying169 Tryz.underlying5 hW (by kernel_rfl) rfl hfo
             rw [hfo'] at this
             exact this
            have Hlk:=Lib.hid hlk
            clear hlk
            obtain ⟨rows,hro,hrw⟩:=(Hown.out.below Hbo.out).below Hb3.out
            obtain ⟨i0,hi0,hz0,hz1,hz2⟩:=info_parts infoCond
            have hlt3 : w2.heap.size < w3.heap.size:=(Array.getElem?_eq_some_iff.1 hrb3).1
            have ho3:=Hown.out.block
            have hs3:=Hb3.out.size
            have hso:=Hbo.out.size
            have hkl' : (k : Int) < (u.size : Int):=by omega
            have hnb : ∀ g,cv.ownBlock = some g → g ≠ w2.heap.size:=fun g e=>by have:=ho3 _ e;omega
            have hnm : some (w.heap.size + 3) ≠ cv.ownBlock:=fun e=>by have:=ho3 _ e.symm;omega
            have Hro:=Lib.hid hro
            have Hhi:=Lib.hid hi0
            have Hrw:=Lib.hid hrw
            have Hom3:=Lib.hid hom3
            have Hrb3:=Lib.hid hrb3
            clear hro hi0 hrw hom3 hrb3 hbx3 ho3
            refine wp_region_app w2.heap.size 147 #[cv,.int .i64 vd] 0 (w2.heap.size + 1) 153 3 cv cs.length rows.flatten 1 [.int .i64 fd,.int .i64 (opOf b),.int .i64 nn] 11 13 (by kernel_rfl) (by kernel_rfl) Hrb3.out Hrw.out (by omega) (Array.getElem?_eq_some_iff.1 Hrb3.out).1 _ rfl
             [ex (.pointer (some ⟨w2.heap.size,0,none⟩)),ex cv,ex (.int .i64 fd),ex (.map (some (w.heap.size + 3))),ex (.string u),ex (.int .i64 k),ex (.int .u8 b.toNat),ex (.int .i64 (opOf b)),ex (.int .i64 nn),ex (.agg #[.int .i64 fd,.int .i64 (opOf b),.int .i64 nn]),pr (NewP w3.heap.size 153 1 #[.int .i64 fd,.int .i64 (opOf b),.int .i64 nn]),pr (OwnP (w2.heap.size + 1) 153 3 (cs.length + 1) (rows.flatten ++ [.int .i64 fd,.int .i64 (opOf b),.int .i64 nn])),ex (.pointer (some ⟨w2.heap.size,0,none⟩)),ex undef] ?_
             ⟨.inl ⟨_,rfl⟩,.inl ⟨_,rfl⟩,.inl ⟨_,rfl⟩,.inl ⟨_,rfl⟩,.inl ⟨_,rfl⟩,.inl ⟨_,rfl⟩,.inl ⟨_,rfl⟩,.inl ⟨_,rfl⟩,.inl ⟨_,rfl⟩,.inl ⟨_,rfl⟩,.inr (.inl rfl),.inr (.inr ⟨rfl,rfl⟩),.inl ⟨_,rfl⟩,.inl ⟨_,rfl⟩,trivial⟩
            (refine walkP_ex (fun K hK=>?_);refine ⟨fun done W hI h0 hd hn hf R hR=>?_,?_⟩;(clear h0 hd hn hf;go_simp;exact hR _ _ (hI.step (Below.refl _ _) (by decide) (by decide)) (AppT.of_below (Below.refl _ _)) rfl);(go_simp;refine hK _ ?_;clear hK K))
            (refine walkP_ex (fun K hK=>?_);refine ⟨fun done W hI h0 hd hn hf R hR=>?_,?_⟩;(have h13 : done 13 = false:=hn 13 (by decide);have hcb:=cells_of (hI.before h13);clear h0 hd hn hf;go_simp;exact hR _ _ (hI.step (Below.refl _ _) (by decide) (by decide)) (AppT.of_below (Below.refl _ _)) rfl);(go_simp;refine hK _ ?_;clear hK K))
            (refine walkP_ex (fun K hK=>?_);refine ⟨fun done W hI h0 hd hn hf R hR=>?_,?_⟩;(clear h0 hd hn hf;go_simp;exact hR _ _ (hI.step (Below.refl _ _) (by decide) (by decide)) (AppT.of_below (Below.refl _ _)) rfl);(go_simp;refine hK _ ?_;clear hK K))
            (refine walkP_ex (fun K hK=>?_);refine ⟨fun done W hI h0 hd hn hf R hR=>?_,?_⟩;(clear h0 hd hn hf;go_simp;exact hR _ _ (hI.step (Below.refl _ _) (by decide) (by decide)) (AppT.of_below (Below.refl _ _)) rfl);(go_simp;refine hK _ ?_;clear hK K))
            (refine walkP_ex (fun K hK=>?_);refine ⟨fun done W hI h0 hd hn hf R hR=>?_,?_⟩;(clear h0 hd hn hf;go_simp;exact hR _ _ (hI.step (Below.refl _ _) (by decide) (by decide)) (AppT.of_below (Below.refl _ _)) rfl);(go_simp;refine hK _ ?_;clear hK K))
            (refine walkP_ex (fun K hK=>?_);refine ⟨fun done W hI h0 hd hn hf R hR=>?_,?_⟩;(clear h0 hd hn hf;go_simp;exact hR _ _ (hI.step (Below.refl _ _) (by decide) (by decide)) (AppT.of_below (Below.refl _ _)) rfl);(go_simp;refine hK _ ?_;clear hK K))
            (refine walkP_ex (fun K hK=>?_);refine ⟨fun done W hI h0 hd hn hf R hR=>?_,?_⟩;(clear h0 hd hn hf;go_simp;exact hR _ _ (hI.step (Below.refl _ _) (by decide) (by decide)) (AppT.of_below (Below.refl _ _)) rfl);(go_simp;refine hK _ ?_;clear hK K))
            (refine walkP_ex (fun K hK=>?_);refine ⟨fun done W hI h0 hd hn hf R hR=>?_,?_⟩;(have hlw:=Hlk.out W ((hI.blk (w.heap.size + 3) (by omega) (by omega) hnm).trans Hom3.out);clear h0 hd hn hf;go_simp;exact hR _ _ (hI.step (Below.refl _ _) (by decide) (by decide)) (AppT.of_below (Below.refl _ _)) rfl);(go_simp;refine hK _ ?_;clear hK K))
            (refine walkP_ex (fun K hK=>?_);refine ⟨fun done W hI h0 hd hn hf R hR=>?_,?_⟩;(clear h0 hd hn hf;go_simp;exact hR _ _ (hI.step (Below.refl _ _) (by decide) (by decide)) (AppT.of_below (Below.refl _ _)) rfl);(go_simp;refine hK _ ?_;clear hK K))
            (refine walkP_ex (fun K hK=>?_);refine ⟨fun done W hI h0 hd hn hf R hR=>?_,?_⟩;(clear h0 hd hn hf;go_simp;exact hR _ _ (hI.step (Below.refl _ _) (by decide) (by decide)) (AppT.of_below (Below.refl _ _)) rfl);(go_simp;refine hK _ ?_;clear hK K))
            (refine walkP_pr (fun K hK=>?_);refine ⟨fun done W hI h0 hd hn hf R hR=>?_,fun v10=>?_⟩;(clear h0 hd hn hf;go_simp;exact hR _ _ (hI.step (bel_alloc (Below.refl _ _) _) (by decide) (by decide)) (AppT.of_below (bel_alloc (Below.refl _ _) _)) ⟨_,rfl,hI.size,heap_last _ _⟩);(go_simp;refine hK _ _ ?_;clear hK K))
            (refine walkP_pr (fun K hK=>?_);refine ⟨fun done W hI h0 hd hn hf R hR=>?_,fun v11=>?_⟩;(have h10 : NewP w3.heap.size 153 1 #[.int .i64 fd,.int .i64 (opOf b),.int .i64 nn] v10 W:=hf 10 (by decide);obtain ⟨bn,rfl,hbn,hcn⟩:=h10;refine ob_plain rfl ?_;refine gives_append (.tmp 123) (.tmp 132) 145 rfl (w2.heap.size + 1) 153 i0 _ 3 24 Tryz.underlying145 Hhi.out hz0 hz1 hz2 rfl (by omega) cv cs.length rows.flatten (by rfl) (hI.own h0) ⟨bn,0,none⟩ 1 1 [.int .i64 fd,.int .i64 (opOf b),.int .i64 nn] (by rfl) (by rfl) (World.news_of_block hcn) (by simp [Value.oneCell']) (by omega) (by unfold maxLen;omega) (by omega) (by have:=hI.size;omega) (fun v' w' h1 h2=>hR _ _ (hI.appended (hn 13 (by decide)) (by decide) hnb h2 (by omega)) (AppT.of_grown h2) h1));(go_simp;refine hK _ _ ?_;clear hK K))
            (refine walkP_ex (fun K hK=>?_);refine ⟨fun done W hI h0 hd hn hf R hR=>?_,?_⟩;(clear h0 hd hn hf;go_simp;exact hR _ _ (hI.step (Below.refl _ _) (by decide) (by decide)) (AppT.of_below (Below.refl _ _)) rfl);(go_simp;refine hK _ ?_;clear hK K))
            (refine walkP_ex (fun K hK=>?_);refine ⟨fun done W hI h0 hd hn hf R hR=>?_,?_⟩;(have h11 : OwnP (w2.heap.size + 1) 153 3 (cs.length + 1) (rows.flatten ++ [.int .i64 fd,.int .i64 (opOf b),.int .i64 nn]) v11 W:=hf 11 (by decide);have hda : done 11 = true:=hd 11 (by decide);have hst:=hI.stored (v:=v11) h0 hda (by decide) h11 (by omega);obtain ⟨gv,cpv,rfl,_,_⟩:=World.ownsRow.form h11 (by omega);have hcb:=cells_of (hI.before h0);have hfb:=not_frozen (hI.before h0);clear hd hn hf;go_simp;exact hR _ _ hst AppT.of_store rfl);(go_simp;refine hK _ ?_;clear hK K))
            intro done W hdone hI hF
            obtain ⟨v',hbv,hov⟩:=hI.after (hdone 13 (by decide))
            have hbW : Below w2.heap.size w2 W:=hI.below (bel_call (bel_call Hbw.out Hbo.out) Hb3.out) (Nat.le_refl _) (fun g hg=>by have:=Hown.out.block g hg;omega) (by omega)
            have Hbv:=Lib.hid hbv
            have Hov:=Lib.hid hov
            have HbW:=Lib.hid hbW
            clear hI hF hdone hbv hov hbW
            go_wp2
            go_roundw
            case rel=>exact ⟨j + 1,cs ++ [⟨fd,opOf b,nn⟩],v',by go_num,by have:=Hlt.out;omega,by simp [Hcl.out],by
              show condsOf _ = _
              rw [hcs.out,condsOf_drop (by simpa using hlt)]
              simp only [List.getElem_map,Hu.out,hc1.out]
              cases condsOf (List.drop (j + 1) (us.map (·.data.toList))) <;> simp,HbW.out,Hbv.out,
             ⟨rows ++ [[.int .i64 fd,.int .i64 (opOf b),.int .i64 nn]],Hro.out.app (RowsOf.cons (sz:=3) (R:=condR) (x:=(⟨fd,opOf b,nn⟩ : TCond)) (r:=[.int .i64 fd,.int .i64 (opOf b),.int .i64 nn]) RowsOf.nil rfl rfl),by
              have:=Hov.out
              simpa using this⟩⟩
            case measure=>have:=Hlt.out;simp [intOf];omega
        ·obtain rfl : k = u.size:=by omega
         have hrd : Hid (readP s.data.toList = (⟨[],0⟩,1)):=hbad.out (by
          unfold condOf
          rw [if_pos (show opAt u.data.toList = u.data.toList.length from opAt_spec _ u.data.toList.length Hop.out (Nat.le_refl _) (fun c hc=>by simp at hc))])
         clear hom
         go_wp2_with fail
         refine (bad_any 1 _).mono ?_
         rintro e w7 ⟨rfl,hb7⟩
         have hr7:=blk_below (blk_below (blk_below Hst2.out.res Hbw.out) Hbo.out) hb7
         have hc7:=cells_of hr7
         have hf7:=not_frozen hr7
         have hr8:=set_at (o:=1) (v:=.int .i64 0) (set_at (o:=0) (v:=.slice none 0 0) hr7)
         have hc8:=cells_of hr8
         have Hb8:=Lib.hid (set_below (a:=⟨w.heap.size,1,none⟩) (v:=.int .i64 0) (set_below (a:=⟨w.heap.size,0,none⟩) (v:=.slice none 0 0) (bel_call (bel_call (bel_call Hst2.out.bel Hbw.out) Hbo.out) hb7) (Nat.le_refl _)) (Nat.le_refl _))
         go_wp2
         rw [hrd.out]
         refine bodyPost_ret (v:=.tuple #[polV (.slice none 0 0) 0,.int .i64 1]) ?_ rfl ⟨_,rfl,⟨none,0,rfl,Nat.le_refl _,by unfold maxLen;omega,fun _=>rfl,fun h=>by cases h⟩,Hb8.out⟩
         rw [results_cell_tmp rfl]
         go_simp
      ·obtain rfl : j = us.length:=by omega
       have hcs1 : Hid (condsOf (us.map (·.data.toList)) = some cs):=by
        show condsOf _ = _
        rw [hcs.out,List.drop_of_length_le (by simp)]
        simp [condsOf]
       have hpc:=blk_below Hst2.out.pc Hbw.out
       have hcp:=cells_of hpc
       have hfp:=not_frozen hpc
       have hcr:=cells_of hrb
       obtain ⟨ca,cc,hcv,_⟩:=Sl.form (Hown.out.sl (D:=fun _=>True) fun _ _=>trivial)
       obtain ⟨rows,hro,hrw⟩:=(Hst2.out.below Hbw.out).own
       obtain ⟨i0,hi0,hz0,hz1,hz2⟩:=info_parts infoRule
       have hpo : ∀ g,pv.ownBlock = some g → w.heap.size + 5≤g:=fun g hg=>(hrw.lt g hg).1
       have hpn : some (w.heap.size + 4) ≠ pv.ownBlock:=fun e=>by have:=hpo _ e.symm;omega
       have h1 : ∀ u ∈ [cv,Value.int .i64 vd],u.oneCell' = true:=by rw [hcv];simp [Value.oneCell']
       have hsr' : tr.size < t.size:=hsr trivial
       have Hro:=Lib.hid hro
       have Hrw:=Lib.hid hrw
       have Hpc:=Lib.hid hpc
       have Hhi:=Lib.hid hi0
       have H1:=Lib.hid h1
       have Hrb:=Lib.hid hrb
       clear hro hrw hpc hi0 h1 hcv hsr hrb
       go_wp2_with (at_builtin;refine wpList_append_lies _ rfl _ _ _ rfl (w.heap.size + 5) 147 i0 _ 2 32 Tryz.underlying36 Hhi.out hz0 hz1 hz2 rfl (by decide) pv rs.length rows.flatten rfl (Hrw.out.alloc _) ⟨wr.heap.size,0,none⟩ 1 1 [cv,.int .i64 vd] rfl rfl (World.news_of_block (cs:=#[cv,.int .i64 vd]) (blk_at rfl)) H1.out (by omega) (by unfold maxLen;omega) (by omega) (by simp;omega) (wr.heap.size + 1) (by simp) ?_;intro gg cap w4 hown4 hgrow hat hlt4;have hb4:=(hgrow.block (w.heap.size + 4) (by simp;omega) hpn).trans (blk_old Hpc.out);have hc4:=cells_of hb4;have hf4:=not_frozen hb4;have Hown4:=Lib.hid hown4;have Hgrow:=Lib.hid hgrow;have Hat:=Lib.hid hat;clear hown4 hgrow hat hb4)
       go_roundw
       case rel=>exact ⟨k,tr,rs ++ [⟨cs,vd⟩],.slice (some ⟨gg,0,none⟩) (rs.length + 1) cap,rfl,by omega,by simp;omega,by
         show pread _ _ = _
         rw [hp.out,Hstep.out k,Hvd.out,hcs1.out]
         cases pread k tr.data.toList <;> simp,rd_step Hst2.out Hbw.out Hown.out Hgrow.out Hown4.out Hro.out Hat.out⟩
       case measure=>simp;omega
end Go.Proofs.YthkgjohhbdipcaaGreatDoor
namespace Go.Proofs.YthkgjohhbdipcaaGreatDoor
open Go.RowKit
set_option maxHeartbeats 1000000 in
theorem made_any (w : World) (hL : Laid w) : Calls Tryz.prog 53 #[] w fun e w'=>∃ v,e = .returned (polV v 4)∧RdRules w' (fun b=>w.heap.size≤b) v madeP.rules∧Below w.heap.size w w':=by
 have HL:=Lib.hid (hL.below (bel_alloc (Below.refl _ _) (.cells #[.slice none 0 0,.int .i64 0] 38)))
 clear hL
 go_enter Tryz.func53,Tryz.ntmps53
 go_wp2_with fail
 refine (read_walk ⟨writtenL.toArray⟩ _ HL.out (by decide) (by decide)).mono ?_
 rintro e w1 ⟨v,rfl,hr,hb⟩
 have hrm : readP (⟨writtenL.toArray⟩ : ByteArray).data.toList = (madeP,0):=read_made
 rw [hrm] at hr
 rw [hrm]
 have hd : (madeP,(0 : Int)).1.dflt = 4:=rfl
 rw [hd]
 have hr1:=blk_below (heap_last w (.cells #[.slice none 0 0,.int .i64 0] 38)) hb
 have Hr:=Lib.hid hr
 have Hb:=Lib.hid (bel_call (bel_alloc (Below.refl _ w) _) hb)
 obtain ⟨a,c,rfl,_⟩:=Sl.form hr
 have hsz:=hb.size
 have hr2 : (w1.alloc (.cells #[.slice a madeP.rules.length c,.int .i64 4] 38)).heap[w.heap.size]? = some (.cells #[.slice none 0 0,.int .i64 0] 38):=blk_old hr1
 have hc2:=cells_of hr2
 have hf2:=not_frozen hr2
 have hr4:=set_at (o:=1) (v:=.int .i64 4) (set_at (o:=0) (v:=.slice a madeP.rules.length c) hr2)
 have hc4:=cells_of hr4
 have Hb4:=Lib.hid (set_below (a:=⟨w.heap.size,1,none⟩) (v:=.int .i64 4) (set_below (a:=⟨w.heap.size,0,none⟩) (v:=.slice a madeP.rules.length c) (bel_alloc Hb.out (.cells #[.slice a madeP.rules.length c,.int .i64 4] 38)) (Nat.le_refl _)) (Nat.le_refl _))
 have HR4 : Hid (RdRules (((w1.alloc (.cells #[.slice a madeP.rules.length c,.int .i64 4] 38)).setCell ⟨w.heap.size,0,none⟩ (.slice a madeP.rules.length c)).setCell ⟨w.heap.size,1,none⟩ (.int .i64 4)) (fun b=>w.heap.size≤b) (.slice a madeP.rules.length c) madeP.rules) :=
  RdRules.keep (Hr.out.below (bel_alloc (Below.refl _ _) _)) (fun b h _=>by have : (w.alloc _).heap.size≤b:=h;simp at this;show w.heap.size≤b;omega) (fun b hb _=>by
   have h1 : (w.alloc _).heap.size≤b:=hb
   simp at h1
   rw [set_other (by show b ≠ w.heap.size;omega),set_other (by show b ≠ w.heap.size;omega)]) (by rw [set_size,set_size];exact Nat.le_refl _)
 clear hr hb hrm hd hr1 hr2
 go_wp2
 refine bodyPost_ret (v:=polV (.slice a madeP.rules.length c) 4) ?_ rfl ⟨_,rfl,HR4.out,Hb4.out⟩
 simp [results,Tryz.results53,go_sem,hc4]
end Go.Proofs.YthkgjohhbdipcaaGreatDoor
namespace Go.Proofs.YthkgjohhbdipcaaGreatDoor
open Go.RowKit
def strictP : TPol:=⟨[⟨[⟨0,1,3⟩,⟨2,3,5⟩],0⟩,⟨[⟨1,2,0⟩],3⟩,⟨[⟨3,4,7⟩],2⟩],4⟩
theorem read_strict : readP [107,105,108,108,32,110,114,61,51,32,97,60,53,59,108,111,103,32,107,105,110,100,33,48,59,102,97,105,108,32,98,62,55,59,97,108,108,111,119] = (strictP,0):=by decide +kernel
set_option maxHeartbeats 1000000 in
theorem strict_any (w : World) (hL : Laid w) : Calls Tryz.prog 54 #[] w fun e w'=>∃ v,e = .returned (polV v 4)∧RdRules w' (fun b=>w.heap.size≤b) v strictP.rules∧Below w.heap.size w w':=by
 have HL:=Lib.hid (hL.below (bel_alloc (Below.refl _ _) (.cells #[.slice none 0 0,.int .i64 0] 38)))
 clear hL
 go_enter Tryz.func54,Tryz.ntmps54
 go_wp2_with fail
 refine (read_walk ⟨([107,105,108,108,32,110,114,61,51,32,97,60,53,59,108,111,103,32,107,105,110,100,33,48,59,102,97,105,108,32,98,62,55,59,97,108,108,111,119] : List UInt8).toArray⟩ _ HL.out (by decide) (by decide)).mono ?_
 rintro e w1 ⟨v,rfl,hr,hb⟩
 have hrm : readP (⟨([107,105,108,108,32,110,114,61,51,32,97,60,53,59,108,111,103,32,107,105,110,100,33,48,59,102,97,105,108,32,98,62,55,59,97,108,108,111,119] : List UInt8).toArray⟩ : ByteArray).data.toList = (strictP,0):=read_strict
 rw [hrm] at hr
 rw [hrm]
 have hd : (strictP,(0 : Int)).1.dflt = 4:=rfl
 rw [hd]
 have hr1:=blk_below (heap_last w (.cells #[.slice none 0 0,.int .i64 0] 38)) hb
 have Hr:=Lib.hid hr
 have Hb:=Lib.hid (bel_call (bel_alloc (Below.refl _ w) _) hb)
 obtain ⟨a,c,rfl,_⟩:=Sl.form hr
 have hsz:=hb.size
 have hr2 : (w1.alloc (.cells #[.slice a strictP.rules.length c,.int .i64 4] 38)).heap[w.heap.size]? = some (.cells #[.slice none 0 0,.int .i64 0] 38):=blk_old hr1
 have hc2:=cells_of hr2
 have hf2:=not_frozen hr2
 have hr4:=set_at (o:=1) (v:=.int .i64 4) (set_at (o:=0) (v:=.slice a strictP.rules.length c) hr2)
 have hc4:=cells_of hr4
 have Hb4:=Lib.hid (set_below (a:=⟨w.heap.size,1,none⟩) (v:=.int .i64 4) (set_below (a:=⟨w.heap.size,0,none⟩) (v:=.slice a strictP.rules.length c) (bel_alloc Hb.out (.cells #[.slice a strictP.rules.length c,.int .i64 4] 38)) (Nat.le_refl _)) (Nat.le_refl _))
 have HR4 : Hid (RdRules (((w1.alloc (.cells #[.slice a strictP.rules.length c,.int .i64 4] 38)).setCell ⟨w.heap.size,0,none⟩ (.slice a strictP.rules.length c)).setCell ⟨w.heap.size,1,none⟩ (.int .i64 4)) (fun b=>w.heap.size≤b) (.slice a strictP.rules.length c) strictP.rules) :=
  RdRules.keep (Hr.out.below (bel_alloc (Below.refl _ _) _)) (fun b h _=>by have : (w.alloc _).heap.size≤b:=h;simp at this;show w.heap.size≤b;omega) (fun b hb _=>by
   have h1 : (w.alloc _).heap.size≤b:=hb
   simp at h1
   rw [set_other (by show b ≠ w.heap.size;omega),set_other (by show b ≠ w.heap.size;omega)]) (by rw [set_size,set_size];exact Nat.le_refl _)
 clear hr hb hrm hd hr1 hr2
 go_wp2
 refine bodyPost_ret (v:=polV (.slice a strictP.rules.length c) 4) ?_ rfl ⟨_,rfl,HR4.out,Hb4.out⟩
 simp [results,Tryz.results54,go_sem,hc4]
end Go.Proofs.YthkgjohhbdipcaaGreatDoor
namespace Go.Proofs.YthkgjohhbdipcaaGreatDoor
open Go.RowKit
attribute [local go_sem] gives givesUpon
def keptL : List THap:=[⟨1,1,0,madeP⟩,⟨2,1,0,strictP⟩,⟨2,1,0,madeP⟩,⟨5,0,0,zeroPol⟩,⟨4,1,0,zeroPol⟩,⟨6,0,0,zeroPol⟩]
def keptW : TWorld:=(wrunE newWorld keptL).1
theorem kept_2 : (wrunE newWorld keptL).2 = ([0,0,7,0,6,0],0):=by decide +kernel
theorem kept_up : keptW.up = true:=by decide +kernel
theorem kept_a : wAskE keptW 1 ⟨0,0,0,8,0⟩ = (2,0):=by decide +kernel
theorem kept_b : wAskE keptW 2 ⟨0,0,0,0,0⟩ = (0,6):=by decide +kernel
theorem wask_at (c u v : Value) (t : TWorld) (cell : Int) (x : TCall) (D : Nat → Prop) (w : World) {up : Bool} (hu : t.up = up) (h : RdWorld w D c u v t) (hL : Laid w) :
  Calls Tryz.prog 18 #[worldV c u v up,.int .i64 cell,callV x] w fun e w'=>e = .returned (.tuple #[.int .i64 (wAskE t cell x).1,.int .i64 (wAskE t cell x).2])∧Below w.heap.size w w':=by
 subst hu;exact wask_any c u v t cell x D w h hL
set_option maxRecDepth 100000 in
set_option maxHeartbeats 16000000 in
theorem kept_walk (w : World) (hL : Laid w) : Calls Tryz.prog 13 #[] w fun e w'=>e = .returned (.bool true)∧Below w.heap.size w w':=by
 have HL:=Lib.hid hL
 clear hL
 obtain ⟨kW,hkW⟩ : ∃ C,keptW = C:=⟨_,rfl⟩
 have HR : Hid (wrunE newWorld keptL = (kW,[0,0,7,0,6,0],0)):=by
  show _ = _
  rw [← hkW,← kept_2];rfl
 have HU:=kept_up
 have HA:=Lib.hid kept_a
 have HB:=Lib.hid kept_b
 rw [hkW] at HU HA HB
 clear hkW
 go_enter Tryz.func13,Tryz.ntmps13
 go_wp2_with fail
 refine (wnew_any _).mono ?_
 rintro e w0 ⟨c0,rfl,hr0,hb0⟩
 have Hb0:=Lib.hid hb0
 have Hr0:=Lib.hid (RdWorld.true hr0)
 obtain ⟨x0,y0,rfl,_⟩:=Sl.form hr0.cells
 clear hr0 hb0
 go_wp2_with fail
 refine (made_any _ (HL.out.below Hb0.out)).mono ?_
 rintro e w1 ⟨v1,rfl,hr1,hb1⟩
 have Hb1:=Lib.hid (bel_call Hb0.out hb1)
 have Hr01:=Lib.hid (RdWorld.below Hr0.out hb1)
 have Hp1:=Lib.hid (rules_true hr1)
 obtain ⟨a1,c1,rfl,_⟩:=Sl.form hr1
 clear hr1 hb1 Hr0 Hb0
 have hm1 : madeP.rules.length = 2:=rfl
 go_wp2_with fail
 refine (strict_any _ (HL.out.below Hb1.out)).mono ?_
 rintro e w2 ⟨v2,rfl,hr2,hb2⟩
 have Hb2:=Lib.hid (bel_call Hb1.out hb2)
 have Hr02:=Lib.hid (RdWorld.below Hr01.out hb2)
 have Hp12:=Lib.hid (RdRules.below Hp1.out hb2)
 have Hp2:=Lib.hid (rules_true hr2)
 obtain ⟨a2,c2,rfl,_⟩:=Sl.form hr2
 clear hr2 hb2 Hr01 Hb1 Hp1
 have hm2 : strictP.rules.length = 3:=rfl
 go_wp2_with fail
 refine (made_any _ (HL.out.below Hb2.out)).mono ?_
 rintro e w3 ⟨v3,rfl,hr3,hb3⟩
 have Hb3:=Lib.hid (bel_call Hb2.out hb3)
 have Hr03:=Lib.hid (RdWorld.below Hr02.out hb3)
 have HP1:=Lib.hid (RdRules.below Hp12.out hb3)
 have HP2:=Lib.hid (RdRules.below Hp2.out hb3)
 have HP3:=Lib.hid (rules_true hr3)
 obtain ⟨a3,c3,rfl,_⟩:=Sl.form hr3
 clear hr3 hb3 Hr02 Hb2 Hp2 Hp12
 have HC:=Lib.hid (Bx.one (w:=w3) (o:=.cells #[.int .i64 1,.int .i64 1,.int .i64 0,.slice a1 2 c1,.int .i64 4,.int .i64 2,.int .i64 1,.int .i64 0,.slice a2 3 c2,.int .i64 4,.int .i64 2,.int .i64 1,.int .i64 0,.slice a3 2 c3,.int .i64 4,.int .i64 5,.int .i64 0,.int .i64 0,.slice none 0 0,.int .i64 0,.int .i64 4,.int .i64 1,.int .i64 0,.slice none 0 0,.int .i64 0,.int .i64 6,.int .i64 0,.int .i64 0,.slice none 0 0,.int .i64 0] 40))
 have HRc : Hid (RdHaps (w3.alloc (.cells #[.int .i64 1,.int .i64 1,.int .i64 0,.slice a1 2 c1,.int .i64 4,.int .i64 2,.int .i64 1,.int .i64 0,.slice a2 3 c2,.int .i64 4,.int .i64 2,.int .i64 1,.int .i64 0,.slice a3 2 c3,.int .i64 4,.int .i64 5,.int .i64 0,.int .i64 0,.slice none 0 0,.int .i64 0,.int .i64 4,.int .i64 1,.int .i64 0,.slice none 0 0,.int .i64 0,.int .i64 6,.int .i64 0,.int .i64 0,.slice none 0 0,.int .i64 0] 40)) (fun _=>True) (.slice (some ⟨w3.heap.size,0,none⟩) 6 6) keptL) :=
  sl_block (xs:=keptL) (rows:=[[.int .i64 1,.int .i64 1,.int .i64 0,.slice a1 2 c1,.int .i64 4],[.int .i64 2,.int .i64 1,.int .i64 0,.slice a2 3 c2,.int .i64 4],[.int .i64 2,.int .i64 1,.int .i64 0,.slice a3 2 c3,.int .i64 4],[.int .i64 5,.int .i64 0,.int .i64 0,.slice none 0 0,.int .i64 0],[.int .i64 4,.int .i64 1,.int .i64 0,.slice none 0 0,.int .i64 0],[.int .i64 6,.int .i64 0,.int .i64 0,.slice none 0 0,.int .i64 0]]) (RowsOf.cons (RowsOf.cons (RowsOf.cons (RowsOf.cons (RowsOf.cons (RowsOf.cons RowsOf.nil ⟨_,rfl,nil_rules' _ _⟩ rfl) ⟨_,rfl,nil_rules' _ _⟩ rfl) ⟨_,rfl,nil_rules' _ _⟩ rfl) ⟨_,rfl,RdRules.below HP3.out HC.out.bel⟩ rfl) ⟨_,rfl,RdRules.below HP2.out HC.out.bel⟩ rfl) ⟨_,rfl,RdRules.below HP1.out HC.out.bel⟩ rfl) (heap_last _ _) rfl trivial (by simp [maxLen,keptL])
 go_wp2_with fail
 refine (wrun_any _ _ _ _ newWorld keptL _ _ _ (RdWorld.below Hr03.out HC.out.bel) HRc.out (HL.out.below (bel_call Hb3.out HC.out.bel))).mono ?_
 rw [HR.out]
 rintro e w4 ⟨c',u',v',sv,rfl,hr4,hs4,hb4⟩
 dsimp only at hr4 hs4
 obtain ⟨x0,y0,rfl,_⟩:=Sl.form hr4.cells
 obtain ⟨x1,y1,rfl,_⟩:=Sl.form hr4.disk.1
 obtain ⟨x2,y2,rfl,_⟩:=Sl.form hr4.disk.2
 obtain ⟨sa,sc,rfl,_⟩:=Sl.form hs4
 have HW4:=Lib.hid (bel_alloc (Below.refl w4.heap.size w4) (.cells #[.slice x0 kW.cells.length y0,.slice x1 kW.d.safe.length y1,.slice x2 kW.d.wait.length y2,.bool true] 27))
 have Hb4:=Lib.hid (bel_call (bel_call (bel_call Hb3.out HC.out.bel) hb4) HW4.out)
 have Hbx:=Lib.hid (heap_last w4 (.cells #[.slice x0 kW.cells.length y0,.slice x1 kW.d.safe.length y1,.slice x2 kW.d.wait.length y2,.bool true] 27))
 have Hr4:=Lib.hid (RdWorld.below (RdWorld.true hr4) HW4.out)
 have Hs4 : Hid (RdInts _ (fun _=>True) _ _):=Sl.mono hs4 (fun _ _ _=>trivial) (fun b _ hl=>HW4.out.block b hl) HW4.out.size (fun _ _ _ h=>h)
 clear hr4 hs4 hb4 HC HRc hm1 hm2 HP1 HP2 HP3 Hr03 HW4
 simp only [List.length_cons,List.length_nil,Nat.zero_add,Nat.reduceAdd] at Hs4 ⊢
 rw [HU]
 go_wp2_with fail
 refine (wask_at _ _ _ kW 1 ⟨0,0,0,8,0⟩ _ _ HU Hr4.out (HL.out.below Hb4.out)).mono ?_
 rw [HA.out]
 rintro e w5 ⟨rfl,hb5⟩
 have Hb5:=Lib.hid (bel_call Hb4.out hb5)
 have Hbx5:=Lib.hid (blk_below Hbx.out hb5)
 have Hr5:=Lib.hid (RdWorld.below Hr4.out hb5)
 have Hs5:=Lib.hid (RdInts.below Hs4.out hb5)
 have hq:=cells_of Hbx5.out
 clear hb5 Hb4 Hbx Hr4 Hs4
 go_wp2_with fail
 clear hq
 refine (wask_at _ _ _ kW 2 ⟨0,0,0,0,0⟩ _ _ HU Hr5.out (HL.out.below Hb5.out)).mono ?_
 rw [HB.out]
 rintro e w6 ⟨rfl,hb6⟩
 have Hb6:=Lib.hid (bel_call Hb5.out hb6)
 have Hbx6:=Lib.hid (blk_below Hbx5.out hb6)
 have Hs6:=Lib.hid (RdInts.below Hs5.out hb6)
 have HA6:=Lib.hid (bel_alloc (Below.refl w6.heap.size w6) (.cells #[.int .i64 0,.int .i64 0,.int .i64 7,.int .i64 0,.int .i64 6,.int .i64 0] 30))
 have HS6 : Hid (RdInts (w6.alloc (.cells #[.int .i64 0,.int .i64 0,.int .i64 7,.int .i64 0,.int .i64 6,.int .i64 0] 30)) (fun _=>True) (.slice (some ⟨w6.heap.size,0,none⟩) 6 6) [0,0,7,0,6,0]) :=
  sl_block (sz:=1) (xs:=[0,0,7,0,6,0]) (rows:=[[.int .i64 0],[.int .i64 0],[.int .i64 7],[.int .i64 0],[.int .i64 6],[.int .i64 0]]) (RowsOf.cons (RowsOf.cons (RowsOf.cons (RowsOf.cons (RowsOf.cons (RowsOf.cons RowsOf.nil rfl rfl) rfl rfl) rfl rfl) rfl rfl) rfl rfl) rfl rfl) (heap_last _ _) rfl trivial (by simp [maxLen])
 clear hb6 Hb5 Hbx5 Hr5 Hs5
 go_wp2_with fail
 refine (eqerrs_any _ _ [0,0,7,0,6,0] [0,0,7,0,6,0] _ _ (RdInts.below Hs6.out HA6.out) HS6.out).mono ?_
 rw [decide_eq_true rfl]
 rintro e w7 ⟨rfl,hb7⟩
 have HBf:=Lib.hid (bel_call (bel_call Hb6.out HA6.out) hb7)
 have hq:=cells_of (blk_below (blk_below Hbx6.out HA6.out) hb7)
 clear hb7
 go_wp2
 go_ret
 exact ⟨rfl,HBf.out⟩
end Go.Proofs.YthkgjohhbdipcaaGreatDoor
namespace Go.Proofs.YthkgjohhbdipcaaGreatDoor
open Go.RowKit
set_option maxRecDepth 100000 in
set_option maxHeartbeats 4000000 in
theorem dsame_any (u v u' v' : Value) (x y : TDisk) (w : World) (h : RdDisk w (fun _=>True) u v x) (h' : RdDisk w (fun _=>True) u' v' y) :
  Calls Tryz.prog 40 #[diskV u v,diskV u' v'] w fun e w'=>e = .returned (.bool (decide (x = y)))∧Below w.heap.size w w':=by
 have H:=Lib.hid h
 have H':=Lib.hid h'
 obtain ⟨a1,c1,rfl,_⟩:=Sl.form h.1
 obtain ⟨a2,c2,rfl,_⟩:=Sl.form h.2
 obtain ⟨b1,d1,rfl,_⟩:=Sl.form h'.1
 obtain ⟨b2,d2,rfl,_⟩:=Sl.form h'.2
 clear h h'
 obtain ⟨xs,xw⟩:=x
 obtain ⟨ys,yw⟩:=y
 dsimp only at H H' ⊢
 obtain ⟨q,hq⟩ : ∃ q,decide ((⟨xs,xw⟩ : TDisk) = ⟨ys,yw⟩) = q:=⟨_,rfl⟩
 have HD : Hid (q = (decide (xs = ys) && decide (xw = yw))):=by show _ = _;rw [← hq];simp
 rw [hq]
 clear hq
 have HB:=Lib.hid (Bx.two (w:=w) (o:=.cells #[.slice a1 xs.length c1,.slice a2 xw.length c2] 25) (o':=.cells #[.slice b1 ys.length d1,.slice b2 yw.length d2] 25))
 go_enter Tryz.func40,Tryz.ntmps40
 go_wp2_with fail
 refine (eqbytes_any _ _ xs ys _ _ (RdBytes.below H.out.1 HB.out.bel) (RdBytes.below H'.out.1 HB.out.bel)).mono ?_
 rintro e w1 ⟨rfl,hb1⟩
 have HB1:=Lib.hid (HB.out.below hb1)
 clear hb1
 by_cases hs : xs = ys
 ·have d1 : decide (xs = ys) = true:=decide_eq_true hs
  have HD' : Hid (q = decide (xw = yw)):=by show _ = _;rw [HD.out,d1];simp
  rw [d1]
  clear hs HD d1
  have hq0:=HB1.out.cells0
  have hq1:=HB1.out.cells1
  go_wp2_with fail
  refine (eqbytes_any _ _ xw yw _ _ (RdBytes.below H.out.2 HB1.out.bel) (RdBytes.below H'.out.2 HB1.out.bel)).mono ?_
  rintro e w2 ⟨rfl,hb2⟩
  have HBf:=Lib.hid (HB1.out.below hb2).bel
  clear hq0 hq1 hb2
  go_wp2
  go_ret
  exact ⟨by rw [HD'.out];rfl,HBf.out⟩
 ·have d1 : decide (xs = ys) = false:=decide_eq_false hs
  have HD' : Hid (q = false):=by show _ = _;rw [HD.out,d1];simp
  have HBf:=Lib.hid HB1.out.bel
  rw [d1]
  clear hs HD d1
  go_wp2
  go_ret
  exact ⟨by rw [HD'.out];rfl,HBf.out⟩
end Go.Proofs.YthkgjohhbdipcaaGreatDoor
namespace Go.Proofs.YthkgjohhbdipcaaGreatDoor
open Go.RowKit
set_option maxRecDepth 100000 in
set_option maxHeartbeats 4000000 in
theorem wsame_any (c u v c' u' v' : Value) (x y : TWorld) (w : World) (h : RdWorld w (fun _=>True) c u v x) (h' : RdWorld w (fun _=>True) c' u' v' y) :
  Calls Tryz.prog 20 #[worldV c u v x.up,worldV c' u' v' y.up] w fun e w'=>e = .returned (.bool (decide (x = y)))∧Below w.heap.size w w':=by
 have H:=Lib.hid h
 have H':=Lib.hid h'
 obtain ⟨a0,c0,rfl,_⟩:=Sl.form h.cells
 obtain ⟨a1,c1,rfl,_⟩:=Sl.form h.disk.1
 obtain ⟨a2,c2,rfl,_⟩:=Sl.form h.disk.2
 obtain ⟨b0,d0,rfl,_⟩:=Sl.form h'.cells
 obtain ⟨b1,d1,rfl,_⟩:=Sl.form h'.disk.1
 obtain ⟨b2,d2,rfl,_⟩:=Sl.form h'.disk.2
 clear h h'
 obtain ⟨xc,xd,xu⟩:=x
 obtain ⟨yc,yd,yu⟩:=y
 dsimp only at H H' ⊢
 obtain ⟨q,hq⟩ : ∃ q,decide ((⟨xc,xd,xu⟩ : TWorld) = ⟨yc,yd,yu⟩) = q:=⟨_,rfl⟩
 have HD : Hid (q = (decide (xu = yu) && (decide (xc = yc) && decide (xd = yd)))):=by
  show _ = _
  rw [← hq,Bool.eq_iff_iff]
  simp
  constructor
  ·rintro ⟨h1,h2,h3⟩;exact ⟨h3,h1,h2⟩
  ·rintro ⟨h1,h2,h3⟩;exact ⟨h2,h3,h1⟩
 rw [hq]
 clear hq
 have HB:=Lib.hid (Bx.two (w:=w) (o:=.cells #[.slice a0 xc.length c0,.slice a1 xd.safe.length c1,.slice a2 xd.wait.length c2,.bool xu] 27) (o':=.cells #[.slice b0 yc.length d0,.slice b1 yd.safe.length d1,.slice b2 yd.wait.length d2,.bool yu] 27))
 by_cases hu : xu = yu
 ·subst hu
  have HD1 : Hid (q = (decide (xc = yc) && decide (xd = yd))):=by show _ = _;rw [HD.out];simp
  clear HD
  go_enter Tryz.func20,Tryz.ntmps20
  go_wp2_with fail
  refine (keepsame_any _ _ xc yc _ (H.out.cells.below HB.out.bel) (H'.out.cells.below HB.out.bel)).mono ?_
  rintro e w1 ⟨rfl,hb1⟩
  have HB1:=Lib.hid (HB.out.below hb1)
  clear hb1 HB
  by_cases hc : xc = yc
  ·have d1 : decide (xc = yc) = true:=decide_eq_true hc
   have HD' : Hid (q = decide (xd = yd)):=by show _ = _;rw [HD1.out,d1];simp
   rw [d1]
   clear hc HD1 d1
   have hq0:=HB1.out.cells0
   have hq1:=HB1.out.cells1
   go_wp2_with fail
   refine (dsame_any _ _ _ _ xd yd _ (RdDisk.below H.out.disk HB1.out.bel) (RdDisk.below H'.out.disk HB1.out.bel)).mono ?_
   rintro e w2 ⟨rfl,hb2⟩
   have HBf:=Lib.hid (HB1.out.below hb2).bel
   clear hq0 hq1 hb2
   go_wp2
   go_ret
   exact ⟨by rw [HD'.out];rfl,HBf.out⟩
  ·have d1 : decide (xc = yc) = false:=decide_eq_false hc
   have HD' : Hid (q = false):=by show _ = _;rw [HD1.out,d1];simp
   have HBf:=Lib.hid HB1.out.bel
   rw [d1]
   clear hc HD1 d1
   go_wp2
   go_ret
   exact ⟨by rw [HD'.out];rfl,HBf.out⟩
 ·have hu' : (xu == yu) = false:=by simpa using hu
  have HD' : Hid (q = false):=by show _ = _;rw [HD.out];simp [hu]
  have HBf:=Lib.hid HB.out.bel
  clear hu HD
  go_enter Tryz.func20,Tryz.ntmps20
  go_wp2
  go_ret
  exact ⟨by rw [HD'.out];rfl,HBf.out⟩
end Go.Proofs.YthkgjohhbdipcaaGreatDoor
namespace Go.Proofs.YthkgjohhbdipcaaGreatDoor
open Go.RowKit Go.ChangeShapes Go.WideShapes Go.Deep
theorem list_of_forall {α : Type} {Q : Nat → α → Prop} : ∀ (n : Nat),(∀ i,i < n → ∃ a,Q i a) → ∃ xs : List α,xs.length = n∧∀ i x,xs[i]? = some x → Q i x
 | 0,_=>⟨[],rfl,fun i x h=>by simp at h⟩
 | n + 1,h=>by
  obtain ⟨xs,hl,hx⟩:=list_of_forall n (fun i hi=>h i (by omega))
  obtain ⟨a,ha⟩:=h n (by omega)
  refine ⟨xs ++ [a],by simp [hl],fun i x hi=>?_⟩
  rw [List.getElem?_append] at hi
  split at hi
  ·exact hx i x hi
  ·rename_i hge
   have : i - xs.length = 0:=by
    have:=(List.getElem?_eq_some_iff.1 hi).1
    simp at this;exact this
   rw [this] at hi
   simp at hi
   have : i = n:=by omega
   subst this;subst hi;exact ha
theorem add_form {b o i j : Nat} : ((⟨b,o,none⟩ : Addr).add i).add j = ⟨b,o + (i + j),none⟩:=by
 unfold Addr.add
 by_cases hi : i = 0 <;> by_cases hj : j = 0 <;> simp [hi,hj,Nat.add_assoc]
section
variable {H : Type} {enc : TypeId × Value → H} {P : Program} {w : World} {base : Nat} {spare : Nat → Bool} {held : Bool}
theorem sl_of_trod {α : Type} {t e : TypeId} {sz fuel : Nat} {R : α → List Value → Prop} {cs : List Value} {x : DataW H × List MemPlace} (ht : P.underlying t = some (.slice e)) (hC : P.cellsOf e = sz) (hsz : 0 < sz)
  (hR : ∀ n cs x,cs.length = sz → DataW.trod enc P w base spare held n e cs = some x → ∃ a : α,R a cs) (h : DataW.trod enc P w base spare held fuel t cs = some x) :
  ∃ (v : Value) (xs : List α),cs = [v]∧Sl w (fun _=>True) sz R v xs:=by
 rcases open_slice ht h with ⟨h0,_⟩ | ⟨a,len,cap,m,n,D,Pl,hcs,hb,hl,hm,hmm,_,hi⟩
 ·exact ⟨_,[],h0,none,0,rfl,by simp,by unfold maxLen;omega,fun _=>rfl,fun h=>absurd h (by simp)⟩
 ·have hlm : len≤m:=by rw [hmm];split <;> omega
  have hel : ∀ i,i < len → ∃ a' : α,∃ cs' : List Value,cs'.length = sz∧R a' cs'∧∀ j,j < sz → w.cell? ((a.add (i * sz)).add j) = cs'[j]?:=fun i hlt=>by
   obtain ⟨cs',hc,ht'⟩:=hi i (by omega)
   rw [hC] at hc
   obtain ⟨_,hlen,hcell⟩:=World.cells?_some hc
   obtain ⟨a',ha'⟩:=hR _ _ _ hlen ht'
   exact ⟨a',cs',hlen,ha',hcell⟩
  obtain ⟨xs,hxl,hx⟩:=list_of_forall len hel
  refine ⟨_,xs,hcs,some a,cap,by rw [hxl],by omega,hm,(fun h=>by cases h),fun h0=>?_⟩
  have h00 : xs[0]? = some xs[0]:=List.getElem?_eq_getElem h0
  obtain ⟨cs0,hl0,_,hc0⟩:=hx 0 _ h00
  have hc00:=hc0 0 hsz
  rw [List.getElem?_eq_getElem (by omega)] at hc00
  have hspot:=World.cell?_spot hc00
  simp [Addr.add] at hspot
  obtain ⟨b,o,s⟩:=a
  dsimp only at hspot
  subst hspot
  refine ⟨b,o,rfl,trivial,?_,fun i y hy=>?_⟩
  ·have:=World.block_lt_of_cell? _ _ hc00
   simpa [Addr.add] using this
  ·obtain ⟨cs',hl',hr',hc'⟩:=hx i y hy
   refine ⟨cs',hl',hr',fun j u hu=>?_⟩
   have hj : j < sz:=by rw [← hl'];exact (List.getElem?_eq_some_iff.1 hu).1
   rw [← hu,← hc' j hj,add_form]
theorem trod_ints5 {t e : TypeId} {fuel : Nat} {cs : List Value} {x : DataW H × List MemPlace} (ht : P.underlying t = some (.array 5 e)) (he : P.underlying e = some (.int .i64)) (hC : P.cellsOf t = 5) (hCe : P.cellsOf e = 1)
  (h : DataW.trod enc P w base spare held fuel t cs = some x) : ∃ y : TCall,cs = [.int .i64 y.a0,.int .i64 y.a1,.int .i64 y.a2,.int .i64 y.a3,.int .i64 y.a4]:=by
 obtain ⟨xs,m,_,_,hlen,hxl,hf⟩:=DataW.trod_array ht h
 rw [hC] at hlen
 match cs,hlen with
 | [c0,c1,c2,c3,c4],_ =>
  match xs,hxl with
  | [x0,x1,x2,x3,x4],_ =>
   have g:=fun i (hi : i < 5)=>by have:=hf i hi;rw [hCe] at this;exact this
   obtain ⟨n0,e0,_⟩:=DataW.trod_int he (g 0 (by omega))
   obtain ⟨n1,e1,_⟩:=DataW.trod_int he (g 1 (by omega))
   obtain ⟨n2,e2,_⟩:=DataW.trod_int he (g 2 (by omega))
   obtain ⟨n3,e3,_⟩:=DataW.trod_int he (g 3 (by omega))
   obtain ⟨n4,e4,_⟩:=DataW.trod_int he (g 4 (by omega))
   simp at e0 e1 e2 e3 e4
   exact ⟨⟨n0,n1,n2,n3,n4⟩,by simp [e0,e1,e2,e3,e4]⟩
theorem open_call {r : Reach} {b0 : Nat} {t e : TypeId} {v : Value} {d : DataW H} {ps : List MemPlace} (ht : P.underlying t = some (.array 5 e)) (he : P.underlying e = some (.int .i64)) (hC : P.cellsOf t = 5) (hCe : P.cellsOf e = 1)
  (hv : Value.okWide P w r b0 t v) (h : DataW.Trod enc P w base spare held t v d ps) : ∃ y : TCall,v = callV y:=by
 simp only [Value.okWide,ht] at hv
 obtain ⟨cs,rfl,_,_⟩:=hv
 obtain ⟨fuel,hf⟩:=h
 obtain ⟨y,hy⟩:=trod_ints5 ht he hC hCe hf
 obtain ⟨l⟩:=cs
 exact ⟨y,by simp only [Value.cells] at hy;subst hy;rfl⟩
end
end Go.Proofs.YthkgjohhbdipcaaGreatDoor
namespace Go.Proofs.YthkgjohhbdipcaaGreatDoor
open Go.RowKit Go.ChangeShapes Go.WideShapes Go.Deep
set_option maxRecDepth 100000
theorem field_at {fs : Array Field} {l : Array (TypeId × Nat)} (hfs : fs.map (fun f=>(f.type,f.offset)) = l) {i : Nat} {ty : TypeId} {off : Nat} (h : l[i]? = some (ty,off)) : ∃ f,fs[i]? = some f∧f.type = ty∧f.offset = off:=by
 subst hfs
 rw [Array.getElem?_map] at h
 cases hf : fs[i]? with
 | none=>rw [hf] at h;cases h
 | some f=>rw [hf] at h;simp only [Option.map_some,Option.some.injEq,Prod.mk.injEq] at h;exact ⟨f,rfl,h.1,h.2⟩
section
variable {H : Type} {enc : TypeId × Value → H} {w : World} {base : Nat} {spare : Nat → Bool} {held : Bool}
theorem trod_field {P : Program} {e : TypeId} {fs : Array Field} {l : Array (TypeId × Nat)} {fuel : Nat} {cs : List Value} {x : DataW H × List MemPlace} (he : P.underlying e = some (.struct fs)) (hfs : fs.map (fun f=>(f.type,f.offset)) = l)
  (h : DataW.trod enc P w base spare held fuel e cs = some x) {i : Nat} {ty : TypeId} {off : Nat} (hi : l[i]? = some (ty,off)) : ∃ n y,DataW.trod enc P w base spare held n ty ((cs.drop off).take (P.cellsOf ty)) = some y:=by
 obtain ⟨f,hf,rfl,rfl⟩:=field_at hfs hi
 obtain ⟨xs,m,_,_,_,hxl,hg⟩:=DataW.trod_struct he h
 have hlt : i < xs.length:=by rw [hxl];exact (Array.getElem?_eq_some_iff.1 hf).1
 have:=hg i f hf
 rw [List.getElem?_eq_getElem hlt] at this
 exact ⟨_,_,this⟩
theorem trod_field_int {P : Program} {e ei : TypeId} {fs : Array Field} {l : Array (TypeId × Nat)} {fuel : Nat} {cs : List Value} {x : DataW H × List MemPlace} (he : P.underlying e = some (.struct fs)) (hfs : fs.map (fun f=>(f.type,f.offset)) = l)
  (h : DataW.trod enc P w base spare held fuel e cs = some x) {i : Nat} {off : Nat} (hi : l[i]? = some (ei,off)) (hu : P.underlying ei = some (.int .i64)) (hc : P.cellsOf ei = 1) : ∃ n,(cs.drop off).take 1 = [.int .i64 n]:=by
 obtain ⟨n,y,hy⟩:=trod_field he hfs h hi
 rw [hc] at hy
 obtain ⟨z,e,_⟩:=DataW.trod_int hu hy
 exact ⟨z,e⟩
theorem trod_cond {fuel : Nat} {cs : List Value} {x : DataW H × List MemPlace} (hl : cs.length = 3) (h : DataW.trod enc Tryz.prog w base spare held fuel 153 cs = some x) : ∃ a : TCond,condR a cs:=by
 have hfs : (Tryz.prog.underlying 153).map (fun d=>match d with | .struct fs=>fs.map (fun f=>(f.type,f.offset)) | _=>#[]) = some #[(3,0),(3,1),(3,2)]:=by kernel_rfl
 obtain ⟨fs,he⟩ : ∃ fs,Tryz.prog.underlying 153 = some (.struct fs):=⟨_,Tryz.underlying153⟩
 rw [he] at hfs
 simp only [Option.map_some,Option.some.injEq] at hfs
 have hc : Tryz.prog.cellsOf 3 = 1:=by kernel_rfl
 obtain ⟨n0,e0⟩:=trod_field_int (i:=0) he hfs h rfl Tryz.underlying3 hc
 obtain ⟨n1,e1⟩:=trod_field_int (i:=1) he hfs h rfl Tryz.underlying3 hc
 obtain ⟨n2,e2⟩:=trod_field_int (i:=2) he hfs h rfl Tryz.underlying3 hc
 match cs,hl with
 | [c0,c1,c2],_ =>
  simp at e0 e1 e2
  exact ⟨⟨n0,n1,n2⟩,by simp [condR,e0,e1,e2]⟩
theorem trod_rule {fuel : Nat} {cs : List Value} {x : DataW H × List MemPlace} (hl : cs.length = 2) (h : DataW.trod enc Tryz.prog w base spare held fuel 147 cs = some x) : ∃ a : TRule,ruleR w (fun _=>True) a cs:=by
 have hfs : (Tryz.prog.underlying 147).map (fun d=>match d with | .struct fs=>fs.map (fun f=>(f.type,f.offset)) | _=>#[]) = some #[(145,0),(3,1)]:=by kernel_rfl
 obtain ⟨fs,he⟩ : ∃ fs,Tryz.prog.underlying 147 = some (.struct fs):=⟨_,Tryz.underlying147⟩
 rw [he] at hfs
 simp only [Option.map_some,Option.some.injEq] at hfs
 obtain ⟨n1,e1⟩:=trod_field_int (i:=1) he hfs h rfl Tryz.underlying3 (by kernel_rfl)
 obtain ⟨n,y,hy⟩:=trod_field (i:=0) he hfs h rfl
 have hc : Tryz.prog.cellsOf 145 = 1:=by kernel_rfl
 rw [hc] at hy
 obtain ⟨v,xs,hcs,hsl⟩:=sl_of_trod (sz:=3) Tryz.underlying145 (by kernel_rfl) (by omega) (fun _ _ _ hl hx=>trod_cond hl hx) hy
 match cs,hl with
 | [c0,c1],_ =>
  simp at e1 hcs
  exact ⟨⟨xs,n1⟩,v,by rw [hcs,e1],hsl⟩
theorem trod_pol {fuel : Nat} {cs : List Value} {x : DataW H × List MemPlace} (hl : cs.length = 2) (h : DataW.trod enc Tryz.prog w base spare held fuel 38 cs = some x) : ∃ a : TPol,polR w (fun _=>True) a cs:=by
 have hfs : (Tryz.prog.underlying 38).map (fun d=>match d with | .struct fs=>fs.map (fun f=>(f.type,f.offset)) | _=>#[]) = some #[(36,0),(3,1)]:=by kernel_rfl
 obtain ⟨fs,he⟩ : ∃ fs,Tryz.prog.underlying 38 = some (.struct fs):=⟨_,Tryz.underlying38⟩
 rw [he] at hfs
 simp only [Option.map_some,Option.some.injEq] at hfs
 obtain ⟨n1,e1⟩:=trod_field_int (i:=1) he hfs h rfl Tryz.underlying3 (by kernel_rfl)
 obtain ⟨n,y,hy⟩:=trod_field (i:=0) he hfs h rfl
 have hc : Tryz.prog.cellsOf 36 = 1:=by kernel_rfl
 rw [hc] at hy
 obtain ⟨v,xs,hcs,hsl⟩:=sl_of_trod (sz:=2) Tryz.underlying36 (by kernel_rfl) (by omega) (fun _ _ _ hl hx=>trod_rule hl hx) hy
 match cs,hl with
 | [c0,c1],_ =>
  simp at e1 hcs
  exact ⟨⟨xs,n1⟩,v,by rw [hcs,e1],hsl⟩
theorem open_pol {r : Reach} {b0 : Nat} {v : Value} {d : DataW H} {ps : List MemPlace}
  (hv : Value.okWide Tryz.prog w r b0 38 v) (h : DataW.Trod enc Tryz.prog w base spare held 38 v d ps) : ∃ (u : Value) (t : TPol),v = polV u t.dflt∧RdRules w (fun _=>True) u t.rules:=by
 simp only [Value.okWide,Tryz.underlying38] at hv
 obtain ⟨cs,rfl,_⟩:=hv
 obtain ⟨fuel,hf⟩:=h
 obtain ⟨xs,m,_,_,hlen,_,_⟩:=DataW.trod_struct Tryz.underlying38 hf
 have hc : Tryz.prog.cellsOf 38 = 2:=by kernel_rfl
 rw [hc] at hlen
 obtain ⟨t,u,hcs,hr⟩:=trod_pol hlen hf
 obtain ⟨l⟩:=cs
 simp only [Value.cells] at hcs
 subst hcs
 exact ⟨u,t,rfl,hr⟩
end
end Go.Proofs.YthkgjohhbdipcaaGreatDoor
namespace Go.Proofs.YthkgjohhbdipcaaGreatDoor
open Go.RowKit Go.ChangeShapes Go.WideShapes Go.Deep
set_option maxRecDepth 100000
section
variable {H : Type} {enc : TypeId × Value → H} {w : World} {base : Nat} {spare : Nat → Bool} {held : Bool}
end
end Go.Proofs.YthkgjohhbdipcaaGreatDoor
namespace Go.Proofs.YthkgjohhbdipcaaGreatDoor
open Go.RowKit Go.ChangeShapes Go.WideShapes Go.Deep
set_option maxRecDepth 100000
section
variable {H : Type} {enc : TypeId × Value → H} {w : World} {base : Nat} {spare : Nat → Bool} {held : Bool}
theorem trod_ins {fuel : Nat} {cs : List Value} {x : DataW H × List MemPlace} (hl : cs.length = 4) (h : DataW.trod enc Tryz.prog w base spare held fuel 141 cs = some x) : ∃ a : TIns,insR a cs:=by
 have hfs : (Tryz.prog.underlying 141).map (fun d=>match d with | .struct fs=>fs.map (fun f=>(f.type,f.offset)) | _=>#[]) = some #[(3,0),(3,1),(3,2),(3,3)]:=by kernel_rfl
 obtain ⟨fs,he⟩ : ∃ fs,Tryz.prog.underlying 141 = some (.struct fs):=⟨_,Tryz.underlying141⟩
 rw [he] at hfs
 simp only [Option.map_some,Option.some.injEq] at hfs
 have hc : Tryz.prog.cellsOf 3 = 1:=by kernel_rfl
 obtain ⟨n0,e0⟩:=trod_field_int (i:=0) he hfs h rfl Tryz.underlying3 hc
 obtain ⟨n1,e1⟩:=trod_field_int (i:=1) he hfs h rfl Tryz.underlying3 hc
 obtain ⟨n2,e2⟩:=trod_field_int (i:=2) he hfs h rfl Tryz.underlying3 hc
 obtain ⟨n3,e3⟩:=trod_field_int (i:=3) he hfs h rfl Tryz.underlying3 hc
 match cs,hl with
 | [c0,c1,c2,c3],_ =>
  simp at e0 e1 e2 e3
  exact ⟨⟨n0,n1,n2,n3⟩,by simp [insR,e0,e1,e2,e3]⟩
theorem trod_filter {fuel : Nat} {cs : List Value} {x : DataW H × List MemPlace} (_hl : cs.length = 1) (h : DataW.trod enc Tryz.prog w base spare held fuel 98 cs = some x) : ∃ f,chainR w (fun _=>True) f cs:=by
 obtain ⟨v,xs,hcs,hsl⟩:=sl_of_trod (sz:=4) Tryz.underlying98 (by kernel_rfl) (by omega) (fun _ _ _ hl hx=>trod_ins hl hx) h
 exact ⟨xs,v,hcs,hsl⟩
end
end Go.Proofs.YthkgjohhbdipcaaGreatDoor
namespace Go.Proofs.YthkgjohhbdipcaaGreatDoor
open Go.RowKit Go.ChangeShapes Go.WideShapes Go.Deep
set_option maxRecDepth 100000
section
variable {H : Type} {enc : TypeId × Value → H} {w : World} {base : Nat} {spare : Nat → Bool} {held : Bool}
theorem trod_cell {fuel : Nat} {cs : List Value} {x : DataW H × List MemPlace} (hl : cs.length = 4) (h : DataW.trod enc Tryz.prog w base spare held fuel 52 cs = some x) : ∃ a : TCell,cellR w (fun _=>True) a cs:=by
 have hfs : (Tryz.prog.underlying 52).map (fun d=>match d with | .struct fs=>fs.map (fun f=>(f.type,f.offset)) | _=>#[]) = some #[(4,0),(50,1),(38,2)]:=by kernel_rfl
 obtain ⟨fs,he⟩ : ∃ fs,Tryz.prog.underlying 52 = some (.struct fs):=⟨_,Tryz.underlying52⟩
 rw [he] at hfs
 simp only [Option.map_some,Option.some.injEq] at hfs
 have hc : Tryz.prog.cellsOf 4 = 1:=by kernel_rfl
 obtain ⟨n0,y0,h0⟩:=trod_field (i:=0) he hfs h rfl
 rw [hc] at h0
 obtain ⟨ob,e0,_⟩:=DataW.trod_bool Tryz.underlying4 h0
 obtain ⟨n1,y1,h1⟩:=trod_field (i:=1) he hfs h rfl
 have hc1 : Tryz.prog.cellsOf 50 = 1:=by kernel_rfl
 rw [hc1] at h1
 obtain ⟨v1,ch,e1,hsl⟩:=sl_of_trod (sz:=1) Tryz.underlying50 (by kernel_rfl) (by omega) (fun _ _ _ hl hx=>trod_filter hl hx) h1
 obtain ⟨n2,y2,h2⟩:=trod_field (i:=2) he hfs h rfl
 have hc2 : Tryz.prog.cellsOf 38 = 2:=by kernel_rfl
 rw [hc2] at h2
 match cs,hl with
 | [c0,c1,c2,c3],_ =>
  obtain ⟨p,v,hcs,hr⟩:=trod_pol (by simp) h2
  simp at e0 e1 hcs
  exact ⟨⟨ob,ch,p⟩,v1,v,by simp [e0,e1,hcs],hsl,hr⟩
end
end Go.Proofs.YthkgjohhbdipcaaGreatDoor
namespace Go.Proofs.YthkgjohhbdipcaaGreatDoor
open Go.RowKit Go.ChangeShapes Go.WideShapes Go.Deep
set_option maxRecDepth 100000
section
variable {H : Type} {enc : TypeId × Value → H} {w : World} {base : Nat} {spare : Nat → Bool} {held : Bool}
theorem trod_byte {fuel : Nat} {cs : List Value} {x : DataW H × List MemPlace} (h : DataW.trod enc Tryz.prog w base spare held fuel 5 cs = some x) : ∃ a : UInt8,byteR a cs:=by
 obtain ⟨n,rfl,_,hw⟩:=DataW.trod_int Tryz.underlying5 h
 have hr : 0≤n∧n < 256:=by
  simp [Lit.wf] at hw
  have h1 : IntKind.u8.min = 0:=by decide
  have h2 : IntKind.u8.max = 255:=by decide
  omega
 refine ⟨UInt8.ofNat n.toNat,?_⟩
 have e : (UInt8.ofNat n.toNat).toNat = n.toNat:=by
  rw [UInt8.toNat_ofNat'];omega
 unfold byteR
 rw [e,Int.toNat_of_nonneg hr.1]
theorem trod_bytes {fuel : Nat} {cs : List Value} {x : DataW H × List MemPlace} (h : DataW.trod enc Tryz.prog w base spare held fuel 23 cs = some x) : ∃ (v : Value) (l : List UInt8),cs = [v]∧RdBytes w (fun _=>True) v l :=
 sl_of_trod (sz:=1) Tryz.underlying23 (by kernel_rfl) (by omega) (fun _ _ _ _ hx=>trod_byte hx) h
theorem trod_disk {fuel : Nat} {cs : List Value} {x : DataW H × List MemPlace} (hl : cs.length = 2) (h : DataW.trod enc Tryz.prog w base spare held fuel 25 cs = some x) : ∃ (d : TDisk) (u v : Value),cs = [u,v]∧RdDisk w (fun _=>True) u v d:=by
 have hfs : (Tryz.prog.underlying 25).map (fun d=>match d with | .struct fs=>fs.map (fun f=>(f.type,f.offset)) | _=>#[]) = some #[(23,0),(23,1)]:=by kernel_rfl
 obtain ⟨fs,he⟩ : ∃ fs,Tryz.prog.underlying 25 = some (.struct fs):=⟨_,Tryz.underlying25⟩
 rw [he] at hfs
 simp only [Option.map_some,Option.some.injEq] at hfs
 have hc : Tryz.prog.cellsOf 23 = 1:=by kernel_rfl
 obtain ⟨n0,y0,h0⟩:=trod_field (i:=0) he hfs h rfl
 obtain ⟨n1,y1,h1⟩:=trod_field (i:=1) he hfs h rfl
 rw [hc] at h0 h1
 obtain ⟨u,l,e0,hu⟩:=trod_bytes h0
 obtain ⟨v,m,e1,hv⟩:=trod_bytes h1
 match cs,hl with
 | [c0,c1],_ =>
  simp at e0 e1
  exact ⟨⟨l,m⟩,u,v,by simp [e0,e1],hu,hv⟩
theorem open_world {r : Reach} {b0 : Nat} {v : Value} {d : DataW H} {ps : List MemPlace}
  (hv : Value.okWide Tryz.prog w r b0 27 v) (h : DataW.Trod enc Tryz.prog w base spare held 27 v d ps) : ∃ t : TWorld,∃ c u1 u2,v = worldV c u1 u2 t.up∧RdWorld w (fun _=>True) c u1 u2 t:=by
 simp only [Value.okWide,Tryz.underlying27] at hv
 obtain ⟨cs,rfl,_⟩:=hv
 obtain ⟨fuel,hf⟩:=h
 obtain ⟨xs,m,_,_,hlen,_,_⟩:=DataW.trod_struct Tryz.underlying27 hf
 have hc : Tryz.prog.cellsOf 27 = 4:=by kernel_rfl
 rw [hc] at hlen
 have hfs : (Tryz.prog.underlying 27).map (fun d=>match d with | .struct fs=>fs.map (fun f=>(f.type,f.offset)) | _=>#[]) = some #[(22,0),(25,1),(4,3)]:=by kernel_rfl
 obtain ⟨fs,he⟩ : ∃ fs,Tryz.prog.underlying 27 = some (.struct fs):=⟨_,Tryz.underlying27⟩
 rw [he] at hfs
 simp only [Option.map_some,Option.some.injEq] at hfs
 obtain ⟨n0,y0,h0⟩:=trod_field (i:=0) he hfs hf rfl
 have hc0 : Tryz.prog.cellsOf 22 = 1:=by kernel_rfl
 rw [hc0] at h0
 obtain ⟨v0,l0,e0,hl0⟩:=sl_of_trod (sz:=4) Tryz.underlying22 (by kernel_rfl) (by omega) (fun _ _ _ hl hx=>trod_cell hl hx) h0
 obtain ⟨n1,y1,h1⟩:=trod_field (i:=1) he hfs hf rfl
 have hc1 : Tryz.prog.cellsOf 25 = 2:=by kernel_rfl
 rw [hc1] at h1
 obtain ⟨n3,y3,h3⟩:=trod_field (i:=2) he hfs hf rfl
 have hc3 : Tryz.prog.cellsOf 4 = 1:=by kernel_rfl
 rw [hc3] at h3
 obtain ⟨ub,e3,_⟩:=DataW.trod_bool Tryz.underlying4 h3
 obtain ⟨l⟩:=cs
 simp only [Value.cells] at hlen e0 h1 e3
 match l,hlen with
 | [c0,c1,c2,c3],_ =>
  obtain ⟨t,u1,u2,hcs,hr⟩:=trod_disk (by simp) h1
  simp at e0 e3 hcs
  obtain ⟨rfl,rfl⟩:=hcs
  subst e0 e3
  exact ⟨⟨l0,t,ub⟩,_,_,_,rfl,hl0,hr⟩
theorem trod_hap {fuel : Nat} {cs : List Value} {x : DataW H × List MemPlace} (hl : cs.length = 5) (h : DataW.trod enc Tryz.prog w base spare held fuel 40 cs = some x) : ∃ a : THap,hapR w (fun _=>True) a cs:=by
 have hfs : (Tryz.prog.underlying 40).map (fun d=>match d with | .struct fs=>fs.map (fun f=>(f.type,f.offset)) | _=>#[]) = some #[(3,0),(3,1),(3,2),(38,3)]:=by kernel_rfl
 obtain ⟨fs,he⟩ : ∃ fs,Tryz.prog.underlying 40 = some (.struct fs):=⟨_,Tryz.underlying40⟩
 rw [he] at hfs
 simp only [Option.map_some,Option.some.injEq] at hfs
 have hc : Tryz.prog.cellsOf 3 = 1:=by kernel_rfl
 obtain ⟨n0,e0⟩:=trod_field_int (i:=0) he hfs h rfl Tryz.underlying3 hc
 obtain ⟨n1,e1⟩:=trod_field_int (i:=1) he hfs h rfl Tryz.underlying3 hc
 obtain ⟨n2,e2⟩:=trod_field_int (i:=2) he hfs h rfl Tryz.underlying3 hc
 obtain ⟨n,y,hy⟩:=trod_field (i:=3) he hfs h rfl
 have hc2 : Tryz.prog.cellsOf 38 = 2:=by kernel_rfl
 rw [hc2] at hy
 match cs,hl with
 | [c0,c1,c2,c3,c4],_ =>
  obtain ⟨p,v,hcs,hr⟩:=trod_pol (by simp) hy
  simp at e0 e1 e2 hcs
  exact ⟨⟨n0,n1,n2,p⟩,v,by simp [e0,e1,e2,hcs],hr⟩
theorem open_hap {r : Reach} {b0 : Nat} {v : Value} {d : DataW H} {ps : List MemPlace}
  (hv : Value.okWide Tryz.prog w r b0 40 v) (h : DataW.Trod enc Tryz.prog w base spare held 40 v d ps) : ∃ t : THap,∃ u,v = hapV t u∧RdRules w (fun _=>True) u t.p.rules:=by
 simp only [Value.okWide,Tryz.underlying40] at hv
 obtain ⟨cs,rfl,_⟩:=hv
 obtain ⟨fuel,hf⟩:=h
 obtain ⟨xs,m,_,_,hlen,_,_⟩:=DataW.trod_struct Tryz.underlying40 hf
 have hc : Tryz.prog.cellsOf 40 = 5:=by kernel_rfl
 rw [hc] at hlen
 obtain ⟨t,u,hcs,hr⟩:=trod_hap hlen hf
 obtain ⟨l⟩:=cs
 simp only [Value.cells] at hcs
 subst hcs
 exact ⟨t,u,rfl,hr⟩
theorem open_haps {r : Reach} {b0 : Nat} {v : Value} {d : DataW H} {ps : List MemPlace}
  (hv : Value.okWide Tryz.prog w r b0 28 v) (h : DataW.Trod enc Tryz.prog w base spare held 28 v d ps) : ∃ l,RdHaps w (fun _=>True) v l:=by
 obtain ⟨a,len,cap,rfl⟩:=okWide_slice Tryz.underlying28 hv
 obtain ⟨fuel,hf⟩:=h
 obtain ⟨v',xs,hcs,hsl⟩:=sl_of_trod (sz:=5) Tryz.underlying28 (by kernel_rfl) (by omega) (fun _ _ _ hl hx=>trod_hap hl hx) hf
 simp [Value.cells] at hcs
 rw [hcs]
 exact ⟨xs,hsl⟩
end
end Go.Proofs.YthkgjohhbdipcaaGreatDoor
