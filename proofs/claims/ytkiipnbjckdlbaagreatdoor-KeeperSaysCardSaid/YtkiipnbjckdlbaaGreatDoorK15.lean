/- Texts laid one behind the other: RCuts, RPoints, RJudge, RFirst, RShort, RDelta. No condition beyond theirs. -/
import Derived.Test.YtkiipnbjckdlbaaGreatDoorK14
import Derived.Test.YtkiipnbjckdlbaaGreatDoorK5
import Derived.Test.YtkiipnbjckdlbaaGreatDoorK2
import Derived.Test.YtkiipnbjckdlbaaGreatDoorK9
import Derived.Test.YtkiipnbjckdlbaaGreatDoorK3
import Derived.Test.YtkiipnbjckdlbaaGreatDoorK6
import Derived.Laws.ResultCell
namespace Go.Proofs.YtkiipnbjckdlbaaGreatDoor
open Go.RowKit Go.Maps

theorem BoolMap.mono {w : World} {b n n' : Nat} {f : Int → Bool} (h : BoolMap w b n f) (hn : n ≤ n') : BoolMap w b n' f := by
  obtain ⟨D, ho, hat⟩ := h
  exact ⟨D, ho.mono hn, hat⟩
/-- the map of cuts, as it stands behind some conditions. -/
def CutMap (w wr : World) (f : Int) (cs : List TCond) : Prop := BoolMap wr w.heap.size (1 + 2 * cs.length) (atAll f cs) ∧ Below w.heap.size w wr
theorem CutMap.below {w wr w' : World} {f : Int} {cs : List TCond} (h : CutMap w wr f cs) (hb : Below wr.heap.size wr w') : CutMap w w' f cs := ⟨h.1.below hb, h.2.trans (hb.mono h.2.size)⟩
theorem CutMap.skip {w wr : World} {f : Int} {cs : List TCond} {c : TCond} (h : CutMap w wr f cs) (hc : c.f ≠ f) : CutMap w wr f (cs ++ [c]) := by
  refine ⟨?_, h.2⟩
  rw [atAll_snoc]
  unfold atCond
  rw [if_neg hc]
  exact h.1.mono (by simp; omega)
theorem CutMap.put {w w' : World} {f op v : Int} {cs : List TCond} {x : Bool} (hx : x = (atAll f cs (v + 1) || decide (op = 1 ∨ op = 2))) (h : BoolMap w' w.heap.size (1 + 2 * cs.length + 1 + 1) (fun t => if t = v + 1 then x else (fun t => if t = v then true else atAll f cs t) t)) (hb : Below w.heap.size w w') : CutMap w w' f (cs ++ [⟨f, op, v⟩]) := by
  refine ⟨?_, hb⟩
  have e : atAll f (cs ++ [⟨f, op, v⟩]) = (fun t => if t = v + 1 then x else (fun t => if t = v then true else atAll f cs t) t) := by
    rw [atAll_snoc]
    unfold atCond
    rw [if_pos rfl]
    funext t
    simp only
    rw [if_neg (show ¬ v + 1 = v by omega), hx]
  rw [e]
  exact h.mono (by simp; omega)
theorem CutMap.start {w wr : World} {f : Int} (h : BoolMap wr w.heap.size 1 atStart) (hb : Below w.heap.size w wr) : CutMap w wr f [] := ⟨h, hb⟩
theorem BoolMap.put0 (w : World) : ∃ w', (Instr.mapUpdate 113 (.map (some w.heap.size)) (.int .i64 0) (.bool true)).run Tryz.prog (w.alloc (.map #[] 0)) = .ok () w' ∧ BoolMap w' w.heap.size 1 atStart ∧ (w.alloc (.map #[] 0)).grownBy w' (some w.heap.size) := by
  obtain ⟨D, ho, hat⟩ := BoolMap.made w
  have hkey := keyOf_int_mk (P := Tryz.prog) Tryz.underlying3 (wfInt (z := 0) (by omega) (by omega))
  obtain ⟨w', hrun, ho', hg⟩ := ho.update keyInt Tryz.underlying113 (by unfold maxLen; omega) hkey (plainElem_bool Tryz.underlying4 true)
  refine ⟨w', hrun, ⟨_, ho', fun t => ?_⟩, hg⟩
  show _ = DataW.lit (.bool (if t = 0 then true else false))
  by_cases e : t = 0
  · subst e
    rw [if_pos rfl, atKey_put_same ho.isMap (keyInt.key hkey)]
  · rw [if_neg e, atKey_put_other (fun e' => by injection e' with _ e'; exact e e')]
    exact hat t
theorem below_grow0 {w w' : World} (hb : Below w.heap.size w w') : w.grownBy w' none := ⟨hb.os, hb.tape, hb.output, hb.size, fun k hk _ => hb.block k hk⟩
theorem sorted_unique {xs M : List Int} (hnd : xs.Nodup) (hM : Rising M) (h : ∀ z, z ∈ xs ↔ z ∈ M) : (xs.mergeSort fun x y => decide (x ≤ y)) = M := by
  have hs : (xs.mergeSort fun x y => decide (x ≤ y)).Pairwise (fun x y => decide (x ≤ y) = true) := List.pairwise_mergeSort (fun a b c h1 h2 => by simp at *; omega) (fun a b => by simp; omega) xs
  have hp := List.mergeSort_perm xs (fun x y => decide (x ≤ y))
  have hn : (xs.mergeSort fun x y => decide (x ≤ y)).Nodup := hp.nodup_iff.2 hnd
  refine rising_unique _ _ ?_ hM fun z => by rw [hp.mem_iff]; exact h z
  exact (hs.and hn).imp fun {a b} hab => by
    have := of_decide_eq_true hab.1
    have := hab.2
    omega
theorem flatMap_takeC {α β : Type} (g : α → List β) (l : List α) (k : Nat) (h : k < l.length) : (l.take (k + 1)).flatMap g = (l.take k).flatMap g ++ g l[k] := by
  rw [List.take_succ_eq_append_getElem h, List.flatMap_append]
  simp

set_option maxRecDepth 100000 in
set_option maxHeartbeats 8000000 in
theorem rcuts_any (v : Value) (l : List TPol) (f : Int) (D : Nat → Prop) (w : World) (h : RdPols w D v l) (hok : ∀ p ∈ l, OkPol p) (hn : (1 + 2 * (l.flatMap polConds).length) * 8 ≤ 140737488355328) :
    Calls Tryz.prog 107 #[v, .int .i64 f] w fun e w' => ∃ v', e = .returned v' ∧ OwnSl w' w.heap.size 3 1 intR v' (cutsOf l f) ∧ Below w.heap.size w w' := by
  have H := Lib.hid h
  obtain ⟨a, c, rfl, hlc, hcm, hat⟩ := Sl.form h
  obtain ⟨i0, hi, hz0, hz1, hz2⟩ := info_parts infoInt
  have Hi := Lib.hid hi
  have Hok := Lib.hid hok
  have Hn := Lib.hid hn
  clear h hi hok hn
  have hmm := @run_makeMap Tryz.prog
  obtain ⟨w0, hmu, hb0, hg0⟩ := BoolMap.put0 w
  have HM0 : Hid (CutMap w w0 f []) := CutMap.start hb0 (Below.grown (bel_alloc (Below.refl _ _) _) hg0 (by simp) (fun g hg => by injection hg with hg; omega))
  clear hb0 hg0
  go_enter Tryz.func107, Tryz.ntmps107
  go_wp2_with fail
  clear hmm hmu
  go_loopw [19] (fun kv wr => ∃ k : Nat, kv = .int .i64 k ∧ k ≤ l.length ∧ CutMap w wr f ((l.take k).flatMap polConds)) (fun kv _ => l.length - (intOf kv).toNat)
  case atStart => exact ⟨0, rfl, by omega, HM0.out⟩
  case round =>
    obtain ⟨k, rfl, hk, hm⟩ := hrel
    have Hm := Lib.hid hm
    clear hm HM0
    have HbA := Lib.hid Hm.out.2
    by_cases hlt : k < l.length
    · obtain ⟨b, o, rfl, hDb, hblt⟩ := hat (by omega)
      obtain ⟨ca, cc, hc0w, hc1w, hrd, hcl, hcmx, hcat⟩ := RdPols.cells H.out hlt
      have Hs := Lib.hid (flatMap_takeC polConds l k hlt)
      obtain ⟨p, hp⟩ : ∃ p, l[k] = p := ⟨_, rfl⟩
      have Hkp := Lib.hid (Hok.out l[k] (List.getElem_mem hlt))
      rw [hp] at hc0w hc1w hrd hcl hcat Hkp Hs
      have hc0 := (HbA.out.cell (p := ⟨b, o + k * 2, none⟩) hblt).trans hc0w
      have hc1 := (HbA.out.cell (p := ⟨b, o + k * 2 + 1, none⟩) hblt).trans hc1w
      have HL1 : Hid (((l.take k).flatMap polConds).length + (p.rules.flatMap fun r => r.conds).length ≤ (l.flatMap polConds).length) := by
        show _ ≤ _
        have h1 : (l.flatMap polConds).length = ((l.take (k + 1)).flatMap polConds).length + ((l.drop (k + 1)).flatMap polConds).length := by rw [← List.length_append, ← List.flatMap_append, List.take_append_drop]
        rw [Hs.out, List.length_append] at h1
        unfold polConds at h1 ⊢
        omega
      have Hrd := Lib.hid hrd
      obtain ⟨L, hL⟩ : ∃ L, L = (l.take k).flatMap polConds := ⟨_, rfl⟩
      rw [← hL] at Hm Hs HL1
      have Hcs2 : Hid ((l.take (k + 1)).flatMap polConds = L ++ p.rules.flatMap fun r => r.conds) := Hs.out
      clear hrd hp hL hc0w hc1w
      obtain ⟨wo, rfl⟩ : ∃ wo : World, wo = wr := ⟨_, rfl⟩
      go_wp2_with fail
      clear hc0 hc1
      go_loopw [26] (fun jv wj => ∃ j : Nat, jv = .int .i64 j ∧ j ≤ p.rules.length ∧ CutMap w wj f (L ++ (p.rules.take j).flatMap fun r => r.conds)) (fun jv _ => p.rules.length - (intOf jv).toNat)
      case atStart => exact ⟨0, rfl, by omega, by simpa using Hm.out.below (bel_alloc (Below.refl _ _) _)⟩
      case round =>
        obtain ⟨j, rfl, hj, hm⟩ := hrel
        have Hmj := Lib.hid hm
        clear hm
        have HbJ := Lib.hid Hmj.out.2
        by_cases hjl : j < p.rules.length
        · obtain ⟨b2, o2, rfl, hDb2, hblt2⟩ := hcat (by omega)
          obtain ⟨da, dc, hd0w, hd1w, hrd2, hdl, hdmx, hdat⟩ := RdRules.cells Hrd.out hjl
          have Hs2 := Lib.hid (flatMap_takeC (fun r : TRule => r.conds) p.rules j hjl)
          obtain ⟨r, hr⟩ : ∃ r, p.rules[j] = r := ⟨_, rfl⟩
          have Hkr := Lib.hid (Hkp.out.rules p.rules[j] (List.getElem_mem hjl))
          rw [hr] at hd0w hd1w hrd2 hdl hdat Hkr Hs2
          have hd0 := (HbJ.out.cell (p := ⟨b2, o2 + j * 2, none⟩) hblt2).trans hd0w
          have hd1 := (HbJ.out.cell (p := ⟨b2, o2 + j * 2 + 1, none⟩) hblt2).trans hd1w
          have HL2 : Hid ((L ++ (p.rules.take j).flatMap fun r => r.conds).length + r.conds.length ≤ (l.flatMap polConds).length) := by
            show _ ≤ _
            have h0 := HL1.out
            have h1 : (p.rules.flatMap fun r => r.conds).length = ((p.rules.take (j + 1)).flatMap fun r => r.conds).length + ((p.rules.drop (j + 1)).flatMap fun r => r.conds).length := by rw [← List.length_append, ← List.flatMap_append, List.take_append_drop]
            rw [Hs2.out, List.length_append] at h1
            rw [List.length_append]
            omega
          have Hrd2 := Lib.hid hrd2
          obtain ⟨M, hM⟩ : ∃ M, M = L ++ (p.rules.take j).flatMap fun r => r.conds := ⟨_, rfl⟩
          rw [← hM] at Hmj HL2
          have Hs3 : Hid (L ++ ((p.rules.take (j + 1)).flatMap fun r => r.conds) = M ++ r.conds) := by show _ = _; rw [Hs2.out, hM, List.append_assoc]
          clear hrd2 hr hM hd0w hd1w
          obtain ⟨wo2, rfl⟩ : ∃ wo2 : World, wo2 = wr := ⟨_, rfl⟩
          go_wp2_with fail
          clear hd0 hd1
          go_loopw [33] (fun iv wi => ∃ i : Nat, iv = .int .i64 i ∧ i ≤ r.conds.length ∧ CutMap w wi f (M ++ r.conds.take i)) (fun iv _ => r.conds.length - (intOf iv).toNat)
          case atStart => exact ⟨0, rfl, by omega, by simpa using Hmj.out.below (bel_alloc (Below.refl _ _) _)⟩
          case round =>
            obtain ⟨i, rfl, hi, hm⟩ := hrel
            have Hmi := Lib.hid hm
            clear hm
            have HbI := Lib.hid Hmi.out.2
            by_cases hil : i < r.conds.length
            · obtain ⟨b3, o3, rfl, hDb3, hblt3⟩ := hdat (by omega)
              obtain ⟨he0, he1, he2⟩ := RdConds.cells (Hrd2.out.below HbI.out) hil
              have Htk := Lib.hid (List.take_succ_eq_append_getElem hil)
              have Hoc := Lib.hid (Hkr.out.conds r.conds[i] (List.getElem_mem hil))
              obtain ⟨⟨cf, cop, cv⟩, hcj⟩ : ∃ y : TCond, r.conds[i] = y := ⟨_, rfl⟩
              rw [hcj] at he0 he1 he2 Htk Hoc
              have hv0 : 0 ≤ cv := Hoc.out.v0
              have hv1 : cv ≤ 65535 := Int.le_trans Hoc.out.v1 (by show mostOf cf ≤ 65535; unfold mostOf; split <;> (try split) <;> omega)
              have ho0 : 1 ≤ cop := Hoc.out.o0
              have ho1 : cop ≤ 4 := Hoc.out.o1
              dsimp only at he0 he1 he2
              have hlen : 1 + 2 * (M ++ r.conds.take i).length + 2 ≤ 17592186044416 := by
                have h1 := HL2.out
                have h2 := Hn.out
                rw [List.length_append, List.length_take]
                omega
              obtain ⟨X, hX⟩ : ∃ X, X = M ++ r.conds.take i := ⟨_, rfl⟩
              have Hnx : Hid (M ++ r.conds.take (i + 1) = X ++ [⟨cf, cop, cv⟩]) := by show _ = _; rw [Htk.out, hX, List.append_assoc]
              rw [← hX] at Hmi hlen
              have hbx := cells_of (heap_last wr (.cells #[.int .i64 cf, .int .i64 cop, .int .i64 cv] 89))
              have Hm1 := Lib.hid (Hmi.out.below (bel_alloc (Below.refl _ _) (.cells #[.int .i64 cf, .int .i64 cop, .int .i64 cv] 89)))
              have hszw := Hmi.out.2.size
              have hblk := heap_last wr (.cells #[.int .i64 cf, .int .i64 cop, .int .i64 cv] 89)
              have Hblk := Lib.hid hblk
              have hmw : w.heap.size < wr.heap.size := Hmi.out.1.lt
              clear hcj hX hblk
              by_cases hcf : cf = f
              · subst hcf
                have hw1 : IntKind.i64.wrap (cv + 1) = cv + 1 := by rw [IntKind.wrap_i64]; omega
                have hbf : (cf == cf) = true := by simp
                obtain ⟨bv, hbv⟩ : ∃ bv, atAll cf X (cv + 1) = bv := ⟨_, rfl⟩
                have Hbv := Lib.hid hbv
                clear hbv
                cases bv
                all_goals rcases (by omega : cop = 1 ∨ cop = 2 ∨ cop = 3 ∨ cop = 4) with rfl | rfl | rfl | rfl
                all_goals
                  go_wp2_with (at_mapUpdate; first | (refine wpList_putBool rfl _ _ _ rfl w.heap.size _ _ rfl Hm1.out.1 (by unfold maxLen; omega) cv (by omega) (by omega) true rfl rfl ?_; intro w5 hm5 hg5; have Hm5 := Lib.hid hm5; have Hb5 := Lib.hid (Below.grown Hm1.out.2 hg5 Hm1.out.2.size (fun g hg => by injection hg with hg; omega)); have hb5 := cells_of ((hg5.block wr.heap.size (by simp) (fun e => by injection e with e; omega)).trans Hblk.out); have hlk := Hm5.out.look (z := cv + 1) (by omega) (by omega); simp only [show ¬ (cv + 1 = cv) by omega, if_false, Hbv.out] at hlk; clear hm5 hg5 hbx) | (refine wpList_putBool rfl _ _ _ rfl w.heap.size _ _ rfl Hm5.out (by unfold maxLen; omega) (cv + 1) (by omega) (by omega) _ rfl rfl ?_; intro w6 hm6 hg6; have Hm6 := Lib.hid hm6; have Hb6 := Lib.hid (Below.grown Hb5.out hg6 Hb5.out.size (fun g hg => by injection hg with hg; omega)); clear hm6 hg6))
                  go_roundw
                  case rel => exact ⟨i + 1, by go_num, by omega, by rw [Hnx.out]; exact CutMap.put (by rw [Hbv.out]; rfl) Hm6.out Hb6.out⟩
                  case measure => simp [intOf]; omega
              · have hb0 : (cf == f) = false := by simpa using hcf
                have Hm2 := Lib.hid (Hm1.out.skip (c := ⟨cf, cop, cv⟩) hcf)
                clear hcf
                go_wp2_with fail
                go_roundw
                case rel => exact ⟨i + 1, by go_num, by omega, by rw [Hnx.out]; exact Hm2.out⟩
                case measure => simp [intOf]; omega
            · obtain rfl : i = r.conds.length := by omega
              go_wp2
              go_roundw
              case rel => exact ⟨j + 1, by go_num, by omega, by have := Hmi.out; rw [List.take_length] at this; rw [Hs3.out]; exact this⟩
              case measure => simp [intOf]; omega
        · obtain rfl : j = p.rules.length := by omega
          go_wp2
          go_roundw
          case rel => exact ⟨k + 1, by go_num, by omega, by have := Hmj.out; rw [List.take_length] at this; rw [Hcs2.out]; exact this⟩
          case measure => simp [intOf]; omega
    · obtain rfl : k = l.length := by omega
      have hmf : CutMap w wr f (l.flatMap polConds) := by have := Hm.out; rw [List.take_length] at this; exact this
      obtain ⟨n, hn⟩ : ∃ n, n = 1 + 2 * (l.flatMap polConds).length := ⟨_, rfl⟩
      obtain ⟨g, hg⟩ : ∃ g, g = atAll f (l.flatMap polConds) := ⟨_, rfl⟩
      have Hg : Hid (∀ t, g t = true ↔ t ∈ cutVals l f) := fun t => by rw [hg]; exact atAll_true
      have Hmap : Hid (BoolMap wr w.heap.size n g) := by show BoolMap _ _ _ _; rw [hn, hg]; exact hmf.1
      have hn8 : n * 8 ≤ 140737488355328 := by rw [hn]; exact Hn.out
      have hmw : w.heap.size < wr.heap.size := hmf.1.lt
      clear hmf hn hg Hm
      obtain ⟨wB, rfl⟩ : ∃ wB : World, wB = wr := ⟨_, rfl⟩
      go_wp2_with (at_range; refine wpList_rangeBool rfl _ rfl w.heap.size n g rfl Hmap.out ?_; intro w2 left0 cnt0 hr0 hl0 hc0 hg0 hs0)
      go_frame
      go_loopw [12] (fun ov wi => ∃ (left : Int → Bool) (cnt : Nat) (vs : Value) (xs : List Int), vs = ov ∧ OwnSl wi (wB.heap.size + 1) 3 1 intR vs xs ∧ BoolRange wi w.heap.size wB.heap.size n g left cnt ∧ xs.Nodup ∧ (∀ z, z ∈ xs ↔ left z = false ∧ g z = true ∧ z ≤ mostOf f) ∧ xs.length + cnt ≤ n ∧ Below w.heap.size w wi) (fun _ wi => wi.rangeLeft w.heap.size wB.heap.size)
      case atStart => exact ⟨left0, cnt0, _, [], rfl, OwnSl.nil, hr0, List.nodup_nil, fun z => ⟨fun h => by simp at h, fun h => by have := hl0 z h.2.1; rw [h.1] at this; cases this⟩, by simpa using hc0, Below.grown HbA.out hg0 HbA.out.size (fun g hg => by cases hg)⟩
      case round =>
        obtain ⟨left, cnt, vs, xs, rfl, hown, hrg, hnd, hmem, hlen, hb⟩ := hrel
        have Hown := Lib.hid hown
        have HR := Lib.hid hrg
        have Hnd := Lib.hid hnd
        have Hmem := Lib.hid hmem
        have Hlen := Lib.hid hlen
        have Hb := Lib.hid hb
        have hrl := hrg.lt.1
        have Hob : Hid (∀ g, vs.ownBlock = some g → wB.heap.size + 1 ≤ g ∧ g < wr.heap.size) := fun g hg => by obtain ⟨rows, _, hrw⟩ := hown; exact hrw.lt g hg
        clear hown hrg hnd hmem hlen hb hr0 hl0 hc0 hg0 hs0
        go_wp2_with (at_next; refine wpList_nextBool rfl _ rfl w.heap.size wB.heap.size n g _ _ rfl HR.out ?_ ?_)
        · intro hl0
          have Hx : Hid (∀ z, z ∈ xs ↔ z ∈ cutsOf l f) := fun z => by
            rw [Hmem.out z, hl0 z, mem_cuts, Hg.out z]
            exact ⟨fun h => h.2, fun h => ⟨rfl, h⟩⟩
          have hxl : xs.length ≤ n := by have := Hlen.out; omega
          clear hl0
          go_wp2_with fail
          refine (sortI_any vs xs _ _ Hown.out (fun e => by have := (Hx.out 0).2 (zero_cut l f); rw [e] at this; simp at this) (by omega)).mono ?_
          rintro e w3 ⟨rfl, ho3, hg3⟩
          rw [sorted_unique Hnd.out (rising_cuts l f) Hx.out] at ho3
          have Ho3 := Lib.hid ho3
          have Hb3 := Lib.hid (Below.grown Hb.out hg3 Hb.out.size (fun g hg => by have := (Hob.out g hg).1; omega))
          clear ho3 hg3
          go_wp2
          go_ret
          exact ⟨_, rfl, Ho3.out.base (by omega), Hb3.out⟩
        · intro x w1 cnt1 hlx hr1 hlt hg1 hs1 hen
          have Ho1 : Hid (OwnSl w1 (wB.heap.size + 1) 3 1 intR vs xs) := Hown.out.keepFrom fun b hb hlt => hg1.block b hlt (fun e => by injection e with e; omega)
          have HR1 := Lib.hid hr1
          have Hb1 := Lib.hid (Below.grown Hb.out hg1 Hb.out.size (fun g hg => by injection hg with hg; omega))
          have Hlt := Lib.hid hlt
          have Hlx := Lib.hid hlx
          have hob1 : ∀ g, vs.ownBlock = some g → wB.heap.size + 1 ≤ g ∧ g < w1.heap.size := fun g hg => by have := Hob.out g hg; omega
          have Hob1 := Lib.hid hob1
          have hrl1 := hr1.lt.1
          obtain ⟨gx, hgx⟩ : ∃ b, g x = b := ⟨_, rfl⟩
          rw [hgx] at hen ⊢
          have Hgx := Lib.hid hgx
          clear hgx hr1 hg1 hs1 hlt hlx hob1
          have hnx : x ∉ xs := fun h => by have := ((Hmem.out x).1 h).1; rw [Hlx.out] at this; cases this
          have Hnx := Lib.hid hnx
          clear hnx
          cases gx with
          | false =>
            go_wp2_with fail
            go_roundw
            case rel =>
              refine ⟨_, cnt1, vs, xs, rfl, Ho1.out, HR1.out, Hnd.out, fun z => ?_, by have := Hlen.out; have := Hlt.out; omega, Hb1.out⟩
              by_cases hz : z = x
              · subst hz
                rw [Hgx.out]
                exact ⟨fun h => absurd h Hnx.out, fun h => by cases h.2.1⟩
              · rw [Hmem.out z]
                simp [hz]
            case measure => rw [HR1.out.left_eq, HR.out.left_eq]; exact Hlt.out
          | true =>
            go_wp2_with fail
            refine (mostof_any f _).mono ?_
            rintro e w3 ⟨rfl, hb3⟩
            have Ho3 := Lib.hid (Ho1.out.below hb3)
            have HR3 := Lib.hid (HR1.out.kept (below_grow0 hb3) (by simp) (by simp))
            have Hb3 := Lib.hid (Hb1.out.trans (hb3.mono Hb1.out.size))
            have hs13 := hb3.size
            clear hb3 hen
            by_cases hle : x ≤ mostOf f
            · have hd : decide (x ≤ mostOf f) = true := decide_eq_true hle
              have Hle := Lib.hid hle
              have HoA := Lib.hid (Ho3.out.below (bel_alloc (Below.refl _ w3) (.cells #[.int .i64 x] 3)))
              have HRA := Lib.hid (HR3.out.kept (below_grow0 (bel_alloc (Below.refl _ w3) (.cells #[.int .i64 x] 3))) (by simp) (by simp))
              have HbA3 := Lib.hid (Hb3.out.trans ((bel_alloc (Below.refl _ w3) (.cells #[.int .i64 x] 3)).mono Hb3.out.size))
              have hxl : xs.length + 1 ≤ n := by have := Hlen.out; have := Hlt.out; omega
              clear hle
              go_wp2_with (at_builtin; refine wpList_app2 rfl _ _ 116 rfl (wB.heap.size + 1) 3 i0 _ 1 8 Tryz.underlying116 Hi.out hz0 hz1 hz2 rfl (by decide) _ _ rfl HoA.out _ _ rfl (one_int (by simp)) (fun y _ cs h => intR_one y cs h) (by show _ + 1 ≤ maxLen; unfold maxLen; omega) (by show (_ + 1) * 8 ≤ _; omega) (by simp; omega) ?_; intro v' w5 hown' hg' hat'; have Hown' := Lib.hid hown'; have HR5 := Lib.hid (HRA.out.kept hg' (fun e => by have := (Hob1.out _ e.symm).1; omega) (fun e => by have := (Hob1.out _ e.symm).1; omega)); have Hb5 := Lib.hid (Below.grown HbA3.out hg' HbA3.out.size (fun g hg => by have := (Hob1.out g hg).1; omega)); clear hown' hg' hat')
              go_roundw
              case rel =>
                refine ⟨_, cnt1, v', xs ++ [x], rfl, Hown'.out, HR5.out, ?_, fun z => ?_, by have := Hlen.out; have := Hlt.out; simp; omega, Hb5.out⟩
                · rw [List.nodup_append]
                  exact ⟨Hnd.out, by simp, fun a ha b hb => by simp at hb; subst hb; exact fun e => Hnx.out (e ▸ ha)⟩
                · rw [List.mem_append, Hmem.out z]
                  by_cases hz : z = x
                  · subst hz
                    simp [Hgx.out, Hle.out]
                  · simp [hz]
              case measure => rw [HR5.out.left_eq, HR.out.left_eq]; exact Hlt.out
            · have hd : decide (x ≤ mostOf f) = false := decide_eq_false hle
              have Hle := Lib.hid hle
              clear hle
              go_wp2_with fail
              go_roundw
              case rel =>
                refine ⟨_, cnt1, vs, xs, rfl, Ho3.out, HR3.out, Hnd.out, fun z => ?_, by have := Hlen.out; have := Hlt.out; omega, Hb3.out⟩
                by_cases hz : z = x
                · subst hz
                  exact ⟨fun h => absurd h Hnx.out, fun h => by have h1 := Hle.out; have h2 := h.2.2; omega⟩
                · rw [Hmem.out z]
                  simp [hz]
              case measure => rw [HR3.out.left_eq, HR.out.left_eq]; exact Hlt.out
end Go.Proofs.YtkiipnbjckdlbaaGreatDoor
namespace Go.Proofs.YtkiipnbjckdlbaaGreatDoor
open Go.RowKit
attribute [local go_sem] gives givesUpon

/-- a region with one store, operation n. -/
def OneSt (n : Nat) (w1 w2 : World) (done : Nat → Bool) (W : World) : Prop := W = if done n = true then w2 else w1
section
variable {n k : Nat} {w1 w2 W : World} {done : Nat → Bool}
theorem OneSt.start : OneSt n w1 w2 (fun _ => false) w1 := rfl
theorem OneSt.before (h : OneSt n w1 w2 done W) (hd : done n = false) : W = w1 := by
  unfold OneSt at h
  rw [hd] at h
  exact h
theorem OneSt.step (hk : n ≠ k) (hd : done n = false) : OneSt n w1 w2 (updDone done k) w1 := by
  unfold OneSt updDone
  rw [if_neg hk, hd]
  rfl
theorem OneSt.at_ : OneSt n w1 w2 (updDone done n) w2 := by
  unfold OneSt updDone
  rw [if_pos rfl]
  rfl
theorem OneSt.after (h : OneSt n w1 w2 done W) (hd : done n = true) : W = w2 := by
  unfold OneSt at h
  rw [hd] at h
  exact h
end
theorem ints_set {w : World} {β k : Nat} {v u : Value} {l : List Int} (h : RdInts w (fun b => b ≠ β) u l) : RdInts (w.setCell ⟨β, k, none⟩ v) (fun b => b ≠ β) u l :=
  h.keep (fun _ hb _ => hb) (fun _ hb _ => set_other hb) (by rw [set_size]; exact Nat.le_refl _)
theorem cuts_len (l : List TPol) (f : Int) : (cutsOf l f).length ≤ (cutVals l f).length := by
  unfold cutsOf
  refine Nat.le_trans (List.length_filter_le _ _) ?_
  have h3 : ∀ m : List Int, (setOf m).length ≤ m.length := fun m => by
    have h4 : ∀ (x : Int) (m : List Int), (insU x m).length ≤ m.length + 1 := fun x m => by
      induction m with
      | nil => simp [insU]
      | cons y m ih => unfold insU; split <;> (try split) <;> simp <;> omega
    induction m with
    | nil => simp [setOf]
    | cons x m ih => have := h4 x (setOf m); simp [setOf]; omega
  exact h3 _
theorem flat_le2 (f : Int) : ∀ cs : List TCond, (cs.flatMap (condCuts f)).length ≤ 2 * cs.length
  | [] => by simp
  | c :: cs => by
    have := flat_le2 f cs
    have h2 : (condCuts f c).length ≤ 2 := by unfold condCuts; split <;> (try split) <;> simp
    simp only [List.flatMap_cons, List.length_append, List.length_cons]
    omega
theorem vals_le2 (l : List TPol) (f : Int) : (cutVals l f).length ≤ 1 + 2 * (l.flatMap polConds).length := by
  have e : l.flatMap (polCuts f) = (l.flatMap polConds).flatMap (condCuts f) := by
    unfold polCuts ruleCuts polConds
    simp only [List.flatMap_assoc]
  unfold cutVals
  rw [List.length_cons, e]
  have := flat_le2 f (l.flatMap polConds)
  omega

set_option maxRecDepth 100000 in
set_option maxHeartbeats 16000000 in
theorem rpoints_any (v : Value) (l : List TPol) (D : Nat → Prop) (w : World) (h : RdPols w D v l) (hn : polsE l = 0 → (1 + 2 * (l.flatMap polConds).length) * 8 ≤ 140737488355328) :
    Calls Tryz.prog 85 #[v] w fun e w' => ∃ v', e = .returned (.tuple #[v', .int .i64 (pointsE l).2]) ∧ OwnSl w' w.heap.size 24 5 callR v' (pointsE l).1 ∧ Below w.heap.size w w' := by
  have H := Lib.hid h
  have Hn := Lib.hid hn
  obtain ⟨i0, hi, hz0, hz1, hz2⟩ := info_parts infoCall
  have Hi := Lib.hid hi
  clear h hn hi
  go_enter Tryz.func85, Tryz.ntmps85
  go_wp2_with fail
  refine (rall_any _ l D _ H.out).mono ?_
  rintro e w1 ⟨rfl, hb1⟩
  have Hb1 := Lib.hid hb1
  have H1 := Lib.hid (RdPols.below H.out hb1)
  have hsz1 := hb1.size
  clear hb1
  by_cases h0 : polsE l = 0
  · have H0 := Lib.hid h0
    have Hok := Lib.hid ((polsE_iff l).1 h0)
    have Hnn := Lib.hid (Hn.out h0)
    rw [h0]
    clear h0
    go_wp2_with fail
    go_loopw [6, 17] (fun nv kv wr => ∃ (k : Nat) (cs : Array Value), kv = .int .i64 k ∧ nv = .int .i64 (sizes l k : Nat) ∧ k ≤ 5 ∧ sizes l k ≤ 1000 ∧ cs.size = 5 ∧ wr.heap[w1.heap.size]? = some (.cells cs 142) ∧ (∀ j : Nat, j < k → ∃ u, cs[j]? = some u ∧ RdInts wr (fun b => b ≠ w1.heap.size) u (cutsOf l j)) ∧ Below w1.heap.size w1 wr) (fun _ kv _ => 5 - (intOf kv).toNat)
    case atStart => exact ⟨0, #[.slice none 0 0, .slice none 0 0, .slice none 0 0, .slice none 0 0, .slice none 0 0], rfl, rfl, by omega, by simp [sizes], rfl, heap_last _ _, fun j hj => absurd hj (by omega), bel_alloc (Below.refl _ _) _⟩
    case round =>
      obtain ⟨k, cs, rfl, rfl, hk, hs, hcs, hbk, hrd, hb⟩ := hrel
      have Hs := Lib.hid hs
      have Hcs := Lib.hid hcs
      have Hbk := Lib.hid hbk
      have Hrd := Lib.hid hrd
      have Hb := Lib.hid hb
      have hszr := hb.size
      have hβ : w1.heap.size < wr.heap.size := (Array.getElem?_eq_some_iff.1 hbk).1
      clear hs hcs hbk hrd hb
      by_cases hlt : k < 5
      · have hk5 : (k : Int) < 5 := by omega
        have hk0 : (0 : Int) ≤ (k : Int) := by omega
        have hkw : IntKind.i64.wrap (k : Int) = (k : Int) := IntWalk.i64_in _ (by omega)
        go_wp2_with fail
        refine (rcuts_any _ l k D _ (RdPols.below H1.out Hb.out) Hok.out Hnn.out).mono ?_
        rintro e w2 ⟨v2, rfl, ho2, hb2⟩
        have Hb2 := Lib.hid (bel_call Hb.out hb2)
        have Hbk2 := Lib.hid (blk_below Hbk.out hb2)
        have Ho2 : Hid (RdInts w2 (fun b => b ≠ w1.heap.size) v2 (cutsOf l k)) := ho2.sl (fun b hb => by omega)
        have Hrd2 : Hid (∀ j : Nat, j < k → ∃ u, cs[j]? = some u ∧ RdInts w2 (fun b => b ≠ w1.heap.size) u (cutsOf l j)) := fun j hj => by obtain ⟨u, h1, h2⟩ := Hrd.out j hj; exact ⟨u, h1, h2.below hb2⟩
        obtain ⟨a2, c2, rfl⟩ := ho2.slice
        clear ho2 hb2
        have hlen : (cutsOf l k).length ≤ 17592186044416 := by
          have h1 := Hnn.out
          have h2 := cuts_len l k
          have h3 := vals_le2 l k
          omega
        have Hss : Hid (sizes l (k + 1) = sizes l k * (cutsOf l k).length) := rfl
        obtain ⟨m, hm⟩ : ∃ m, m = (cutsOf l k).length := ⟨_, rfl⟩
        obtain ⟨s, hs⟩ : ∃ s, s = sizes l k := ⟨_, rfl⟩
        obtain ⟨s', hs'⟩ : ∃ s', s' = sizes l (k + 1) := ⟨_, rfl⟩
        have hmul : (s : Int) * (m : Int) = (s' : Int) := by rw [hs', Hss.out, ← hs, ← hm, Int.natCast_mul]
        have hmb : s' ≤ 1000 * 17592186044416 := by rw [hs', Hss.out, ← hm]; exact Nat.mul_le_mul Hs.out (by rw [hm]; exact hlen)
        have hwr : IntKind.i64.wrap (s' : Int) = (s' : Int) := IntWalk.i64_in _ (by omega)
        have hce := cells_of Hbk2.out
        have hfe := not_frozen Hbk2.out
        have Hst := Lib.hid (set_at (o := k) (v := .slice a2 (cutsOf l k).length c2) Hbk2.out)
        have hse := cells_of Hst.out
        have hget : (cs.setIfInBounds k (.slice a2 (cutsOf l k).length c2))[k]? = some (.slice a2 (cutsOf l k).length c2) := Array.getElem?_setIfInBounds_self_of_lt (by rw [Hcs.out]; exact hlt)
        have hck : cs[k]? = some (cs[k]'(by rw [Hcs.out]; exact hlt)) := Array.getElem?_eq_getElem _
        rw [← hm] at hse hget
        rw [← hs, ← hm]
        have Hm := Lib.hid hm
        have HS := Lib.hid hs
        have HS' := Lib.hid hs'
        clear hm hs hs' hlen
        by_cases hbig : 1000 < s'
        · have hd : decide ((1000 : Int) < (s' : Int)) = true := decide_eq_true (by omega)
          have HP : Hid (pointsE l = ([], 2)) := pointsE_err2 H0.out hlt (by rw [← HS'.out]; exact hbig)
          clear hbig hmb
          go_wp2_with fail
          go_ret2
          rw [HP.out]
          exact ⟨_, rfl, OwnSl.nil, Hb1.out.trans ((set_below Hb2.out (Nat.le_refl _)).mono hsz1)⟩
        · have hd : decide ((1000 : Int) < (s' : Int)) = false := decide_eq_false (by omega)
          have Hbig := Lib.hid hbig
          clear hbig hmb
          go_wp2_with fail
          go_roundw
          case rel =>
            refine ⟨k + 1, cs.setIfInBounds k (.slice a2 m c2), by go_num, by rw [HS'.out], by omega, by rw [← HS'.out]; have := Hbig.out; omega, by rw [Array.size_setIfInBounds]; exact Hcs.out, by rw [Hm.out]; exact Hst.out, fun j hj => ?_, set_below Hb2.out (Nat.le_refl _)⟩
            by_cases hjk : j = k
            · subst hjk
              exact ⟨_, hget, by rw [Hm.out]; exact ints_set Ho2.out⟩
            · obtain ⟨u, h1, h2⟩ := Hrd2.out j (by omega)
              exact ⟨u, by rw [Array.getElem?_setIfInBounds_ne (Ne.symm hjk)]; exact h1, ints_set h2⟩
          case measure => simp [intOf]; omega
      · obtain rfl : k = 5 := by omega
        have HP : Hid (pointsE l = (stage l 5, 0)) := pointsE_of Hok.out Hs.out
        have Hsl := Lib.hid (stage_length l 5)
        have Htk := Lib.hid (fun i (h : i < sizes l 5) => stage_take (l := l) h)
        have hn1000 : sizes l 5 ≤ 1000 := Hs.out
        have Hcl : Hid (∀ k : Nat, (cutsOf l k).length ≤ 17592186044416) := fun k => by
          have h1 := Hnn.out
          have h2 := cuts_len l k
          have h3 := vals_le2 l k
          omega
        obtain ⟨n, hn⟩ : ∃ n, n = sizes l 5 := ⟨_, rfl⟩
        have HN := Lib.hid hn
        rw [← hn] at hn1000 ⊢
        clear hn
        obtain ⟨wB, rfl⟩ : ∃ wB : World, wB = wr := ⟨_, rfl⟩
        go_wp2_with fail
        go_loopw [8, 35] (fun ov iv wi => ∃ (i : Nat) (vs : Value), iv = .int .i64 i ∧ vs = ov ∧ i ≤ n ∧ OwnSl wi wB.heap.size 24 5 callR vs ((stage l 5).take i) ∧ Below wB.heap.size wB wi) (fun _ iv _ => n - (intOf iv).toNat)
        case atStart => exact ⟨0, _, rfl, rfl, Nat.zero_le _, OwnSl.nil, Below.refl _ _⟩
        case round =>
          obtain ⟨i, vs, rfl, rfl, hi, hown, hbi⟩ := hrel
          have Hown := Lib.hid hown
          have Hbi := Lib.hid hbi
          have hszi := hbi.size
          clear hown hbi
          by_cases hil : i < n
          · have Htki := Lib.hid (Htk.out i (by rw [← HN.out]; exact hil))
            have Hsli : Hid (((stage l 5).take i).length ≤ 1000) := by show _ ≤ _; rw [List.length_take]; omega
            obtain ⟨L, hL⟩ : ∃ L, L = (stage l 5).take i := ⟨_, rfl⟩
            rw [← hL] at Hown Htki Hsli
            obtain ⟨wo, rfl⟩ : ∃ wo : World, wo = wr := ⟨_, rfl⟩
            have hiw : IntKind.i64.wrap (i : Int) = (i : Int) := IntWalk.i64_in _ (by omega)
            have Hleft : Hid (i < sizes l 5) := by show _ < _; rw [← HN.out]; exact hil
            clear hL
            go_wp2_with fail
            go_loopw [9, 11] (fun qv kv wj => ∃ j : Nat, kv = .int .i64 (4 - (j : Int)) ∧ qv = .int .i64 (leftOf l i j : Nat) ∧ j ≤ 5 ∧ wj.heap[wo.heap.size]? = some (.cells (callArr (tellOf l i j)) 24) ∧ Below wo.heap.size wo wj) (fun _ kv _ => (intOf kv + 1).toNat)
            case atStart => exact ⟨0, rfl, rfl, by omega, heap_last _ _, bel_alloc (Below.refl _ _) _⟩
            case round =>
              obtain ⟨j, rfl, rfl, hj, hbox, hbj⟩ := hrel
              have Hbox := Lib.hid hbox
              have Hbj := Lib.hid hbj
              have hszj := hbj.size
              have hγ : wo.heap.size < wr.heap.size := (Array.getElem?_eq_some_iff.1 hbox).1
              clear hbox hbj
              by_cases hj5 : j < 5
              · obtain ⟨k, hk⟩ : ∃ k, k + j = 4 := ⟨4 - j, by omega⟩
                have e4 : (4 : Int) - (j : Int) = (k : Int) := by omega
                rw [e4]
                obtain ⟨u, hu, hru⟩ := Hrd.out k (by omega)
                obtain ⟨au, cu, rfl, _⟩ := Sl.form hru
                obtain ⟨b2, o2, rfl, _⟩ := Sl.at_ hru (cuts_pos l k)
                have hbB : Below wB.heap.size wB wr := Hbi.out.trans (Hbj.out.mono hszi)
                obtain ⟨x, hx⟩ : ∃ x, x = leftOf l i j := ⟨_, rfl⟩
                obtain ⟨m, hm⟩ : ∃ m, m = (cutsOf l k).length := ⟨_, rfl⟩
                have hm0 : 0 < m := by rw [hm]; exact cuts_pos l k
                obtain ⟨r, hr⟩ : ∃ r, r = x % m := ⟨_, rfl⟩
                have hrm : r < m := by rw [hr]; exact Nat.mod_lt _ hm0
                have hcell := RdInts.cell (hru.belowR hbB (fun _ _ _ h => h)) (i := r) (by rw [← hm]; exact hrm)
                obtain ⟨q, hq⟩ : ∃ q, q = (cutsOf l k)[r]'(by rw [← hm]; exact hrm) := ⟨_, rfl⟩
                rw [← hq] at hcell
                have Hq : Hid (cutAt l k x = q) := by
                  show cutAt l k x = q
                  have h1 := cutAt_get l k x
                  rw [← hm, ← hr, List.getElem?_eq_getElem (by rw [← hm]; exact hrm), ← hq] at h1
                  exact (Option.some.inj h1).symm
                have hbkj := cells_of (blk_below Hbk.out hbB)
                have hrw : IntKind.i64.wrap (r : Int) = (r : Int) := IntWalk.i64_in _ (by omega)
                have hm47 : m ≤ 17592186044416 := by rw [hm]; exact Hcl.out k
                have hx1 : x ≤ 1000 := by
                  have h1 := (left_lt Hleft.out).2 j hj
                  have h2 : sizes l (5 - j) ≤ sizes l 5 := sizes_le l (by omega)
                  rw [← hx] at h1
                  have h3 := HN.out
                  omega
                have hrem : Int.tmod (x : Int) (m : Int) = (r : Int) := by rw [hr]; exact (Int.ofNat_tmod x m).symm
                obtain ⟨d, hd⟩ : ∃ d, d = x / m := ⟨_, rfl⟩
                have hquo : Int.tdiv (x : Int) (m : Int) = (d : Int) := by rw [hd]; exact (Int.ofNat_tdiv x m).symm
                have hdx : d ≤ x := by rw [hd]; exact Nat.div_le_self x m
                have hdw : IntKind.i64.wrap (d : Int) = (d : Int) := IntWalk.i64_in _ (by omega)
                have hmn : ¬ (m = 0) := by omega
                have hk5 : (k : Int) < 5 := by omega
                have hk0 : (0 : Int) ≤ (k : Int) := by omega
                have hkw : IntKind.i64.wrap (k : Int) = (k : Int) := IntWalk.i64_in _ (by omega)
                have hrm' : (r : Int) < (m : Int) := by omega
                have hr0 : (0 : Int) ≤ (r : Int) := by omega
                rw [← hm] at hu
                rw [← hx]
                have Hx := Lib.hid hx
                have Hd := Lib.hid hd
                have Hm := Lib.hid hm
                obtain ⟨wd, hwd⟩ : ∃ wd, wd = wr.drew := ⟨_, rfl⟩
                have Hwd := Lib.hid hwd
                have hbkd : ∀ j, wd.cell? ⟨w1.heap.size, j, none⟩ = cs[j]? := fun j => by rw [hwd]; exact hbkj j
                have hcelld : wd.cell? ⟨b2, o2 + r, none⟩ = some (.int .i64 q) := by rw [hwd]; exact hcell
                have hbd : wd.heap[wo.heap.size]? = some (.cells (callArr (tellOf l i j)) 24) := by rw [hwd]; exact Hbox.out
                have Hbd := Lib.hid hbd
                have hfz := not_frozen hbd
                have hck : (callArr (tellOf l i j))[k]? = some (.int .i64 ((tellOf l i j).get k)) := callArr_get _ k (by omega)
                have hbdc := cells_of hbd
                clear hx hd hm hr hq hbkj hcell hbd hwd hru
                go_wp2_with fail
                refine wp_region_stores3 (OneSt 13 wd (wd.setCell ⟨wo.heap.size, k, none⟩ (.int .i64 q))) (by kernel_rfl) (by kernel_rfl) (by rw [← Hwd.out]; exact OneSt.start) _ rfl ?_
                iterate 13 (refine doneP_step (fun K hK => ?_); apply Exists.intro; refine ⟨fun done W hI h0 hd hn R hR => ?_, ?_⟩; (have h13 : done 13 = false := hn 13 (by decide); obtain rfl : W = wd := hI.before h13; clear h0 hd hn hI; go_simp; exact hR _ _ (OneSt.step (by decide) h13) rfl); (go_simp; refine hK _ ?_; clear hK K))
                (refine doneP_step (fun K hK => ?_); apply Exists.intro; refine ⟨fun done W hI h0 hd hn R hR => ?_, ?_⟩; (obtain rfl : W = wd := hI.before h0; clear h0 hd hn hI; go_simp; exact hR _ _ OneSt.at_ rfl); (go_simp; refine hK _ ?_; clear hK K))
                intro done W hd hI
                obtain rfl := hI.after (hd 13 (by decide))
                clear hd hI
                have Hq' := Lib.hid (callArr_set (tellOf l i j) k (by omega) q)
                have Hst := Lib.hid (set_at (o := k) (v := .int .i64 q) Hbd.out)
                have hbks : ∀ j, (wd.setCell ⟨wo.heap.size, k, none⟩ (.int .i64 q)).cell? ⟨w1.heap.size, j, none⟩ = cs[j]? := fun j => by rw [← hbkd j]; exact World.cell?_setCell_other _ _ _ _ (by intro h; simp only [Addr.mk.injEq] at h; omega)
                have Hbd2 : Hid (Below wo.heap.size wo (wd.setCell ⟨wo.heap.size, k, none⟩ (.int .i64 q))) := set_below (by rw [Hwd.out]; exact Hbj.out.drew) (Nat.le_refl _)
                clear hbkd hcelld hfz hbdc hmn
                have hmn : ¬ (m = 0) := by omega
                go_wp2_with fail
                go_roundw
                case rel => (repeat apply Exists.intro); exact ⟨⟨j + 1, by go_num, by rw [Hd.out, Hx.out, Hm.out]; show Value.int .i64 _ = Value.int .i64 ((leftOf l i j / (cutsOf l (4 - j : Nat)).length : Nat) : Int); rw [show 4 - j = k by omega], by omega, by show _ = some (Obj.cells (callArr ((tellOf l i j).set (4 - j) (cutAt l (4 - j) (leftOf l i j)))) _); rw [show 4 - j = k by omega, ← Hx.out, Hq.out, ← Hq'.out]; exact Hst.out, Hbd2.out⟩, rfl⟩
                case measure => first | (simp [intOf]; done) | (simp [intOf]; omega)
              · obtain rfl : j = 5 := by omega
                have Hown2 := Lib.hid ((Hown.out.below Hbj.out).below (bel_alloc (Below.refl _ wr) (.cells (callArr (tellOf l i 5)) 24)))
                have Hbi2 := Lib.hid ((Hbi.out.trans (Hbj.out.mono hszi)).trans ((bel_alloc (Below.refl _ wr) (.cells (callArr (tellOf l i 5)) 24)).mono (Nat.le_trans hszi hszj)))
                have hbc := cells_of Hbox.out
                generalize hT : tellOf l i 5 = T at *
                have hsl := Hsli.out
                go_wp2_with (at_builtin; refine wpList_app2 rfl _ _ 105 rfl wB.heap.size 24 i0 _ 5 40 Tryz.underlying105 Hi.out hz0 hz1 hz2 rfl (by decide) _ _ rfl Hown2.out _ _ rfl (one_call (x := T) (by simp)) (fun y _ cs h => callR_one y cs h) (by show _ + 1 ≤ maxLen; unfold maxLen; omega) (by show (_ + 1) * 40 ≤ _; omega) (by simp; omega) ?_; intro v' w5 hown' hg' hat'; have Hown' := Lib.hid hown'; have Hb5 := Lib.hid (Hown2.out.grown Hbi2.out hg' (by simp; omega) (Nat.le_refl _)); clear hown' hg' hat')
                go_roundw
                case rel => (repeat apply Exists.intro); exact ⟨⟨i + 1, v', by go_num, rfl, by omega, by rw [Htki.out]; exact Hown'.out, Hb5.out⟩, rfl⟩
                case measure => simp [intOf]; omega
          · obtain rfl : i = n := by omega
            have Ho : Hid (OwnSl wr wB.heap.size 24 5 callR vs (stage l 5)) := by
              have := Hown.out
              rw [List.take_of_length_le (by rw [Hsl.out, ← HN.out]; exact Nat.le_refl _)] at this
              exact this
            go_wp2
            go_ret2
            rw [HP.out]
            exact ⟨_, rfl, Ho.out.base (by omega), Hb1.out.trans ((Hb.out.trans (Hbi.out.mono hszr)).mono hsz1)⟩
  · have hb0 : (polsE l != 0) = true := bne_iff_ne.2 h0
    have HP : Hid (pointsE l = ([], polsE l)) := by show pointsE l = _; unfold pointsE; rw [if_pos h0]
    clear h0
    go_wp2
    go_ret2
    rw [HP.out]
    exact ⟨_, rfl, OwnSl.nil, Hb1.out⟩
end Go.Proofs.YtkiipnbjckdlbaaGreatDoor
namespace Go.Proofs.YtkiipnbjckdlbaaGreatDoor
open Go.RowKit
open Go.MapKept (IsKey)
attribute [local go_sem] gives givesUpon

/-- a condition of a number. -/
def holdsN (op v n : Int) : Bool := if op = 1 then n == v else if op = 2 then n != v else if op = 3 then decide (n < v) else decide (v ≤ n)
theorem holdsB_eq (c : TCond) (x : TCall) : holdsB c x = holdsN c.op c.v (x.get c.f) := rfl
@[reducible] def hm1 (n v : Int) : Array MapEntry := #[⟨.int .i64 1, .bool (n == v), 0⟩]
@[reducible] def hm2 (n v : Int) : Array MapEntry := #[⟨.int .i64 1, .bool (n == v), 0⟩, ⟨.int .i64 2, .bool (n != v), 1⟩]
@[reducible] def hm3 (n v : Int) : Array MapEntry := #[⟨.int .i64 1, .bool (n == v), 0⟩, ⟨.int .i64 2, .bool (n != v), 1⟩, ⟨.int .i64 3, .bool (decide (n < v)), 2⟩]
@[reducible] def hm4 (n v : Int) : Array MapEntry := #[⟨.int .i64 1, .bool (n == v), 0⟩, ⟨.int .i64 2, .bool (n != v), 1⟩, ⟨.int .i64 3, .bool (decide (n < v)), 2⟩, ⟨.int .i64 4, .bool (decide (v ≤ n)), 3⟩]
theorem hm_find (op n v : Int) (h0 : 1 ≤ op) (h1 : op ≤ 4) : ∃ j, Instr.findNow (.int .i64) (.int .i64 op) (hm4 n v).toList 0 = some (some (j, .bool (holdsN op v n))) := by
  have hop : op = 1 ∨ op = 2 ∨ op = 3 ∨ op = 4 := by omega
  rcases hop with rfl | rfl | rfl | rfl
  · exact ⟨0, rfl⟩
  · exact ⟨1, rfl⟩
  · exact ⟨2, rfl⟩
  · exact ⟨3, rfl⟩

set_option maxHeartbeats 2000000 in
theorem rholds_any (c : TCond) (n : Int) (w : World) (ho0 : 1 ≤ c.op) (ho1 : c.op ≤ 4) : Calls Tryz.prog 108 #[condV c, .int .i64 n] w fun e w' => e = .returned (.bool (holdsN c.op c.v n)) ∧ Below w.heap.size w w' := by
  obtain ⟨f, op, v⟩ := c
  dsimp only at ho0 ho1 ⊢
  have hmm := @run_makeMap Tryz.prog
  have hb : w.heap.size + 1 = (w.alloc (.cells #[.int .i64 f, .int .i64 op, .int .i64 v] 89)).heap.size := by simp
  have h1 := run_insert_at (P := Tryz.prog) (t := 113) (es := #[]) (c := 0) (key := .int .i64 1) (v := .bool (n == v)) hb Tryz.underlying113 Tryz.underlying3 rfl rfl
  have h2 := run_insert_at (P := Tryz.prog) (t := 113) (es := hm1 n v) (c := 1) (key := .int .i64 2) (v := .bool (n != v)) hb Tryz.underlying113 Tryz.underlying3 rfl rfl
  have h3 := run_insert_at (P := Tryz.prog) (t := 113) (es := hm2 n v) (c := 2) (key := .int .i64 3) (v := .bool (decide (n < v))) hb Tryz.underlying113 Tryz.underlying3 rfl rfl
  have h4 := run_insert_at (P := Tryz.prog) (t := 113) (es := hm3 n v) (c := 3) (key := .int .i64 4) (v := .bool (decide (v ≤ n))) hb Tryz.underlying113 Tryz.underlying3 rfl rfl
  simp only [List.push_toArray, List.nil_append, List.cons_append, Nat.reduceAdd] at h1 h2 h3 h4
  obtain ⟨j, hf⟩ := hm_find op n v ho0 ho1
  have hz : ∀ W : World, (zeroValue 4).run Tryz.prog W = .ok (.bool false) W := fun W => by kernel_rfl
  have h5 := run_lookup_bare (P := Tryz.prog) (key := .int .i64 op) (t := 113) Tryz.underlying113 Tryz.underlying3 (blk_at (w := w.alloc (.cells #[.int .i64 f, .int .i64 op, .int .i64 v] 89)) (o := .map (hm4 n v) 4) hb) (hz _) rfl hf
  simp only [Option.map_some, Option.getD_some] at h5
  clear hz hf hb
  go_enter Tryz.func108, Tryz.ntmps108
  go_wp2
  go_ret
  exact ⟨rfl, bel_alloc (bel_alloc (Below.refl _ _) _) _⟩

theorem callCells_get (x : TCall) {q : Nat} (h : q < 5) : (callCells x)[q]? = some (.int .i64 (x.get q)) := by
  have : q = 0 ∨ q = 1 ∨ q = 2 ∨ q = 3 ∨ q = 4 := by omega
  rcases this with rfl | rfl | rfl | rfl | rfl <;> rfl

theorem allHold_take_succ {x : TCall} {l : List TCond} {k : Nat} (hk : k < l.length) : allHold x (l.take (k + 1)) = (allHold x (l.take k) && holdsB l[k] x) := by
  rw [List.take_succ_eq_append_getElem hk]
  unfold allHold
  rw [List.all_append]
  simp
/-- which rule says, told from place k on. -/
def whichFrom (x : TCall) (rs : List TRule) (k : Nat) : Nat := k + which x (rs.drop k)
theorem whichFrom_end (x : TCall) (rs : List TRule) : whichFrom x rs rs.length = rs.length := by unfold whichFrom; rw [List.drop_length]; rfl
theorem whichFrom_zero (x : TCall) (rs : List TRule) : whichFrom x rs 0 = which x rs := by unfold whichFrom; simp
theorem whichFrom_yes {x : TCall} {rs : List TRule} {k : Nat} (h : k < rs.length) (hh : allHold x rs[k].conds = true) : whichFrom x rs k = k := by
  unfold whichFrom; rw [which_drop x rs k h, if_pos hh]; rfl
theorem whichFrom_no {x : TCall} {rs : List TRule} {k : Nat} (h : k < rs.length) (hh : allHold x rs[k].conds = false) : whichFrom x rs k = whichFrom x rs (k + 1) := by
  unfold whichFrom; rw [which_drop x rs k h, hh]; simp; omega
theorem verdictAt_lt {p : TPol} {k : Nat} (h : k < p.rules.length) : verdictAt p k = p.rules[k].verdict := by unfold verdictAt; rw [List.getElem?_eq_getElem h]
theorem verdictAt_end (p : TPol) : verdictAt p p.rules.length = p.dflt := by unfold verdictAt; rw [List.getElem?_eq_none (Nat.le_refl _)]

set_option maxHeartbeats 4000000 in
theorem rjudged_any (v : Value) (p : TPol) (x : TCall) (D : Nat → Prop) (w : World) (h : RdRules w D v p.rules) (hok : OkPol p) :
    Calls Tryz.prog 86 #[polV v p.dflt, callV x] w fun e w' => e = .returned (.tuple #[.int .i64 (judged p x).1, .int .i64 (judged p x).2]) ∧ Below w.heap.size w w' := by
  obtain ⟨a, c, rfl, hlc, hcm, hat⟩ := Sl.form h
  have H := Lib.hid h
  have Hok := Lib.hid hok
  have hlen : p.rules.length ≤ 120 := hok.len
  clear h hok
  go_enter Tryz.func86, Tryz.ntmps86
  go_wp2_with fail
  have hcl : ∀ W, Cls (w.heap.size + 2) ((w.alloc (.cells #[.slice a p.rules.length c, .int .i64 p.dflt] 37)).alloc (.cells (callCells x) 24)) W → ∀ j : Nat, W.cell? ⟨w.heap.size, j, none⟩ = (#[Value.slice a p.rules.length c, .int .i64 p.dflt] : Array Value)[j]? := fun W hW j => (box2_cells hW.2).1 j
  have Hcl := Lib.hid hcl
  clear hcl
  refine wp_region_exact3 (w.heap.size + 2) (by simp) (by kernel_rfl) (by kernel_rfl) ?_
  repeat (refine monoE_step (fun K hK => ?_); apply Exists.intro; refine ⟨fun W hC R hR => ?_, ?_⟩; (have hcell := Hcl.out W hC; go_simp; exact hR _ _ (Below.refl _ _) rfl); (go_simp; refine hK _ ?_; clear hK K))
  intro w2 hC2
  obtain ⟨hc1, hc2⟩ := box2_cells hC2.2
  have hv0 : verdictAt p (whichFrom x p.rules p.rules.length) = p.dflt := by rw [whichFrom_end, verdictAt_end]
  have Hv0 := Lib.hid hv0
  have Hw0 := Lib.hid (whichFrom_end x p.rules)
  clear hv0
  go_wp2_with fail
  go_loopw [6, 7, 8] (fun vd kk i wr => ∃ (k : Nat) (z : Int), k ≤ p.rules.length ∧ Hid (z = (k : Int) - 1) ∧ i = .int .i64 z ∧ vd = .int .i64 (verdictAt p (whichFrom x p.rules k)) ∧ kk = .int .i64 (whichFrom x p.rules k) ∧ Below (w.heap.size + 2) ((w.alloc (.cells #[.slice a p.rules.length c, .int .i64 p.dflt] 37)).alloc (.cells (callCells x) 24)) wr) (fun _ _ i _ => (intOf i + 1).toNat)
  case atStart => exact ⟨p.rules.length, _, Nat.le_refl _, rfl, rfl, by rw [Hv0.out], by rw [Hw0.out], hC2.2⟩
  case round =>
    obtain ⟨k, z, hk, hz, rfl, rfl, rfl, hbx⟩ := hrel
    have Hb := Lib.hid (bel_box2 hbx)
    have hsz := size_box2 hbx
    clear hc1 hc2 hC2 Hv0 Hw0
    obtain ⟨hc1, hc2⟩ := box2_cells hbx
    cases k with
    | zero =>
      obtain rfl : z = -1 := by have := hz.out; omega
      have Hw := Lib.hid (whichFrom_zero x p.rules)
      go_wp2
      go_ret2
      exact ⟨by rw [Hw.out]; rfl, Hb.out⟩
    | succ m =>
      obtain rfl : z = m := by have := hz.out; omega
      have hlt : m < p.rules.length := by omega
      obtain ⟨b, o, rfl, hDb, hbb⟩ := hat (by omega)
      obtain ⟨a', c', k0, k1, hr, hlc', hcm', hat'⟩ := RdRules.cells (RdRules.below H.out Hb.out) hlt
      have Hr := Lib.hid hr
      have Hrok := Lib.hid (Hok.out.rules _ (List.getElem_mem hlt))
      have hm0 : (0 : Int) ≤ m := by omega
      clear hr
      obtain ⟨wo, rfl⟩ : ∃ wo : World, wo = wr := ⟨_, rfl⟩
      go_wp2_with fail
      go_loopw [9, 32] (fun al i wr => ∃ (j : Nat) (ab : Bool), j ≤ p.rules[m].conds.length ∧ i = .int .i64 j ∧ al = .bool ab ∧ Hid (ab = allHold x (p.rules[m].conds.take j)) ∧ Below wo.heap.size wo wr) (fun _ i _ => p.rules[m].conds.length - (intOf i).toNat)
      case atStart => exact ⟨0, true, by omega, rfl, rfl, rfl, Below.refl _ _⟩
      case round =>
        obtain ⟨j, ab, hj, rfl, rfl, hab, hbi⟩ := hrel
        have hbx' := box2_step hbx hbi
        have Hbx := Lib.hid hbx'
        have hszi := hbi.size
        have Hbi := Lib.hid hbi
        clear hc1 hc2
        obtain ⟨hc1, hc2⟩ := box2_cells hbx'
        clear hbx'
        by_cases hlj : j < p.rules[m].conds.length
        · obtain ⟨b', o', rfl, hDb', hb'⟩ := hat' (by omega)
          obtain ⟨d0, d1, d2⟩ := RdConds.cells (RdConds.below Hr.out Hbi.out) hlj
          have Hck := Lib.hid (Hrok.out.conds _ (List.getElem_mem hlj))
          have Hsucc := Lib.hid (allHold_take_succ (x := x) hlj)
          clear k0 k1
          obtain ⟨q, hq⟩ : ∃ q : Nat, p.rules[m].conds[j].f = q := ⟨p.rules[m].conds[j].f.toNat, by have := Hck.out.f0; omega⟩
          have hq5 : q < 5 := by have := Hck.out.f1; omega
          rw [hq] at d0
          have Hq := Lib.hid hq
          clear hq
          have hx0 : ∀ W, Cls (wr.heap.size + 1) (wr.alloc (.cells #[.int .i64 q, .int .i64 p.rules[m].conds[j].op, .int .i64 p.rules[m].conds[j].v] 89)) W → (∀ i : Nat, W.cell? ⟨wr.heap.size, i, none⟩ = (#[.int .i64 q, .int .i64 p.rules[m].conds[j].op, .int .i64 p.rules[m].conds[j].v] : Array Value)[i]?) ∧ (∀ i : Nat, W.cell? ⟨w.heap.size + 1, i, none⟩ = (callCells x)[i]?) :=
            fun W hW => ⟨box_cells hW.2, fun i => ((hW.2.cell (p := ⟨w.heap.size + 1, i, none⟩) (by show w.heap.size + 1 < wr.heap.size + 1; omega)).trans (World.cell?_alloc_lt _ _ _ (by show w.heap.size + 1 < wr.heap.size; omega))).trans (hc2 i)⟩
          have Hx0 := Lib.hid hx0
          clear hx0
          have Hget := Lib.hid (callCells_get x hq5)
          cases ab with
          | true =>
            have Hn : Hid (holdsN p.rules[m].conds[j].op p.rules[m].conds[j].v (x.get q) = allHold x (p.rules[m].conds.take (j + 1))) := by
              have h2 := Hsucc.out
              rw [← hab.out, Bool.true_and, holdsB_eq, Hq.out] at h2
              exact h2.symm
            clear hab Hsucc
            have Hh : ∀ W : World, Calls Tryz.prog 108 #[.agg #[.int .i64 q, .int .i64 p.rules[m].conds[j].op, .int .i64 p.rules[m].conds[j].v], .int .i64 (x.get q)] W fun e w' => e = .returned (.bool (holdsN p.rules[m].conds[j].op p.rules[m].conds[j].v (x.get q))) ∧ Below W.heap.size W w' := fun W => rholds_any ⟨q, _, _⟩ _ W Hck.out.o0 Hck.out.o1
            have HH := Lib.hid Hh
            clear Hh
            have hqi : (q : Int) < 5 := by omega
            go_wp2_with fail
            refine wp_region_exact3 (wr.heap.size + 1) (by simp) (by kernel_rfl) (by kernel_rfl) ?_
            repeat (refine monoE_step (fun K hK => ?_); apply Exists.intro; refine ⟨fun W hC R hR => ?_, ?_⟩; (first
              | (have hcell := (Hx0.out W hC).1; go_simp; exact hR _ _ (Below.refl _ _) rfl)
              | (have hcell := ((Hx0.out W hC).2 q).trans Hget.out; go_simp; exact hR _ _ (Below.refl _ _) rfl)
              | (go_simp; go_at_call 108; refine (HH.out _).mono ?_; rintro e w1 ⟨rfl, hb1⟩; exact ⟨_, rfl, hR _ _ hb1 rfl⟩)); (go_simp; refine hK _ ?_; clear hK K))
            intro w2 hC2
            go_wp2_with fail
            go_roundw
            case rel => exact ⟨j + 1, _, by omega, by go_num, rfl, Hn, Hbi.out.trans ((bel_box hC2.2).mono Hbi.out.size)⟩
            case measure => simp [intOf]; omega
          | false =>
            have Hn : Hid (false = allHold x (p.rules[m].conds.take (j + 1))) := by
              have h2 := Hsucc.out
              rw [← hab.out, Bool.false_and] at h2
              exact h2.symm
            clear hab Hsucc
            go_wp2_with fail
            refine wp_region_exact3 (wr.heap.size + 1) (by simp) (by kernel_rfl) (by kernel_rfl) ?_
            repeat (refine monoE_step (fun K hK => ?_); apply Exists.intro; refine ⟨fun W hC R hR => ?_, ?_⟩; (go_simp; exact hR _ _ (Below.refl _ _) rfl); (go_simp; refine hK _ ?_; clear hK K))
            intro w2 hC2
            go_wp2_with fail
            go_roundw
            case rel => exact ⟨j + 1, _, by omega, by go_num, rfl, Hn, Hbi.out.trans ((bel_box hC2.2).mono Hbi.out.size)⟩
            case measure => simp [intOf]; omega
        · obtain rfl : j = p.rules[m].conds.length := by omega
          have Hab : Hid (ab = allHold x p.rules[m].conds) := by have := hab.out; rwa [List.take_length] at this
          have k1' := (Hbi.out.cell (p := ⟨b, o + m * 2 + 1, none⟩) (World.block_lt_of_cell? _ _ k1)).trans k1
          clear k0 k1 hab hat'
          cases ab with
          | true =>
            have Hn := Lib.hid (whichFrom_yes hlt Hab.out.symm)
            have Hvv := Lib.hid (verdictAt_lt hlt)
            clear Hab
            go_wp2
            go_roundw
            case rel => exact ⟨m, (m : Int) - 1, by omega, rfl, rfl, by rw [Hn.out, Hvv.out], by rw [Hn.out], Hbx.out⟩
            case measure => simp [intOf]
          | false =>
            have Hn := Lib.hid (whichFrom_no hlt Hab.out.symm)
            clear Hab
            go_wp2
            go_roundw
            case rel => exact ⟨m, (m : Int) - 1, by omega, rfl, rfl, by rw [Hn.out], by rw [Hn.out], Hbx.out⟩
            case measure => simp [intOf]
end Go.Proofs.YtkiipnbjckdlbaaGreatDoor
namespace Go.Proofs.YtkiipnbjckdlbaaGreatDoor
open Go.RowKit
attribute [local go_sem] gives givesUpon

theorem polConds_len {p : TPol} (h : OkPol p) : (polConds p).length ≤ 1200 := by
  have := flatMap_len (fun r : TRule => r.conds) 10 p.rules (fun r hr => (h.rules r hr).len)
  have := h.len
  show (p.rules.flatMap fun r => r.conds).length ≤ 1200
  omega
theorem rvals_len {l : List TPol} (h : polsE l = 0) (hl : l.length ≤ 2) : (1 + 2 * (l.flatMap polConds).length) * 8 ≤ 140737488355328 := by
  have h1 := flatMap_len polConds 1200 l (fun p hp => polConds_len ((polsE_iff l).1 h p hp))
  have : l.length * 1200 ≤ 2 * 1200 := Nat.mul_le_mul_right _ hl
  omega
def rlooserGo (pe : Int) (o : Option TCall) : Bool × TCall × Int := match o with
  | some x => (true, x, pe)
  | none => (false, zeroCall, pe)
theorem rlooser_spec {p q : TPol} {S : List TCall} {pe : Int} (h : pointsE [p, q] = (S, pe)) : (∀ x ∈ S, OkPol p ∧ OkPol q ∧ x.ok) ∧ S.length ≤ 1000 ∧ looserE p q = rlooserGo pe (S.find? (looserAt p q)) := by
  by_cases h0 : pe = 0
  · subst h0
    obtain ⟨hok, hsz, hpe⟩ := pointsE_ok (l := [p, q]) (by rw [h])
    rw [h] at hpe
    have hS : S = stage [p, q] 5 := (Prod.mk.inj hpe).1
    refine ⟨fun x hx => ⟨hok p (by simp), hok q (by simp), point_ok hok (hS ▸ hx)⟩, by rw [hS, stage_length]; exact hsz, ?_⟩
    unfold looserE
    rw [h]
    simp only [ne_eq, not_true_eq_false, if_false]
    unfold rlooserGo
    cases S.find? (looserAt p q) <;> rfl
  · have hS : S = [] := by
      unfold pointsE at h
      split at h
      · exact (Prod.mk.inj h).1.symm
      · split at h
        · exact (Prod.mk.inj h).1.symm
        · exact absurd (Prod.mk.inj h).2.symm h0
    subst hS
    refine ⟨fun x hx => by simp at hx, by simp, ?_⟩
    unfold looserE
    rw [h]
    rw [if_pos h0]
    rfl

set_option maxRecDepth 100000 in
set_option maxHeartbeats 8000000 in
theorem rlooser_any (u v : Value) (p q : TPol) (w : World) (hp : RdRules w (fun _ => True) u p.rules) (hq : RdRules w (fun _ => True) v q.rules) :
    Calls Tryz.prog 53 #[polV u p.dflt, polV v q.dflt] w fun e w' => e = .returned (.tuple #[.bool (looserE p q).1, callV (looserE p q).2.1, .int .i64 (looserE p q).2.2]) ∧ Below w.heap.size w w' := by
  have Hp := Lib.hid hp
  have Hq := Lib.hid hq
  obtain ⟨ap, cp, rfl, _⟩ := Sl.form hp
  obtain ⟨aq, cq, rfl, _⟩ := Sl.form hq
  obtain ⟨⟨S, pe⟩, hE⟩ : ∃ E, pointsE [p, q] = E := ⟨_, rfl⟩
  obtain ⟨hall, hSl, hL⟩ := rlooser_spec hE
  have HE := Lib.hid hE
  have Hall := Lib.hid hall
  have HL := Lib.hid hL
  clear hp hq hE hall hL
  go_enter Tryz.func53, Tryz.ntmps53
  go_wp2_with fail
  refine (rpoints_any _ [p, q] (fun _ => True) _ (two_pols (blk_at (by simp)) (Hp.out.below (bel_alloc (bel_alloc (bel_alloc (bel_alloc (Below.refl _ _) _) _) _) _)) (Hq.out.below (bel_alloc (bel_alloc (bel_alloc (bel_alloc (Below.refl _ _) _) _) _) _)) trivial) (fun h0 => rvals_len h0 (by simp))).mono ?_
  rw [HE.out]
  rintro e w1 ⟨v1, rfl, ho1, hb1⟩
  have HB1 := Lib.hid (Bx.three.below ((bel_alloc (Below.refl _ _) _).trans (hb1.mono (by simp))))
  have Ho1 := Lib.hid ho1
  obtain ⟨a1, c1, rfl⟩ := ho1.slice
  have Hl1 : Hid (RdCalls w1 (fun _ => True) (.slice a1 S.length c1) S) := Ho1.out.sl (fun _ _ => trivial)
  have hat := fun h0 => Sl.at_ Hl1.out h0
  clear ho1 hb1 Ho1
  go_wp2_with fail
  go_loopw [24] (fun kv wr => ∃ k : Nat, kv = .int .i64 k ∧ k ≤ S.length ∧ (S.drop k).find? (looserAt p q) = S.find? (looserAt p q) ∧ Below w1.heap.size w1 wr) (fun kv _ => S.length - (intOf kv).toNat)
  case atStart => exact ⟨0, rfl, Nat.zero_le _, rfl, Below.refl _ _⟩
  case round =>
    obtain ⟨k, rfl, hk, hfd, hb⟩ := hrel
    have Hfd := Lib.hid hfd
    have Hb := Lib.hid hb
    have hszr := hb.size
    have HBr := Lib.hid (HB1.out.below hb)
    have hc0 := HBr.out.cells0
    have hc1 := HBr.out.cells1
    clear hfd hb
    by_cases hlt : k < S.length
    · obtain ⟨b, o, rfl, _, hblt⟩ := hat (by omega)
      obtain ⟨h0c, h1c, h2c, h3c, h4c⟩ := RdCalls.cells (Hl1.out.below Hb.out) hlt
      have Hs := Lib.hid (find_drop (looserAt p q) S k hlt)
      have Hxo := Lib.hid (Hall.out S[k] (List.getElem_mem hlt))
      obtain ⟨x, hx⟩ : ∃ x, S[k] = x := ⟨_, rfl⟩
      rw [hx] at h0c h1c h2c h3c h4c Hs Hxo
      have HBa := Lib.hid (HBr.out.alloc (.cells (callArr x) 24))
      have Hxb : Hid ((wr.alloc (.cells (callArr x) 24)).heap[wr.heap.size]? = some (.cells (callArr x) 24)) := heap_last _ _
      have hc0' := HBa.out.cells0
      have hcx' := cells_of Hxb.out
      clear hx hc0 hc1
      go_wp2_with fail
      refine (rjudged_any _ p x _ _ (Hp.out.below HBa.out.bel) Hxo.out.1).mono ?_
      rintro e w2 ⟨rfl, hb2⟩
      have HB2 := Lib.hid (HBa.out.below hb2)
      have Hx2 := Lib.hid (blk_below Hxb.out hb2)
      have Hbb2 := Lib.hid (bel_alloc_call (Hb.out.mono (Nat.le_refl _)) hb2)
      have hc1 := HB2.out.cells1
      have hcx := cells_of Hx2.out
      clear hb2 hc0' hcx' h0c h1c h2c h3c h4c
      go_wp2_with fail
      refine (rjudged_any _ q x _ _ (Hq.out.below HB2.out.bel) Hxo.out.2.1).mono ?_
      rintro e w3 ⟨rfl, hb3⟩
      have HB3 := Lib.hid (HB2.out.below hb3)
      have Hx3 := Lib.hid (blk_below Hx2.out hb3)
      have Hbb3 := Lib.hid (bel_call Hbb2.out hb3)
      clear hb3 hc1 hcx
      by_cases hgt : (judged q x).1 < (judged p x).1
      · have hd : decide ((judged q x).1 < (judged p x).1) = true := decide_eq_true hgt
        have HR : Hid (looserE p q = (true, x, pe)) := by
          show looserE p q = _
          rw [HL.out, ← Hfd.out, Hs.out, if_pos (by unfold looserAt; exact hd)]
          rfl
        have hcx := cells_of Hx3.out
        have hc2 := HB3.out.cells2
        have hf2 : ∀ j, w3.frozen? ⟨w.heap.size + 1 + 1, j, none⟩ = false := fun j => HB3.out.free (i := 2) rfl j
        clear hgt
        go_wp2_with fail
        go_region
        have HBf := Lib.hid ((HB3.out.setCall2 (x := ⟨0, 0, 0, 0, 0⟩) (y := x)).drew)
        have hcf := HBf.out.cells2
        go_wp2
        refine bodyPost_ret (v := .tuple #[.bool true, callV x, .int .i64 pe]) ?_ rfl ⟨by rw [HR.out], HBf.out.bel⟩
        simp [results, Tryz.results53, go_sem, hcf]
      · have hd : decide ((judged q x).1 < (judged p x).1) = false := decide_eq_false hgt
        have HR : Hid ((S.drop (k + 1)).find? (looserAt p q) = S.find? (looserAt p q)) := by
          show _ = _
          have := Hs.out
          rw [if_neg (by unfold looserAt says; rw [hd]; simp), Hfd.out] at this
          exact this.symm
        clear hgt
        go_wp2
        go_roundw
        case rel => exact ⟨k + 1, by go_num, by omega, HR.out, Hbb3.out⟩
        case measure => simp [intOf]; omega
    · obtain rfl : k = S.length := by omega
      have HR : Hid (looserE p q = (false, zeroCall, pe)) := by
        show looserE p q = _
        rw [HL.out, ← Hfd.out, List.drop_length]
        rfl
      have hc2 := HBr.out.cells2
      have hf2 : ∀ j, wr.frozen? ⟨w.heap.size + 1 + 1, j, none⟩ = false := fun j => HBr.out.free (i := 2) rfl j
      clear hc0 hc1
      have HBf := Lib.hid (HBr.out.setCall2 (x := ⟨0, 0, 0, 0, 0⟩) (y := ⟨0, 0, 0, 0, 0⟩))
      have hcf := HBf.out.cells2
      go_wp2
      refine bodyPost_ret (v := .tuple #[.bool false, callV ⟨0, 0, 0, 0, 0⟩, .int .i64 pe]) ?_ rfl ⟨by rw [HR.out]; rfl, HBf.out.bel⟩
      simp [results, Tryz.results53, go_sem, hcf]
end Go.Proofs.YtkiipnbjckdlbaaGreatDoor
namespace Go.Proofs.YtkiipnbjckdlbaaGreatDoor
open Go.RowKit
attribute [local go_sem] gives givesUpon

/-- the rules that are left of the first k, and how many of these are needed. -/
def leftR (p : TPol) (S : List TCall) (k : Nat) : List TRule := usedRules (usedBy p S) (p.rules.take k) 0
theorem leftR_yes {p : TPol} {S : List TCall} {k : Nat} (h : k < p.rules.length) (hk : (usedBy p S).contains k = true) : leftR p S (k + 1) = leftR p S k ++ [p.rules[k]] := by
  unfold leftR
  rw [used_take h, if_pos hk]
theorem leftR_no {p : TPol} {S : List TCall} {k : Nat} (h : k < p.rules.length) (hk : (usedBy p S).contains k = false) : leftR p S (k + 1) = leftR p S k := by
  unfold leftR
  rw [used_take h, if_neg (by rw [hk]; simp), List.append_nil]
theorem leftR_len (p : TPol) (S : List TCall) (k : Nat) : (leftR p S k).length ≤ p.rules.length := by
  unfold leftR
  have := used_le (usedBy p S) (p.rules.take k) 0
  rw [List.length_take] at this
  omega
theorem used_mem {p : TPol} {S : List TCall} {j k : Nat} (h : j < S.length) (hw : which S[j] p.rules = k) : (usedBy p S).contains k = true := by
  rw [List.contains_iff_mem]
  exact List.mem_map.2 ⟨S[j], List.getElem_mem h, hw⟩
theorem used_not {p : TPol} {S : List TCall} {k : Nat} (h : ∀ x ∈ S, which x p.rules ≠ k) : (usedBy p S).contains k = false := by
  cases hc : (usedBy p S).contains k with
  | false => rfl
  | true =>
    rw [List.contains_iff_mem] at hc
    obtain ⟨x, hx, he⟩ := List.mem_map.1 hc
    exact absurd he (h x hx)
/-- one rule in a block of its own. -/
theorem one_rule {W : World} {b : Nat} {T : TypeId} {u : Value} {r : TRule} {D : Nat → Prop} (hb : W.heap[b]? = some (.cells #[u, .int .i64 r.verdict] T)) (hu : RdConds W D u r.conds) : Sl W (fun _ => True) 2 (ruleR W D) (.slice (some ⟨b, 0, none⟩) 1 1) [r] :=
  sl_block (xs := [r]) (rows := [[u, .int .i64 r.verdict]]) (RowsOf.cons RowsOf.nil ⟨_, rfl, hu⟩ rfl) hb rfl trivial (by simp [maxLen])
theorem rules_lift {w W : World} {B B' : Nat} {D : Nat → Prop} {v : Value} {l : List TRule} (h : OwnSl w B 80 2 (ruleR w D) v l) (hb : ∀ b, D b → b < w.heap.size → W.heap[b]? = w.heap[b]?) (hs : w.heap.size ≤ W.heap.size) (hk : ∀ b, B ≤ b → b < w.heap.size → W.heap[b]? = w.heap[b]?) (hB : B' ≤ B) : OwnSl W B' 80 2 (ruleR W D) v l :=
  (OwnSl.base (show OwnSl W B 80 2 (ruleR w D) v l by obtain ⟨rows, hr, ho⟩ := h; exact ⟨rows, hr, ownsRow_keep ho hk⟩) hB).monoR fun _ _ _ ⟨u, e1, e2⟩ => ⟨u, e1, e2.keep (fun _ h _ => h) hb hs⟩

set_option maxRecDepth 100000 in
set_option maxHeartbeats 16000000 in
theorem rshort_any (u : Value) (p : TPol) (D : Nat → Prop) (w : World) (hp : RdRules w D u p.rules) :
    Calls Tryz.prog 55 #[polV u p.dflt] w fun e w' => ∃ r, e = .returned (.tuple #[polV r (shortE p).1.dflt, .int .i64 (shortE p).2]) ∧ RdRules w' (fun b => D b ∨ w.heap.size ≤ b) r (shortE p).1.rules ∧ Below w.heap.size w w' := by
  have Hp : Hid (RdRules w (fun b => D b ∧ b < w.heap.size) u p.rules) := hp.keep (fun _ h hl => ⟨h, hl⟩) (fun _ _ _ => rfl) (Nat.le_refl _)
  obtain ⟨ap, cp, rfl, _⟩ := Sl.form hp
  clear hp
  go_enter Tryz.func55, Tryz.ntmps55
  go_wp2_with fail
  have HB := Lib.hid (Bx.two (w := w) (o := .cells #[.slice ap p.rules.length cp, .int .i64 p.dflt] 37) (o' := .cells #[.slice none 0 0, .int .i64 0] 37))
  refine (rpoints_any _ [p] (fun _ => True) _ (one_pol (blk_at (by simp)) ((RdRules.below Hp.out (bel_alloc HB.out.bel _)).keep (fun _ _ _ => trivial) (fun _ _ _ => rfl) (Nat.le_refl _)) trivial) (fun h0 => rvals_len h0 (by simp))).mono ?_
  rintro e w1 ⟨v1, rfl, ho1, hb1⟩
  replace HB := Lib.hid (HB.out.below ((bel_alloc (Below.refl _ _) (.cells #[.slice ap p.rules.length cp, .int .i64 p.dflt] 37)).trans (hb1.mono (by simp))))
  have hs1 : w.heap.size + 2 ≤ w1.heap.size := HB.out.top
  have Ho1 := Lib.hid ho1
  obtain ⟨a1, c1, rfl⟩ := ho1.slice
  clear ho1 hb1
  by_cases h0 : (pointsE [p]).2 = 0
  · obtain ⟨hok, hsz5, hpe⟩ := pointsE_ok h0
    have HE : Hid (shortE p = (shortPol p, 0)) := shortE_of (hok p (by simp)) hsz5
    have HokP := Lib.hid (hok p (by simp))
    have hlp := HokP.out.len
    rw [hpe] at Ho1 ⊢
    dsimp only at Ho1 ⊢
    have Hl1 : Hid (RdCalls w1 (fun _ => True) (.slice a1 (stage [p] 5).length c1) (stage [p] 5)) := Ho1.out.sl (fun _ _ => trivial)
    have hSl : (stage [p] 5).length ≤ 1000 := by rw [stage_length]; assumption
    have Hpo := Lib.hid (fun x (hx : x ∈ stage [p] 5) => point_ok hok hx)
    have HSP : Hid (shortPol p = ⟨trimD p.dflt (leftR p (stage [p] 5) p.rules.length), p.dflt⟩) := by show _ = _; unfold leftR; rw [List.take_length]; rfl
    obtain ⟨S, hS⟩ : ∃ S, S = stage [p] 5 := ⟨_, rfl⟩
    rw [← hS] at Hl1 Hpo hSl HSP ⊢
    have hat := fun h0 => Sl.at_ Hl1.out h0
    obtain ⟨i0, hi, hz0, hz1, hz2⟩ := info_parts infocRule
    have Hi := Lib.hid hi
    clear h0 hok hpe hS Ho1 hsz5 hi
    have hc0 := HB.out.cells0
    have hbl : Below w1.heap.size w1 (w1.alloc (.cells #[.slice none 0 0, .int .i64 p.dflt] 37)) := bel_alloc (Below.refl _ _) _
    have hc0' := (HB.out.below hbl).cells0
    have Hst : Hid ((w1.alloc (.cells #[.slice none 0 0, .int .i64 p.dflt] 37)).heap[w1.heap.size]? = some (.cells #[.slice none 0 0, .int .i64 p.dflt] 37)) := heap_last _ _
    go_wp2_with fail
    clear hc0 hc0'
    go_loopw [7, 30] (fun nv kv wr => ∃ (k : Nat) (v : Value), kv = .int .i64 k ∧ nv = .int .i64 ((trimD p.dflt (leftR p S k)).length : Nat) ∧ k ≤ p.rules.length ∧ wr.heap[w1.heap.size]? = some (.cells #[v, .int .i64 p.dflt] 37) ∧ OwnSl wr (w1.heap.size + 1) 80 2 (ruleR wr (fun b => D b ∧ b < w.heap.size)) v (leftR p S k) ∧ Below w1.heap.size w1 wr) (fun _ kv _ => p.rules.length - (intOf kv).toNat)
    case atStart => exact ⟨0, _, rfl, rfl, by omega, Hst.out, OwnSl.nil, hbl⟩
    case round =>
      obtain ⟨k, v, rfl, rfl, hk, hbox, hown, hb⟩ := hrel
      obtain ⟨wo, rfl⟩ : ∃ wo : World, wo = wr := ⟨_, rfl⟩
      have Hbox := Lib.hid hbox
      have Hown := Lib.hid hown
      have Hb := Lib.hid hb
      have hszr := hb.size
      have hβ : w1.heap.size < wo.heap.size := (Array.getElem?_eq_some_iff.1 hbox).1
      clear hbox hown hb Hst hbl
      have HBr := Lib.hid (HB.out.below Hb.out)
      have Hpr : Hid (RdRules wo (fun b => D b ∧ b < w.heap.size) (.slice ap p.rules.length cp) p.rules) := RdRules.below Hp.out HBr.out.bel
      by_cases hlt : k < p.rules.length
      · obtain ⟨bp, op, rfl, _, _⟩ := Sl.at_ Hpr.out (by omega)
        obtain ⟨ca, cc, hca0, hca1, hrd, _, _, _⟩ := RdRules.cells Hpr.out hlt
        have Hyes := Lib.hid (leftR_yes (p := p) (S := S) hlt)
        have Hno := Lib.hid (leftR_no (p := p) (S := S) hlt)
        obtain ⟨r, hr⟩ : ∃ r, p.rules[k] = r := ⟨_, rfl⟩
        rw [hr] at hca0 hca1 hrd Hyes
        have Hrd := Lib.hid hrd
        have hll := leftR_len p S k
        obtain ⟨U, hU⟩ : ∃ U, leftR p S k = U := ⟨_, rfl⟩
        rw [hU] at Hown Hyes Hno hll ⊢
        have htl := trim_le p.dflt U
        have Htr := Lib.hid (trim_len p.dflt r U)
        clear hrd hr hU
        obtain ⟨w2, hw2⟩ : ∃ w2, wo.alloc (.cells #[.slice ca r.conds.length cc, .int .i64 r.verdict] 80) = w2 := ⟨_, rfl⟩
        have Hb2 : Hid (Below wo.heap.size wo w2) := by show Below _ _ _; rw [← hw2]; exact bel_alloc (Below.refl _ _) _
        have H13 : Hid (w2.heap[wo.heap.size]? = some (.cells #[.slice ca r.conds.length cc, .int .i64 r.verdict] 80)) := by show _ = _; rw [← hw2]; exact heap_last _ _
        have hsz2 : w2.heap.size = wo.heap.size + 1 := by rw [← hw2]; simp
        go_wp2_with fail
        try rw [hw2]
        clear hca0 hca1 hw2
        go_loopw [7, 37] (fun nv jv wj => ∃ j : Nat, jv = .int .i64 j ∧ nv = .int .i64 ((trimD p.dflt U).length : Nat) ∧ j ≤ S.length ∧ (∀ x ∈ S.take j, which x p.rules ≠ k) ∧ Below w2.heap.size w2 wj) (fun _ jv _ => S.length - (intOf jv).toNat)
        case atStart => exact ⟨0, rfl, rfl, by omega, fun x hx => by simp at hx, Below.refl _ _⟩
        case round =>
          obtain ⟨j, rfl, rfl, hj, hnone, hbj⟩ := hrel
          obtain ⟨wj, rfl⟩ : ∃ wj : World, wj = wr := ⟨_, rfl⟩
          have Hnone := Lib.hid hnone
          have Hbj := Lib.hid hbj
          have hszj := hbj.size
          clear hnone hbj
          have HbO : Hid (Below wo.heap.size wo wj) := Hb2.out.trans (Hbj.out.mono (by omega))
          have HBj := Lib.hid (HBr.out.below HbO.out)
          by_cases hjl : j < S.length
          · obtain ⟨b, o, rfl, _, hblt⟩ := hat (by omega)
            obtain ⟨h0c, h1c, h2c, h3c, h4c⟩ := RdCalls.cells (Hl1.out.below (Hb.out.trans (HbO.out.mono hszr))) hjl
            have Hxo := Lib.hid (Hpo.out S[j] (List.getElem_mem hjl))
            have Hmem := Lib.hid (fun h => used_mem (p := p) (k := k) hjl h)
            have Htk : Hid (∀ x ∈ S.take (j + 1), x ∈ S.take j ∨ x = S[j]) := fun x hx => by
              rw [List.take_succ_eq_append_getElem hjl] at hx
              rcases List.mem_append.1 hx with hx | hx
              · exact .inl hx
              · exact .inr (by simpa using hx)
            obtain ⟨x, hx⟩ : ∃ x, S[j] = x := ⟨_, rfl⟩
            rw [hx] at h0c h1c h2c h3c h4c Hxo Hmem Htk
            have HBx := Lib.hid (HBj.out.alloc (.cells #[.int .i64 x.a0, .int .i64 x.a1, .int .i64 x.a2, .int .i64 x.a3, .int .i64 x.a4] 24))
            have hc0' := HBx.out.cells0
            clear hx
            go_wp2_with fail
            clear h0c h1c h2c h3c h4c hc0'
            refine (rjudged_any _ p x (fun b => D b ∧ b < w.heap.size) _ (RdRules.below Hp.out HBx.out.bel) HokP.out).mono ?_
            rintro e w3 ⟨rfl, hb3⟩
            have Hb3 : Hid (Below wo.heap.size wo w3) := (HbO.out.trans ((bel_alloc (Below.refl wj.heap.size wj) _).mono (by omega))).trans (hb3.mono (by simp; omega))
            have Hbk3 : Hid (Below w2.heap.size w2 w3) := (Hbj.out.trans ((bel_alloc (Below.refl wj.heap.size wj) _).mono hszj)).trans (hb3.mono (by simp; omega))
            have hsz3 : wj.heap.size + 1 ≤ w3.heap.size := by have := hb3.size; simp at this; omega
            clear hb3
            obtain ⟨wi, hwi⟩ : ∃ wi, which x p.rules = wi := ⟨_, rfl⟩
            have hj2 : (judged p x).2 = wi := by rw [← hwi]; rfl
            rw [hj2]
            have Hwi := Lib.hid hwi
            clear hj2 hwi
            by_cases hik : wi = k
            · subst hik
              have hu := Hmem.out Hwi.out
              have HU : Hid (leftR p S (wi + 1) = U ++ [r]) := Hyes.out hu
              have hbox3 := Lib.hid (blk_below Hbox.out Hb3.out)
              have Hown3 := Lib.hid (rules_lift (B' := w1.heap.size + 1) Hown.out (fun b hb hl => Hb3.out.block b hl) Hb3.out.size (fun b _ hl => Hb3.out.block b hl) (Nat.le_refl _))
              have H133 : Hid (w3.heap[wo.heap.size]? = some (.cells #[.slice ca r.conds.length cc, .int .i64 r.verdict] 80)) := (Hbk3.out.block _ (by omega)).trans H13.out
              have Hrd3 : Hid (RdConds w3 (fun b => D b ∧ b < w.heap.size) (.slice ca r.conds.length cc) r.conds) := Hrd.out.below Hb3.out
              have hcb := cells_of hbox3.out
              have hcr := cells_of H133.out
              obtain ⟨av, cv, rfl⟩ := Hown3.out.slice
              have hne : ∀ g, (Value.slice av U.length cv).ownBlock = some g → w1.heap.size + 1 ≤ g ∧ g < wo.heap.size := fun g hg => by
                obtain ⟨rows, _, ho⟩ := Hown.out
                exact ho.lt g hg
              have Hne := Lib.hid hne
              have hul : U.length ≤ 120 := by omega
              clear hu hne
              have HbA := Lib.hid (bel_alloc (Below.refl w3.heap.size w3) (.cells #[.slice ca r.conds.length cc, .int .i64 r.verdict] 80))
              have HownA := Lib.hid (rules_lift (B' := w1.heap.size + 1) Hown3.out (fun b hb hl => HbA.out.block b hl) HbA.out.size (fun b _ hl => HbA.out.block b hl) (Nat.le_refl _))
              have Hnew : Hid (Sl (w3.alloc (.cells #[.slice ca r.conds.length cc, .int .i64 r.verdict] 80)) (fun _ => True) 2 (ruleR (w3.alloc (.cells #[.slice ca r.conds.length cc, .int .i64 r.verdict] 80)) (fun b => D b ∧ b < w.heap.size)) (.slice (some ⟨w3.heap.size, 0, none⟩) 1 1) [r]) := one_rule (heap_last _ _) (Hrd3.out.below HbA.out)
              have hlU : (U ++ [r]).length = U.length + 1 := by simp
              by_cases hvd : r.verdict = p.dflt
              · have hb0 : (r.verdict != p.dflt) = false := by rw [hvd]; simp
                have HT : Hid ((trimD p.dflt (U ++ [r])).length = (trimD p.dflt U).length) := by show _ = _; rw [Htr.out, if_pos hvd]
                clear hvd
                go_wp2_with (at_builtin; refine wpList_app2 rfl _ _ 35 rfl (w1.heap.size + 1) 80 i0 _ 2 32 Tryz.underlying35 Hi.out hz0 hz1 hz2 rfl (by decide) _ _ rfl HownA.out _ _ rfl Hnew.out (fun y _ cs h => ruleR_one y cs h) (by show _ + 1 ≤ maxLen; unfold maxLen; omega) (by show (_ + 1) * 32 ≤ _; omega) (by simp; omega) ?_; intro v' w5 hown' hg' hat'; have Hown5 := Lib.hid hown'; have Hg5 := Lib.hid hg'; have Hat5 := Lib.hid hat'; have HbG := Lib.hid (HownA.out.grown ((Hb.out.trans (Hb3.out.mono hszr)).trans (HbA.out.mono (by omega))) hg' (by simp; omega) (Nat.le_succ _)); clear hown' hg' hat'; have Hbox5 : Hid (w5.heap[w1.heap.size]? = some (.cells #[.slice av U.length cv, .int .i64 p.dflt] 37)) := (Hg5.out.block _ (by simp; omega) (fun e => by have := (Hne.out _ e.symm).1; omega)).trans (blk_below hbox3.out HbA.out); have H135 : Hid (w5.heap[wo.heap.size]? = some (.cells #[.slice ca r.conds.length cc, .int .i64 r.verdict] 80)) := (Hg5.out.block _ (by simp; omega) (fun e => by have := (Hne.out _ e.symm).2; omega)).trans (blk_below H133.out HbA.out); have hc5 := cells_of Hbox5.out; have hf5 := not_frozen Hbox5.out; obtain ⟨a5, c5, rfl⟩ := Hown5.out.slice; rw [hlU] at Hown5 Hat5 ⊢; have hr6 := cells_of ((set_other (a := ⟨w1.heap.size, 0, none⟩) (v := .slice a5 (U.length + 1) c5) (show wo.heap.size ≠ w1.heap.size by omega)).trans H135.out); have Hbox6 := Lib.hid (set_at (o := 0) (v := .slice a5 (U.length + 1) c5) Hbox5.out); have hc6 := cells_of Hbox6.out; have Hb6 : Hid (Below w1.heap.size w1 (w5.setCell ⟨w1.heap.size, 0, none⟩ (.slice a5 (U.length + 1) c5))) := set_below HbG.out (Nat.le_refl _); have hp6 := (HB.out.below Hb6.out).cells0; have Hown6 : Hid (OwnSl (w5.setCell ⟨w1.heap.size, 0, none⟩ (.slice a5 (U.length + 1) c5)) (w1.heap.size + 1) 80 2 (ruleR (w5.setCell ⟨w1.heap.size, 0, none⟩ (.slice a5 (U.length + 1) c5)) (fun b => D b ∧ b < w.heap.size)) (.slice a5 (U.length + 1) c5) (U ++ [r])) := ((Hown5.out.set (a := ⟨w1.heap.size, 0, none⟩) (x := .slice a5 (U.length + 1) c5) (fun e => by rcases Hat5.out with h | h; (have := (Hne.out w1.heap.size (h.symm.trans e)).1; omega); (rw [h] at e; simp at e; omega))).monoR fun _ _ _ ⟨u, e1, e2⟩ => ⟨u, e1, e2.keep (fun _ h _ => h) (fun b hb _ => by have h1 : b < w.heap.size := hb.2; rw [set_other (by show b ≠ w1.heap.size; omega)]; exact Hg5.out.block b (by simp; omega) (fun e => by have := (Hne.out _ e.symm).1; omega)) (by rw [set_size]; exact Hg5.out.size)⟩))
                go_roundw
                case rel => first | exact ⟨wi + 1, _, by go_num, by rw [HU.out, HT.out]; first | done | rfl, by omega, Hbox6.out, by rw [HU.out]; exact Hown6.out, Hb6.out⟩ | ((repeat apply Exists.intro); exact ⟨⟨wi + 1, _, by go_num, by rw [HU.out, HT.out]; first | done | rfl, by omega, Hbox6.out, by rw [HU.out]; exact Hown6.out, Hb6.out⟩, rfl⟩)
                case measure => simp [intOf]; omega
              · have hb0 : (r.verdict != p.dflt) = true := bne_iff_ne.2 hvd
                have HT : Hid ((trimD p.dflt (U ++ [r])).length = U.length + 1) := by show _ = _; rw [Htr.out, if_neg hvd]
                clear hvd
                go_wp2_with (at_builtin; refine wpList_app2 rfl _ _ 35 rfl (w1.heap.size + 1) 80 i0 _ 2 32 Tryz.underlying35 Hi.out hz0 hz1 hz2 rfl (by decide) _ _ rfl HownA.out _ _ rfl Hnew.out (fun y _ cs h => ruleR_one y cs h) (by show _ + 1 ≤ maxLen; unfold maxLen; omega) (by show (_ + 1) * 32 ≤ _; omega) (by simp; omega) ?_; intro v' w5 hown' hg' hat'; have Hown5 := Lib.hid hown'; have Hg5 := Lib.hid hg'; have Hat5 := Lib.hid hat'; have HbG := Lib.hid (HownA.out.grown ((Hb.out.trans (Hb3.out.mono hszr)).trans (HbA.out.mono (by omega))) hg' (by simp; omega) (Nat.le_succ _)); clear hown' hg' hat'; have Hbox5 : Hid (w5.heap[w1.heap.size]? = some (.cells #[.slice av U.length cv, .int .i64 p.dflt] 37)) := (Hg5.out.block _ (by simp; omega) (fun e => by have := (Hne.out _ e.symm).1; omega)).trans (blk_below hbox3.out HbA.out); have H135 : Hid (w5.heap[wo.heap.size]? = some (.cells #[.slice ca r.conds.length cc, .int .i64 r.verdict] 80)) := (Hg5.out.block _ (by simp; omega) (fun e => by have := (Hne.out _ e.symm).2; omega)).trans (blk_below H133.out HbA.out); have hc5 := cells_of Hbox5.out; have hf5 := not_frozen Hbox5.out; obtain ⟨a5, c5, rfl⟩ := Hown5.out.slice; rw [hlU] at Hown5 Hat5 ⊢; have hr6 := cells_of ((set_other (a := ⟨w1.heap.size, 0, none⟩) (v := .slice a5 (U.length + 1) c5) (show wo.heap.size ≠ w1.heap.size by omega)).trans H135.out); have Hbox6 := Lib.hid (set_at (o := 0) (v := .slice a5 (U.length + 1) c5) Hbox5.out); have hc6 := cells_of Hbox6.out; have Hb6 : Hid (Below w1.heap.size w1 (w5.setCell ⟨w1.heap.size, 0, none⟩ (.slice a5 (U.length + 1) c5))) := set_below HbG.out (Nat.le_refl _); have hp6 := (HB.out.below Hb6.out).cells0; have Hown6 : Hid (OwnSl (w5.setCell ⟨w1.heap.size, 0, none⟩ (.slice a5 (U.length + 1) c5)) (w1.heap.size + 1) 80 2 (ruleR (w5.setCell ⟨w1.heap.size, 0, none⟩ (.slice a5 (U.length + 1) c5)) (fun b => D b ∧ b < w.heap.size)) (.slice a5 (U.length + 1) c5) (U ++ [r])) := ((Hown5.out.set (a := ⟨w1.heap.size, 0, none⟩) (x := .slice a5 (U.length + 1) c5) (fun e => by rcases Hat5.out with h | h; (have := (Hne.out w1.heap.size (h.symm.trans e)).1; omega); (rw [h] at e; simp at e; omega))).monoR fun _ _ _ ⟨u, e1, e2⟩ => ⟨u, e1, e2.keep (fun _ h _ => h) (fun b hb _ => by have h1 : b < w.heap.size := hb.2; rw [set_other (by show b ≠ w1.heap.size; omega)]; exact Hg5.out.block b (by simp; omega) (fun e => by have := (Hne.out _ e.symm).1; omega)) (by rw [set_size]; exact Hg5.out.size)⟩))
                go_roundw
                case rel => first | exact ⟨wi + 1, _, by go_num, by rw [HU.out, HT.out]; first | done | rfl, by omega, Hbox6.out, by rw [HU.out]; exact Hown6.out, Hb6.out⟩ | ((repeat apply Exists.intro); exact ⟨⟨wi + 1, _, by go_num, by rw [HU.out, HT.out]; first | done | rfl, by omega, Hbox6.out, by rw [HU.out]; exact Hown6.out, Hb6.out⟩, rfl⟩)
                case measure => simp [intOf]; omega
            · have hb0 : ((wi : Int) == (k : Int)) = false := beq_eq_false_iff_ne.2 (by omega)
              have hb1 : (wi == k) = false := beq_eq_false_iff_ne.2 hik
              have HN : Hid (∀ y ∈ S.take (j + 1), which y p.rules ≠ k) := fun y hy => by
                rcases Htk.out y hy with h | h
                · exact Hnone.out y h
                · subst h; rw [Hwi.out]; exact hik
              clear hik
              go_wp2
              go_roundw
              case rel => exact ⟨j + 1, by go_num, rfl, by omega, HN.out, Hbk3.out⟩
              case measure => simp [intOf]; omega
          · obtain rfl : j = S.length := by omega
            have HU : Hid (leftR p S (k + 1) = U) := Hno.out (used_not (fun x hx => Hnone.out x (by rw [List.take_length]; exact hx)))
            have Hboxj := Lib.hid (blk_below Hbox.out HbO.out)
            have Hownj := Lib.hid (rules_lift (B' := w1.heap.size + 1) Hown.out (fun b hb hl => HbO.out.block b hl) HbO.out.size (fun b _ hl => HbO.out.block b hl) (Nat.le_refl _))
            go_wp2
            go_roundw
            case rel => exact ⟨k + 1, v, by go_num, by rw [HU.out], by omega, Hboxj.out, by rw [HU.out]; exact Hownj.out, Hb.out.trans (HbO.out.mono hszr)⟩
            case measure => simp [intOf]; omega
      · obtain rfl : k = p.rules.length := by omega
        obtain ⟨U, hU⟩ : ∃ U, leftR p S p.rules.length = U := ⟨_, rfl⟩
        rw [hU] at Hown HSP ⊢
        have hll := leftR_len p S p.rules.length
        rw [hU] at hll
        have htl := trim_le p.dflt U
        have htp := trim_prefix p.dflt U
        obtain ⟨av, cv, rfl⟩ := Hown.out.slice
        have hR : RdRules wo (fun _ => True) (.slice av U.length cv) U := (Hown.out.monoR fun _ _ _ ⟨u, e1, e2⟩ => ⟨u, e1, e2.keep (fun _ _ _ => trivial) (fun _ _ _ => rfl) (Nat.le_refl _)⟩).sl fun _ _ => trivial
        obtain ⟨a', c', hv, hlc, hcm, _⟩ := Sl.form hR
        injection hv with h1 h2 h3
        subst h1 h3
        have hR2 : RdRules wo (fun _ => True) (.slice av (trimD p.dflt U).length cv) (trimD p.dflt U) := by
          have := Sl.take hR htl
          rw [htp] at this
          exact this
        have HL : Hid ((trimD p.dflt U).length ≤ U.length) := htl
        obtain ⟨T, hT⟩ : ∃ T, trimD p.dflt U = T := ⟨_, rfl⟩
        rw [hT] at hR2 HL HSP htl ⊢
        obtain ⟨n, hn⟩ : ∃ n, T.length = n := ⟨_, rfl⟩
        rw [hn] at hR2 HL htl ⊢
        have hnc : n ≤ cv := by omega
        have hcb := cells_of Hbox.out
        have hfb := not_frozen Hbox.out
        have Hbox2 := Lib.hid (set_at (o := 0) (v := .slice av n cv) Hbox.out)
        have hcb2 := cells_of Hbox2.out
        have HB2 := Lib.hid (HBr.out.lift (B := w.heap.size + 2) (set_below (a := ⟨w1.heap.size, 0, none⟩) (v := .slice av n cv) (Below.refl _ _) (by show w.heap.size + 2 ≤ w1.heap.size; omega)) (by simp))
        have hc1 := HB2.out.cells1
        have hf1 := HB2.out.free1
        have HB3 := Lib.hid (HB2.out.set (i := 1) rfl 0 (.slice av n cv))
        have HB4 := Lib.hid (HB3.out.set (i := 1) rfl 1 (.int .i64 p.dflt))
        have hc4 := HB4.out.cells1
        have HR5 : Hid (RdRules (((wo.setCell ⟨w1.heap.size, 0, none⟩ (.slice av n cv)).setCell ⟨w.heap.size + 1, 0, none⟩ (.slice av n cv)).setCell ⟨w.heap.size + 1, 1, none⟩ (.int .i64 p.dflt)) (fun b => D b ∨ w.heap.size ≤ b) (.slice av n cv) T) := by
          have hD : RdRules wo (fun b => (b ≠ w1.heap.size ∧ b ≠ w.heap.size + 1) ∧ (D b ∨ w.heap.size ≤ b)) (.slice av U.length cv) U :=
            (Hown.out.monoR fun _ _ _ ⟨u, e1, e2⟩ => ⟨u, e1, e2.keep (D' := fun b => (b ≠ w1.heap.size ∧ b ≠ w.heap.size + 1) ∧ (D b ∨ w.heap.size ≤ b)) (fun b hb _ => by have h1 : b < w.heap.size := hb.2; exact ⟨⟨by omega, by omega⟩, .inl hb.1⟩) (fun _ _ _ => rfl) (Nat.le_refl _)⟩).sl fun b hb => ⟨⟨by omega, by omega⟩, .inr (by omega)⟩
          have hD2 := Sl.take hD (show n ≤ U.length by omega)
          have e : U.take n = T := by rw [← hn, ← hT]; exact htp
          rw [e] at hD2
          exact RdRules.keep hD2 (fun _ h _ => h.2) (fun b hb _ => by rw [set_other (by exact hb.1.2), set_other (by exact hb.1.2), set_other (by exact hb.1.1)]) (by rw [set_size, set_size, set_size]; exact Nat.le_refl _)
        clear hU htp hR hR2 hT hn
        go_wp2
        refine bodyPost_ret (v := .tuple #[polV (.slice av n cv) p.dflt, .int .i64 0]) ?_ rfl (by rw [HE.out, HSP.out]; exact ⟨_, rfl, HR5.out, HB4.out.bel⟩)
        rw [results_cell_tmp rfl]
        go_simp
  · have HE : Hid (shortE p = (zeroPol, (pointsE [p]).2)) := by show _ = _; unfold shortE; rw [if_pos h0]
    have hb0 : ((pointsE [p]).2 != 0) = true := bne_iff_ne.2 h0
    have hc1 := HB.out.cells1
    have hf1 := HB.out.free1
    have HB3 := Lib.hid (HB.out.set (i := 1) rfl 0 (.slice none 0 0))
    have HB4 := Lib.hid (HB3.out.set (i := 1) rfl 1 (.int .i64 0))
    have hc4 := HB4.out.cells1
    generalize (pointsE [p]).2 = E at *
    clear h0
    go_wp2
    refine bodyPost_ret (v := .tuple #[polV (.slice none 0 0) 0, .int .i64 E]) ?_ rfl (by rw [HE.out]; exact ⟨_, rfl, nil_rules _ _, HB4.out.bel⟩)
    rw [results_cell_tmp rfl]
    go_simp
end Go.Proofs.YtkiipnbjckdlbaaGreatDoor
namespace Go.Proofs.YtkiipnbjckdlbaaGreatDoor
open Go.RowKit

set_option maxHeartbeats 8000000 in
theorem rdelta_any (u v : Value) (p q : TPol) (w : World) (hp : RdRules w (fun _ => True) u p.rules) (hq : RdRules w (fun _ => True) v q.rules) :
    Calls Tryz.prog 20 #[polV u p.dflt, polV v q.dflt] w fun e w' => ∃ r, e = .returned (.tuple #[polV r (deltaE p q).1.dflt, .int .i64 (deltaE p q).2]) ∧ RdRules w' (fun b => w.heap.size ≤ b) r (deltaE p q).1.rules ∧ Below w.heap.size w w' := by
  have Hp := Lib.hid hp
  have Hq := Lib.hid hq
  obtain ⟨ap, cp, rfl, _⟩ := Sl.form hp
  obtain ⟨aq, cq, rfl, _⟩ := Sl.form hq
  clear hp hq
  obtain ⟨⟨L1, L2, L3⟩, hL⟩ : ∃ E, looserE q p = E := ⟨_, rfl⟩
  have HL := Lib.hid hL
  obtain ⟨⟨X, xe⟩, hX⟩ : ∃ E, pairE exceptOf q p = E := ⟨_, rfl⟩
  have HX := Lib.hid hX
  obtain ⟨⟨Y, ye⟩, hY⟩ : ∃ E, shortE X = E := ⟨_, rfl⟩
  have HY := Lib.hid hY
  have HD : Hid (deltaE p q = if L3 ≠ 0 then (zeroPol, L3) else if L1 then (zeroPol, 7) else if xe ≠ 0 then (zeroPol, xe) else (Y, ye)) := by
    show deltaE p q = _
    unfold deltaE
    rw [hL, hX]
    dsimp only
    by_cases hx : xe = 0
    · have hXe : X = pairPol exceptOf q p := by
        have := (pairE_ok (of := exceptOf) (p := q) (q := p) (by rw [hX]; exact hx)).2.2.2
        rw [hX] at this
        exact (Prod.mk.inj this).1
      rw [← hXe, hY]
    · rw [if_pos hx, if_pos hx]
  clear hL hX hY
  go_enter Tryz.func20, Tryz.ntmps20
  go_wp2_with fail
  have HB := Lib.hid (Bx.three (w := w) (o := .cells #[.slice ap p.rules.length cp, .int .i64 p.dflt] 37) (o' := .cells #[.slice aq q.rules.length cq, .int .i64 q.dflt] 37) (o2 := .cells #[.slice none 0 0, .int .i64 0] 37))
  refine (rlooser_any _ _ q p _ (Hq.out.below HB.out.bel) (Hp.out.below HB.out.bel)).mono ?_
  rw [HL.out]
  rintro e w1 ⟨rfl, hb1⟩
  have HB1 := Lib.hid (HB.out.below hb1)
  have hD1 := Bx.one (w := w1) (o := .cells #[.int .i64 0, .int .i64 0, .int .i64 0, .int .i64 0, .int .i64 0] 24)
  have HD2 := Lib.hid (Bx.one (w := w1) (o := .cells #[.int .i64 L2.a0, .int .i64 L2.a1, .int .i64 L2.a2, .int .i64 L2.a3, .int .i64 L2.a4] 24))
  have hcn := hD1.cells0
  have hfn := hD1.free0
  have HB2 := Lib.hid (HB1.out.below HD2.out.bel)
  have hq0 := HB2.out.cells0
  have hq1 := HB2.out.cells1
  have hq2 := HB2.out.cells2
  have hf2 := HB2.out.free2
  clear hD1 hb1
  by_cases h3 : L3 = 0
  · subst h3
    cases L1 with
    | true =>
      have HE : Hid (deltaE p q = (zeroPol, 7)) := by show deltaE p q = _; rw [HD.out, if_neg (by simp), if_pos rfl]
      have HB3 := Lib.hid (HB2.out.set (i := 2) rfl 0 (.slice none 0 0))
      have HB4 := Lib.hid (HB3.out.set (i := 2) rfl 1 (.int .i64 0))
      have hc4 := HB4.out.cells2
      go_wp2
      refine bodyPost_ret (v := .tuple #[polV (.slice none 0 0) 0, .int .i64 7]) ?_ rfl (by rw [HE.out]; exact ⟨_, rfl, nil_rules _ _, HB4.out.bel⟩)
      rw [results_cell_tmp rfl]
      go_simp
    | false =>
      go_wp2_with fail
      clear hcn hfn hq0 hq1 hq2 hf2 HD2
      revert HB2
      generalize (w1.alloc (.cells #[.int .i64 L2.a0, .int .i64 L2.a1, .int .i64 L2.a2, .int .i64 L2.a3, .int .i64 L2.a4] 24)) = w2
      intro HB2
      have htop2 : w.heap.size + 3 ≤ w2.heap.size := HB2.out.top
      refine (rboth_any true _ _ q p _ (Hq.out.below HB2.out.bel) (Hp.out.below HB2.out.bel)).mono ?_
      rw [bothOf_true, HX.out]
      rintro e w3 ⟨rX, rfl, hrX, hb3⟩
      have HB3 := Lib.hid (HB2.out.below hb3)
      have RX := Lib.hid hrX
      obtain ⟨aX, cX, rfl, _⟩ := Sl.form hrX
      have HC := Lib.hid (Bx.one (w := w3) (o := .cells #[.slice aX X.rules.length cX, .int .i64 X.dflt] 37))
      have HB4 := Lib.hid (HB3.out.below HC.out.bel)
      have RX4 := Lib.hid (RdRules.below RX.out HC.out.bel)
      have hq2 := HB4.out.cells2
      have hf2 := HB4.out.free2
      have hqc := HC.out.cells0
      clear hrX hb3
      by_cases hx : xe = 0
      · subst hx
        have HE : Hid (deltaE p q = (Y, ye)) := by show deltaE p q = _; rw [HD.out, if_neg (by simp), if_neg (by simp), if_neg (by simp)]
        have htop : w.heap.size + 3 ≤ w3.heap.size := HB3.out.top
        go_wp2_with fail
        clear hq2 hf2 hqc
        refine (rshort_any _ X _ _ RX4.out).mono ?_
        rw [HY.out]
        rintro e w5 ⟨rY, rfl, hrY, hb5⟩
        have HB5 := Lib.hid (HB4.out.below hb5)
        have RY := Lib.hid hrY
        obtain ⟨aY, cY, rfl, _⟩ := Sl.form hrY
        have hq2 := HB5.out.cells2
        have hf2 := HB5.out.free2
        have HB6 := Lib.hid (HB5.out.set (i := 2) rfl 0 (.slice aY Y.rules.length cY))
        have HB7 := Lib.hid (HB6.out.set (i := 2) rfl 1 (.int .i64 Y.dflt))
        have hc4 := HB7.out.cells2
        clear hrY hb5
        have HR8 : Hid (RdRules ((w5.setCell ⟨w.heap.size + 2, 0, none⟩ (.slice aY Y.rules.length cY)).setCell ⟨w.heap.size + 2, 1, none⟩ (.int .i64 Y.dflt)) (fun b => w.heap.size ≤ b) (.slice aY Y.rules.length cY) Y.rules) := by
          have hlow : ∀ b, (w2.heap.size ≤ b ∨ (w3.alloc (.cells #[.slice aX X.rules.length cX, .int .i64 X.dflt] 37)).heap.size ≤ b) → w.heap.size + 3 ≤ b := fun b hb => by
            rcases hb with hb | hb
            · omega
            · simp at hb; omega
          exact RdRules.keep RY.out (fun b h _ => by have := hlow b h; show _ ≤ b; omega) (fun b hb _ => by have := hlow b hb; rw [set_other (by show b ≠ w.heap.size + 2; omega), set_other (by show b ≠ w.heap.size + 2; omega)]) (by rw [set_size, set_size]; exact Nat.le_refl _)
        go_wp2
        refine bodyPost_ret (v := .tuple #[polV (.slice aY Y.rules.length cY) Y.dflt, .int .i64 ye]) ?_ rfl (by rw [HE.out]; exact ⟨_, rfl, HR8.out, HB7.out.bel⟩)
        rw [results_cell_tmp rfl]
        go_simp
      · have hb0 : (xe != 0) = true := bne_iff_ne.2 hx
        have HE : Hid (deltaE p q = (zeroPol, xe)) := by show deltaE p q = _; rw [HD.out, if_neg (by simp), if_neg (by simp), if_pos hx]
        have HB5 := Lib.hid (HB4.out.set (i := 2) rfl 0 (.slice none 0 0))
        have HB6 := Lib.hid (HB5.out.set (i := 2) rfl 1 (.int .i64 0))
        have hc4 := HB6.out.cells2
        clear hx
        go_wp2
        refine bodyPost_ret (v := .tuple #[polV (.slice none 0 0) 0, .int .i64 xe]) ?_ rfl (by rw [HE.out]; exact ⟨_, rfl, nil_rules _ _, HB6.out.bel⟩)
        rw [results_cell_tmp rfl]
        go_simp
  · have hb0 : (L3 != 0) = true := bne_iff_ne.2 h3
    have hb1 : (L3 == 0) = false := beq_eq_false_iff_ne.2 h3
    have HE : Hid (deltaE p q = (zeroPol, L3)) := by show deltaE p q = _; rw [HD.out, if_pos h3]
    have HB3 := Lib.hid (HB2.out.set (i := 2) rfl 0 (.slice none 0 0))
    have HB4 := Lib.hid (HB3.out.set (i := 2) rfl 1 (.int .i64 0))
    have hc4 := HB4.out.cells2
    clear h3
    go_wp2
    refine bodyPost_ret (v := .tuple #[polV (.slice none 0 0) 0, .int .i64 L3]) ?_ rfl (by rw [HE.out]; exact ⟨_, rfl, nil_rules _ _, HB4.out.bel⟩)
    rw [results_cell_tmp rfl]
    go_simp
end Go.Proofs.YtkiipnbjckdlbaaGreatDoor
