/- Texts laid one behind the other: RRecRead, RRecText, Made, Noted, Open, OpenPol, OpenRec, Bytes, EqByte. No condition beyond theirs. -/
import Derived.Test.YthkgjohhbdipcaaGreatDoorK3
import Derived.Test.YthkgjohhbdipcaaGreatDoorK4
import Derived.Test.YthkgjohhbdipcaaGreatDoorK7
import Derived.Test.YthkgjohhbdipcaaGreatDoorK9
import Derived.Test.YthkgjohhbdipcaaGreatDoorK8
import Derived.Test.YthkgjohhbdipcaaGreatDoorK6
import Derived.Test.YthkgjohhbdipcaaGreatDoorK2
import Derived.OpenShut
import Derived.Deep.Slices
import Derived.ProofKit
import Derived.ChangeOld
import Derived.ChangeSame
import Derived.Carry
import Derived.Test.YthkgjohhbdipcaaGreatDoorProg
import Derived.SizedLaws
import Derived.Test.YthkgjohhbdipcaaGreatDoorK5
import Derived.Laws.IdiomStrings
import Derived.Laws.BytesArg
import Derived.KernelRfl
import Derived.Test.YthkgjohhbdipcaaGreatDoorK1
set_option linter.all false
namespace Go.Proofs.YthkgjohhbdipcaaGreatDoor
open Go.RowKit
attribute [-go_sem] run_slice_l

@[reducible] def kmap : Array MapEntry := #[⟨bs [111, 112, 101, 110], .int .i64 1, 0⟩, ⟨bs [116, 105, 103, 104, 116], .int .i64 2, 1⟩, ⟨bs [102, 111, 114, 107], .int .i64 3, 2⟩, ⟨bs [115, 104, 117, 116], .int .i64 4, 3⟩]
theorem find_ku (u : ByteArray) : ∃ f, Instr.findNow .string (.string u) kmap.toList 0 = some f ∧ (f.map (·.2)).getD (.int .i64 0) = Value.int .i64 (kindOf u.data.toList) := by
  simp only [find_step (same_str _ _), kindOf, decide_eq_true_eq]
  repeat (split; · exact ⟨_, rfl, rfl⟩)
  exact ⟨none, rfl, rfl⟩
theorem find_k (l : List UInt8) : ∃ f, Instr.findNow .string (.string (bsL l)) kmap.toList 0 = some f ∧ (f.map (·.2)).getD (.int .i64 0) = Value.int .i64 (kindOf l) := find_ku (bsL l)
theorem kindOf_in (l : List UInt8) : kindOf l = 0 ∨ kindOf l = 1 ∨ kindOf l = 2 ∨ kindOf l = 3 ∨ kindOf l = 4 := by
  unfold kindOf
  repeat' split
  all_goals simp
set_option maxHeartbeats 1000000 in
theorem rbad_any (e : Int) (w : World) : Calls Tryz.prog 76 #[.int .i64 e] w fun en w' => en = .returned (.tuple #[recV ⟨0, 0, 0, ⟨[], 0⟩⟩ (.slice none 0 0), .int .i64 e]) ∧ Below w.heap.size w w' := by
  go_enter Tryz.func76, Tryz.ntmps76
  go_wp2
  refine bodyPost_ret (v := .tuple #[recV ⟨0, 0, 0, ⟨[], 0⟩⟩ (.slice none 0 0), .int .i64 e]) ?_ rfl ⟨rfl, bel_alloc (Below.refl _ _) _⟩
  rw [results_cell_tmp rfl]
  go_simp
set_option maxRecDepth 100000 in
set_option maxHeartbeats 16000000 in
theorem rrecread_any (L : List UInt8) (w : World) (hL : Laid w) (hs : L.length ≤ 100000) :
    Calls Tryz.prog 32 #[.string (bsL L)] w fun e w' => ∃ v, e = .returned (.tuple #[recV (readRec L).1 v, .int .i64 (readRec L).2]) ∧ RdRules w' (fun b => w.heap.size ≤ b) v (readRec L).1.p.rules ∧ Below w.heap.size w w' := by
  have HL := Lib.hid hL
  have Hs := Lib.hid hs
  clear hL hs
  have hmm := @run_makeMap Tryz.prog
  have HB := Lib.hid (Bx.one (w := w) (o := .cells #[.int .i64 0, .int .i64 0, .int .i64 0, .slice none 0 0, .int .i64 0] 56))
  have HE0 : Hid (readRec L = readGo (kindOf (Lib.cut L [32]).1) (Lib.cut (Lib.cut L [32]).2.1 [32])) := rfl
  obtain ⟨k, hk⟩ : ∃ k, kindOf (Lib.cut L [32]).1 = k := ⟨_, rfl⟩
  have hkr : k = 0 ∨ k = 1 ∨ k = 2 ∨ k = 3 ∨ k = 4 := by rw [← hk]; exact kindOf_in _
  have Hk := Lib.hid hk
  rw [hk] at HE0
  clear hk
  rcases cut_cases L 32 with ⟨_, hc⟩ | ⟨a, r, hLe, _, hc⟩
  · have HP : Hid (parts3 L = [L]) := by show _ = _; unfold parts3; rw [hc]; rfl
    rw [hc] at HE0 Hk
    have HE1 : Hid (readRec L = (⟨0, 0, 0, ⟨[], 0⟩⟩, 1)) := by show _ = _; rw [HE0.out]; exact readGo_bad (.inr (.inl (by show (wholeS (Lib.cut ([] : List UInt8) [32]).1).2 = false; decide)))
    clear hc HE0
    go_enter Tryz.func32, Tryz.ntmps32
    go_wp2_with fail
    refine (splitn_any L _ (HL.out.below HB.out.bel) (by have := Hs.out; omega)).mono ?_
    rw [HP.out]
    rintro e w1' ⟨cap, cs, rfl, hcap, hw1, hcs⟩
    have hc0 : cs[0]? = some (.string (bsL L)) := hcs 0 (by simp)
    have hcap1 : 1 ≤ cap := hcap
    have Hpb : Hid (w1'.heap[(w.alloc (.cells #[.int .i64 0, .int .i64 0, .int .i64 0, .slice none 0 0, .int .i64 0] 56)).heap.size]? = some (.cells cs 9)) := by show _ = _; rw [hw1]; exact heap_last _ _
    have HB1 : Hid (Bx w [.cells #[.int .i64 0, .int .i64 0, .int .i64 0, .slice none 0 0, .int .i64 0] 56] w1') := by rw [hw1]; exact HB.out.alloc _
    clear hcs hw1 hcap
    obtain ⟨w1, rfl⟩ : ∃ w1 : World, w1 = w1' := ⟨_, rfl⟩
    revert Hpb
    obtain ⟨pb, hpb⟩ : ∃ pb, (w.alloc (.cells #[.int .i64 0, .int .i64 0, .int .i64 0, .slice none 0 0, .int .i64 0] 56)).heap.size = pb := ⟨_, rfl⟩
    have Hpb1 : Hid (pb = w.heap.size + 1) := by show _ = _; rw [← hpb]; simp
    rw [hpb]
    intro Hpb
    clear hpb
    have hv0 := run_insert_at (P := Tryz.prog) (t := 117) (es := #[]) (c := 0) (key := bs [111, 112, 101, 110]) (v := .int .i64 1) (rfl : w1.heap.size = w1.heap.size) Tryz.underlying117 Tryz.underlying9 (by first | exact trivial | rfl) (by kernel_rfl)
    have hv1 := run_insert_at (P := Tryz.prog) (t := 117) (es := #[⟨bs [111, 112, 101, 110], .int .i64 1, 0⟩]) (c := 1) (key := bs [116, 105, 103, 104, 116]) (v := .int .i64 2) (rfl : w1.heap.size = w1.heap.size) Tryz.underlying117 Tryz.underlying9 (by first | exact trivial | rfl) (by kernel_rfl)
    have hv2 := run_insert_at (P := Tryz.prog) (t := 117) (es := #[⟨bs [111, 112, 101, 110], .int .i64 1, 0⟩, ⟨bs [116, 105, 103, 104, 116], .int .i64 2, 1⟩]) (c := 2) (key := bs [102, 111, 114, 107]) (v := .int .i64 3) (rfl : w1.heap.size = w1.heap.size) Tryz.underlying117 Tryz.underlying9 (by first | exact trivial | rfl) (by kernel_rfl)
    have hv3 := run_insert_at (P := Tryz.prog) (t := 117) (es := #[⟨bs [111, 112, 101, 110], .int .i64 1, 0⟩, ⟨bs [116, 105, 103, 104, 116], .int .i64 2, 1⟩, ⟨bs [102, 111, 114, 107], .int .i64 3, 2⟩]) (c := 3) (key := bs [115, 104, 117, 116]) (v := .int .i64 4) (rfl : w1.heap.size = w1.heap.size) Tryz.underlying117 Tryz.underlying9 (by first | exact trivial | rfl) (by kernel_rfl)
    simp only [List.push_toArray, List.nil_append, List.cons_append, Nat.reduceAdd] at hv0 hv1 hv2 hv3
    have hcp := cells_of Hpb.out
    have hblm : (w1.alloc (.map kmap 4)).heap[pb]? = some (.cells cs 9) := blk_old Hpb.out
    have hcpm := cells_of hblm
    have hcpx : ∀ O i, ((w1.alloc (.map kmap 4)).alloc O).cell? ⟨pb, i, none⟩ = cs[i]? := fun O => cells_of (blk_old hblm)
    obtain ⟨fk, hfk, hfk'⟩ := find_k L
    have hz : ∀ W : World, (zeroValue 3).run Tryz.prog W = .ok (.int .i64 0) W := fun W => by kernel_rfl
    have hlk := run_lookup_bare (P := Tryz.prog) (key := .string (bsL L)) (t := 117) Tryz.underlying117 Tryz.underlying9 (heap_last w1 (.map kmap 4)) (hz _) (by exact trivial) hfk
    rw [hfk', Hk.out] at hlk
    have HB2 := Lib.hid (HB1.out.alloc (.map kmap 4))
    clear hfk hfk' hz hblm
    rcases hkr with rfl | rfl | rfl | rfl | rfl
    all_goals
      go_wp2_with fail
      clear hv0 hv1 hv2 hv3 hmm hlk hcp hcpm hcpx
      refine (rbad_any 1 _).mono ?_
      rintro e wz ⟨rfl, hbz⟩
      have HBz := Lib.hid (HB2.out.below hbz)
      clear hbz
      have hq0 := HBz.out.cells0
      have hf0 := HBz.out.free0
      have HS := Lib.hid (HBz.out.put5 (.int .i64 0) (.int .i64 0) (.int .i64 0) (.slice none 0 0) (.int .i64 0) rfl)
      have hqs := HS.out.cells0
      have HBL := Lib.hid HS.out.bel
      clear HS
      go_wp2
      refine bodyPost_ret (v := .tuple #[recV ⟨0, 0, 0, ⟨[], 0⟩⟩ (.slice none 0 0), .int .i64 1]) ?_ rfl (by rw [HE1.out]; exact ⟨_, rfl, nil_rulesP _ _, HBL.out⟩)
      rw [results_cell_tmp rfl]
      go_simp
  · have hal : a.length + r.length + 1 ≤ 100000 := by have := Hs.out; rw [hLe] at this; simp at this; omega
    have hra : r.length ≤ 100000 := by omega
    rw [hc] at HE0 Hk
    dsimp only at HE0 Hk
    clear hLe
    rcases cut_cases r 32 with ⟨_, hc2⟩ | ⟨b, t, hre, _, hc2⟩
    · have HP : Hid (parts3 L = [a, r]) := by show _ = _; unfold parts3; rw [hc]; dsimp only; rw [hc2]; rfl
      rw [hc2] at HE0
      obtain ⟨⟨n, ok⟩, hn⟩ : ∃ E, wholeS r = E := ⟨_, rfl⟩
      have Hn := Lib.hid hn
      clear hc hc2 hn hal
      go_enter Tryz.func32, Tryz.ntmps32
      go_wp2_with fail
      refine (splitn_any L _ (HL.out.below HB.out.bel) (by have := Hs.out; omega)).mono ?_
      rw [HP.out]
      rintro e w1' ⟨cap, cs, rfl, hcap, hw1, hcs⟩
      have hc0 : cs[0]? = some (.string (bsL a)) := hcs 0 (by simp)
      have hc1 : cs[1]? = some (.string (bsL r)) := hcs 1 (by simp)
      have hcap2 : 2 ≤ cap := hcap
      have Hpb : Hid (w1'.heap[(w.alloc (.cells #[.int .i64 0, .int .i64 0, .int .i64 0, .slice none 0 0, .int .i64 0] 56)).heap.size]? = some (.cells cs 9)) := by show _ = _; rw [hw1]; exact heap_last _ _
      have HB1 : Hid (Bx w [.cells #[.int .i64 0, .int .i64 0, .int .i64 0, .slice none 0 0, .int .i64 0] 56] w1') := by rw [hw1]; exact HB.out.alloc _
      clear hcs hw1 hcap
      obtain ⟨w1, rfl⟩ : ∃ w1 : World, w1 = w1' := ⟨_, rfl⟩
      revert Hpb
      obtain ⟨pb, hpb⟩ : ∃ pb, (w.alloc (.cells #[.int .i64 0, .int .i64 0, .int .i64 0, .slice none 0 0, .int .i64 0] 56)).heap.size = pb := ⟨_, rfl⟩
      have Hpb1 : Hid (pb = w.heap.size + 1) := by show _ = _; rw [← hpb]; simp
      rw [hpb]
      intro Hpb
      clear hpb
      have hv0 := run_insert_at (P := Tryz.prog) (t := 117) (es := #[]) (c := 0) (key := bs [111, 112, 101, 110]) (v := .int .i64 1) (rfl : w1.heap.size = w1.heap.size) Tryz.underlying117 Tryz.underlying9 (by first | exact trivial | rfl) (by kernel_rfl)
      have hv1 := run_insert_at (P := Tryz.prog) (t := 117) (es := #[⟨bs [111, 112, 101, 110], .int .i64 1, 0⟩]) (c := 1) (key := bs [116, 105, 103, 104, 116]) (v := .int .i64 2) (rfl : w1.heap.size = w1.heap.size) Tryz.underlying117 Tryz.underlying9 (by first | exact trivial | rfl) (by kernel_rfl)
      have hv2 := run_insert_at (P := Tryz.prog) (t := 117) (es := #[⟨bs [111, 112, 101, 110], .int .i64 1, 0⟩, ⟨bs [116, 105, 103, 104, 116], .int .i64 2, 1⟩]) (c := 2) (key := bs [102, 111, 114, 107]) (v := .int .i64 3) (rfl : w1.heap.size = w1.heap.size) Tryz.underlying117 Tryz.underlying9 (by first | exact trivial | rfl) (by kernel_rfl)
      have hv3 := run_insert_at (P := Tryz.prog) (t := 117) (es := #[⟨bs [111, 112, 101, 110], .int .i64 1, 0⟩, ⟨bs [116, 105, 103, 104, 116], .int .i64 2, 1⟩, ⟨bs [102, 111, 114, 107], .int .i64 3, 2⟩]) (c := 3) (key := bs [115, 104, 117, 116]) (v := .int .i64 4) (rfl : w1.heap.size = w1.heap.size) Tryz.underlying117 Tryz.underlying9 (by first | exact trivial | rfl) (by kernel_rfl)
      simp only [List.push_toArray, List.nil_append, List.cons_append, Nat.reduceAdd] at hv0 hv1 hv2 hv3
      have hcp := cells_of Hpb.out
      have hblm : (w1.alloc (.map kmap 4)).heap[pb]? = some (.cells cs 9) := blk_old Hpb.out
      have hcpm := cells_of hblm
      have hcpx : ∀ O i, ((w1.alloc (.map kmap 4)).alloc O).cell? ⟨pb, i, none⟩ = cs[i]? := fun O => cells_of (blk_old hblm)
      obtain ⟨fk, hfk, hfk'⟩ := find_k a
      have hz : ∀ W : World, (zeroValue 3).run Tryz.prog W = .ok (.int .i64 0) W := fun W => by kernel_rfl
      have hlk := run_lookup_bare (P := Tryz.prog) (key := .string (bsL a)) (t := 117) Tryz.underlying117 Tryz.underlying9 (heap_last w1 (.map kmap 4)) (hz _) (by exact trivial) hfk
      rw [hfk', Hk.out] at hlk
      have HB2 := Lib.hid (HB1.out.alloc (.map kmap 4))
      clear hfk hfk' hz hblm
      by_cases h4 : k = 4
      · subst h4
        clear hkr
        go_wp2_with fail
        clear hv0 hv1 hv2 hv3 hmm hlk hcp hcpm hcpx
        have Hpb2 : Hid (((w1.alloc (.map kmap 4)).alloc (.cells #[.int .i64 4, .int .i64 0, .int .i64 0, .slice none 0 0, .int .i64 0] 56)).heap[pb]? = some (.cells cs 9)) := blk_old (blk_old Hpb.out)
        have HBx := Lib.hid (HB2.out.alloc (.cells #[.int .i64 4, .int .i64 0, .int .i64 0, .slice none 0 0, .int .i64 0] 56))
        have HX := Lib.hid (heap_last (w1.alloc (.map kmap 4)) (.cells #[.int .i64 4, .int .i64 0, .int .i64 0, .slice none 0 0, .int .i64 0] 56))
        have Htop : Hid (pb < w1.heap.size ∧ w.heap.size + 1 ≤ w1.heap.size) := ⟨(Array.getElem?_eq_some_iff.1 Hpb.out).1, HB1.out.top⟩
        refine (whole_any (bsL r) _ (HL.out.below HBx.out.bel) (by have := hra; simp [bsL, ByteArray.size]; omega)).mono ?_
        rw [bsL_toList, Hn.out]
        rintro e w3 ⟨rfl, hb3⟩
        have Hpb3 := Lib.hid (blk_below Hpb2.out hb3)
        have HB3 := Lib.hid (HBx.out.below hb3)
        have HX3 : Hid (w3.heap[w1.heap.size + 1]? = some (.cells #[.int .i64 4, .int .i64 0, .int .i64 0, .slice none 0 0, .int .i64 0] 56)) := by show _ = _; have := blk_below HX.out hb3; simpa using this
        clear hb3 Hpb2 HBx HX
        obtain ⟨bx, hbx⟩ : ∃ bx, w1.heap.size + 1 = bx := ⟨_, rfl⟩
        have Hbx : Hid (pb < bx ∧ w.heap.size + 1 ≤ bx) := by have := Htop.out; show _ ∧ _; omega
        have hqx := cells_of HX3.out
        have hfx := not_frozen HX3.out
        have HXs := Lib.hid (set_at (o := 1) (v := .int .i64 n) HX3.out)
        have hqs := cells_of HXs.out
        have HBs := Lib.hid (HB3.out.lift (set_below (a := ⟨w1.heap.size + 1, 1, none⟩) (v := .int .i64 n) (Below.refl (w.heap.size + 1) w3) (by have := Htop.out; show _ ≤ w1.heap.size + 1; omega)) (by simp))
        have Hpbs : Hid ((w3.setCell ⟨w1.heap.size + 1, 1, none⟩ (.int .i64 n)).heap[pb]? = some (.cells cs 9)) := (set_other (by show pb ≠ w1.heap.size + 1; have := Htop.out; omega)).trans Hpb3.out
        have hcp2 := cells_of Hpbs.out
        clear hbx Hbx
        cases ok with
        | false =>
          have HE1 : Hid (readRec L = (⟨0, 0, 0, ⟨[], 0⟩⟩, 1)) := by show _ = _; rw [HE0.out]; exact readGo_bad (.inr (.inl (by show (wholeS r).2 = false; rw [Hn.out])))
          go_wp2_with fail
          clear hqx hfx hcp2 hqs
          refine (rbad_any 1 _).mono ?_
          rintro e wz ⟨rfl, hbz⟩
          have HBz := Lib.hid (HBs.out.below hbz)
          clear hbz
          have hq0 := HBz.out.cells0
          have hf0 := HBz.out.free0
          have HS := Lib.hid (HBz.out.put5 (.int .i64 0) (.int .i64 0) (.int .i64 0) (.slice none 0 0) (.int .i64 0) rfl)
          have hqs := HS.out.cells0
          have HBL := Lib.hid HS.out.bel
          clear HS
          go_wp2
          refine bodyPost_ret (v := .tuple #[recV ⟨0, 0, 0, ⟨[], 0⟩⟩ (.slice none 0 0), .int .i64 1]) ?_ rfl (by rw [HE1.out]; exact ⟨_, rfl, nil_rulesP _ _, HBL.out⟩)
          rw [results_cell_tmp rfl]
          go_simp
        | true =>
          have HE1 : Hid (readRec L = checkedRec ⟨4, n, 0, ⟨[], 0⟩⟩) := by show _ = _; rw [HE0.out]; exact readGo_shut Hn.out
          go_wp2_with fail
          clear hqx hfx hcp2 hqs
          have HRx := Lib.hid (nil_rulesP (w3.setCell ⟨w1.heap.size + 1, 1, none⟩ (.int .i64 n)) (fun x => w.heap.size + 1 ≤ x))
          refine (rreccheck_any _ ⟨4, n, 0, ⟨[], 0⟩⟩ _ _ HRx.out).mono ?_
          rintro e w8 ⟨rfl, hb8⟩
          have HB8 := Lib.hid (HBs.out.below hb8)
          have HR8 := Lib.hid (RdRules.below HRx.out hb8)
          have hqx := cells_of (blk_below HXs.out hb8)
          clear hb8
          by_cases h0 : recE ⟨4, n, 0, ⟨[], 0⟩⟩ = 0
          · have HE' : Hid (readRec L = (⟨4, n, 0, ⟨[], 0⟩⟩, 0)) := by show _ = _; rw [HE1.out]; exact if_pos h0
            have HS := Lib.hid (HB8.out.put5 (.int .i64 4) (.int .i64 n) (.int .i64 0) (.slice none 0 0) (.int .i64 0) rfl)
            have hq0 := HB8.out.cells0
            have hf0 := HB8.out.free0
            have hqs := HS.out.cells0
            have HBL := Lib.hid HS.out.bel
            have HRF := Lib.hid (rules_off HR8.out (puts5_grow (b := w.heap.size) (.int .i64 4) (.int .i64 n) (.int .i64 0) (.slice none 0 0) (.int .i64 0)))
            rw [h0]
            clear h0 HS
            go_wp2
            refine bodyPost_ret (v := .tuple #[recV ⟨4, n, 0, ⟨[], 0⟩⟩ (.slice none 0 0), .int .i64 0]) ?_ rfl (by rw [HE'.out]; exact ⟨_, rfl, HRF.out, HBL.out⟩)
            rw [results_cell_tmp rfl]
            go_simp
          · have HE' : Hid (readRec L = (⟨0, 0, 0, ⟨[], 0⟩⟩, recE ⟨4, n, 0, ⟨[], 0⟩⟩)) := by show _ = _; rw [HE1.out]; exact if_neg h0
            have hne : (recE ⟨4, n, 0, ⟨[], 0⟩⟩ != 0) = true := bne_iff_ne.2 h0
            generalize recE ⟨4, n, 0, ⟨[], 0⟩⟩ = pe at *
            clear h0 hqx HR8
            go_wp2_with fail
            refine (rbad_any pe _).mono ?_
            rintro e wz ⟨rfl, hbz⟩
            have HBz := Lib.hid (HB8.out.below hbz)
            clear hbz
            have hq0 := HBz.out.cells0
            have hf0 := HBz.out.free0
            have HS := Lib.hid (HBz.out.put5 (.int .i64 0) (.int .i64 0) (.int .i64 0) (.slice none 0 0) (.int .i64 0) rfl)
            have hqs := HS.out.cells0
            have HBL := Lib.hid HS.out.bel
            clear HS
            go_wp2
            refine bodyPost_ret (v := .tuple #[recV ⟨0, 0, 0, ⟨[], 0⟩⟩ (.slice none 0 0), .int .i64 pe]) ?_ rfl (by rw [HE'.out]; exact ⟨_, rfl, nil_rulesP _ _, HBL.out⟩)
            rw [results_cell_tmp rfl]
            go_simp
      · have HE1 : Hid (readRec L = (⟨0, 0, 0, ⟨[], 0⟩⟩, 1)) := by show _ = _; rw [HE0.out]; exact readGo_bad (.inr (.inr (by show false ≠ decide (k ≠ 4); rw [decide_eq_true h4]; decide)))
        have hkr' : k = 0 ∨ k = 1 ∨ k = 2 ∨ k = 3 := by omega
        clear hkr h4
        rcases hkr' with rfl | rfl | rfl | rfl
        all_goals
          go_wp2_with fail
          clear hv0 hv1 hv2 hv3 hmm hlk hcp hcpm hcpx
          refine (rbad_any 1 _).mono ?_
          rintro e wz ⟨rfl, hbz⟩
          have HBz := Lib.hid (HB2.out.below hbz)
          clear hbz
          have hq0 := HBz.out.cells0
          have hf0 := HBz.out.free0
          have HS := Lib.hid (HBz.out.put5 (.int .i64 0) (.int .i64 0) (.int .i64 0) (.slice none 0 0) (.int .i64 0) rfl)
          have hqs := HS.out.cells0
          have HBL := Lib.hid HS.out.bel
          clear HS
          go_wp2
          refine bodyPost_ret (v := .tuple #[recV ⟨0, 0, 0, ⟨[], 0⟩⟩ (.slice none 0 0), .int .i64 1]) ?_ rfl (by rw [HE1.out]; exact ⟨_, rfl, nil_rulesP _ _, HBL.out⟩)
          rw [results_cell_tmp rfl]
          go_simp
    · have HP : Hid (parts3 L = [a, b, t]) := by show _ = _; unfold parts3; rw [hc]; dsimp only; rw [hc2]; rfl
      rw [hc2] at HE0
      have hbt : b.length ≤ 100000 ∧ t.length ≤ 100000 := by rw [hre] at hra; simp at hra; omega
      have Hbt := Lib.hid hbt
      obtain ⟨⟨n, ok⟩, hn⟩ : ∃ E, wholeS b = E := ⟨_, rfl⟩
      have Hn := Lib.hid hn
      clear hc hc2 hn hal hra hre hbt
      go_enter Tryz.func32, Tryz.ntmps32
      go_wp2_with fail
      refine (splitn_any L _ (HL.out.below HB.out.bel) (by have := Hs.out; omega)).mono ?_
      rw [HP.out]
      rintro e w1' ⟨cap, cs, rfl, hcap, hw1, hcs⟩
      have hc0 : cs[0]? = some (.string (bsL a)) := hcs 0 (by simp)
      have hc1 : cs[1]? = some (.string (bsL b)) := hcs 1 (by simp)
      have hc2 : cs[2]? = some (.string (bsL t)) := hcs 2 (by simp)
      have hcap3 : 3 ≤ cap := hcap
      have Hpb : Hid (w1'.heap[(w.alloc (.cells #[.int .i64 0, .int .i64 0, .int .i64 0, .slice none 0 0, .int .i64 0] 56)).heap.size]? = some (.cells cs 9)) := by show _ = _; rw [hw1]; exact heap_last _ _
      have HB1 : Hid (Bx w [.cells #[.int .i64 0, .int .i64 0, .int .i64 0, .slice none 0 0, .int .i64 0] 56] w1') := by rw [hw1]; exact HB.out.alloc _
      clear hcs hw1 hcap
      obtain ⟨w1, rfl⟩ : ∃ w1 : World, w1 = w1' := ⟨_, rfl⟩
      revert Hpb
      obtain ⟨pb, hpb⟩ : ∃ pb, (w.alloc (.cells #[.int .i64 0, .int .i64 0, .int .i64 0, .slice none 0 0, .int .i64 0] 56)).heap.size = pb := ⟨_, rfl⟩
      have Hpb1 : Hid (pb = w.heap.size + 1) := by show _ = _; rw [← hpb]; simp
      rw [hpb]
      intro Hpb
      clear hpb
      have hv0 := run_insert_at (P := Tryz.prog) (t := 117) (es := #[]) (c := 0) (key := bs [111, 112, 101, 110]) (v := .int .i64 1) (rfl : w1.heap.size = w1.heap.size) Tryz.underlying117 Tryz.underlying9 (by first | exact trivial | rfl) (by kernel_rfl)
      have hv1 := run_insert_at (P := Tryz.prog) (t := 117) (es := #[⟨bs [111, 112, 101, 110], .int .i64 1, 0⟩]) (c := 1) (key := bs [116, 105, 103, 104, 116]) (v := .int .i64 2) (rfl : w1.heap.size = w1.heap.size) Tryz.underlying117 Tryz.underlying9 (by first | exact trivial | rfl) (by kernel_rfl)
      have hv2 := run_insert_at (P := Tryz.prog) (t := 117) (es := #[⟨bs [111, 112, 101, 110], .int .i64 1, 0⟩, ⟨bs [116, 105, 103, 104, 116], .int .i64 2, 1⟩]) (c := 2) (key := bs [102, 111, 114, 107]) (v := .int .i64 3) (rfl : w1.heap.size = w1.heap.size) Tryz.underlying117 Tryz.underlying9 (by first | exact trivial | rfl) (by kernel_rfl)
      have hv3 := run_insert_at (P := Tryz.prog) (t := 117) (es := #[⟨bs [111, 112, 101, 110], .int .i64 1, 0⟩, ⟨bs [116, 105, 103, 104, 116], .int .i64 2, 1⟩, ⟨bs [102, 111, 114, 107], .int .i64 3, 2⟩]) (c := 3) (key := bs [115, 104, 117, 116]) (v := .int .i64 4) (rfl : w1.heap.size = w1.heap.size) Tryz.underlying117 Tryz.underlying9 (by first | exact trivial | rfl) (by kernel_rfl)
      simp only [List.push_toArray, List.nil_append, List.cons_append, Nat.reduceAdd] at hv0 hv1 hv2 hv3
      have hcp := cells_of Hpb.out
      have hblm : (w1.alloc (.map kmap 4)).heap[pb]? = some (.cells cs 9) := blk_old Hpb.out
      have hcpm := cells_of hblm
      have hcpx : ∀ O i, ((w1.alloc (.map kmap 4)).alloc O).cell? ⟨pb, i, none⟩ = cs[i]? := fun O => cells_of (blk_old hblm)
      obtain ⟨fk, hfk, hfk'⟩ := find_k a
      have hz : ∀ W : World, (zeroValue 3).run Tryz.prog W = .ok (.int .i64 0) W := fun W => by kernel_rfl
      have hlk := run_lookup_bare (P := Tryz.prog) (key := .string (bsL a)) (t := 117) Tryz.underlying117 Tryz.underlying9 (heap_last w1 (.map kmap 4)) (hz _) (by exact trivial) hfk
      rw [hfk', Hk.out] at hlk
      have HB2 := Lib.hid (HB1.out.alloc (.map kmap 4))
      clear hfk hfk' hz hblm
      by_cases h04 : k = 0 ∨ k = 4
      · have HE1 : Hid (readRec L = (⟨0, 0, 0, ⟨[], 0⟩⟩, 1)) := by
          show _ = _; rw [HE0.out]
          rcases h04 with rfl | rfl
          · exact readGo_bad (.inl rfl)
          · exact readGo_bad (.inr (.inr (by decide)))
        clear hkr
        rcases h04 with rfl | rfl
        all_goals
          go_wp2_with fail
          clear hv0 hv1 hv2 hv3 hmm hlk hcp hcpm hcpx
          refine (rbad_any 1 _).mono ?_
          rintro e wz ⟨rfl, hbz⟩
          have HBz := Lib.hid (HB2.out.below hbz)
          clear hbz
          have hq0 := HBz.out.cells0
          have hf0 := HBz.out.free0
          have HS := Lib.hid (HBz.out.put5 (.int .i64 0) (.int .i64 0) (.int .i64 0) (.slice none 0 0) (.int .i64 0) rfl)
          have hqs := HS.out.cells0
          have HBL := Lib.hid HS.out.bel
          clear HS
          go_wp2
          refine bodyPost_ret (v := .tuple #[recV ⟨0, 0, 0, ⟨[], 0⟩⟩ (.slice none 0 0), .int .i64 1]) ?_ rfl (by rw [HE1.out]; exact ⟨_, rfl, nil_rulesP _ _, HBL.out⟩)
          rw [results_cell_tmp rfl]
          go_simp
      · have hkr' : k = 1 ∨ k = 2 ∨ k = 3 := by omega
        clear hkr h04
        rcases hkr' with rfl | rfl | rfl
        · go_wp2_with fail
          clear hv0 hv1 hv2 hv3 hmm hlk hcp hcpm hcpx
          have Hpb2 : Hid (((w1.alloc (.map kmap 4)).alloc (.cells #[.int .i64 1, .int .i64 0, .int .i64 0, .slice none 0 0, .int .i64 0] 56)).heap[pb]? = some (.cells cs 9)) := blk_old (blk_old Hpb.out)
          have HBx := Lib.hid (HB2.out.alloc (.cells #[.int .i64 1, .int .i64 0, .int .i64 0, .slice none 0 0, .int .i64 0] 56))
          have HX := Lib.hid (heap_last (w1.alloc (.map kmap 4)) (.cells #[.int .i64 1, .int .i64 0, .int .i64 0, .slice none 0 0, .int .i64 0] 56))
          have Htop : Hid (pb < w1.heap.size ∧ w.heap.size + 1 ≤ w1.heap.size) := ⟨(Array.getElem?_eq_some_iff.1 Hpb.out).1, HB1.out.top⟩
          refine (whole_any (bsL b) _ (HL.out.below HBx.out.bel) (by have := Hbt.out.1; simp [bsL, ByteArray.size]; omega)).mono ?_
          rw [bsL_toList, Hn.out]
          rintro e w3 ⟨rfl, hb3⟩
          have Hpb3 := Lib.hid (blk_below Hpb2.out hb3)
          have HB3 := Lib.hid (HBx.out.below hb3)
          have HX3 : Hid (w3.heap[w1.heap.size + 1]? = some (.cells #[.int .i64 1, .int .i64 0, .int .i64 0, .slice none 0 0, .int .i64 0] 56)) := by show _ = _; have := blk_below HX.out hb3; simpa using this
          clear hb3 Hpb2 HBx HX
          obtain ⟨bx, hbx⟩ : ∃ bx, w1.heap.size + 1 = bx := ⟨_, rfl⟩
          have Hbx : Hid (pb < bx ∧ w.heap.size + 1 ≤ bx) := by have := Htop.out; show _ ∧ _; omega
          have hqx := cells_of HX3.out
          have hfx := not_frozen HX3.out
          have HXs := Lib.hid (set_at (o := 1) (v := .int .i64 n) HX3.out)
          have hqs := cells_of HXs.out
          have HBs := Lib.hid (HB3.out.lift (set_below (a := ⟨w1.heap.size + 1, 1, none⟩) (v := .int .i64 n) (Below.refl (w.heap.size + 1) w3) (by have := Htop.out; show _ ≤ w1.heap.size + 1; omega)) (by simp))
          have Hpbs : Hid ((w3.setCell ⟨w1.heap.size + 1, 1, none⟩ (.int .i64 n)).heap[pb]? = some (.cells cs 9)) := (set_other (by show pb ≠ w1.heap.size + 1; have := Htop.out; omega)).trans Hpb3.out
          have hcp2 := cells_of Hpbs.out
          clear hbx Hbx
          cases ok with
          | false =>
            have HE1 : Hid (readRec L = (⟨0, 0, 0, ⟨[], 0⟩⟩, 1)) := by show _ = _; rw [HE0.out]; exact readGo_bad (.inr (.inl (by show (wholeS b).2 = false; rw [Hn.out])))
            go_wp2_with fail
            clear hqx hfx hcp2 hqs
            refine (rbad_any 1 _).mono ?_
            rintro e wz ⟨rfl, hbz⟩
            have HBz := Lib.hid (HBs.out.below hbz)
            clear hbz
            have hq0 := HBz.out.cells0
            have hf0 := HBz.out.free0
            have HS := Lib.hid (HBz.out.put5 (.int .i64 0) (.int .i64 0) (.int .i64 0) (.slice none 0 0) (.int .i64 0) rfl)
            have hqs := HS.out.cells0
            have HBL := Lib.hid HS.out.bel
            clear HS
            go_wp2
            refine bodyPost_ret (v := .tuple #[recV ⟨0, 0, 0, ⟨[], 0⟩⟩ (.slice none 0 0), .int .i64 1]) ?_ rfl (by rw [HE1.out]; exact ⟨_, rfl, nil_rulesP _ _, HBL.out⟩)
            rw [results_cell_tmp rfl]
            go_simp
          | true =>
            obtain ⟨⟨P, pe⟩, hP⟩ : ∃ E, readP t = E := ⟨_, rfl⟩
            have HEp : Hid (readRec L = if pe ≠ 0 then (zeroRec, pe) else checkedRec ⟨1, n, 0, P⟩) := by
              show _ = _; rw [HE0.out, readGo_pol (.inl rfl) Hn.out, hP]
            have HP2 := Lib.hid hP
            clear hP
            go_wp2_with fail
            clear hqx hfx hcp2 hqs
            refine (read_walk (bsL t) _ (HL.out.below HBs.out.bel) (by have := Hbt.out.2; simp [bsL, ByteArray.size]; omega) (by have := Hbt.out.2; simp [bsL, ByteArray.size]; omega)).mono ?_
            rw [bsL_toList, HP2.out]
            rintro e w5 ⟨v5, rfl, hr5, hb5⟩
            dsimp only at hr5
            obtain ⟨a5, c5, rfl, _⟩ := Sl.form hr5
            have HX5 := Lib.hid (blk_below HXs.out hb5)
            have HB5 := Lib.hid (HBs.out.below hb5)
            have HR5 : Hid (RdRules w5 (fun x => w3.heap.size ≤ x) (.slice a5 P.rules.length c5) P.rules) := hr5.keep (fun x hx _ => by have h1 : _ ≤ x := hx; rw [set_size] at h1; exact h1) (fun _ _ _ => rfl) (Nat.le_refl _)
            have Hs3 : Hid (w1.heap.size + 1 < w3.heap.size) := (Array.getElem?_eq_some_iff.1 HX3.out).1
            clear hb5 hr5
            dsimp only
            have HX6 := Lib.hid (blk_old (o := .cells #[.slice a5 P.rules.length c5, .int .i64 P.dflt] 38) HX5.out)
            have HY6 := Lib.hid (heap_last w5 (.cells #[.slice a5 P.rules.length c5, .int .i64 P.dflt] 38))
            have HB6 := Lib.hid (HB5.out.alloc (.cells #[.slice a5 P.rules.length c5, .int .i64 P.dflt] 38))
            have HR6 := Lib.hid (RdRules.below HR5.out (bel_alloc (Below.refl _ _) (.cells #[.slice a5 P.rules.length c5, .int .i64 P.dflt] 38)))
            by_cases hpe : pe = 0
            · subst hpe
              have HE1 : Hid (readRec L = checkedRec ⟨1, n, 0, P⟩) := by show _ = _; rw [HEp.out]; exact if_neg (by simp)
              have hqx := cells_of HX6.out
              have hfx := not_frozen HX6.out
              have hqy := cells_of HY6.out
              have HXt := Lib.hid (set_at (o := 4) (v := .int .i64 P.dflt) (set_at (o := 3) (v := .slice a5 P.rules.length c5) HX6.out))
              have HBt := Lib.hid (HB6.out.lift (set_below (a := ⟨w1.heap.size + 1, 4, none⟩) (v := .int .i64 P.dflt) (set_below (a := ⟨w1.heap.size + 1, 3, none⟩) (v := .slice a5 P.rules.length c5) (Below.refl (w.heap.size + 1) _) (by have := Htop.out; show _ ≤ w1.heap.size + 1; omega)) (by have := Htop.out; show _ ≤ w1.heap.size + 1; omega)) (by simp))
              have hqs := cells_of HXt.out
              have HRx := Lib.hid (RdRules.keep (w' := ((w5.alloc (.cells #[.slice a5 P.rules.length c5, .int .i64 P.dflt] 38)).setCell ⟨w1.heap.size + 1, 3, none⟩ (.slice a5 P.rules.length c5)).setCell ⟨w1.heap.size + 1, 4, none⟩ (.int .i64 P.dflt)) (D' := fun x => w.heap.size + 1 ≤ x) HR6.out (fun x hx _ => by have h1 : w3.heap.size ≤ x := hx; have := Htop.out; have := Hs3.out; show _ ≤ _; omega) (fun x hx _ => by
                have h1 : w3.heap.size ≤ x := hx
                have := Hs3.out
                rw [set_other (by show x ≠ w1.heap.size + 1; omega), set_other (by show x ≠ w1.heap.size + 1; omega)]) (by rw [set_size, set_size]; exact Nat.le_refl _))
              go_wp2_with fail
              clear hqx hfx hqs hqy
              refine (rreccheck_any _ ⟨1, n, 0, P⟩ _ _ HRx.out).mono ?_
              rintro e w8 ⟨rfl, hb8⟩
              have HB8 := Lib.hid (HBt.out.below hb8)
              have HR8 := Lib.hid (RdRules.below HRx.out hb8)
              have hqx := cells_of (blk_below HXt.out hb8)
              clear hb8
              by_cases h0 : recE ⟨1, n, 0, P⟩ = 0
              · have HE' : Hid (readRec L = (⟨1, n, 0, P⟩, 0)) := by show _ = _; rw [HE1.out]; exact if_pos h0
                have HS := Lib.hid (HB8.out.put5 (.int .i64 1) (.int .i64 n) (.int .i64 0) (.slice a5 P.rules.length c5) (.int .i64 P.dflt) rfl)
                have hq0 := HB8.out.cells0
                have hf0 := HB8.out.free0
                have hqs := HS.out.cells0
                have HBL := Lib.hid HS.out.bel
                have HRF := Lib.hid (rules_off HR8.out (puts5_grow (b := w.heap.size) (.int .i64 1) (.int .i64 n) (.int .i64 0) (.slice a5 P.rules.length c5) (.int .i64 P.dflt)))
                rw [h0]
                clear h0 HS
                go_wp2
                refine bodyPost_ret (v := .tuple #[recV ⟨1, n, 0, P⟩ (.slice a5 P.rules.length c5), .int .i64 0]) ?_ rfl (by rw [HE'.out]; exact ⟨_, rfl, HRF.out, HBL.out⟩)
                rw [results_cell_tmp rfl]
                go_simp
              · have HE' : Hid (readRec L = (⟨0, 0, 0, ⟨[], 0⟩⟩, recE ⟨1, n, 0, P⟩)) := by show _ = _; rw [HE1.out]; exact if_neg h0
                have hne : (recE ⟨1, n, 0, P⟩ != 0) = true := bne_iff_ne.2 h0
                generalize recE ⟨1, n, 0, P⟩ = pe at *
                clear h0 hqx HR8
                go_wp2_with fail
                refine (rbad_any pe _).mono ?_
                rintro e wz ⟨rfl, hbz⟩
                have HBz := Lib.hid (HB8.out.below hbz)
                clear hbz
                have hq0 := HBz.out.cells0
                have hf0 := HBz.out.free0
                have HS := Lib.hid (HBz.out.put5 (.int .i64 0) (.int .i64 0) (.int .i64 0) (.slice none 0 0) (.int .i64 0) rfl)
                have hqs := HS.out.cells0
                have HBL := Lib.hid HS.out.bel
                clear HS
                go_wp2
                refine bodyPost_ret (v := .tuple #[recV ⟨0, 0, 0, ⟨[], 0⟩⟩ (.slice none 0 0), .int .i64 pe]) ?_ rfl (by rw [HE'.out]; exact ⟨_, rfl, nil_rulesP _ _, HBL.out⟩)
                rw [results_cell_tmp rfl]
                go_simp
            · have HE1 : Hid (readRec L = (⟨0, 0, 0, ⟨[], 0⟩⟩, pe)) := by show _ = _; rw [HEp.out]; exact if_pos hpe
              have hne : (pe != 0) = true := bne_iff_ne.2 hpe
              clear hpe
              go_wp2_with fail
              refine (rbad_any pe _).mono ?_
              rintro e wz ⟨rfl, hbz⟩
              have HBz := Lib.hid (HB6.out.below hbz)
              clear hbz
              have hq0 := HBz.out.cells0
              have hf0 := HBz.out.free0
              have HS := Lib.hid (HBz.out.put5 (.int .i64 0) (.int .i64 0) (.int .i64 0) (.slice none 0 0) (.int .i64 0) rfl)
              have hqs := HS.out.cells0
              have HBL := Lib.hid HS.out.bel
              clear HS
              go_wp2
              refine bodyPost_ret (v := .tuple #[recV ⟨0, 0, 0, ⟨[], 0⟩⟩ (.slice none 0 0), .int .i64 pe]) ?_ rfl (by rw [HE1.out]; exact ⟨_, rfl, nil_rulesP _ _, HBL.out⟩)
              rw [results_cell_tmp rfl]
              go_simp
        · go_wp2_with fail
          clear hv0 hv1 hv2 hv3 hmm hlk hcp hcpm hcpx
          have Hpb2 : Hid (((w1.alloc (.map kmap 4)).alloc (.cells #[.int .i64 2, .int .i64 0, .int .i64 0, .slice none 0 0, .int .i64 0] 56)).heap[pb]? = some (.cells cs 9)) := blk_old (blk_old Hpb.out)
          have HBx := Lib.hid (HB2.out.alloc (.cells #[.int .i64 2, .int .i64 0, .int .i64 0, .slice none 0 0, .int .i64 0] 56))
          have HX := Lib.hid (heap_last (w1.alloc (.map kmap 4)) (.cells #[.int .i64 2, .int .i64 0, .int .i64 0, .slice none 0 0, .int .i64 0] 56))
          have Htop : Hid (pb < w1.heap.size ∧ w.heap.size + 1 ≤ w1.heap.size) := ⟨(Array.getElem?_eq_some_iff.1 Hpb.out).1, HB1.out.top⟩
          refine (whole_any (bsL b) _ (HL.out.below HBx.out.bel) (by have := Hbt.out.1; simp [bsL, ByteArray.size]; omega)).mono ?_
          rw [bsL_toList, Hn.out]
          rintro e w3 ⟨rfl, hb3⟩
          have Hpb3 := Lib.hid (blk_below Hpb2.out hb3)
          have HB3 := Lib.hid (HBx.out.below hb3)
          have HX3 : Hid (w3.heap[w1.heap.size + 1]? = some (.cells #[.int .i64 2, .int .i64 0, .int .i64 0, .slice none 0 0, .int .i64 0] 56)) := by show _ = _; have := blk_below HX.out hb3; simpa using this
          clear hb3 Hpb2 HBx HX
          obtain ⟨bx, hbx⟩ : ∃ bx, w1.heap.size + 1 = bx := ⟨_, rfl⟩
          have Hbx : Hid (pb < bx ∧ w.heap.size + 1 ≤ bx) := by have := Htop.out; show _ ∧ _; omega
          have hqx := cells_of HX3.out
          have hfx := not_frozen HX3.out
          have HXs := Lib.hid (set_at (o := 1) (v := .int .i64 n) HX3.out)
          have hqs := cells_of HXs.out
          have HBs := Lib.hid (HB3.out.lift (set_below (a := ⟨w1.heap.size + 1, 1, none⟩) (v := .int .i64 n) (Below.refl (w.heap.size + 1) w3) (by have := Htop.out; show _ ≤ w1.heap.size + 1; omega)) (by simp))
          have Hpbs : Hid ((w3.setCell ⟨w1.heap.size + 1, 1, none⟩ (.int .i64 n)).heap[pb]? = some (.cells cs 9)) := (set_other (by show pb ≠ w1.heap.size + 1; have := Htop.out; omega)).trans Hpb3.out
          have hcp2 := cells_of Hpbs.out
          clear hbx Hbx
          cases ok with
          | false =>
            have HE1 : Hid (readRec L = (⟨0, 0, 0, ⟨[], 0⟩⟩, 1)) := by show _ = _; rw [HE0.out]; exact readGo_bad (.inr (.inl (by show (wholeS b).2 = false; rw [Hn.out])))
            go_wp2_with fail
            clear hqx hfx hcp2 hqs
            refine (rbad_any 1 _).mono ?_
            rintro e wz ⟨rfl, hbz⟩
            have HBz := Lib.hid (HBs.out.below hbz)
            clear hbz
            have hq0 := HBz.out.cells0
            have hf0 := HBz.out.free0
            have HS := Lib.hid (HBz.out.put5 (.int .i64 0) (.int .i64 0) (.int .i64 0) (.slice none 0 0) (.int .i64 0) rfl)
            have hqs := HS.out.cells0
            have HBL := Lib.hid HS.out.bel
            clear HS
            go_wp2
            refine bodyPost_ret (v := .tuple #[recV ⟨0, 0, 0, ⟨[], 0⟩⟩ (.slice none 0 0), .int .i64 1]) ?_ rfl (by rw [HE1.out]; exact ⟨_, rfl, nil_rulesP _ _, HBL.out⟩)
            rw [results_cell_tmp rfl]
            go_simp
          | true =>
            obtain ⟨⟨P, pe⟩, hP⟩ : ∃ E, readP t = E := ⟨_, rfl⟩
            have HEp : Hid (readRec L = if pe ≠ 0 then (zeroRec, pe) else checkedRec ⟨2, n, 0, P⟩) := by
              show _ = _; rw [HE0.out, readGo_pol (.inr rfl) Hn.out, hP]
            have HP2 := Lib.hid hP
            clear hP
            go_wp2_with fail
            clear hqx hfx hcp2 hqs
            refine (read_walk (bsL t) _ (HL.out.below HBs.out.bel) (by have := Hbt.out.2; simp [bsL, ByteArray.size]; omega) (by have := Hbt.out.2; simp [bsL, ByteArray.size]; omega)).mono ?_
            rw [bsL_toList, HP2.out]
            rintro e w5 ⟨v5, rfl, hr5, hb5⟩
            dsimp only at hr5
            obtain ⟨a5, c5, rfl, _⟩ := Sl.form hr5
            have HX5 := Lib.hid (blk_below HXs.out hb5)
            have HB5 := Lib.hid (HBs.out.below hb5)
            have HR5 : Hid (RdRules w5 (fun x => w3.heap.size ≤ x) (.slice a5 P.rules.length c5) P.rules) := hr5.keep (fun x hx _ => by have h1 : _ ≤ x := hx; rw [set_size] at h1; exact h1) (fun _ _ _ => rfl) (Nat.le_refl _)
            have Hs3 : Hid (w1.heap.size + 1 < w3.heap.size) := (Array.getElem?_eq_some_iff.1 HX3.out).1
            clear hb5 hr5
            dsimp only
            have HX6 := Lib.hid (blk_old (o := .cells #[.slice a5 P.rules.length c5, .int .i64 P.dflt] 38) HX5.out)
            have HY6 := Lib.hid (heap_last w5 (.cells #[.slice a5 P.rules.length c5, .int .i64 P.dflt] 38))
            have HB6 := Lib.hid (HB5.out.alloc (.cells #[.slice a5 P.rules.length c5, .int .i64 P.dflt] 38))
            have HR6 := Lib.hid (RdRules.below HR5.out (bel_alloc (Below.refl _ _) (.cells #[.slice a5 P.rules.length c5, .int .i64 P.dflt] 38)))
            by_cases hpe : pe = 0
            · subst hpe
              have HE1 : Hid (readRec L = checkedRec ⟨2, n, 0, P⟩) := by show _ = _; rw [HEp.out]; exact if_neg (by simp)
              have hqx := cells_of HX6.out
              have hfx := not_frozen HX6.out
              have hqy := cells_of HY6.out
              have HXt := Lib.hid (set_at (o := 4) (v := .int .i64 P.dflt) (set_at (o := 3) (v := .slice a5 P.rules.length c5) HX6.out))
              have HBt := Lib.hid (HB6.out.lift (set_below (a := ⟨w1.heap.size + 1, 4, none⟩) (v := .int .i64 P.dflt) (set_below (a := ⟨w1.heap.size + 1, 3, none⟩) (v := .slice a5 P.rules.length c5) (Below.refl (w.heap.size + 1) _) (by have := Htop.out; show _ ≤ w1.heap.size + 1; omega)) (by have := Htop.out; show _ ≤ w1.heap.size + 1; omega)) (by simp))
              have hqs := cells_of HXt.out
              have HRx := Lib.hid (RdRules.keep (w' := ((w5.alloc (.cells #[.slice a5 P.rules.length c5, .int .i64 P.dflt] 38)).setCell ⟨w1.heap.size + 1, 3, none⟩ (.slice a5 P.rules.length c5)).setCell ⟨w1.heap.size + 1, 4, none⟩ (.int .i64 P.dflt)) (D' := fun x => w.heap.size + 1 ≤ x) HR6.out (fun x hx _ => by have h1 : w3.heap.size ≤ x := hx; have := Htop.out; have := Hs3.out; show _ ≤ _; omega) (fun x hx _ => by
                have h1 : w3.heap.size ≤ x := hx
                have := Hs3.out
                rw [set_other (by show x ≠ w1.heap.size + 1; omega), set_other (by show x ≠ w1.heap.size + 1; omega)]) (by rw [set_size, set_size]; exact Nat.le_refl _))
              go_wp2_with fail
              clear hqx hfx hqs hqy
              refine (rreccheck_any _ ⟨2, n, 0, P⟩ _ _ HRx.out).mono ?_
              rintro e w8 ⟨rfl, hb8⟩
              have HB8 := Lib.hid (HBt.out.below hb8)
              have HR8 := Lib.hid (RdRules.below HRx.out hb8)
              have hqx := cells_of (blk_below HXt.out hb8)
              clear hb8
              by_cases h0 : recE ⟨2, n, 0, P⟩ = 0
              · have HE' : Hid (readRec L = (⟨2, n, 0, P⟩, 0)) := by show _ = _; rw [HE1.out]; exact if_pos h0
                have HS := Lib.hid (HB8.out.put5 (.int .i64 2) (.int .i64 n) (.int .i64 0) (.slice a5 P.rules.length c5) (.int .i64 P.dflt) rfl)
                have hq0 := HB8.out.cells0
                have hf0 := HB8.out.free0
                have hqs := HS.out.cells0
                have HBL := Lib.hid HS.out.bel
                have HRF := Lib.hid (rules_off HR8.out (puts5_grow (b := w.heap.size) (.int .i64 2) (.int .i64 n) (.int .i64 0) (.slice a5 P.rules.length c5) (.int .i64 P.dflt)))
                rw [h0]
                clear h0 HS
                go_wp2
                refine bodyPost_ret (v := .tuple #[recV ⟨2, n, 0, P⟩ (.slice a5 P.rules.length c5), .int .i64 0]) ?_ rfl (by rw [HE'.out]; exact ⟨_, rfl, HRF.out, HBL.out⟩)
                rw [results_cell_tmp rfl]
                go_simp
              · have HE' : Hid (readRec L = (⟨0, 0, 0, ⟨[], 0⟩⟩, recE ⟨2, n, 0, P⟩)) := by show _ = _; rw [HE1.out]; exact if_neg h0
                have hne : (recE ⟨2, n, 0, P⟩ != 0) = true := bne_iff_ne.2 h0
                generalize recE ⟨2, n, 0, P⟩ = pe at *
                clear h0 hqx HR8
                go_wp2_with fail
                refine (rbad_any pe _).mono ?_
                rintro e wz ⟨rfl, hbz⟩
                have HBz := Lib.hid (HB8.out.below hbz)
                clear hbz
                have hq0 := HBz.out.cells0
                have hf0 := HBz.out.free0
                have HS := Lib.hid (HBz.out.put5 (.int .i64 0) (.int .i64 0) (.int .i64 0) (.slice none 0 0) (.int .i64 0) rfl)
                have hqs := HS.out.cells0
                have HBL := Lib.hid HS.out.bel
                clear HS
                go_wp2
                refine bodyPost_ret (v := .tuple #[recV ⟨0, 0, 0, ⟨[], 0⟩⟩ (.slice none 0 0), .int .i64 pe]) ?_ rfl (by rw [HE'.out]; exact ⟨_, rfl, nil_rulesP _ _, HBL.out⟩)
                rw [results_cell_tmp rfl]
                go_simp
            · have HE1 : Hid (readRec L = (⟨0, 0, 0, ⟨[], 0⟩⟩, pe)) := by show _ = _; rw [HEp.out]; exact if_pos hpe
              have hne : (pe != 0) = true := bne_iff_ne.2 hpe
              clear hpe
              go_wp2_with fail
              refine (rbad_any pe _).mono ?_
              rintro e wz ⟨rfl, hbz⟩
              have HBz := Lib.hid (HB6.out.below hbz)
              clear hbz
              have hq0 := HBz.out.cells0
              have hf0 := HBz.out.free0
              have HS := Lib.hid (HBz.out.put5 (.int .i64 0) (.int .i64 0) (.int .i64 0) (.slice none 0 0) (.int .i64 0) rfl)
              have hqs := HS.out.cells0
              have HBL := Lib.hid HS.out.bel
              clear HS
              go_wp2
              refine bodyPost_ret (v := .tuple #[recV ⟨0, 0, 0, ⟨[], 0⟩⟩ (.slice none 0 0), .int .i64 pe]) ?_ rfl (by rw [HE1.out]; exact ⟨_, rfl, nil_rulesP _ _, HBL.out⟩)
              rw [results_cell_tmp rfl]
              go_simp
        · go_wp2_with fail
          clear hv0 hv1 hv2 hv3 hmm hlk hcp hcpm hcpx
          have Hpb2 : Hid (((w1.alloc (.map kmap 4)).alloc (.cells #[.int .i64 3, .int .i64 0, .int .i64 0, .slice none 0 0, .int .i64 0] 56)).heap[pb]? = some (.cells cs 9)) := blk_old (blk_old Hpb.out)
          have HBx := Lib.hid (HB2.out.alloc (.cells #[.int .i64 3, .int .i64 0, .int .i64 0, .slice none 0 0, .int .i64 0] 56))
          have HX := Lib.hid (heap_last (w1.alloc (.map kmap 4)) (.cells #[.int .i64 3, .int .i64 0, .int .i64 0, .slice none 0 0, .int .i64 0] 56))
          have Htop : Hid (pb < w1.heap.size ∧ w.heap.size + 1 ≤ w1.heap.size) := ⟨(Array.getElem?_eq_some_iff.1 Hpb.out).1, HB1.out.top⟩
          refine (whole_any (bsL b) _ (HL.out.below HBx.out.bel) (by have := Hbt.out.1; simp [bsL, ByteArray.size]; omega)).mono ?_
          rw [bsL_toList, Hn.out]
          rintro e w3 ⟨rfl, hb3⟩
          have Hpb3 := Lib.hid (blk_below Hpb2.out hb3)
          have HB3 := Lib.hid (HBx.out.below hb3)
          have HX3 : Hid (w3.heap[w1.heap.size + 1]? = some (.cells #[.int .i64 3, .int .i64 0, .int .i64 0, .slice none 0 0, .int .i64 0] 56)) := by show _ = _; have := blk_below HX.out hb3; simpa using this
          clear hb3 Hpb2 HBx HX
          obtain ⟨bx, hbx⟩ : ∃ bx, w1.heap.size + 1 = bx := ⟨_, rfl⟩
          have Hbx : Hid (pb < bx ∧ w.heap.size + 1 ≤ bx) := by have := Htop.out; show _ ∧ _; omega
          have hqx := cells_of HX3.out
          have hfx := not_frozen HX3.out
          have HXs := Lib.hid (set_at (o := 1) (v := .int .i64 n) HX3.out)
          have hqs := cells_of HXs.out
          have HBs := Lib.hid (HB3.out.lift (set_below (a := ⟨w1.heap.size + 1, 1, none⟩) (v := .int .i64 n) (Below.refl (w.heap.size + 1) w3) (by have := Htop.out; show _ ≤ w1.heap.size + 1; omega)) (by simp))
          have Hpbs : Hid ((w3.setCell ⟨w1.heap.size + 1, 1, none⟩ (.int .i64 n)).heap[pb]? = some (.cells cs 9)) := (set_other (by show pb ≠ w1.heap.size + 1; have := Htop.out; omega)).trans Hpb3.out
          have hcp2 := cells_of Hpbs.out
          clear hbx Hbx
          cases ok with
          | false =>
            have HE1 : Hid (readRec L = (⟨0, 0, 0, ⟨[], 0⟩⟩, 1)) := by show _ = _; rw [HE0.out]; exact readGo_bad (.inr (.inl (by show (wholeS b).2 = false; rw [Hn.out])))
            go_wp2_with fail
            clear hqx hfx hcp2 hqs
            refine (rbad_any 1 _).mono ?_
            rintro e wz ⟨rfl, hbz⟩
            have HBz := Lib.hid (HBs.out.below hbz)
            clear hbz
            have hq0 := HBz.out.cells0
            have hf0 := HBz.out.free0
            have HS := Lib.hid (HBz.out.put5 (.int .i64 0) (.int .i64 0) (.int .i64 0) (.slice none 0 0) (.int .i64 0) rfl)
            have hqs := HS.out.cells0
            have HBL := Lib.hid HS.out.bel
            clear HS
            go_wp2
            refine bodyPost_ret (v := .tuple #[recV ⟨0, 0, 0, ⟨[], 0⟩⟩ (.slice none 0 0), .int .i64 1]) ?_ rfl (by rw [HE1.out]; exact ⟨_, rfl, nil_rulesP _ _, HBL.out⟩)
            rw [results_cell_tmp rfl]
            go_simp
          | true =>
            obtain ⟨⟨f, okf⟩, hf⟩ : ∃ E, wholeS t = E := ⟨_, rfl⟩
            have HEf : Hid (readRec L = if okf then checkedRec ⟨3, n, f, ⟨[], 0⟩⟩ else (⟨0, 0, 0, ⟨[], 0⟩⟩, 1)) := by show _ = _; rw [HE0.out]; exact readGo_fork Hn.out hf
            have Hf := Lib.hid hf
            clear hf
            go_wp2_with fail
            clear hqx hfx hcp2 hqs
            refine (whole_any (bsL t) _ (HL.out.below HBs.out.bel) (by have := Hbt.out.2; simp [bsL, ByteArray.size]; omega)).mono ?_
            rw [bsL_toList, Hf.out]
            rintro e w5 ⟨rfl, hb5⟩
            have HX5 := Lib.hid (blk_below HXs.out hb5)
            have HB5 := Lib.hid (HBs.out.below hb5)
            clear hb5
            have hqx := cells_of HX5.out
            have hfx := not_frozen HX5.out
            have HXt := Lib.hid (set_at (o := 2) (v := .int .i64 f) HX5.out)
            have HBt := Lib.hid (HB5.out.lift (set_below (a := ⟨w1.heap.size + 1, 2, none⟩) (v := .int .i64 f) (Below.refl (w.heap.size + 1) w5) (by have := Htop.out; show _ ≤ w1.heap.size + 1; omega)) (by simp))
            have hqs := cells_of HXt.out
            cases okf with
            | false =>
              have HE1 : Hid (readRec L = (⟨0, 0, 0, ⟨[], 0⟩⟩, 1)) := HEf.out
              go_wp2_with fail
              clear hqx hfx hqs
              refine (rbad_any 1 _).mono ?_
              rintro e wz ⟨rfl, hbz⟩
              have HBz := Lib.hid (HBt.out.below hbz)
              clear hbz
              have hq0 := HBz.out.cells0
              have hf0 := HBz.out.free0
              have HS := Lib.hid (HBz.out.put5 (.int .i64 0) (.int .i64 0) (.int .i64 0) (.slice none 0 0) (.int .i64 0) rfl)
              have hqs := HS.out.cells0
              have HBL := Lib.hid HS.out.bel
              clear HS
              go_wp2
              refine bodyPost_ret (v := .tuple #[recV ⟨0, 0, 0, ⟨[], 0⟩⟩ (.slice none 0 0), .int .i64 1]) ?_ rfl (by rw [HE1.out]; exact ⟨_, rfl, nil_rulesP _ _, HBL.out⟩)
              rw [results_cell_tmp rfl]
              go_simp
            | true =>
              have HE1 : Hid (readRec L = checkedRec ⟨3, n, f, ⟨[], 0⟩⟩) := HEf.out
              go_wp2_with fail
              clear hqx hfx hqs
              have HRx := Lib.hid (nil_rulesP (w5.setCell ⟨w1.heap.size + 1, 2, none⟩ (.int .i64 f)) (fun x => w.heap.size + 1 ≤ x))
              refine (rreccheck_any _ ⟨3, n, f, ⟨[], 0⟩⟩ _ _ HRx.out).mono ?_
              rintro e w8 ⟨rfl, hb8⟩
              have HB8 := Lib.hid (HBt.out.below hb8)
              have HR8 := Lib.hid (RdRules.below HRx.out hb8)
              have hqx := cells_of (blk_below HXt.out hb8)
              clear hb8
              by_cases h0 : recE ⟨3, n, f, ⟨[], 0⟩⟩ = 0
              · have HE' : Hid (readRec L = (⟨3, n, f, ⟨[], 0⟩⟩, 0)) := by show _ = _; rw [HE1.out]; exact if_pos h0
                have HS := Lib.hid (HB8.out.put5 (.int .i64 3) (.int .i64 n) (.int .i64 f) (.slice none 0 0) (.int .i64 0) rfl)
                have hq0 := HB8.out.cells0
                have hf0 := HB8.out.free0
                have hqs := HS.out.cells0
                have HBL := Lib.hid HS.out.bel
                have HRF := Lib.hid (rules_off HR8.out (puts5_grow (b := w.heap.size) (.int .i64 3) (.int .i64 n) (.int .i64 f) (.slice none 0 0) (.int .i64 0)))
                rw [h0]
                clear h0 HS
                go_wp2
                refine bodyPost_ret (v := .tuple #[recV ⟨3, n, f, ⟨[], 0⟩⟩ (.slice none 0 0), .int .i64 0]) ?_ rfl (by rw [HE'.out]; exact ⟨_, rfl, HRF.out, HBL.out⟩)
                rw [results_cell_tmp rfl]
                go_simp
              · have HE' : Hid (readRec L = (⟨0, 0, 0, ⟨[], 0⟩⟩, recE ⟨3, n, f, ⟨[], 0⟩⟩)) := by show _ = _; rw [HE1.out]; exact if_neg h0
                have hne : (recE ⟨3, n, f, ⟨[], 0⟩⟩ != 0) = true := bne_iff_ne.2 h0
                generalize recE ⟨3, n, f, ⟨[], 0⟩⟩ = pe at *
                clear h0 hqx HR8
                go_wp2_with fail
                refine (rbad_any pe _).mono ?_
                rintro e wz ⟨rfl, hbz⟩
                have HBz := Lib.hid (HB8.out.below hbz)
                clear hbz
                have hq0 := HBz.out.cells0
                have hf0 := HBz.out.free0
                have HS := Lib.hid (HBz.out.put5 (.int .i64 0) (.int .i64 0) (.int .i64 0) (.slice none 0 0) (.int .i64 0) rfl)
                have hqs := HS.out.cells0
                have HBL := Lib.hid HS.out.bel
                clear HS
                go_wp2
                refine bodyPost_ret (v := .tuple #[recV ⟨0, 0, 0, ⟨[], 0⟩⟩ (.slice none 0 0), .int .i64 pe]) ?_ rfl (by rw [HE'.out]; exact ⟨_, rfl, nil_rulesP _ _, HBL.out⟩)
                rw [results_cell_tmp rfl]
                go_simp
end Go.Proofs.YthkgjohhbdipcaaGreatDoor
namespace Go.Proofs.YthkgjohhbdipcaaGreatDoor
open Go.RowKit Go.Shelf
attribute [local go_sem] gives givesUpon
attribute [-go_sem] run_string_add_if run_slice_string_if run_slice_string

@[reducible] def kindRow : Array Value := #[Value.string (bsL [111, 112, 101, 110, 32]), .string (bsL [116, 105, 103, 104, 116, 32]), .string (bsL [102, 111, 114, 107, 32]), .string (bsL [115, 104, 117, 116, 32])]
theorem kindRow_cell {v : Int} (h0 : 1 ≤ v) (h1 : v ≤ 4) : kindRow[(v - 1).toNat]? = some (.string (bsL (kindW v ++ [32]))) := by
  rcases (by omega : v = 1 ∨ v = 2 ∨ v = 3 ∨ v = 4) with rfl | rfl | rfl | rfl <;> rfl
set_option maxRecDepth 100000 in
set_option maxHeartbeats 16000000 in
theorem rrectext_any (v : Value) (r : TRec) (D : Nat → Prop) (w : World) (h : RdRules w D v r.p.rules) (hL : LaidF w) :
    Calls Tryz.prog 27 #[recV r v] w fun e w' => e = .returned (.tuple #[.string (bsL (nprintE r).1), .int .i64 (nprintE r).2]) ∧ Below w.heap.size w w' := by
  have H := Lib.hid (RdRules.keep h (D' := fun b => b < w.heap.size) (fun _ _ hl => hl) (fun _ _ _ => rfl) (Nat.le_refl _))
  have HL0 := Lib.hid hL
  obtain ⟨kd, cl, fr, p⟩ := r
  dsimp only at H h ⊢
  obtain ⟨a, c, rfl, hlc, hcm, hat⟩ := Sl.form H.out
  clear h hL hlc hcm hat
  go_enter Tryz.func27, Tryz.ntmps27
  go_wp2_with fail
  have HB0 := Lib.hid (Bx.one (w := w) (o := .cells #[.int .i64 kd, .int .i64 cl, .int .i64 fr, .slice a p.rules.length c, .int .i64 p.dflt] 56))
  refine (rreccheck_any _ ⟨kd, cl, fr, p⟩ _ _ (RdRules.below H.out HB0.out.bel)).mono ?_
  rintro e w1 ⟨rfl, hb1⟩
  have HB := Lib.hid (HB0.out.below hb1)
  clear hb1 HB0
  by_cases h0 : recE ⟨kd, cl, fr, p⟩ = 0
  · have HE : Hid (nprintE ⟨kd, cl, fr, p⟩ = (recW ⟨kd, cl, fr, p⟩, 0)) := if_pos h0
    obtain ⟨hk1, hk2, hc0, hc1, hf0, hf1, _, _, hp⟩ := recE_ok h0
    dsimp only at hk1 hk2 hc0 hc1 hf0 hf1 hp
    have Hp := Lib.hid hp
    have HL := Lib.hid (HL0.out.below HB.out.bel)
    rw [h0]
    clear h0 hp
    have hkl := kindW_len kd
    have hil := Lib.itoa_length_le cl (by omega) (by omega)
    obtain ⟨s1, hs1⟩ : ∃ s1, kindW kd ++ [32] = s1 := ⟨_, rfl⟩
    obtain ⟨s2, hs2⟩ : ∃ s2, s1 ++ Lib.itoa cl = s2 := ⟨_, rfl⟩
    have hl1 : s1.length ≤ 6 := by rw [← hs1]; simp; omega
    have hl2 : s2.length ≤ 27 := by rw [← hs2]; simp; omega
    have hb2 : ∀ W : World, (Op.stringOp .add (bsL s1) (bsL (Lib.itoa cl))).run Tryz.prog W = .ok (.string (bsL s2)) W := fun W => by rw [← hs2]; exact add_bs s1 (Lib.itoa cl) (by omega) W
    have HS : Hid (s2 = kindW kd ++ 32 :: Lib.itoa cl) := by show _ = _; rw [← hs2, ← hs1]; simp
    obtain ⟨j, hj⟩ : ∃ j, kd - 1 = j := ⟨_, rfl⟩
    have Hcell : Hid (kindRow[j.toNat]? = some (.string (bsL s1))) := by show _ = _; rw [← hj, ← hs1]; exact kindRow_cell hk1 hk2
    have hwj : IntKind.i64.wrap (kd - 1) = j := by rw [hj]; exact IntWalk.i64_in _ (by omega)
    have hj0 : 0 ≤ j := by omega
    have hj4 : j < 4 := by omega
    have Hl2 := Lib.hid hl2
    clear hs1 hs2 hl1 hj
    have hq0 := HB.out.cells0
    go_wp2_with fail
    clear hq0
    refine wp_region_B [pr (VRowB kindRow 9 4), ex (.pointer (some ⟨w.heap.size, 0, none⟩)), ex (.int .i64 kd), ex (.int .i64 j), pr (VAtB kindRow 9 j.toNat), ex (.string (bsL s1)), ex (.pointer (some ⟨w.heap.size, 1, none⟩)), ex (.int .i64 cl), ex (.string (bsL (Lib.itoa cl))), ex (.string (bsL s2)), ex (.string (bsL s2))] _ (Nat.le_refl _) (by kernel_rfl) (by kernel_rfl) ⟨.inr ⟨_, rfl, VRowB_stable⟩, .inl ⟨_, rfl⟩, .inl ⟨_, rfl⟩, .inl ⟨_, rfl⟩, .inr ⟨_, rfl, VAtB_stable⟩, .inl ⟨_, rfl⟩, .inl ⟨_, rfl⟩, .inl ⟨_, rfl⟩, .inl ⟨_, rfl⟩, .inl ⟨_, rfl⟩, .inl ⟨_, rfl⟩, trivial⟩ ?_
    (refine walkB_pr (fun K hK => ?_); refine ⟨fun W hC hd R hR => ?_, fun v0 => ?_⟩; (clear hd; go_simp; exact hR _ _ (bel_alloc (Below.refl _ _) _) ⟨_, rfl, heap_last _ _⟩); (go_simp; refine hK _ _ ?_; clear hK K))
    (refine walkB_ex (fun K hK => ?_); refine ⟨fun W hC hd R hR => ?_, ?_⟩; (clear hd; go_simp; exact hR _ _ (Below.refl _ _) rfl); (go_simp; refine hK _ ?_; clear hK K))
    (refine walkB_ex (fun K hK => ?_); refine ⟨fun W hC hd R hR => ?_, ?_⟩; (have hqb := (HB.out.below hC.2).cells0; clear hd; go_simp; exact hR _ _ (Below.refl _ _) rfl); (go_simp; refine hK _ ?_; clear hK K))
    (refine walkB_ex (fun K hK => ?_); refine ⟨fun W hC hd R hR => ?_, ?_⟩; (clear hd; go_simp; exact hR _ _ (Below.refl _ _) rfl); (go_simp; refine hK _ ?_; clear hK K))
    (refine walkB_pr (fun K hK => ?_); refine ⟨fun W hC hd R hR => ?_, fun v4 => ?_⟩; (have hv : VRowB kindRow 9 4 v0 W := hd 0 (by decide); obtain ⟨b0, rfl, hc0⟩ := hv; have Hc0 := Lib.hid hc0; clear hc0; clear hd; go_simp; exact hR _ _ (Below.refl _ _) ⟨b0, rfl, Hc0.out⟩); (go_simp; refine hK _ _ ?_; clear hK K))
    (refine walkB_ex (fun K hK => ?_); refine ⟨fun W hC hd R hR => ?_, ?_⟩; (have hv : VAtB kindRow 9 j.toNat v4 W := hd 4 (by decide); obtain ⟨b0, rfl, hc0⟩ := hv; have hcell := (cells_of hc0 _).trans Hcell.out; clear hc0; clear hd; go_simp; exact hR _ _ (Below.refl _ _) rfl); (go_simp; refine hK _ ?_; clear hK K))
    (refine walkB_ex (fun K hK => ?_); refine ⟨fun W hC hd R hR => ?_, ?_⟩; (clear hd; go_simp; exact hR _ _ (Below.refl _ _) rfl); (go_simp; refine hK _ ?_; clear hK K))
    (refine walkB_ex (fun K hK => ?_); refine ⟨fun W hC hd R hR => ?_, ?_⟩; (have hqb := (HB.out.below hC.2).cells0; clear hd; go_simp; exact hR _ _ (Below.refl _ _) rfl); (go_simp; refine hK _ ?_; clear hK K))
    (refine walkB_ex (fun K hK => ?_); refine ⟨fun W hC hd R hR => ?_, ?_⟩; (have HLW := Lib.hid (HL.out.below hC.2).base; clear hd; go_simp; go_at_call 65; refine (itoa_any cl (by omega) (by omega) _ HLW.out).mono ?_; rintro e w9 ⟨rfl, hb9⟩; exact ⟨_, rfl, hR _ _ hb9 rfl⟩); (go_simp; refine hK _ ?_; clear hK K))
    (refine walkB_ex (fun K hK => ?_); refine ⟨fun W hC hd R hR => ?_, ?_⟩; (clear hd; go_simp; exact hR _ _ (Below.refl _ _) rfl); (go_simp; refine hK _ ?_; clear hK K))
    (refine walkB_ex (fun K hK => ?_); refine ⟨fun W hC hd R hR => ?_, ?_⟩; (clear hd; go_simp; exact hR _ _ (Below.refl _ _) rfl); (go_simp; refine hK _ ?_; clear hK K))
    intro w2 hC2 _
    have HB2 := Lib.hid (HB.out.below hC2.2)
    have HL2 := Lib.hid (HL.out.below hC2.2)
    clear hC2 hb2 HB HL hkl hil hl2 hwj hj0 hj4 Hcell
    have hq0 := HB2.out.cells0
    have hkd : kd = 1 ∨ kd = 2 ∨ kd = 3 ∨ kd = 4 := by omega
    have hs32 : ∀ (t : List UInt8), t.length ≤ 34100 → ∀ W : World, (Op.stringOp .add (bsL s2) (bsL t)).run Tryz.prog W = .ok (.string (bsL (s2 ++ t))) W := fun t ht W => add_bs s2 t (by have := Hl2.out; omega) W
    have h32 : ∀ W : World, (Op.stringOp .add (bsL s2) ⟨#[32]⟩).run Tryz.prog W = .ok (.string (bsL (s2 ++ [32]))) W := hs32 [32] (by decide)
    clear hk1 hk2
    rcases hkd with rfl | rfl | rfl | rfl
    · have Hok := Lib.hid (Hp.out (by decide))
      have htl := textP_len Hok.out
      have hadd2 : ∀ W : World, (Op.stringOp .add (bsL (s2 ++ [32])) (bsL (textP p))).run Tryz.prog W = .ok (.string (bsL ((s2 ++ [32]) ++ textP p))) W := fun W => add_bs (s2 ++ [32]) (textP p) (by have := Hl2.out; simp; omega) W
      clear hs32
      go_wp2_with fail
      refine (ptext_any _ p _ _ (RdRules.below H.out HB2.out.bel) Hok.out HL2.out).mono ?_
      rintro e w3 ⟨rfl, hb3⟩
      have HB3 := Lib.hid (HB2.out.below hb3)
      clear hb3 hq0
      go_wp2
      go_ret2
      exact ⟨by rw [HE.out, HS.out]; simp [recW, tailW], HB3.out.bel⟩
    · have Hok := Lib.hid (Hp.out (by decide))
      have htl := textP_len Hok.out
      have hadd2 : ∀ W : World, (Op.stringOp .add (bsL (s2 ++ [32])) (bsL (textP p))).run Tryz.prog W = .ok (.string (bsL ((s2 ++ [32]) ++ textP p))) W := fun W => add_bs (s2 ++ [32]) (textP p) (by have := Hl2.out; simp; omega) W
      clear hs32
      go_wp2_with fail
      refine (ptext_any _ p _ _ (RdRules.below H.out HB2.out.bel) Hok.out HL2.out).mono ?_
      rintro e w3 ⟨rfl, hb3⟩
      have HB3 := Lib.hid (HB2.out.below hb3)
      clear hb3 hq0
      go_wp2
      go_ret2
      exact ⟨by rw [HE.out, HS.out]; simp [recW, tailW], HB3.out.bel⟩
    · have hfl := Lib.itoa_length_le fr (by omega) (by omega)
      have hadd2 : ∀ W : World, (Op.stringOp .add (bsL (s2 ++ [32])) (bsL (Lib.itoa fr))).run Tryz.prog W = .ok (.string (bsL ((s2 ++ [32]) ++ Lib.itoa fr))) W := fun W => add_bs (s2 ++ [32]) (Lib.itoa fr) (by have := Hl2.out; simp; omega) W
      clear hs32
      go_wp2_with fail
      refine (itoa_any fr (by omega) (by omega) _ HL2.out.base).mono ?_
      rintro e w3 ⟨rfl, hb3⟩
      have HB3 := Lib.hid (HB2.out.below hb3)
      clear hb3 hq0
      go_wp2
      go_ret2
      exact ⟨by rw [HE.out, HS.out]; simp [recW, tailW], HB3.out.bel⟩
    · clear hs32
      go_wp2
      go_ret2
      exact ⟨by rw [HE.out, HS.out]; simp [recW, tailW], HB2.out.bel⟩
  · have HE : Hid (nprintE ⟨kd, cl, fr, p⟩ = ([], recE ⟨kd, cl, fr, p⟩)) := if_neg h0
    have hne : (recE ⟨kd, cl, fr, p⟩ != 0) = true := bne_iff_ne.2 h0
    have HBf := Lib.hid HB.out.bel
    generalize recE ⟨kd, cl, fr, p⟩ = E at *
    clear h0
    go_wp2
    go_ret2
    exact ⟨by rw [HE.out]; rfl, HBf.out⟩
end Go.Proofs.YthkgjohhbdipcaaGreatDoor
namespace Go.Proofs.YthkgjohhbdipcaaGreatDoor
open Go.RowKit

set_option maxHeartbeats 1000000 in
theorem made_any (w : World) (hL : Laid w) : Calls Tryz.prog 53 #[] w fun e w' => ∃ v, e = .returned (polV v 4) ∧ RdRules w' (fun b => w.heap.size ≤ b) v madeP.rules ∧ Below w.heap.size w w' := by
  have HL := Lib.hid (hL.below (bel_alloc (Below.refl _ _) (.cells #[.slice none 0 0, .int .i64 0] 38)))
  clear hL
  go_enter Tryz.func53, Tryz.ntmps53
  go_wp2_with fail
  refine (read_walk ⟨writtenL.toArray⟩ _ HL.out (by decide) (by decide)).mono ?_
  rintro e w1 ⟨v, rfl, hr, hb⟩
  have hrm : readP (⟨writtenL.toArray⟩ : ByteArray).data.toList = (madeP, 0) := read_made
  rw [hrm] at hr
  rw [hrm]
  have hd : (madeP, (0 : Int)).1.dflt = 4 := rfl
  rw [hd]
  have hr1 := blk_below (heap_last w (.cells #[.slice none 0 0, .int .i64 0] 38)) hb
  have Hr := Lib.hid hr
  have Hb := Lib.hid (bel_call (bel_alloc (Below.refl _ w) _) hb)
  obtain ⟨a, c, rfl, _⟩ := Sl.form hr
  have hsz := hb.size
  have hr2 : (w1.alloc (.cells #[.slice a madeP.rules.length c, .int .i64 4] 38)).heap[w.heap.size]? = some (.cells #[.slice none 0 0, .int .i64 0] 38) := blk_old hr1
  have hc2 := cells_of hr2
  have hf2 := not_frozen hr2
  have hr4 := set_at (o := 1) (v := .int .i64 4) (set_at (o := 0) (v := .slice a madeP.rules.length c) hr2)
  have hc4 := cells_of hr4
  have Hb4 := Lib.hid (set_below (a := ⟨w.heap.size, 1, none⟩) (v := .int .i64 4) (set_below (a := ⟨w.heap.size, 0, none⟩) (v := .slice a madeP.rules.length c) (bel_alloc Hb.out (.cells #[.slice a madeP.rules.length c, .int .i64 4] 38)) (Nat.le_refl _)) (Nat.le_refl _))
  have HR4 : Hid (RdRules (((w1.alloc (.cells #[.slice a madeP.rules.length c, .int .i64 4] 38)).setCell ⟨w.heap.size, 0, none⟩ (.slice a madeP.rules.length c)).setCell ⟨w.heap.size, 1, none⟩ (.int .i64 4)) (fun b => w.heap.size ≤ b) (.slice a madeP.rules.length c) madeP.rules) :=
    RdRules.keep (Hr.out.below (bel_alloc (Below.refl _ _) _)) (fun b h _ => by have : (w.alloc _).heap.size ≤ b := h; simp at this; show w.heap.size ≤ b; omega) (fun b hb _ => by
      have h1 : (w.alloc _).heap.size ≤ b := hb
      simp at h1
      rw [set_other (by show b ≠ w.heap.size; omega), set_other (by show b ≠ w.heap.size; omega)]) (by rw [set_size, set_size]; exact Nat.le_refl _)
  clear hr hb hrm hd hr1 hr2
  go_wp2
  refine bodyPost_ret (v := polV (.slice a madeP.rules.length c) 4) ?_ rfl ⟨_, rfl, HR4.out, Hb4.out⟩
  simp [results, Tryz.results53, go_sem, hc4]

end Go.Proofs.YthkgjohhbdipcaaGreatDoor
namespace Go.Proofs.YthkgjohhbdipcaaGreatDoor
open Go.RowKit
attribute [local go_sem] gives givesUpon

def notedL : List UInt8 := [116, 105, 103, 104, 116, 32, 50, 32, 107, 105, 108, 108, 32, 110, 114, 61, 51, 32, 97, 60, 53, 59, 108, 111, 103, 32, 107, 105, 110, 100, 33, 48, 59, 97, 108, 108, 111, 119]
theorem madeP_stableN : stableP (fun v W => ∃ u, v = polV u 4 ∧ RdRules W (fun _ => True) u madeP.rules) := fun _ _ _ hb ⟨u, h1, h2⟩ => ⟨u, h1, RdRules.below h2 hb⟩
theorem nt1 : nprintE ⟨2, 2, 0, madeP⟩ = (notedL, 0) := by decide +kernel
theorem nt2 : nprintE ⟨3, 1, 2, ⟨[], 0⟩⟩ = ([102, 111, 114, 107, 32, 49, 32, 50], 0) := by decide +kernel
theorem nt3 : nreadE notedL = (⟨2, 2, 0, madeP⟩, 0) := by decide +kernel
theorem nt_str : ((bsL notedL).toList == [116, 105, 103, 104, 116, 32, 50, 32, 107, 105, 108, 108, 32, 110, 114, 61, 51, 32, 97, 60, 53, 59, 108, 111, 103, 32, 107, 105, 110, 100, 33, 48, 59, 97, 108, 108, 111, 119]) = true := by rw [ByteArray.toList_eq]; decide
theorem nt_str2 : ((bsL [102, 111, 114, 107, 32, 49, 32, 50]).toList == [102, 111, 114, 107, 32, 49, 32, 50]) = true := by rw [ByteArray.toList_eq]; decide
set_option maxRecDepth 100000 in
set_option maxHeartbeats 16000000 in
theorem noted_walk (w : World) (hL : Laid w) : Calls Tryz.prog 28 #[] w fun e w' => e = .returned (.bool true) ∧ Below w.heap.size w w' := by
  have HL := Lib.hid hL
  clear hL
  have hm : madeP.rules.length = 2 := rfl
  have hd4 : madeP.dflt = 4 := rfl
  go_enter Tryz.func28, Tryz.ntmps28
  go_wp2_with fail
  refine (made_any _ HL.out).mono ?_
  rintro e w0 ⟨v0, rfl, hr0, hb0⟩
  have Hb0 := Lib.hid hb0
  have HR0 := Lib.hid (rules_true hr0)
  obtain ⟨a0, c0, rfl, _⟩ := Sl.form hr0
  clear hr0 hb0
  go_wp2_with fail
  refine (nprint_any (.slice a0 madeP.rules.length c0) ⟨2, 2, 0, madeP⟩ _ _ HR0.out (HL.out.below Hb0.out)).mono ?_
  rw [nt1]
  rintro e w1 ⟨rfl, hb1⟩
  have Hb1 := Lib.hid (bel_call Hb0.out hb1)
  clear hb1
  dsimp only
  go_wp2_with fail
  refine (nprint_any (.slice none 0 0) ⟨3, 1, 2, ⟨[], 0⟩⟩ (fun _ => True) _ (nil_rulesP _ _) (HL.out.below Hb1.out)).mono ?_
  rw [nt2]
  rintro e w2 ⟨rfl, hb2⟩
  have Hb2 := Lib.hid (bel_call Hb1.out hb2)
  clear hb2
  dsimp only
  go_wp2_with fail
  refine (nparse_any notedL _ (HL.out.below Hb2.out)).mono ?_
  rw [nt3]
  rintro e w3 ⟨v3, rfl, hr3, hb3⟩
  have HP3 := Lib.hid (rules_true hr3)
  obtain ⟨a3, c3, rfl, _⟩ := Sl.form hr3
  clear hr3
  rw [show (⟨2, 2, 0, madeP⟩ : TRec).p.rules.length = 2 from rfl] at HP3 ⊢
  have HX3 := Lib.hid (heap_last w3 (.cells #[.int .i64 2, .int .i64 2, .int .i64 0, .slice a3 2 c3, .int .i64 4] 56))
  have HA3 := Lib.hid (bel_alloc (Below.refl w3.heap.size w3) (.cells #[.int .i64 2, .int .i64 2, .int .i64 0, .slice a3 2 c3, .int .i64 4] 56))
  have HB3 := Lib.hid (bel_call (bel_call Hb2.out hb3) HA3.out)
  have HP4 : Hid (RdRules _ (fun _ => True) (.slice a3 2 c3) madeP.rules) := RdRules.below HP3.out HA3.out
  clear hb3
  dsimp only
  go_wp2_with fail
  revert HB3 HX3 HP4
  generalize (w3.alloc (.cells #[.int .i64 2, .int .i64 2, .int .i64 0, .slice a3 2 c3, .int .i64 4] 56)) = w5
  intro HX HB HP
  refine wp_region_B [ex (.int .i64 0), ex (.bool true), ex (.bool true), ex (.int .i64 0), ex (.bool true), ex (.bool true), ex (.bool true), ex (.int .i64 0), ex (.bool true), ex (.bool true), ex (.bool true), ex (.string (bsL notedL)), ex (.bool true), ex (.bool true), ex (.bool true), ex (.string (bsL [102, 111, 114, 107, 32, 49, 32, 50])), ex (.bool true), ex (.bool true), ex (.bool true), ex (.pointer (some ⟨w3.heap.size, 1, none⟩)), ex (.int .i64 2), ex (.bool true), ex (.bool true), ex (.bool true), ex (.pointer (some ⟨w3.heap.size, 3, none⟩)), ex (polV (.slice a3 2 c3) 4), pr (fun v W => ∃ u, v = polV u 4 ∧ RdRules W (fun _ => True) u madeP.rules), ex (.bool true), ex (.bool true), ex (.bool true)] _ (Nat.le_refl _) (by kernel_rfl) (by kernel_rfl) ⟨.inl ⟨_, rfl⟩, .inl ⟨_, rfl⟩, .inl ⟨_, rfl⟩, .inl ⟨_, rfl⟩, .inl ⟨_, rfl⟩, .inl ⟨_, rfl⟩, .inl ⟨_, rfl⟩, .inl ⟨_, rfl⟩, .inl ⟨_, rfl⟩, .inl ⟨_, rfl⟩, .inl ⟨_, rfl⟩, .inl ⟨_, rfl⟩, .inl ⟨_, rfl⟩, .inl ⟨_, rfl⟩, .inl ⟨_, rfl⟩, .inl ⟨_, rfl⟩, .inl ⟨_, rfl⟩, .inl ⟨_, rfl⟩, .inl ⟨_, rfl⟩, .inl ⟨_, rfl⟩, .inl ⟨_, rfl⟩, .inl ⟨_, rfl⟩, .inl ⟨_, rfl⟩, .inl ⟨_, rfl⟩, .inl ⟨_, rfl⟩, .inl ⟨_, rfl⟩, .inr ⟨_, rfl, madeP_stableN⟩, .inl ⟨_, rfl⟩, .inl ⟨_, rfl⟩, .inl ⟨_, rfl⟩, trivial⟩ ?_
  (refine walkB_ex (fun K hK => ?_); refine ⟨fun W hC hd R hR => ?_, ?_⟩; (clear hd; go_simp; exact hR _ _ (Below.refl _ _) rfl); (go_simp; refine hK _ ?_; clear hK K))
  (refine walkB_ex (fun K hK => ?_); refine ⟨fun W hC hd R hR => ?_, ?_⟩; (clear hd; go_simp; exact hR _ _ (Below.refl _ _) rfl); (go_simp; refine hK _ ?_; clear hK K))
  (refine walkB_ex (fun K hK => ?_); refine ⟨fun W hC hd R hR => ?_, ?_⟩; (clear hd; go_simp; exact hR _ _ (Below.refl _ _) rfl); (go_simp; refine hK _ ?_; clear hK K))
  (refine walkB_ex (fun K hK => ?_); refine ⟨fun W hC hd R hR => ?_, ?_⟩; (clear hd; go_simp; exact hR _ _ (Below.refl _ _) rfl); (go_simp; refine hK _ ?_; clear hK K))
  (refine walkB_ex (fun K hK => ?_); refine ⟨fun W hC hd R hR => ?_, ?_⟩; (clear hd; go_simp; exact hR _ _ (Below.refl _ _) rfl); (go_simp; refine hK _ ?_; clear hK K))
  (refine walkB_ex (fun K hK => ?_); refine ⟨fun W hC hd R hR => ?_, ?_⟩; (clear hd; go_simp; exact hR _ _ (Below.refl _ _) rfl); (go_simp; refine hK _ ?_; clear hK K))
  (refine walkB_ex (fun K hK => ?_); refine ⟨fun W hC hd R hR => ?_, ?_⟩; (clear hd; go_simp; exact hR _ _ (Below.refl _ _) rfl); (go_simp; refine hK _ ?_; clear hK K))
  (refine walkB_ex (fun K hK => ?_); refine ⟨fun W hC hd R hR => ?_, ?_⟩; (clear hd; go_simp; exact hR _ _ (Below.refl _ _) rfl); (go_simp; refine hK _ ?_; clear hK K))
  (refine walkB_ex (fun K hK => ?_); refine ⟨fun W hC hd R hR => ?_, ?_⟩; (clear hd; go_simp; exact hR _ _ (Below.refl _ _) rfl); (go_simp; refine hK _ ?_; clear hK K))
  (refine walkB_ex (fun K hK => ?_); refine ⟨fun W hC hd R hR => ?_, ?_⟩; (clear hd; go_simp; exact hR _ _ (Below.refl _ _) rfl); (go_simp; refine hK _ ?_; clear hK K))
  (refine walkB_ex (fun K hK => ?_); refine ⟨fun W hC hd R hR => ?_, ?_⟩; (clear hd; go_simp; exact hR _ _ (Below.refl _ _) rfl); (go_simp; refine hK _ ?_; clear hK K))
  (refine walkB_ex (fun K hK => ?_); refine ⟨fun W hC hd R hR => ?_, ?_⟩; (clear hd; go_simp; exact hR _ _ (Below.refl _ _) rfl); (go_simp; refine hK _ ?_; clear hK K))
  (refine walkB_ex (fun K hK => ?_); refine ⟨fun W hC hd R hR => ?_, ?_⟩; (have hws := nt_str; clear hd; go_simp; exact hR _ _ (Below.refl _ _) rfl); (go_simp; refine hK _ ?_; clear hK K))
  (refine walkB_ex (fun K hK => ?_); refine ⟨fun W hC hd R hR => ?_, ?_⟩; (clear hd; go_simp; exact hR _ _ (Below.refl _ _) rfl); (go_simp; refine hK _ ?_; clear hK K))
  (refine walkB_ex (fun K hK => ?_); refine ⟨fun W hC hd R hR => ?_, ?_⟩; (clear hd; go_simp; exact hR _ _ (Below.refl _ _) rfl); (go_simp; refine hK _ ?_; clear hK K))
  (refine walkB_ex (fun K hK => ?_); refine ⟨fun W hC hd R hR => ?_, ?_⟩; (clear hd; go_simp; exact hR _ _ (Below.refl _ _) rfl); (go_simp; refine hK _ ?_; clear hK K))
  (refine walkB_ex (fun K hK => ?_); refine ⟨fun W hC hd R hR => ?_, ?_⟩; (have hws := nt_str2; clear hd; go_simp; exact hR _ _ (Below.refl _ _) rfl); (go_simp; refine hK _ ?_; clear hK K))
  (refine walkB_ex (fun K hK => ?_); refine ⟨fun W hC hd R hR => ?_, ?_⟩; (clear hd; go_simp; exact hR _ _ (Below.refl _ _) rfl); (go_simp; refine hK _ ?_; clear hK K))
  (refine walkB_ex (fun K hK => ?_); refine ⟨fun W hC hd R hR => ?_, ?_⟩; (clear hd; go_simp; exact hR _ _ (Below.refl _ _) rfl); (go_simp; refine hK _ ?_; clear hK K))
  (refine walkB_ex (fun K hK => ?_); refine ⟨fun W hC hd R hR => ?_, ?_⟩; (clear hd; go_simp; exact hR _ _ (Below.refl _ _) rfl); (go_simp; refine hK _ ?_; clear hK K))
  (refine walkB_ex (fun K hK => ?_); refine ⟨fun W hC hd R hR => ?_, ?_⟩; (have hqb := cells_of (blk_below HX.out hC.2); clear hd; go_simp; exact hR _ _ (Below.refl _ _) rfl); (go_simp; refine hK _ ?_; clear hK K))
  (refine walkB_ex (fun K hK => ?_); refine ⟨fun W hC hd R hR => ?_, ?_⟩; (clear hd; go_simp; exact hR _ _ (Below.refl _ _) rfl); (go_simp; refine hK _ ?_; clear hK K))
  (refine walkB_ex (fun K hK => ?_); refine ⟨fun W hC hd R hR => ?_, ?_⟩; (clear hd; go_simp; exact hR _ _ (Below.refl _ _) rfl); (go_simp; refine hK _ ?_; clear hK K))
  (refine walkB_ex (fun K hK => ?_); refine ⟨fun W hC hd R hR => ?_, ?_⟩; (clear hd; go_simp; exact hR _ _ (Below.refl _ _) rfl); (go_simp; refine hK _ ?_; clear hK K))
  (refine walkB_ex (fun K hK => ?_); refine ⟨fun W hC hd R hR => ?_, ?_⟩; (clear hd; go_simp; exact hR _ _ (Below.refl _ _) rfl); (go_simp; refine hK _ ?_; clear hK K))
  (refine walkB_ex (fun K hK => ?_); refine ⟨fun W hC hd R hR => ?_, ?_⟩; (have hqb := cells_of (blk_below HX.out hC.2); clear hd; go_simp; exact hR _ _ (Below.refl _ _) rfl); (go_simp; refine hK _ ?_; clear hK K))
  (refine walkB_pr (fun K hK => ?_); refine ⟨fun W hC hd R hR => ?_, fun v26 => ?_⟩; (have HLW := Lib.hid (HL.out.below (bel_call HB.out hC.2)); clear hd; go_simp; go_at_call 53; refine (made_any _ HLW.out).mono ?_; rintro e w9 ⟨v9, rfl, hr9, hb9⟩; exact ⟨_, rfl, hR _ _ hb9 ⟨_, rfl, rules_true hr9⟩⟩); (go_simp; refine hK _ _ ?_; clear hK K))
  (refine walkB_ex (fun K hK => ?_); refine ⟨fun W hC hd R hR => ?_, ?_⟩; (have hs : ∃ u, v26 = polV u 4 ∧ RdRules W (fun _ => True) u madeP.rules := hd 26 (by decide); obtain ⟨u9, rfl, hs⟩ := hs; have Hs := Lib.hid hs; have HpW := Lib.hid (RdRules.below HP.out hC.2); clear hs; clear hd; go_simp; go_at_call 73; refine (same_any _ _ madeP madeP (fun _ => True) _ HpW.out Hs.out).mono ?_; rw [decide_eq_true (rfl : madeP = madeP)]; rintro e w9 ⟨rfl, hb9⟩; exact ⟨_, rfl, hR _ _ hb9 rfl⟩); (go_simp; refine hK _ ?_; clear hK K))
  (refine walkB_ex (fun K hK => ?_); refine ⟨fun W hC hd R hR => ?_, ?_⟩; (clear hd; go_simp; exact hR _ _ (Below.refl _ _) rfl); (go_simp; refine hK _ ?_; clear hK K))
  (refine walkB_ex (fun K hK => ?_); refine ⟨fun W hC hd R hR => ?_, ?_⟩; (clear hd; go_simp; exact hR _ _ (Below.refl _ _) rfl); (go_simp; refine hK _ ?_; clear hK K))
  intro w7 hC _
  have HBf := Lib.hid (bel_call HB.out hC.2)
  clear hC
  go_wp2
  go_ret
  exact ⟨rfl, HBf.out⟩
end Go.Proofs.YthkgjohhbdipcaaGreatDoor
namespace Go.Proofs.YthkgjohhbdipcaaGreatDoor
open Go.RowKit Go.ChangeShapes Go.WideShapes Go.Deep

theorem list_of_forall {α : Type} {Q : Nat → α → Prop} : ∀ (n : Nat), (∀ i, i < n → ∃ a, Q i a) → ∃ xs : List α, xs.length = n ∧ ∀ i x, xs[i]? = some x → Q i x
  | 0, _ => ⟨[], rfl, fun i x h => by simp at h⟩
  | n + 1, h => by
    obtain ⟨xs, hl, hx⟩ := list_of_forall n (fun i hi => h i (by omega))
    obtain ⟨a, ha⟩ := h n (by omega)
    refine ⟨xs ++ [a], by simp [hl], fun i x hi => ?_⟩
    rw [List.getElem?_append] at hi
    split at hi
    · exact hx i x hi
    · rename_i hge
      have : i - xs.length = 0 := by
        have := (List.getElem?_eq_some_iff.1 hi).1
        simp at this; exact this
      rw [this] at hi
      simp at hi
      have : i = n := by omega
      subst this; subst hi; exact ha

theorem add_form {b o i j : Nat} : ((⟨b, o, none⟩ : Addr).add i).add j = ⟨b, o + (i + j), none⟩ := by
  unfold Addr.add
  by_cases hi : i = 0 <;> by_cases hj : j = 0 <;> simp [hi, hj, Nat.add_assoc]

section
variable {H : Type} {enc : TypeId × Value → H} {P : Program} {w : World} {base : Nat} {spare : Nat → Bool} {held : Bool}
theorem sl_of_trod {α : Type} {t e : TypeId} {sz fuel : Nat} {R : α → List Value → Prop} {cs : List Value} {x : DataW H × List MemPlace} (ht : P.underlying t = some (.slice e)) (hC : P.cellsOf e = sz) (hsz : 0 < sz)
    (hR : ∀ n cs x, cs.length = sz → DataW.trod enc P w base spare held n e cs = some x → ∃ a : α, R a cs) (h : DataW.trod enc P w base spare held fuel t cs = some x) :
    ∃ (v : Value) (xs : List α), cs = [v] ∧ Sl w (fun _ => True) sz R v xs := by
  rcases open_slice ht h with ⟨h0, _⟩ | ⟨a, len, cap, m, n, D, Pl, hcs, hb, hl, hm, hmm, _, hi⟩
  · exact ⟨_, [], h0, none, 0, rfl, by simp, by unfold maxLen; omega, fun _ => rfl, fun h => absurd h (by simp)⟩
  · have hlm : len ≤ m := by rw [hmm]; split <;> omega
    have hel : ∀ i, i < len → ∃ a' : α, ∃ cs' : List Value, cs'.length = sz ∧ R a' cs' ∧ ∀ j, j < sz → w.cell? ((a.add (i * sz)).add j) = cs'[j]? := fun i hlt => by
      obtain ⟨cs', hc, ht'⟩ := hi i (by omega)
      rw [hC] at hc
      obtain ⟨_, hlen, hcell⟩ := World.cells?_some hc
      obtain ⟨a', ha'⟩ := hR _ _ _ hlen ht'
      exact ⟨a', cs', hlen, ha', hcell⟩
    obtain ⟨xs, hxl, hx⟩ := list_of_forall len hel
    refine ⟨_, xs, hcs, some a, cap, by rw [hxl], by omega, hm, (fun h => by cases h), fun h0 => ?_⟩
    have h00 : xs[0]? = some xs[0] := List.getElem?_eq_getElem h0
    obtain ⟨cs0, hl0, _, hc0⟩ := hx 0 _ h00
    have hc00 := hc0 0 hsz
    rw [List.getElem?_eq_getElem (by omega)] at hc00
    have hspot := World.cell?_spot hc00
    simp [Addr.add] at hspot
    obtain ⟨b, o, s⟩ := a
    dsimp only at hspot
    subst hspot
    refine ⟨b, o, rfl, trivial, ?_, fun i y hy => ?_⟩
    · have := World.block_lt_of_cell? _ _ hc00
      simpa [Addr.add] using this
    · obtain ⟨cs', hl', hr', hc'⟩ := hx i y hy
      refine ⟨cs', hl', hr', fun j u hu => ?_⟩
      have hj : j < sz := by rw [← hl']; exact (List.getElem?_eq_some_iff.1 hu).1
      rw [← hu, ← hc' j hj, add_form]

theorem trod_ints5 {t e : TypeId} {fuel : Nat} {cs : List Value} {x : DataW H × List MemPlace} (ht : P.underlying t = some (.array 5 e)) (he : P.underlying e = some (.int .i64)) (hC : P.cellsOf t = 5) (hCe : P.cellsOf e = 1)
    (h : DataW.trod enc P w base spare held fuel t cs = some x) : ∃ y : TCall, cs = [.int .i64 y.a0, .int .i64 y.a1, .int .i64 y.a2, .int .i64 y.a3, .int .i64 y.a4] := by
  obtain ⟨xs, m, _, _, hlen, hxl, hf⟩ := DataW.trod_array ht h
  rw [hC] at hlen
  match cs, hlen with
  | [c0, c1, c2, c3, c4], _ =>
    match xs, hxl with
    | [x0, x1, x2, x3, x4], _ =>
      have g := fun i (hi : i < 5) => by have := hf i hi; rw [hCe] at this; exact this
      obtain ⟨n0, e0, _⟩ := DataW.trod_int he (g 0 (by omega))
      obtain ⟨n1, e1, _⟩ := DataW.trod_int he (g 1 (by omega))
      obtain ⟨n2, e2, _⟩ := DataW.trod_int he (g 2 (by omega))
      obtain ⟨n3, e3, _⟩ := DataW.trod_int he (g 3 (by omega))
      obtain ⟨n4, e4, _⟩ := DataW.trod_int he (g 4 (by omega))
      simp at e0 e1 e2 e3 e4
      exact ⟨⟨n0, n1, n2, n3, n4⟩, by simp [e0, e1, e2, e3, e4]⟩
theorem open_call {r : Reach} {b0 : Nat} {t e : TypeId} {v : Value} {d : DataW H} {ps : List MemPlace} (ht : P.underlying t = some (.array 5 e)) (he : P.underlying e = some (.int .i64)) (hC : P.cellsOf t = 5) (hCe : P.cellsOf e = 1)
    (hv : Value.okWide P w r b0 t v) (h : DataW.Trod enc P w base spare held t v d ps) : ∃ y : TCall, v = callV y := by
  simp only [Value.okWide, ht] at hv
  obtain ⟨cs, rfl, _, _⟩ := hv
  obtain ⟨fuel, hf⟩ := h
  obtain ⟨y, hy⟩ := trod_ints5 ht he hC hCe hf
  obtain ⟨l⟩ := cs
  exact ⟨y, by simp only [Value.cells] at hy; subst hy; rfl⟩

theorem open_code {t e ei : TypeId} {fs : Array Field} {r : Reach} {b0 : Nat} {v : Value} {d : DataW H} {ps : List MemPlace} (ht : P.underlying t = some (.slice e)) (he : P.underlying e = some (.struct fs)) (hC : P.cellsOf e = 4) (hi : P.underlying ei = some (.int .i64)) (hCi : P.cellsOf ei = 1)
    (hfs : fs.map (fun f => (f.type, f.offset)) = #[(ei, 0), (ei, 1), (ei, 2), (ei, 3)])
    (hv : Value.okWide P w r b0 t v) (h : DataW.Trod enc P w base spare held t v d ps) : ∃ l, RdCode w (fun _ => True) v l := by
  obtain ⟨a, len, cap, rfl⟩ := okWide_slice ht hv
  obtain ⟨fuel, hf⟩ := h
  have hR : ∀ n cs x, cs.length = 4 → DataW.trod enc P w base spare held n e cs = some x → ∃ a : TIns, insR a cs := fun n cs x hl hx => by
    obtain ⟨xs, m, _, _, _, hxl, hg⟩ := DataW.trod_struct he hx
    have hsz : fs.size = 4 := by have := congrArg Array.size hfs; simpa using this
    match cs, hl with
    | [c0, c1, c2, c3], _ =>
      have g : ∀ (i : Nat), i < 4 → ∃ n, ([c0, c1, c2, c3].drop i).take 1 = [.int .i64 n] := fun i hi4 => by
        have hfi : fs[i]? = some fs[i] := Array.getElem?_eq_getElem (by omega)
        have h1 := congrArg (fun a => a[i]?) hfs
        simp only [Array.getElem?_map, hfi, Option.map_some] at h1
        have h2 : fs[i].type = ei ∧ fs[i].offset = i := by
          have : i = 0 ∨ i = 1 ∨ i = 2 ∨ i = 3 := by omega
          rcases this with rfl | rfl | rfl | rfl <;> simpa using h1
        have := hg i _ hfi
        rw [h2.1, h2.2, hCi] at this
        rw [List.getElem?_eq_getElem (by omega)] at this
        obtain ⟨n, e, _⟩ := DataW.trod_int hi this
        exact ⟨n, e⟩
      obtain ⟨n0, e0⟩ := g 0 (by omega)
      obtain ⟨n1, e1⟩ := g 1 (by omega)
      obtain ⟨n2, e2⟩ := g 2 (by omega)
      obtain ⟨n3, e3⟩ := g 3 (by omega)
      simp at e0 e1 e2 e3
      exact ⟨⟨n0, n1, n2, n3⟩, by simp [insR, e0, e1, e2, e3]⟩
  obtain ⟨v', xs, hcs, hsl⟩ := sl_of_trod ht hC (by omega) hR hf
  simp [Value.cells] at hcs
  rw [hcs]
  exact ⟨xs, hsl⟩
end
end Go.Proofs.YthkgjohhbdipcaaGreatDoor
namespace Go.Proofs.YthkgjohhbdipcaaGreatDoor
open Go.RowKit Go.ChangeShapes Go.WideShapes Go.Deep
set_option maxRecDepth 100000

theorem field_at {fs : Array Field} {l : Array (TypeId × Nat)} (hfs : fs.map (fun f => (f.type, f.offset)) = l) {i : Nat} {ty : TypeId} {off : Nat} (h : l[i]? = some (ty, off)) : ∃ f, fs[i]? = some f ∧ f.type = ty ∧ f.offset = off := by
  subst hfs
  rw [Array.getElem?_map] at h
  cases hf : fs[i]? with
  | none => rw [hf] at h; cases h
  | some f => rw [hf] at h; simp only [Option.map_some, Option.some.injEq, Prod.mk.injEq] at h; exact ⟨f, rfl, h.1, h.2⟩
section
variable {H : Type} {enc : TypeId × Value → H} {w : World} {base : Nat} {spare : Nat → Bool} {held : Bool}
theorem trod_field {P : Program} {e : TypeId} {fs : Array Field} {l : Array (TypeId × Nat)} {fuel : Nat} {cs : List Value} {x : DataW H × List MemPlace} (he : P.underlying e = some (.struct fs)) (hfs : fs.map (fun f => (f.type, f.offset)) = l)
    (h : DataW.trod enc P w base spare held fuel e cs = some x) {i : Nat} {ty : TypeId} {off : Nat} (hi : l[i]? = some (ty, off)) : ∃ n y, DataW.trod enc P w base spare held n ty ((cs.drop off).take (P.cellsOf ty)) = some y := by
  obtain ⟨f, hf, rfl, rfl⟩ := field_at hfs hi
  obtain ⟨xs, m, _, _, _, hxl, hg⟩ := DataW.trod_struct he h
  have hlt : i < xs.length := by rw [hxl]; exact (Array.getElem?_eq_some_iff.1 hf).1
  have := hg i f hf
  rw [List.getElem?_eq_getElem hlt] at this
  exact ⟨_, _, this⟩
theorem trod_field_int {P : Program} {e ei : TypeId} {fs : Array Field} {l : Array (TypeId × Nat)} {fuel : Nat} {cs : List Value} {x : DataW H × List MemPlace} (he : P.underlying e = some (.struct fs)) (hfs : fs.map (fun f => (f.type, f.offset)) = l)
    (h : DataW.trod enc P w base spare held fuel e cs = some x) {i : Nat} {off : Nat} (hi : l[i]? = some (ei, off)) (hu : P.underlying ei = some (.int .i64)) (hc : P.cellsOf ei = 1) : ∃ n, (cs.drop off).take 1 = [.int .i64 n] := by
  obtain ⟨n, y, hy⟩ := trod_field he hfs h hi
  rw [hc] at hy
  obtain ⟨z, e, _⟩ := DataW.trod_int hu hy
  exact ⟨z, e⟩

theorem trod_cond {fuel : Nat} {cs : List Value} {x : DataW H × List MemPlace} (hl : cs.length = 3) (h : DataW.trod enc Tryz.prog w base spare held fuel 153 cs = some x) : ∃ a : TCond, condR a cs := by
  have hfs : (Tryz.prog.underlying 153).map (fun d => match d with | .struct fs => fs.map (fun f => (f.type, f.offset)) | _ => #[]) = some #[(3, 0), (3, 1), (3, 2)] := by kernel_rfl
  obtain ⟨fs, he⟩ : ∃ fs, Tryz.prog.underlying 153 = some (.struct fs) := ⟨_, Tryz.underlying153⟩
  rw [he] at hfs
  simp only [Option.map_some, Option.some.injEq] at hfs
  have hc : Tryz.prog.cellsOf 3 = 1 := by kernel_rfl
  obtain ⟨n0, e0⟩ := trod_field_int (i := 0) he hfs h rfl Tryz.underlying3 hc
  obtain ⟨n1, e1⟩ := trod_field_int (i := 1) he hfs h rfl Tryz.underlying3 hc
  obtain ⟨n2, e2⟩ := trod_field_int (i := 2) he hfs h rfl Tryz.underlying3 hc
  match cs, hl with
  | [c0, c1, c2], _ =>
    simp at e0 e1 e2
    exact ⟨⟨n0, n1, n2⟩, by simp [condR, e0, e1, e2]⟩
theorem trod_rule {fuel : Nat} {cs : List Value} {x : DataW H × List MemPlace} (hl : cs.length = 2) (h : DataW.trod enc Tryz.prog w base spare held fuel 147 cs = some x) : ∃ a : TRule, ruleR w (fun _ => True) a cs := by
  have hfs : (Tryz.prog.underlying 147).map (fun d => match d with | .struct fs => fs.map (fun f => (f.type, f.offset)) | _ => #[]) = some #[(145, 0), (3, 1)] := by kernel_rfl
  obtain ⟨fs, he⟩ : ∃ fs, Tryz.prog.underlying 147 = some (.struct fs) := ⟨_, Tryz.underlying147⟩
  rw [he] at hfs
  simp only [Option.map_some, Option.some.injEq] at hfs
  obtain ⟨n1, e1⟩ := trod_field_int (i := 1) he hfs h rfl Tryz.underlying3 (by kernel_rfl)
  obtain ⟨n, y, hy⟩ := trod_field (i := 0) he hfs h rfl
  have hc : Tryz.prog.cellsOf 145 = 1 := by kernel_rfl
  rw [hc] at hy
  obtain ⟨v, xs, hcs, hsl⟩ := sl_of_trod (sz := 3) Tryz.underlying145 (by kernel_rfl) (by omega) (fun _ _ _ hl hx => trod_cond hl hx) hy
  match cs, hl with
  | [c0, c1], _ =>
    simp at e1 hcs
    exact ⟨⟨xs, n1⟩, v, by rw [hcs, e1], hsl⟩
theorem trod_pol {fuel : Nat} {cs : List Value} {x : DataW H × List MemPlace} (hl : cs.length = 2) (h : DataW.trod enc Tryz.prog w base spare held fuel 38 cs = some x) : ∃ a : TPol, polR w (fun _ => True) a cs := by
  have hfs : (Tryz.prog.underlying 38).map (fun d => match d with | .struct fs => fs.map (fun f => (f.type, f.offset)) | _ => #[]) = some #[(36, 0), (3, 1)] := by kernel_rfl
  obtain ⟨fs, he⟩ : ∃ fs, Tryz.prog.underlying 38 = some (.struct fs) := ⟨_, Tryz.underlying38⟩
  rw [he] at hfs
  simp only [Option.map_some, Option.some.injEq] at hfs
  obtain ⟨n1, e1⟩ := trod_field_int (i := 1) he hfs h rfl Tryz.underlying3 (by kernel_rfl)
  obtain ⟨n, y, hy⟩ := trod_field (i := 0) he hfs h rfl
  have hc : Tryz.prog.cellsOf 36 = 1 := by kernel_rfl
  rw [hc] at hy
  obtain ⟨v, xs, hcs, hsl⟩ := sl_of_trod (sz := 2) Tryz.underlying36 (by kernel_rfl) (by omega) (fun _ _ _ hl hx => trod_rule hl hx) hy
  match cs, hl with
  | [c0, c1], _ =>
    simp at e1 hcs
    exact ⟨⟨xs, n1⟩, v, by rw [hcs, e1], hsl⟩

theorem open_pol {r : Reach} {b0 : Nat} {v : Value} {d : DataW H} {ps : List MemPlace}
    (hv : Value.okWide Tryz.prog w r b0 38 v) (h : DataW.Trod enc Tryz.prog w base spare held 38 v d ps) : ∃ (u : Value) (t : TPol), v = polV u t.dflt ∧ RdRules w (fun _ => True) u t.rules := by
  simp only [Value.okWide, Tryz.underlying38] at hv
  obtain ⟨cs, rfl, _⟩ := hv
  obtain ⟨fuel, hf⟩ := h
  obtain ⟨xs, m, _, _, hlen, _, _⟩ := DataW.trod_struct Tryz.underlying38 hf
  have hc : Tryz.prog.cellsOf 38 = 2 := by kernel_rfl
  rw [hc] at hlen
  obtain ⟨t, u, hcs, hr⟩ := trod_pol hlen hf
  obtain ⟨l⟩ := cs
  simp only [Value.cells] at hcs
  subst hcs
  exact ⟨u, t, rfl, hr⟩
theorem open_rules {r : Reach} {b0 : Nat} {v : Value} {d : DataW H} {ps : List MemPlace}
    (hv : Value.okWide Tryz.prog w r b0 36 v) (h : DataW.Trod enc Tryz.prog w base spare held 36 v d ps) : ∃ l, RdRules w (fun _ => True) v l := by
  obtain ⟨a, len, cap, rfl⟩ := okWide_slice Tryz.underlying36 hv
  obtain ⟨fuel, hf⟩ := h
  obtain ⟨v', xs, hcs, hsl⟩ := sl_of_trod (sz := 2) Tryz.underlying36 (by kernel_rfl) (by omega) (fun _ _ _ hl hx => trod_rule hl hx) hf
  simp [Value.cells] at hcs
  rw [hcs]
  exact ⟨xs, hsl⟩
theorem reach_slice {P : Program} {ts : List TypeId} {ds : List (DataW H)} {j bytes : Nat} {t e : TypeId} {d : DataW H} {a : Option Addr} {n c : Nat} {ps : List MemPlace} (hwt : (DataW.weightsEach P ts ds).all (· ≤ reachBytes) = true)
    (ht : ts[j]? = some t) (hd : ds[j]? = some d) (hu : P.underlying t = some (.slice e)) (hb : P.bytesOf e = bytes) (h : DataW.Trod enc P w base spare held t (.slice a n c) d ps) : n * bytes ≤ 140737488351232 := by
  obtain ⟨fuel, hf⟩ := h
  rcases open_slice hu hf with ⟨h0, _⟩ | ⟨a', len, cap, m, k, D, Pl, hcs, _, hl, _, _, hx, _⟩
  · simp [Value.cells] at h0
    obtain ⟨_, rfl, _⟩ := h0
    simp
  · simp [Value.cells] at hcs
    obtain ⟨_, rfl, _⟩ := hcs
    injection hx with hx _
    have := sized_slice hwt ht (hd.trans (congrArg some hx)) hu
    rw [hb] at this
    simp only [List.length_map, List.length_range] at this
    have h1 : n * bytes ≤ (n + (m - n)) * bytes := Nat.mul_le_mul_right _ (by omega)
    unfold reachBytes at this
    omega
end
end Go.Proofs.YthkgjohhbdipcaaGreatDoor
namespace Go.Proofs.YthkgjohhbdipcaaGreatDoor
open Go.RowKit Go.ChangeShapes Go.WideShapes Go.Deep
set_option maxRecDepth 100000

/-- a record, read. -/
def RdRec (w : World) (v : Value) (r : TRec) : Prop := ∃ u, v = recV r u ∧ RdRules w (fun _ => True) u r.p.rules
section
variable {H : Type} {enc : TypeId × Value → H} {w : World} {base : Nat} {spare : Nat → Bool} {held : Bool}
theorem trod_rec {fuel : Nat} {cs : List Value} {x : DataW H × List MemPlace} (hl : cs.length = 5) (h : DataW.trod enc Tryz.prog w base spare held fuel 56 cs = some x) : ∃ a : TRec, recR w (fun _ => True) a cs := by
  have hfs : (Tryz.prog.underlying 56).map (fun d => match d with | .struct fs => fs.map (fun f => (f.type, f.offset)) | _ => #[]) = some #[(3, 0), (3, 1), (3, 2), (38, 3)] := by kernel_rfl
  obtain ⟨fs, he⟩ : ∃ fs, Tryz.prog.underlying 56 = some (.struct fs) := ⟨_, Tryz.underlying56⟩
  rw [he] at hfs
  simp only [Option.map_some, Option.some.injEq] at hfs
  have hc : Tryz.prog.cellsOf 3 = 1 := by kernel_rfl
  obtain ⟨n0, e0⟩ := trod_field_int (i := 0) he hfs h rfl Tryz.underlying3 hc
  obtain ⟨n1, e1⟩ := trod_field_int (i := 1) he hfs h rfl Tryz.underlying3 hc
  obtain ⟨n2, e2⟩ := trod_field_int (i := 2) he hfs h rfl Tryz.underlying3 hc
  obtain ⟨n, y, hy⟩ := trod_field (i := 3) he hfs h rfl
  have hc2 : Tryz.prog.cellsOf 38 = 2 := by kernel_rfl
  rw [hc2] at hy
  match cs, hl with
  | [c0, c1, c2, c3, c4], _ =>
    obtain ⟨p, v, hcs, hr⟩ := trod_pol (by simp) hy
    simp at e0 e1 e2 hcs
    exact ⟨⟨n0, n1, n2, p⟩, v, by simp [e0, e1, e2, hcs], hr⟩
theorem open_recs {r : Reach} {b0 : Nat} {v : Value} {d : DataW H} {ps : List MemPlace}
    (hv : Value.okWide Tryz.prog w r b0 68 v) (h : DataW.Trod enc Tryz.prog w base spare held 68 v d ps) : ∃ l, RdRecs w (fun _ => True) v l := by
  obtain ⟨a, len, cap, rfl⟩ := okWide_slice Tryz.underlying68 hv
  obtain ⟨fuel, hf⟩ := h
  obtain ⟨v', xs, hcs, hsl⟩ := sl_of_trod (sz := 5) Tryz.underlying68 (by kernel_rfl) (by omega) (fun _ _ _ hl hx => trod_rec hl hx) hf
  simp [Value.cells] at hcs
  rw [hcs]
  exact ⟨xs, hsl⟩
theorem open_rec {r : Reach} {b0 : Nat} {v : Value} {d : DataW H} {ps : List MemPlace}
    (hv : Value.okWide Tryz.prog w r b0 56 v) (h : DataW.Trod enc Tryz.prog w base spare held 56 v d ps) : ∃ t : TRec, RdRec w v t := by
  simp only [Value.okWide, Tryz.underlying56] at hv
  obtain ⟨cs, rfl, _⟩ := hv
  obtain ⟨fuel, hf⟩ := h
  obtain ⟨xs, m, _, _, hlen, _, _⟩ := DataW.trod_struct Tryz.underlying56 hf
  have hc : Tryz.prog.cellsOf 56 = 5 := by kernel_rfl
  rw [hc] at hlen
  obtain ⟨t, u, hcs, hr⟩ := trod_rec hlen hf
  obtain ⟨l⟩ := cs
  simp only [Value.cells] at hcs
  subst hcs
  exact ⟨t, u, rfl, hr⟩
end
end Go.Proofs.YthkgjohhbdipcaaGreatDoor
namespace Go.Proofs.YthkgjohhbdipcaaGreatDoor
open Go.RowKit

def byteR (x : UInt8) (cs : List Value) : Prop := cs = [.int .u8 x.toNat]
def RdBytes (w : World) (D : Nat → Prop) (v : Value) (l : List UInt8) : Prop := Sl w D 1 byteR v l
theorem RdBytes.keep {w w' : World} {D D' : Nat → Prop} {v : Value} {l : List UInt8} (h : RdBytes w D v l) (hD : ∀ b, D b → b < w.heap.size → D' b)
    (hw : ∀ b, D b → b < w.heap.size → w'.heap[b]? = w.heap[b]?) (hs : w.heap.size ≤ w'.heap.size) : RdBytes w' D' v l := Sl.mono h hD hw hs (fun _ _ _ h => h)
theorem RdBytes.below {w w' : World} {D : Nat → Prop} {v : Value} {l : List UInt8} (h : RdBytes w D v l) (hb : Below w.heap.size w w') : RdBytes w' D v l :=
  h.keep (fun _ h _ => h) (fun b _ hlt => hb.block b hlt) hb.size
theorem RdBytes.cell {w : World} {D : Nat → Prop} {b o n c : Nat} {s : Option Nat} {l : List UInt8} (h : RdBytes w D (.slice (some ⟨b, o, s⟩) n c) l) {i : Nat} (hi : i < l.length) :
    w.cell? ⟨b, o + i, none⟩ = some (.int .u8 l[i].toNat) := by
  obtain ⟨cs, hcs, hr, hcell⟩ := Sl.get h hi
  unfold byteR at hr
  subst hr
  have := hcell 0 _ rfl
  rwa [Nat.mul_one] at this
theorem nil_bytes (w : World) (D : Nat → Prop) : RdBytes w D (.slice none 0 0) [] := ⟨none, 0, rfl, Nat.le_refl _, by decide, fun _ => rfl, fun h => by cases h⟩
theorem RdBytes.true {w : World} {D : Nat → Prop} {v : Value} {l : List UInt8} (h : RdBytes w D v l) : RdBytes w (fun _ => True) v l := h.keep (fun _ _ _ => trivial) (fun _ _ _ => rfl) (Nat.le_refl _)
theorem RdBytes.lt {w : World} {D : Nat → Prop} {v : Value} {l : List UInt8} (h : RdBytes w D v l) : RdBytes w (fun b => b < w.heap.size) v l := h.keep (fun _ _ hl => hl) (fun _ _ _ => rfl) (Nat.le_refl _)
/-- string(b). -/
theorem bytes_string {w : World} {D : Nat → Prop} {v : Value} {l : List UInt8} (h : RdBytes w D v l) : (convert 23 9 v).run Tryz.prog w = .ok (.string ⟨l.toArray⟩) w := by
  obtain ⟨a, c, hv, hl, hm, hn, hat⟩ := h
  subst hv
  by_cases h0 : 0 < l.length
  · obtain ⟨b, o, rfl, _, _, hcells⟩ := hat h0
    refine run_convert_bytes_back w _ _ 5 ⟨b, o, none⟩ c l Tryz.underlying23 Tryz.underlying5 Tryz.underlying9 (fun j hj => ?_)
    obtain ⟨cs, _, hr, hc⟩ := hcells j _ (List.getElem?_eq_getElem hj)
    unfold byteR at hr
    subst hr
    have := hc 0 _ rfl
    have e : (⟨b, o, none⟩ : Addr).add j = ⟨b, o + (j * 1 + 0), none⟩ := by unfold Addr.add; split <;> simp_all
    rw [e]; exact this
  · obtain rfl : l = [] := List.length_eq_zero_iff.1 (by omega)
    cases a with
    | none => exact run_convert_bytes_nil w _ 5 Tryz.underlying23 Tryz.underlying5 _ _ _ Tryz.underlying9
    | some a => exact run_convert_bytes_back w _ _ 5 a c [] Tryz.underlying23 Tryz.underlying5 Tryz.underlying9 (fun j hj => by simp at hj)
end Go.Proofs.YthkgjohhbdipcaaGreatDoor
namespace Go.Proofs.YthkgjohhbdipcaaGreatDoor
open Go.RowKit
attribute [local go_sem] gives givesUpon

theorem take_eq_stepS {α : Type} {xs ys : List α} {k : Nat} (hx : k < xs.length) (hy : k < ys.length) (h : xs.take k = ys.take k) (e : xs[k] = ys[k]) : xs.take (k + 1) = ys.take (k + 1) := by
  rw [List.take_succ_eq_append_getElem hx, List.take_succ_eq_append_getElem hy, h, e]
theorem ne_of_getS {α : Type} {xs ys : List α} {k : Nat} (hx : k < xs.length) (hy : k < ys.length) (e : xs[k] ≠ ys[k]) : xs ≠ ys := fun h => e (by subst h; rfl)
set_option maxHeartbeats 1000000 in
theorem eqbytes_any (v u : Value) (xs ys : List UInt8) (D : Nat → Prop) (w : World) (h : RdBytes w D v xs) (h' : RdBytes w D u ys) :
    Calls Tryz.prog 84 #[v, u] w fun e w' => e = .returned (.bool (decide (xs = ys))) ∧ Below w.heap.size w w' := by
  obtain ⟨a, c, rfl, hlc, hcm, hat⟩ := Sl.form h
  obtain ⟨a', c', rfl, hlc', hcm', hat'⟩ := Sl.form h'
  have H := Lib.hid h
  have H' := Lib.hid h'
  clear h h'
  by_cases hl : xs.length = ys.length
  · have b0 : ((xs.length : Int) != (ys.length : Int)) = false := bne_eq_false_iff_eq.2 (by omega)
    have hl' := Lib.hid hl
    have hl1 : xs.length ≤ ys.length := by omega
    have hl2 : ys.length ≤ xs.length := by omega
    clear hl
    go_enter Tryz.func84, Tryz.ntmps84
    go_wp2_with fail
    go_loopw [13] (fun i wr => ∃ k : Nat, k ≤ xs.length ∧ i = .int .i64 k ∧ xs.take k = ys.take k ∧ Below w.heap.size w wr) (fun i _ => xs.length - (intOf i).toNat)
    case atStart => exact ⟨0, by omega, rfl, rfl, Below.refl _ _⟩
    case round =>
      obtain ⟨k, hk, rfl, htk, hbw⟩ := hrel
      have Ht := Lib.hid htk
      have hsz := hbw.size
      clear htk
      by_cases hlt : k < xs.length
      · obtain ⟨b, o, rfl, hDb, hb⟩ := hat (by omega)
        obtain ⟨b', o', rfl, hDb', hb'⟩ := hat' (by omega)
        have hlt' : k < ys.length := by omega
        have hc : ∀ W, Cls w.heap.size wr W → W.cell? ⟨b, o + k, none⟩ = some (.int .u8 xs[k].toNat) ∧ W.cell? ⟨b', o' + k, none⟩ = some (.int .u8 ys[k].toNat) := fun W hW =>
          ⟨RdBytes.cell (H.out.below (hbw.trans hW.2)) hlt, RdBytes.cell (H'.out.below (hbw.trans hW.2)) hlt'⟩
        have Hc := Lib.hid hc
        clear hc
        go_wp2_with fail
        refine wp_region_exact3 w.heap.size hsz (by kernel_rfl) (by kernel_rfl) ?_
        repeat (refine monoE_step (fun K hK => ?_); apply Exists.intro; refine ⟨fun W hC R hR => ?_, ?_⟩; (have hcc := Hc.out W hC; go_simp; exact hR _ _ (Below.refl _ _) rfl); (go_simp; refine hK _ ?_; clear hK K))
        intro w2 hC2
        by_cases he : xs[k] = ys[k]
        · have Hn := Lib.hid (take_eq_stepS hlt hlt' Ht.out he)
          have d : ((xs[k].toNat : Int) != (ys[k].toNat : Int)) = false := bne_eq_false_iff_eq.2 (by rw [he])
          clear he
          simp only [d]
          go_wp2
          go_roundw
          case rel => exact ⟨k + 1, by omega, by go_num, Hn.out, hbw.trans hC2.2⟩
          case measure => simp [intOf]; omega
        · have Hn := Lib.hid (ne_of_getS hlt hlt' he)
          have d : ((xs[k].toNat : Int) != (ys[k].toNat : Int)) = true := bne_iff_ne.2 (fun e => he (UInt8.toNat_inj.1 (by omega)))
          clear he
          simp only [d]
          go_wp2
          go_ret
          exact ⟨ret_bool (decide_eq_false Hn.out).symm, hbw.trans hC2.2⟩
      · obtain rfl : k = xs.length := by omega
        have Hn : Hid (xs = ys) := by
          have := Ht.out
          rw [List.take_length, hl'.out, List.take_length] at this
          exact this
        go_wp2
        go_ret
        exact ⟨ret_bool (decide_eq_true Hn.out).symm, hbw⟩
  · have b0 : ((xs.length : Int) != (ys.length : Int)) = true := bne_iff_ne.2 (by omega)
    have hn : decide (xs = ys) = false := decide_eq_false fun e => hl (by rw [e])
    rw [hn]
    clear hn hl
    go_enter Tryz.func84, Tryz.ntmps84
    go_wp2
    go_ret
    exact ⟨rfl, Below.refl _ _⟩
end Go.Proofs.YthkgjohhbdipcaaGreatDoor
