/- Texts laid one behind the other: Read, ConcatIns, CloneIns, CloneChain, PointSpec, OrderSpec. No condition beyond theirs. -/
import Derived.Test.YthkgjohhbdipcaaGreatDoorK3
import Derived.Test.YthkgjohhbdipcaaGreatDoorK2
import Derived.Laws.ResultCell
import Derived.Test.YthkgjohhbdipcaaGreatDoorProg
import Derived.KernelRfl
import Derived.Deep.LoopGhost
set_option linter.all false
namespace Go.Proofs.YthkgjohhbdipcaaGreatDoor
open Go.RowKit
open Go.MapKept (IsKey)
attribute [local go_sem] gives givesUpon

attribute [-go_sem] run_slice_l
set_option maxRecDepth 8000 in
set_option maxHeartbeats 4000000 in
theorem read_walk (s : ByteArray) (w : World) (hL : Laid w) (hs : s.size ≤ 281474976710656) (hs' : s.size < 4294967281) :
    Calls Tryz.prog 79 #[.string s] w fun e w' => ∃ v, e = .returned (.tuple #[polV v (readP s.data.toList).1.dflt, .int .i64 (readP s.data.toList).2]) ∧ RdRules w' (fun b => w.heap.size ≤ b) v (readP s.data.toList).1.rules ∧ Below w.heap.size w w' := by
  have HL := Lib.hid hL
  clear hL
  have hmm := @run_makeMap Tryz.prog
  have hb0 : w.heap.size + 1 = (w.alloc (.cells #[.slice none 0 0, .int .i64 0] 38)).heap.size := by simp
  have hv0 := run_insert_at (P := Tryz.prog) (t := 117) (es := #[]) (c := 0) (key := bs [107, 105, 108, 108]) (v := .int .i64 0) hb0 Tryz.underlying117 Tryz.underlying9 (by first | exact trivial | rfl) (by kernel_rfl)
  have hv1 := run_insert_at (P := Tryz.prog) (t := 117) (es := #[⟨bs [107, 105, 108, 108], .int .i64 0, 0⟩]) (c := 1) (key := bs [116, 114, 97, 112]) (v := .int .i64 1) hb0 Tryz.underlying117 Tryz.underlying9 (by first | exact trivial | rfl) (by kernel_rfl)
  have hv2 := run_insert_at (P := Tryz.prog) (t := 117) (es := #[⟨bs [107, 105, 108, 108], .int .i64 0, 0⟩, ⟨bs [116, 114, 97, 112], .int .i64 1, 1⟩]) (c := 2) (key := bs [102, 97, 105, 108]) (v := .int .i64 2) hb0 Tryz.underlying117 Tryz.underlying9 (by first | exact trivial | rfl) (by kernel_rfl)
  have hv3 := run_insert_at (P := Tryz.prog) (t := 117) (es := #[⟨bs [107, 105, 108, 108], .int .i64 0, 0⟩, ⟨bs [116, 114, 97, 112], .int .i64 1, 1⟩, ⟨bs [102, 97, 105, 108], .int .i64 2, 2⟩]) (c := 3) (key := bs [108, 111, 103]) (v := .int .i64 3) hb0 Tryz.underlying117 Tryz.underlying9 (by first | exact trivial | rfl) (by kernel_rfl)
  have hv4 := run_insert_at (P := Tryz.prog) (t := 117) (es := #[⟨bs [107, 105, 108, 108], .int .i64 0, 0⟩, ⟨bs [116, 114, 97, 112], .int .i64 1, 1⟩, ⟨bs [102, 97, 105, 108], .int .i64 2, 2⟩, ⟨bs [108, 111, 103], .int .i64 3, 3⟩]) (c := 4) (key := bs [97, 108, 108, 111, 119]) (v := .int .i64 4) hb0 Tryz.underlying117 Tryz.underlying9 (by first | exact trivial | rfl) (by kernel_rfl)
  have hb1 : w.heap.size + 2 = ((w.alloc (.cells #[.slice none 0 0, .int .i64 0] 38)).alloc (.map vmap 5)).heap.size := by simp
  have hf0 := run_insert_at (P := Tryz.prog) (t := 117) (es := #[]) (c := 0) (key := bs [110, 114]) (v := .int .i64 0) hb1 Tryz.underlying117 Tryz.underlying9 (by first | exact trivial | rfl) (by kernel_rfl)
  have hf1 := run_insert_at (P := Tryz.prog) (t := 117) (es := #[⟨bs [110, 114], .int .i64 0, 0⟩]) (c := 1) (key := bs [107, 105, 110, 100]) (v := .int .i64 1) hb1 Tryz.underlying117 Tryz.underlying9 (by first | exact trivial | rfl) (by kernel_rfl)
  have hf2 := run_insert_at (P := Tryz.prog) (t := 117) (es := #[⟨bs [110, 114], .int .i64 0, 0⟩, ⟨bs [107, 105, 110, 100], .int .i64 1, 1⟩]) (c := 2) (key := bs [97]) (v := .int .i64 2) hb1 Tryz.underlying117 Tryz.underlying9 (by first | exact trivial | rfl) (by kernel_rfl)
  have hf3 := run_insert_at (P := Tryz.prog) (t := 117) (es := #[⟨bs [110, 114], .int .i64 0, 0⟩, ⟨bs [107, 105, 110, 100], .int .i64 1, 1⟩, ⟨bs [97], .int .i64 2, 2⟩]) (c := 3) (key := bs [98]) (v := .int .i64 3) hb1 Tryz.underlying117 Tryz.underlying9 (by first | exact trivial | rfl) (by kernel_rfl)
  have hf4 := run_insert_at (P := Tryz.prog) (t := 117) (es := #[⟨bs [110, 114], .int .i64 0, 0⟩, ⟨bs [107, 105, 110, 100], .int .i64 1, 1⟩, ⟨bs [97], .int .i64 2, 2⟩, ⟨bs [98], .int .i64 3, 3⟩]) (c := 4) (key := bs [99]) (v := .int .i64 4) hb1 Tryz.underlying117 Tryz.underlying9 (by first | exact trivial | rfl) (by kernel_rfl)
  have hb2 : w.heap.size + 3 = (((w.alloc (.cells #[.slice none 0 0, .int .i64 0] 38)).alloc (.map vmap 5)).alloc (.map fmap 5)).heap.size := by simp
  have ho0 := run_insert_at (P := Tryz.prog) (t := 169) (es := #[]) (c := 0) (key := .int .u8 61) (v := .int .i64 1) hb2 Tryz.underlying169 Tryz.underlying5 (by first | exact trivial | rfl) (by kernel_rfl)
  have ho1 := run_insert_at (P := Tryz.prog) (t := 169) (es := #[⟨.int .u8 61, .int .i64 1, 0⟩]) (c := 1) (key := .int .u8 33) (v := .int .i64 2) hb2 Tryz.underlying169 Tryz.underlying5 (by first | exact trivial | rfl) (by kernel_rfl)
  have ho2 := run_insert_at (P := Tryz.prog) (t := 169) (es := #[⟨.int .u8 61, .int .i64 1, 0⟩, ⟨.int .u8 33, .int .i64 2, 1⟩]) (c := 2) (key := .int .u8 60) (v := .int .i64 3) hb2 Tryz.underlying169 Tryz.underlying5 (by first | exact trivial | rfl) (by kernel_rfl)
  have ho3 := run_insert_at (P := Tryz.prog) (t := 169) (es := #[⟨.int .u8 61, .int .i64 1, 0⟩, ⟨.int .u8 33, .int .i64 2, 1⟩, ⟨.int .u8 60, .int .i64 3, 2⟩]) (c := 3) (key := .int .u8 62) (v := .int .i64 4) hb2 Tryz.underlying169 Tryz.underlying5 (by first | exact trivial | rfl) (by kernel_rfl)
  simp only [List.push_toArray, List.nil_append, List.cons_append, Nat.reduceAdd] at hv0 hv1 hv2 hv3 hv4 hf0 hf1 hf2 hf3 hf4 ho0 ho1 ho2 ho3
  clear hb0 hb1 hb2
  go_enter Tryz.func79, Tryz.ntmps79
  go_wp2_with fail
  clear hv0 hv1 hv2 hv3 hv4 hf0 hf1 hf2 hf3 hf4 ho0 ho1 ho2 ho3 hmm
  go_loopw [0] (fun sv wr => ∃ (n : Nat) (t : ByteArray) (rs : List TRule) (pv : Value), sv = .string t ∧ t.size < n ∧ rs.length + t.size ≤ s.size ∧ Hid (pread (s.data.toList.length + 1) s.data.toList = (pread n t.data.toList).map fun p => ⟨rs ++ p.rules, p.dflt⟩) ∧ RdState w wr rs pv) (fun sv _ => (match sv with | .string t => t.size | _ => 0))
  case atStart => exact ⟨s.size + 1, s, [], .slice none 0 0, rfl, by omega, by simp, by
    have e : s.data.toList.length = s.size := rfl
    rw [e]
    cases pread (s.size + 1) s.data.toList <;> rfl, rdState0 w⟩
  case round =>
    obtain ⟨n, t, rs, pv, rfl, hn, hts, hp, hst⟩ := hrel
    obtain ⟨pa, pcap, hpv, hpl, hpm, _⟩ := Sl.form hst.rules
    have Hpv := Lib.hid hpv
    have Hst := Lib.hid hst
    clear hpv hpl hpm
    have hsz := hst.sz
    have HLr := Lib.hid (HL.out.below hst.bel)
    clear hst
    go_wp2_with fail
    refine (cut_any t _ HLr.out (by omega)).mono ?_
    rintro e w1 ⟨ta, tr, more, rfl, hta, htr, hmore, hsa, hsr, hb1⟩
    have Hta := Lib.hid hta
    have Htr := Lib.hid htr
    have Hmore := Lib.hid hmore
    clear hta htr hmore
    have Hst1 := Lib.hid (Hst.out.below hb1)
    have HL1 := Lib.hid (HLr.out.below hb1)
    have hsz1 := Hst1.out.sz
    clear Hst HLr hb1 hsz
    go_wp2_with fail
    refine (split_any ta w1 HL1.out (by omega)).mono ?_
    rintro e w2 ⟨ws, rfl, hw2, hws, hw0, hwl, hwu⟩
    obtain ⟨u0, us, rfl⟩ : ∃ u0 us, ws = u0 :: us := by cases ws with
      | nil => simp at hw0
      | cons u0 us => exact ⟨u0, us, rfl⟩
    have hb2 : Below w1.heap.size w1 w2 := by rw [hw2]; exact bel_alloc (Below.refl _ _) _
    have hbl : w2.heap[w1.heap.size]? = some (.cells ((u0 :: us).map Value.string).toArray 9) := by rw [hw2]; exact heap_last _ _
    have hc0 : w2.cell? ⟨w1.heap.size, 0, none⟩ = some (.string u0) := by rw [hw2]; exact (World.cell?_alloc_at _ _ _ _ rfl).trans (by simp)
    have Hst2 := Lib.hid (Hst1.out.below hb2)
    have HL2 := Lib.hid (HL1.out.below hb2)
    have hsz2 := Hst2.out.sz
    have Hbl := Lib.hid hbl
    have Hstep : Hid (∀ k, pread (k + 1) t.data.toList = match verdictOf u0.data.toList with
        | none => none
        | some v => if more then (match condsOf (us.map (·.data.toList)) with
            | none => none
            | some cs => (pread k tr.data.toList).map fun p => ⟨⟨cs, v⟩ :: p.rules, p.dflt⟩) else if 1 < us.length + 1 then none else some ⟨[], v⟩) := fun k => by
      rw [pread_step (u0 := u0.data.toList) (us := us.map (·.data.toList)) (by rw [← Hta.out, ← hws]; rfl), Hmore.out, Htr.out, List.length_map] <;> rfl
    obtain ⟨k, rfl⟩ : ∃ k, n = k + 1 := ⟨n - 1, by omega⟩
    have Hwu := Lib.hid hwu
    clear hw2 hb2 hbl hws hwu Hst1 HL1 Hta Hmore
    obtain ⟨fv, hfv, hfv'⟩ := find_v u0
    have hz : ∀ W : World, (zeroValue 3).run Tryz.prog W = .ok (.int .i64 0) W := fun W => by kernel_rfl
    have hlk := run_lookup_ok (P := Tryz.prog) (key := .string u0) (t := 117) Tryz.underlying117 Tryz.underlying9 Hst2.out.vm (hz _) (by exact trivial) hfv
    have hfs : fv.isSome = (verdictOf u0.data.toList).isSome := by
      have := congrArg Option.isSome hfv'
      simpa using this
    rw [hfs, hfv'] at hlk
    have h1l : (1 : Nat) ≤ us.length + 1 := by omega
    clear hfv hfv' hfs hz hw0
    cases hvd : verdictOf u0.data.toList with
    | none =>
      rw [hvd] at hlk
      simp only [Option.map_none, Option.getD_none, Option.isSome_none] at hlk
      go_wp2_with fail
      refine (bad_any 1 _).mono ?_
      rintro e w3 ⟨rfl, hb3⟩
      have hr3 := blk_below Hst2.out.res hb3
      have hc3 := cells_of hr3
      have hf3 := not_frozen hr3
      have hr4 := set_at (o := 1) (v := .int .i64 0) (set_at (o := 0) (v := .slice none 0 0) hr3)
      have hc4 := cells_of hr4
      have Hb4 := Lib.hid (set_below (a := ⟨w.heap.size, 1, none⟩) (v := .int .i64 0) (set_below (a := ⟨w.heap.size, 0, none⟩) (v := .slice none 0 0) (bel_call Hst2.out.bel hb3) (Nat.le_refl _)) (Nat.le_refl _))
      go_wp2
      have hrd : readP s.data.toList = (⟨[], 0⟩, 1) := readP_none (by rw [hp.out, Hstep.out k, hvd]; rfl)
      rw [hrd]
      refine bodyPost_ret (v := .tuple #[polV (.slice none 0 0) 0, .int .i64 1]) ?_ rfl ⟨_, rfl, ⟨none, 0, rfl, Nat.le_refl _, by unfold maxLen; omega, fun _ => rfl, fun h => by cases h⟩, Hb4.out⟩
      rw [results_cell_tmp rfl]
      go_simp
    | some vd =>
      rw [hvd] at hlk
      simp only [Option.map_some, Option.getD_some, Option.isSome_some] at hlk
      have Hvd := Lib.hid hvd
      clear hvd
      cases more with
      | false =>
        by_cases hus : us.length = 0
        · have d1 : ¬ (1 : Int) < (us.length : Int) + 1 := by omega
          have hpc := Hst2.out.pc
          have hcp := cells_of hpc
          have hfp := not_frozen hpc
          have hR4 : RdRules (w2.setCell ⟨w.heap.size + 4, 1, none⟩ (.int .i64 vd)) (fun b => w.heap.size + 5 ≤ b) pv rs :=
            RdRules.keep Hst2.out.rules (fun _ h _ => h) (fun b hb _ => set_other (by show b ≠ w.heap.size + 4; have : w.heap.size + 5 ≤ b := hb; omega)) (by rw [set_size]; exact Nat.le_refl _)
          have hb4 : Below w.heap.size w (w2.setCell ⟨w.heap.size + 4, 1, none⟩ (.int .i64 vd)) := set_below Hst2.out.bel (by show w.heap.size ≤ w.heap.size + 4; omega)
          have hr4 : (w2.setCell ⟨w.heap.size + 4, 1, none⟩ (.int .i64 vd)).heap[w.heap.size]? = some (.cells #[.slice none 0 0, .int .i64 0] 38) := (set_other (by show w.heap.size ≠ w.heap.size + 4; omega)).trans Hst2.out.res
          have hp4 := set_at (o := 1) (v := .int .i64 vd) hpc
          have hre : Hid (readP s.data.toList = if polE ⟨rs, vd⟩ = 0 then (⟨rs, vd⟩, 0) else (⟨[], 0⟩, polE ⟨rs, vd⟩)) := readP_some (by
            rw [hp.out, Hstep.out k, Hvd.out]
            simp only [Bool.false_eq_true, if_false]
            rw [if_neg (by omega)]
            simp only [Option.map_some, List.append_nil])
          have HR4 := Lib.hid hR4
          have Hb4 := Lib.hid hb4
          have Hr4 := Lib.hid hr4
          have Hp4 := Lib.hid hp4
          clear hR4 hb4 hr4 hp4
          go_wp2_with fail
          refine (rpolcheck_any pv ⟨rs, vd⟩ _ _ HR4.out).mono ?_
          rintro e w5 ⟨rfl, hb5⟩
          have hR5 := RdRules.below HR4.out hb5
          have hr5 := blk_below Hr4.out hb5
          have hp5 := blk_below Hp4.out hb5
          have hb5' := bel_call Hb4.out hb5
          have HR5 := Lib.hid hR5
          have Hb5 := Lib.hid hb5'
          clear hR5 hb5' hb5 hpc hcp hfp HR4 Hb4 Hr4 Hp4
          by_cases hpe : polE ⟨rs, vd⟩ = 0
          · have d2 : (polE ⟨rs, vd⟩ != 0) = false := bne_eq_false_iff_eq.2 hpe
            have Hpe := Lib.hid hpe
            have hcp := cells_of hp5
            have hcr := cells_of hr5
            have hfr := not_frozen hr5
            have hr6 := set_at (o := 1) (v := .int .i64 vd) (set_at (o := 0) (v := pv) hr5)
            have hc6 := cells_of hr6
            have Hb6 := Lib.hid (set_below (a := ⟨w.heap.size, 1, none⟩) (v := .int .i64 vd) (set_below (a := ⟨w.heap.size, 0, none⟩) (v := pv) Hb5.out (Nat.le_refl _)) (Nat.le_refl _))
            have hR6 : Hid (RdRules ((w5.setCell ⟨w.heap.size, 0, none⟩ pv).setCell ⟨w.heap.size, 1, none⟩ (.int .i64 vd)) (fun b => w.heap.size ≤ b) pv rs) :=
              RdRules.keep HR5.out (fun b h _ => by have : w.heap.size + 5 ≤ b := h; show w.heap.size ≤ b; omega) (fun b hb _ => by
                have h1 : w.heap.size + 5 ≤ b := hb
                rw [set_other (by show b ≠ w.heap.size; omega), set_other (by show b ≠ w.heap.size; omega)]) (by rw [set_size, set_size]; exact Nat.le_refl _)
            clear hpe hp5
            have Hre := hre
            clear hre
            obtain rfl := Hpv.out
            go_wp2
            rw [Hre.out, if_pos Hpe.out]
            refine bodyPost_ret (v := .tuple #[polV (.slice pa rs.length pcap) vd, .int .i64 0]) ?_ rfl ⟨_, rfl, hR6.out, Hb6.out⟩
            rw [results_cell_tmp rfl]
            go_simp
          · have d2 : (polE ⟨rs, vd⟩ != 0) = true := bne_iff_ne.2 hpe
            have Hpe := Lib.hid hpe
            clear hpe hp5
            go_wp2_with fail
            refine (bad_any _ _).mono ?_
            rintro e w6 ⟨rfl, hb6⟩
            have hr6 := blk_below hr5 hb6
            have hc6 := cells_of hr6
            have hf6 := not_frozen hr6
            have hr7 := set_at (o := 1) (v := .int .i64 0) (set_at (o := 0) (v := .slice none 0 0) hr6)
            have hc7 := cells_of hr7
            have Hb7 := Lib.hid (set_below (a := ⟨w.heap.size, 1, none⟩) (v := .int .i64 0) (set_below (a := ⟨w.heap.size, 0, none⟩) (v := .slice none 0 0) (bel_call Hb5.out hb6) (Nat.le_refl _)) (Nat.le_refl _))
            clear hr5
            go_wp2
            rw [hre.out, if_neg Hpe.out]
            refine bodyPost_ret (v := .tuple #[polV (.slice none 0 0) 0, .int .i64 (polE ⟨rs, vd⟩)]) ?_ rfl ⟨_, rfl, ⟨none, 0, rfl, Nat.le_refl _, by unfold maxLen; omega, fun _ => rfl, fun h => by cases h⟩, Hb7.out⟩
            rw [results_cell_tmp rfl]
            go_simp
        · have d1 : (1 : Int) < (us.length : Int) + 1 := by omega
          go_wp2_with fail
          refine (bad_any 1 _).mono ?_
          rintro e w3 ⟨rfl, hb3⟩
          have hr3 := blk_below Hst2.out.res hb3
          have hc3 := cells_of hr3
          have hf3 := not_frozen hr3
          have hr4 := set_at (o := 1) (v := .int .i64 0) (set_at (o := 0) (v := .slice none 0 0) hr3)
          have hc4 := cells_of hr4
          have Hb4 := Lib.hid (set_below (a := ⟨w.heap.size, 1, none⟩) (v := .int .i64 0) (set_below (a := ⟨w.heap.size, 0, none⟩) (v := .slice none 0 0) (bel_call Hst2.out.bel hb3) (Nat.le_refl _)) (Nat.le_refl _))
          have hrd : Hid (readP s.data.toList = (⟨[], 0⟩, 1)) := readP_none (by
            rw [hp.out, Hstep.out k, Hvd.out]
            simp only [Bool.false_eq_true, if_false]
            rw [if_pos (by omega)]; rfl)
          go_wp2
          rw [hrd.out]
          refine bodyPost_ret (v := .tuple #[polV (.slice none 0 0) 0, .int .i64 1]) ?_ rfl ⟨_, rfl, ⟨none, 0, rfl, Nat.le_refl _, by unfold maxLen; omega, fun _ => rfl, fun h => by cases h⟩, Hb4.out⟩
          rw [results_cell_tmp rfl]
          go_simp
      | true =>
        have d1 : (1 : Int) ≤ (us.length : Int) + 1 := by omega
        obtain ⟨off, hoff, htl⟩ := slice_tail w1.heap.size us.length
        have Hoff := Lib.hid hoff
        clear hoff
        go_wp2_with fail
        all_goals
          clear htl
          go_loopw [70] (fun jv wr => ∃ (j : Nat) (cs : List TCond) (cv : Value), jv = .int .i64 j ∧ j ≤ us.length ∧ cs.length = j ∧ Hid (condsOf (us.map (·.data.toList)) = (condsOf ((us.map (·.data.toList)).drop j)).map (cs ++ ·)) ∧
            Below w2.heap.size w2 wr ∧ wr.heap[w2.heap.size]? = some (.cells #[cv, .int .i64 vd] 147) ∧ OwnSl wr (w2.heap.size + 1) 153 3 condR cv cs) (fun jv _ => us.length - (intOf jv).toNat)
          case atStart => exact ⟨0, [], .slice none 0 0, rfl, by omega, rfl, by rw [List.drop_zero]; cases condsOf (us.map (·.data.toList)) <;> rfl, bel_alloc (Below.refl _ _) _, heap_last _ _, OwnSl.nil⟩
          case round =>
            obtain ⟨j, cs, cv, rfl, hj, hcl, hcs, hbw, hrb, hown⟩ := hrel
            have hul : us.length ≤ 4294967281 := by have : us.length + 1 ≤ ta.size + 1 := hwl; omega
            have hjb : j ≤ 4294967281 := by omega
            have hcb : cs.length ≤ 4294967281 := by omega
            have Hcl := Lib.hid hcl
            clear hcl
            have Hown := Lib.hid hown
            have Hbw := Lib.hid hbw
            have hszw := hbw.size
            clear hown hbw
            by_cases hlt : j < us.length
            · have hwd : wr.heap[w1.heap.size]? = some (.cells ((u0 :: us).map Value.string).toArray 9) := blk_below Hbl.out Hbw.out
              have hoff1 := Hoff.out (by omega)
              have hwc : wr.cell? ⟨w1.heap.size, off + j, none⟩ = some (.string us[j]) := by
                rw [cells_of hwd, hoff1, Nat.add_comm]
                simp [hlt]
              clear hwd hoff1
              obtain ⟨wo, rfl⟩ : ∃ wo : World, wo = wr := ⟨_, rfl⟩
              obtain ⟨u, hu⟩ : ∃ u : ByteArray, us[j] = u := ⟨_, rfl⟩
              rw [hu] at hwc
              have hus : u.size ≤ ta.size := Hwu.out u (by rw [← hu]; exact List.mem_cons_of_mem _ (List.getElem_mem _))
              have Hu := Lib.hid hu
              clear hu
              have Hlt : Hid (j < us.length) := Lib.hid hlt
              have hbad : Hid (condOf u.data.toList = none → readP s.data.toList = (⟨[], 0⟩, 1)) := fun hc => readP_none (by
                rw [hp.out, Hstep.out k, Hvd.out]
                have h1 : condsOf (us.map (·.data.toList)) = none := by
                  rw [hcs.out, condsOf_drop (by simpa using hlt)]
                  simp [Hu.out, hc]
                simp [h1])
              go_wp2_with fail
              go_loopw [18] (fun kv wr => ∃ k : Nat, kv = .int .i64 k ∧ k ≤ u.size ∧ (∀ i, i < k → ∀ b, u.data.toList[i]? = some b → opOf b = 0) ∧ Below wo.heap.size wo wr) (fun kv _ => u.size - (intOf kv).toNat)
              case atStart => exact ⟨0, rfl, by omega, fun i h => by omega, Below.refl _ _⟩
              case round =>
                obtain ⟨k, rfl, hk, hop, hbo⟩ := hrel
                have Hop := Lib.hid hop
                have Hbo := Lib.hid hbo
                have hszo := hbo.size
                clear hop hbo hwc
                have hom : wr.heap[w.heap.size + 3]? = some (.map omap 4) := blk_below (blk_below Hst2.out.om Hbw.out) Hbo.out
                by_cases hkl : k < u.size
                · have hkz : (k : Int) < (u.size : Int) := by omega
                  obtain ⟨b, hb⟩ : ∃ b : UInt8, u[k] = b := ⟨_, rfl⟩
                  have hbl' : u.data.toList[k]? = some b := by
                    rw [← hb]; exact Lib.data_getElem? u k hkl
                  obtain ⟨fo, hfo, hfo'⟩ := find_o b
                  have hz : ∀ W : World, (zeroValue 3).run Tryz.prog W = .ok (.int .i64 0) W := fun W => by kernel_rfl
                  have hlo := run_lookup_bare (P := Tryz.prog) (key := .int .u8 b.toNat) (t := 169) Tryz.underlying169 Tryz.underlying5 hom (hz _) rfl hfo
                  rw [hfo'] at hlo
                  clear hz hfo hfo' hom
                  have Hbl' := Lib.hid hbl'
                  clear hbl'
                  by_cases h0 : opOf b = 0
                  · have d3 : (opOf b == 0) = true := beq_iff_eq.2 h0
                    have H0 := Lib.hid h0
                    clear h0
                    go_wp2_with fail
                    go_roundw
                    case rel => exact ⟨k + 1, by go_num, by omega, fun i hi c hc => by
                      by_cases hik : i = k
                      · subst hik
                        rw [Hbl'.out] at hc
                        injection hc with hc
                        rw [← hc]; exact H0.out
                      · exact Hop.out i (by omega) c hc, Hbo.out⟩
                    case measure => simp [intOf]; omega
                  · have d3 : (opOf b == 0) = false := beq_eq_false_iff_ne.2 h0
                    have d4 : (k == u.size) = false := beq_eq_false_iff_ne.2 (by omega)
                    have d5 : ((k : Int) == (u.size : Int)) = false := beq_eq_false_iff_ne.2 (by omega)
                    have Hat : Hid (opAt u.data.toList = k) := opAt_spec _ k Hop.out (by show k ≤ u.size; omega) (fun c hc => by
                      rw [Hbl'.out] at hc
                      injection hc with hc
                      rw [← hc]; exact h0)
                    clear h0
                    have hfm : wr.heap[w.heap.size + 2]? = some (.map fmap 5) := blk_below (blk_below Hst2.out.fm Hbw.out) Hbo.out
                    obtain ⟨ff, hff, hff'⟩ := find_f (u.extract 0 k)
                    have hz : ∀ W : World, (zeroValue 3).run Tryz.prog W = .ok (.int .i64 0) W := fun W => by kernel_rfl
                    have hlf := run_lookup_ok (P := Tryz.prog) (key := .string (u.extract 0 k)) (t := 117) Tryz.underlying117 Tryz.underlying9 hfm (hz _) (by exact trivial) hff
                    have hfs : ff.isSome = (fieldOf (u.extract 0 k).data.toList).isSome := by
                      have := congrArg Option.isSome hff'
                      simpa using this
                    rw [hfs, hff', Lib.extract_from_zero] at hlf
                    clear hfm hff hff' hfs hz
                    have HLr := Lib.hid ((HL2.out.below Hbw.out).below Hbo.out)
                    have hkk : (k : Int) + 1 ≤ (u.size : Int) := by omega
                    have hco : Hid (condOf u.data.toList = match fieldOf (u.data.toList.take k) with
                      | none => none
                      | some f => if (wholeS (u.data.toList.drop (k + 1))).2 then some ⟨f, opOf b, (wholeS (u.data.toList.drop (k + 1))).1⟩ else none) := by
                      unfold condOf
                      rw [Hat.out, if_neg (by show k ≠ u.size; omega), List.getD_eq_getElem?_getD, Hbl'.out]
                      rfl
                    cases hfd : fieldOf (u.data.toList.take k) with
                    | none =>
                      rw [hfd] at hlf
                      simp only [Option.map_none, Option.getD_none, Option.isSome_none] at hlf
                      have hrd : Hid (readP s.data.toList = (⟨[], 0⟩, 1)) := hbad.out (by rw [hco.out, hfd])
                      clear hfd hco
                      go_wp2_with fail
                      refine (whole_any (u.extract (k + 1) u.size) wr HLr.out (by rw [ByteArray.size_extract]; omega)).mono ?_
                      rintro e w3 ⟨rfl, hb3⟩
                      have Hb3 := Lib.hid hb3
                      clear hb3
                      go_wp2_with fail
                      refine (bad_any 1 _).mono ?_
                      rintro e w7 ⟨rfl, hb7⟩
                      have hr7 := blk_below (blk_below (blk_below (blk_below Hst2.out.res Hbw.out) Hbo.out) Hb3.out) hb7
                      have hc7 := cells_of hr7
                      have hf7 := not_frozen hr7
                      have hr8 := set_at (o := 1) (v := .int .i64 0) (set_at (o := 0) (v := .slice none 0 0) hr7)
                      have hc8 := cells_of hr8
                      have Hb8 := Lib.hid (set_below (a := ⟨w.heap.size, 1, none⟩) (v := .int .i64 0) (set_below (a := ⟨w.heap.size, 0, none⟩) (v := .slice none 0 0) (bel_call (bel_call (bel_call (bel_call Hst2.out.bel Hbw.out) Hbo.out) Hb3.out) hb7) (Nat.le_refl _)) (Nat.le_refl _))
                      go_wp2
                      rw [hrd.out]
                      refine bodyPost_ret (v := .tuple #[polV (.slice none 0 0) 0, .int .i64 1]) ?_ rfl ⟨_, rfl, ⟨none, 0, rfl, Nat.le_refl _, by unfold maxLen; omega, fun _ => rfl, fun h => by cases h⟩, Hb8.out⟩
                      rw [results_cell_tmp rfl]
                      go_simp
                    | some fd =>
                      rw [hfd] at hlf
                      simp only [Option.map_some, Option.getD_some, Option.isSome_some] at hlf
                      have Hfd := Lib.hid hfd
                      clear hfd
                      go_wp2_with fail
                      refine (whole_any (u.extract (k + 1) u.size) wr HLr.out (by rw [ByteArray.size_extract]; omega)).mono ?_
                      rintro e w3 ⟨rfl, hb3⟩
                      have Hb3 := Lib.hid hb3
                      clear hb3
                      rw [Lib.extract_to_end]
                      rw [Hfd.out] at hco
                      obtain ⟨nn, hnn⟩ : ∃ nn : Int, (wholeS (u.data.toList.drop (k + 1))).1 = nn := ⟨_, rfl⟩
                      cases hgd : (wholeS (u.data.toList.drop (k + 1))).2 with
                      | false =>
                        have hrd : Hid (readP s.data.toList = (⟨[], 0⟩, 1)) := hbad.out (by rw [hco.out, hgd]; rfl)
                        clear hgd hco
                        go_wp2_with fail
                        refine (bad_any 1 _).mono ?_
                        rintro e w7 ⟨rfl, hb7⟩
                        have hr7 := blk_below (blk_below (blk_below (blk_below Hst2.out.res Hbw.out) Hbo.out) Hb3.out) hb7
                        have hc7 := cells_of hr7
                        have hf7 := not_frozen hr7
                        have hr8 := set_at (o := 1) (v := .int .i64 0) (set_at (o := 0) (v := .slice none 0 0) hr7)
                        have hc8 := cells_of hr8
                        have Hb8 := Lib.hid (set_below (a := ⟨w.heap.size, 1, none⟩) (v := .int .i64 0) (set_below (a := ⟨w.heap.size, 0, none⟩) (v := .slice none 0 0) (bel_call (bel_call (bel_call (bel_call Hst2.out.bel Hbw.out) Hbo.out) Hb3.out) hb7) (Nat.le_refl _)) (Nat.le_refl _))
                        go_wp2
                        rw [hrd.out]
                        refine bodyPost_ret (v := .tuple #[polV (.slice none 0 0) 0, .int .i64 1]) ?_ rfl ⟨_, rfl, ⟨none, 0, rfl, Nat.le_refl _, by unfold maxLen; omega, fun _ => rfl, fun h => by cases h⟩, Hb8.out⟩
                        rw [results_cell_tmp rfl]
                        go_simp
                      | true =>
                        have hc1 : Hid (condOf u.data.toList = some ⟨fd, opOf b, nn⟩) := by
                          have := hco.out
                          rw [hgd, hnn] at this
                          exact this
                        rw [hnn]
                        clear hgd hnn hco
                        go_wp2_with fail
                        have hk0 : (0 : Int) ≤ (k : Int) := by omega
                        have hbx3 : w3.cell? ⟨w2.heap.size, 0, none⟩ = some cv := by rw [cells_of (blk_below (blk_below hrb Hbo.out) Hb3.out)]; rfl
                        have hrb3 := blk_below (blk_below hrb Hbo.out) Hb3.out
                        have hom3 : w3.heap[w.heap.size + 3]? = some (.map omap 4) := blk_below (blk_below (blk_below Hst2.out.om Hbw.out) Hbo.out) Hb3.out
                        have hlk : ∀ W : World, W.heap[w.heap.size + 3]? = some (.map omap 4) → (Instr.lookup 169 (.map (some (w.heap.size + 3))) (.int .u8 b.toNat) false).run Tryz.prog W = .ok (.int .i64 (opOf b)) W := fun W hW => by
                          obtain ⟨fo, hfo, hfo'⟩ := find_o b
                          have := run_lookup_bare (P := Tryz.prog) (z := .int .i64 0) (key := .int .u8 b.toNat) (t := 169) Tryz.underlying169 Tryz.underlying5 hW (by kernel_rfl) rfl hfo
                          rw [hfo'] at this
                          exact this
                        have Hlk := Lib.hid hlk
                        clear hlk
                        obtain ⟨rows, hro, hrw⟩ := (Hown.out.below Hbo.out).below Hb3.out
                        obtain ⟨i0, hi0, hz0, hz1, hz2⟩ := info_parts infoCond
                        have hlt3 : w2.heap.size < w3.heap.size := (Array.getElem?_eq_some_iff.1 hrb3).1
                        have ho3 := Hown.out.block
                        have hs3 := Hb3.out.size
                        have hso := Hbo.out.size
                        have hkl' : (k : Int) < (u.size : Int) := by omega
                        have hnb : ∀ g, cv.ownBlock = some g → g ≠ w2.heap.size := fun g e => by have := ho3 _ e; omega
                        have hnm : some (w.heap.size + 3) ≠ cv.ownBlock := fun e => by have := ho3 _ e.symm; omega
                        have Hro := Lib.hid hro
                        have Hhi := Lib.hid hi0
                        have Hrw := Lib.hid hrw
                        have Hom3 := Lib.hid hom3
                        have Hrb3 := Lib.hid hrb3
                        clear hro hi0 hrw hom3 hrb3 hbx3 ho3
                        refine wp_region_app w2.heap.size 147 #[cv, .int .i64 vd] 0 (w2.heap.size + 1) 153 3 cv cs.length rows.flatten 1 [.int .i64 fd, .int .i64 (opOf b), .int .i64 nn] 11 13 (by kernel_rfl) (by kernel_rfl) Hrb3.out Hrw.out (by omega) (Array.getElem?_eq_some_iff.1 Hrb3.out).1 _ rfl
                          [ex (.pointer (some ⟨w2.heap.size, 0, none⟩)), ex cv, ex (.int .i64 fd), ex (.map (some (w.heap.size + 3))), ex (.string u), ex (.int .i64 k), ex (.int .u8 b.toNat), ex (.int .i64 (opOf b)), ex (.int .i64 nn), ex (.agg #[.int .i64 fd, .int .i64 (opOf b), .int .i64 nn]), pr (NewP w3.heap.size 153 1 #[.int .i64 fd, .int .i64 (opOf b), .int .i64 nn]), pr (OwnP (w2.heap.size + 1) 153 3 (cs.length + 1) (rows.flatten ++ [.int .i64 fd, .int .i64 (opOf b), .int .i64 nn])), ex (.pointer (some ⟨w2.heap.size, 0, none⟩)), ex undef] ?_
                          ⟨.inl ⟨_, rfl⟩, .inl ⟨_, rfl⟩, .inl ⟨_, rfl⟩, .inl ⟨_, rfl⟩, .inl ⟨_, rfl⟩, .inl ⟨_, rfl⟩, .inl ⟨_, rfl⟩, .inl ⟨_, rfl⟩, .inl ⟨_, rfl⟩, .inl ⟨_, rfl⟩, .inr (.inl rfl), .inr (.inr ⟨rfl, rfl⟩), .inl ⟨_, rfl⟩, .inl ⟨_, rfl⟩, trivial⟩
                        (refine walkP_ex (fun K hK => ?_); refine ⟨fun done W hI h0 hd hn hf R hR => ?_, ?_⟩; (clear h0 hd hn hf; go_simp; exact hR _ _ (hI.step (Below.refl _ _) (by decide) (by decide)) (AppT.of_below (Below.refl _ _)) rfl); (go_simp; refine hK _ ?_; clear hK K))
                        (refine walkP_ex (fun K hK => ?_); refine ⟨fun done W hI h0 hd hn hf R hR => ?_, ?_⟩; (have h13 : done 13 = false := hn 13 (by decide); have hcb := cells_of (hI.before h13); clear h0 hd hn hf; go_simp; exact hR _ _ (hI.step (Below.refl _ _) (by decide) (by decide)) (AppT.of_below (Below.refl _ _)) rfl); (go_simp; refine hK _ ?_; clear hK K))
                        (refine walkP_ex (fun K hK => ?_); refine ⟨fun done W hI h0 hd hn hf R hR => ?_, ?_⟩; (clear h0 hd hn hf; go_simp; exact hR _ _ (hI.step (Below.refl _ _) (by decide) (by decide)) (AppT.of_below (Below.refl _ _)) rfl); (go_simp; refine hK _ ?_; clear hK K))
                        (refine walkP_ex (fun K hK => ?_); refine ⟨fun done W hI h0 hd hn hf R hR => ?_, ?_⟩; (clear h0 hd hn hf; go_simp; exact hR _ _ (hI.step (Below.refl _ _) (by decide) (by decide)) (AppT.of_below (Below.refl _ _)) rfl); (go_simp; refine hK _ ?_; clear hK K))
                        (refine walkP_ex (fun K hK => ?_); refine ⟨fun done W hI h0 hd hn hf R hR => ?_, ?_⟩; (clear h0 hd hn hf; go_simp; exact hR _ _ (hI.step (Below.refl _ _) (by decide) (by decide)) (AppT.of_below (Below.refl _ _)) rfl); (go_simp; refine hK _ ?_; clear hK K))
                        (refine walkP_ex (fun K hK => ?_); refine ⟨fun done W hI h0 hd hn hf R hR => ?_, ?_⟩; (clear h0 hd hn hf; go_simp; exact hR _ _ (hI.step (Below.refl _ _) (by decide) (by decide)) (AppT.of_below (Below.refl _ _)) rfl); (go_simp; refine hK _ ?_; clear hK K))
                        (refine walkP_ex (fun K hK => ?_); refine ⟨fun done W hI h0 hd hn hf R hR => ?_, ?_⟩; (clear h0 hd hn hf; go_simp; exact hR _ _ (hI.step (Below.refl _ _) (by decide) (by decide)) (AppT.of_below (Below.refl _ _)) rfl); (go_simp; refine hK _ ?_; clear hK K))
                        (refine walkP_ex (fun K hK => ?_); refine ⟨fun done W hI h0 hd hn hf R hR => ?_, ?_⟩; (have hlw := Hlk.out W ((hI.blk (w.heap.size + 3) (by omega) (by omega) hnm).trans Hom3.out); clear h0 hd hn hf; go_simp; exact hR _ _ (hI.step (Below.refl _ _) (by decide) (by decide)) (AppT.of_below (Below.refl _ _)) rfl); (go_simp; refine hK _ ?_; clear hK K))
                        (refine walkP_ex (fun K hK => ?_); refine ⟨fun done W hI h0 hd hn hf R hR => ?_, ?_⟩; (clear h0 hd hn hf; go_simp; exact hR _ _ (hI.step (Below.refl _ _) (by decide) (by decide)) (AppT.of_below (Below.refl _ _)) rfl); (go_simp; refine hK _ ?_; clear hK K))
                        (refine walkP_ex (fun K hK => ?_); refine ⟨fun done W hI h0 hd hn hf R hR => ?_, ?_⟩; (clear h0 hd hn hf; go_simp; exact hR _ _ (hI.step (Below.refl _ _) (by decide) (by decide)) (AppT.of_below (Below.refl _ _)) rfl); (go_simp; refine hK _ ?_; clear hK K))
                        (refine walkP_pr (fun K hK => ?_); refine ⟨fun done W hI h0 hd hn hf R hR => ?_, fun v10 => ?_⟩; (clear h0 hd hn hf; go_simp; exact hR _ _ (hI.step (bel_alloc (Below.refl _ _) _) (by decide) (by decide)) (AppT.of_below (bel_alloc (Below.refl _ _) _)) ⟨_, rfl, hI.size, heap_last _ _⟩); (go_simp; refine hK _ _ ?_; clear hK K))
                        (refine walkP_pr (fun K hK => ?_); refine ⟨fun done W hI h0 hd hn hf R hR => ?_, fun v11 => ?_⟩; (have h10 : NewP w3.heap.size 153 1 #[.int .i64 fd, .int .i64 (opOf b), .int .i64 nn] v10 W := hf 10 (by decide); obtain ⟨bn, rfl, hbn, hcn⟩ := h10; refine ob_plain rfl ?_; refine gives_append (.tmp 123) (.tmp 132) 145 rfl (w2.heap.size + 1) 153 i0 _ 3 24 Tryz.underlying145 Hhi.out hz0 hz1 hz2 rfl (by omega) cv cs.length rows.flatten (by rfl) (hI.own h0) ⟨bn, 0, none⟩ 1 1 [.int .i64 fd, .int .i64 (opOf b), .int .i64 nn] (by rfl) (by rfl) (World.news_of_block hcn) (by simp [Value.oneCell']) (by omega) (by unfold maxLen; omega) (by omega) (by have := hI.size; omega) (fun v' w' h1 h2 => hR _ _ (hI.appended (hn 13 (by decide)) (by decide) hnb h2 (by omega)) (AppT.of_grown h2) h1)); (go_simp; refine hK _ _ ?_; clear hK K))
                        (refine walkP_ex (fun K hK => ?_); refine ⟨fun done W hI h0 hd hn hf R hR => ?_, ?_⟩; (clear h0 hd hn hf; go_simp; exact hR _ _ (hI.step (Below.refl _ _) (by decide) (by decide)) (AppT.of_below (Below.refl _ _)) rfl); (go_simp; refine hK _ ?_; clear hK K))
                        (refine walkP_ex (fun K hK => ?_); refine ⟨fun done W hI h0 hd hn hf R hR => ?_, ?_⟩; (have h11 : OwnP (w2.heap.size + 1) 153 3 (cs.length + 1) (rows.flatten ++ [.int .i64 fd, .int .i64 (opOf b), .int .i64 nn]) v11 W := hf 11 (by decide); have hda : done 11 = true := hd 11 (by decide); have hst := hI.stored (v := v11) h0 hda (by decide) h11 (by omega); obtain ⟨gv, cpv, rfl, _, _⟩ := World.ownsRow.form h11 (by omega); have hcb := cells_of (hI.before h0); have hfb := not_frozen (hI.before h0); clear hd hn hf; go_simp; exact hR _ _ hst AppT.of_store rfl); (go_simp; refine hK _ ?_; clear hK K))
                        intro done W hdone hI hF
                        obtain ⟨v', hbv, hov⟩ := hI.after (hdone 13 (by decide))
                        have hbW : Below w2.heap.size w2 W := hI.below (bel_call (bel_call Hbw.out Hbo.out) Hb3.out) (Nat.le_refl _) (fun g hg => by have := Hown.out.block g hg; omega) (by omega)
                        have Hbv := Lib.hid hbv
                        have Hov := Lib.hid hov
                        have HbW := Lib.hid hbW
                        clear hI hF hdone hbv hov hbW
                        go_wp2
                        go_roundw
                        case rel => exact ⟨j + 1, cs ++ [⟨fd, opOf b, nn⟩], v', by go_num, by have := Hlt.out; omega, by simp [Hcl.out], by
                            show condsOf _ = _
                            rw [hcs.out, condsOf_drop (by simpa using hlt)]
                            simp only [List.getElem_map, Hu.out, hc1.out]
                            cases condsOf (List.drop (j + 1) (us.map (·.data.toList))) <;> simp, HbW.out, Hbv.out,
                          ⟨rows ++ [[.int .i64 fd, .int .i64 (opOf b), .int .i64 nn]], Hro.out.app (RowsOf.cons (sz := 3) (R := condR) (x := (⟨fd, opOf b, nn⟩ : TCond)) (r := [.int .i64 fd, .int .i64 (opOf b), .int .i64 nn]) RowsOf.nil rfl rfl), by
                            have := Hov.out
                            simpa using this⟩⟩
                        case measure => have := Hlt.out; simp [intOf]; omega
                · obtain rfl : k = u.size := by omega
                  have hrd : Hid (readP s.data.toList = (⟨[], 0⟩, 1)) := hbad.out (by
                    unfold condOf
                    rw [if_pos (show opAt u.data.toList = u.data.toList.length from opAt_spec _ u.data.toList.length Hop.out (Nat.le_refl _) (fun c hc => by simp at hc))])
                  clear hom
                  go_wp2_with fail
                  refine (bad_any 1 _).mono ?_
                  rintro e w7 ⟨rfl, hb7⟩
                  have hr7 := blk_below (blk_below (blk_below Hst2.out.res Hbw.out) Hbo.out) hb7
                  have hc7 := cells_of hr7
                  have hf7 := not_frozen hr7
                  have hr8 := set_at (o := 1) (v := .int .i64 0) (set_at (o := 0) (v := .slice none 0 0) hr7)
                  have hc8 := cells_of hr8
                  have Hb8 := Lib.hid (set_below (a := ⟨w.heap.size, 1, none⟩) (v := .int .i64 0) (set_below (a := ⟨w.heap.size, 0, none⟩) (v := .slice none 0 0) (bel_call (bel_call (bel_call Hst2.out.bel Hbw.out) Hbo.out) hb7) (Nat.le_refl _)) (Nat.le_refl _))
                  go_wp2
                  rw [hrd.out]
                  refine bodyPost_ret (v := .tuple #[polV (.slice none 0 0) 0, .int .i64 1]) ?_ rfl ⟨_, rfl, ⟨none, 0, rfl, Nat.le_refl _, by unfold maxLen; omega, fun _ => rfl, fun h => by cases h⟩, Hb8.out⟩
                  rw [results_cell_tmp rfl]
                  go_simp
            · obtain rfl : j = us.length := by omega
              have hcs1 : Hid (condsOf (us.map (·.data.toList)) = some cs) := by
                show condsOf _ = _
                rw [hcs.out, List.drop_of_length_le (by simp)]
                simp [condsOf]
              have hpc := blk_below Hst2.out.pc Hbw.out
              have hcp := cells_of hpc
              have hfp := not_frozen hpc
              have hcr := cells_of hrb
              obtain ⟨ca, cc, hcv, _⟩ := Sl.form (Hown.out.sl (D := fun _ => True) fun _ _ => trivial)
              obtain ⟨rows, hro, hrw⟩ := (Hst2.out.below Hbw.out).own
              obtain ⟨i0, hi0, hz0, hz1, hz2⟩ := info_parts infoRule
              have hpo : ∀ g, pv.ownBlock = some g → w.heap.size + 5 ≤ g := fun g hg => (hrw.lt g hg).1
              have hpn : some (w.heap.size + 4) ≠ pv.ownBlock := fun e => by have := hpo _ e.symm; omega
              have h1 : ∀ u ∈ [cv, Value.int .i64 vd], u.oneCell' = true := by rw [hcv]; simp [Value.oneCell']
              have hsr' : tr.size < t.size := hsr trivial
              have Hro := Lib.hid hro
              have Hrw := Lib.hid hrw
              have Hpc := Lib.hid hpc
              have Hhi := Lib.hid hi0
              have H1 := Lib.hid h1
              have Hrb := Lib.hid hrb
              clear hro hrw hpc hi0 h1 hcv hsr hrb
              go_wp2_with (at_builtin; refine wpList_append_lies _ rfl _ _ _ rfl (w.heap.size + 5) 147 i0 _ 2 32 Tryz.underlying36 Hhi.out hz0 hz1 hz2 rfl (by decide) pv rs.length rows.flatten rfl (Hrw.out.alloc _) ⟨wr.heap.size, 0, none⟩ 1 1 [cv, .int .i64 vd] rfl rfl (World.news_of_block (cs := #[cv, .int .i64 vd]) (blk_at rfl)) H1.out (by omega) (by unfold maxLen; omega) (by omega) (by simp; omega) (wr.heap.size + 1) (by simp) ?_; intro gg cap w4 hown4 hgrow hat hlt4; have hb4 := (hgrow.block (w.heap.size + 4) (by simp; omega) hpn).trans (blk_old Hpc.out); have hc4 := cells_of hb4; have hf4 := not_frozen hb4; have Hown4 := Lib.hid hown4; have Hgrow := Lib.hid hgrow; have Hat := Lib.hid hat; clear hown4 hgrow hat hb4)
              go_roundw
              case rel => exact ⟨k, tr, rs ++ [⟨cs, vd⟩], .slice (some ⟨gg, 0, none⟩) (rs.length + 1) cap, rfl, by omega, by simp; omega, by
                  show pread _ _ = _
                  rw [hp.out, Hstep.out k, Hvd.out, hcs1.out]
                  cases pread k tr.data.toList <;> simp, rd_step Hst2.out Hbw.out Hown.out Hgrow.out Hown4.out Hro.out Hat.out⟩
              case measure => simp; omega
end Go.Proofs.YthkgjohhbdipcaaGreatDoor
namespace Go.Proofs.YthkgjohhbdipcaaGreatDoor
open Go.RowKit

theorem infoIns : (Tryz.prog.info? 141).map (fun i => (i.zero, i.size, i.bytes)) = some (some (.agg #[.int .i64 0, .int .i64 0, .int .i64 0, .int .i64 0]), 4, 32) := by kernel_rfl

set_option maxHeartbeats 1000000 in
theorem growIns_nil (n : Nat) (w : World) (hn : n * 32 ≤ 140737488355328) : Calls Tryz.prog 223 #[.slice none 0 0, .int .i64 n] w fun e w' => ∃ v, e = .returned v ∧ OwnSl w' w.heap.size 141 4 insR v ([] : List TIns) ∧ Below w.heap.size w w' := by
  by_cases h0 : n = 0
  · subst h0
    go_enter Tryz.func223, Tryz.ntmps223
    go_wp2
    go_ret
    exact ⟨_, rfl, OwnSl.nil, Below.refl _ _⟩
  · obtain ⟨i0, hi, hz0, hz1, hz2⟩ := info_parts infoIns
    have hrun := fun (W : World) (ty : TypeId) => Lib.run_append_nil_zeros (P := Tryz.prog) W 98 3 ty 141 i0 (.agg #[.int .i64 0, .int .i64 0, .int .i64 0, .int .i64 0]) .i64 .i64 Tryz.underlying98 Tryz.underlying3 hi hz0 n (by omega) (by rw [hz1]; omega) (by omega) (by rw [hz2]; omega)
    have hgc : ∀ W : World, grownCap W n 0 141 ≤ maxLen := fun W => grownCap_le_maxLen W n 0 141 (by unfold maxLen; omega)
    have h1 : 0 < (n : Int) := by omega
    have h2 : (n : Int) ≤ 9223372036854775807 := by omega
    have Hrun := Lib.hid hrun
    have Hz := Lib.hid hz1
    clear hrun hi hz0 hz1 hz2 h0 hn
    go_enter Tryz.func223, Tryz.ntmps223
    go_wp2_with (at_builtin; refine Lib.wpList_append_run _ rfl _ _ _ _ rfl _ _ rfl rfl _ _ (Hrun.out _ _) ?_)
    go_ret
    refine ⟨_, rfl, ⟨[], RowsOf.nil, by simp, .inr ⟨w.heap.size, grownCap w n 0 141, _, rfl, Nat.le_refl _, blk_at rfl, by simp, hgc w, ?_, by simp⟩⟩, (bel_alloc (Below.refl _ _) _).drew⟩
    have hge := grownCap_ge w n 0 141
    simp [size_zeroCells]
    omega

theorem oneIns (y : TIns) (cs : List Value) (h : insR y cs) : ∀ c ∈ cs, c.oneCell' = true := by
  unfold insR at h; subst h; simp [Value.oneCell']
/-- a slice of slices. -/
def rowsRIns (w : World) (D : Nat → Prop) (l : List TIns) (cs : List Value) : Prop := ∃ u, cs = [u] ∧ Sl w D 4 insR u l
set_option maxRecDepth 100000 in
set_option maxHeartbeats 2000000 in
theorem concatIns_any (v : Value) (ls : List (List TIns)) (D : Nat → Prop) (w : World) (h : Sl w D 1 (rowsRIns w D) v ls) (hn : lenTo ls ls.length * 32 ≤ 140737488355328) :
    Calls Tryz.prog 215 #[v] w fun e w' => ∃ v', e = .returned v' ∧ OwnSl w' w.heap.size 141 4 insR v' ls.flatten ∧ Below w.heap.size w w' := by
  obtain ⟨a, c, rfl, hlc, hcm, hat⟩ := Sl.form h
  obtain ⟨i0, hi, hz0, hz1, hz2⟩ := info_parts infoIns
  have H := Lib.hid h
  clear h
  have hrow : ∀ k (hk : k < ls.length) b o, a = some ⟨b, o, none⟩ → ∃ (u : Value) (cu : Option Addr × Nat), u = Value.slice cu.1 ls[k].length cu.2 ∧ Sl w D 4 insR u ls[k] ∧ ∀ wr, Below w.heap.size w wr → wr.cell? ⟨b, o + k, none⟩ = some u := fun k hk b o e => by
    subst e
    obtain ⟨cs, hcs, ⟨u, hu, hs⟩, hcell⟩ := Sl.get H.out hk
    obtain ⟨a', c', hv, _⟩ := Sl.form hs
    refine ⟨u, (a', c'), hv, hs, fun wr hb => ?_⟩
    subst hu
    have hc := hcell 0 u rfl
    rw [Nat.mul_one] at hc
    exact (hb.cell (p := ⟨b, o + k, none⟩) (World.block_lt_of_cell? _ _ hc)).trans hc
  have Hrow := Lib.hid hrow
  have Hn := Lib.hid hn
  have hn' : lenTo ls ls.length ≤ 140737488355328 := by omega
  clear hrow hn
  go_enter Tryz.func215, Tryz.ntmps215
  go_wp2_with fail
  go_loop [3, 11] (fun s i => ∃ k : Nat, k ≤ ls.length ∧ i = .int .i64 k ∧ s = .int .i64 (lenTo ls k)) (fun _ i => ls.length - (intOf i).toNat)
  case atStart => exact ⟨0, by omega, rfl, rfl⟩
  case round =>
    obtain ⟨k, hk, rfl, rfl⟩ := hrel
    by_cases hlt : k < ls.length
    · obtain ⟨b, o, rfl, hDb, hb⟩ := hat (by omega)
      obtain ⟨u, ⟨a', c'⟩, rfl, hs, hc⟩ := Hrow.out k hlt b o rfl
      have hcw := hc w (Below.refl _ _)
      have hle := lenTo_le ls (k + 1) (by omega)
      have Hs := Lib.hid (lenTo_succ ls k hlt)
      have hle' : lenTo ls k + ls[k].length ≤ 140737488355328 := by have := Hs.out; omega
      clear hs hc
      go_wp2
      go_round
      case rel => exact ⟨k + 1, by omega, by go_num, by rw [Hs.out]; go_num⟩
      case measure => simp [intOf]; omega
    · obtain rfl : k = ls.length := by omega
      go_wp2_with fail
      refine (growIns_nil (lenTo ls ls.length) _ Hn.out).mono ?_
      rintro e w1 ⟨vg, rfl, hown, hb1⟩
      go_wp2_with fail
      go_loopw [6, 27] (fun s i wr => ∃ (k : Nat) (vs : Value), k ≤ ls.length ∧ i = .int .i64 k ∧ vs = s ∧ OwnSl wr w.heap.size 141 4 insR vs (ls.take k).flatten ∧ Below w.heap.size w wr) (fun _ i _ => ls.length - (intOf i).toNat)
      case atStart => exact ⟨0, vg, by omega, rfl, rfl, by simpa using hown, hb1⟩
      case round =>
        obtain ⟨k, vs, hk, rfl, rfl, hown, hbw⟩ := hrel
        have Hown := Lib.hid hown
        have hsz := hbw.size
        clear hown
        by_cases hlt : k < ls.length
        · obtain ⟨b, o, rfl, hDb, hb⟩ := hat (by omega)
          obtain ⟨u, ⟨a', c'⟩, rfl, hs, hc⟩ := Hrow.out k hlt b o rfl
          have hcw := hc wr hbw
          have hle := lenTo_le ls (k + 1) (by omega)
          have Hl := Lib.hid (lenTo_succ ls k hlt)
          have hs' : Sl wr D 4 insR (.slice a' ls[k].length c') ls[k] := Sl.mono hs (fun _ h _ => h) (fun b _ hlt => hbw.block b hlt) hbw.size (fun _ _ _ h => h)
          have Hs' := Lib.hid hs'
          have Hs := Lib.hid (flat_take_succ ls k hlt)
          clear hs hc hs'
          go_wp2_with (at_builtin; refine wpList_app rfl _ _ 98 rfl w.heap.size 141 i0 _ 4 32 Tryz.underlying98 hi hz0 hz1 hz2 rfl (by decide) _ _ rfl Hown.out _ _ rfl Hs'.out (fun y _ cs h => oneIns y cs h) (by have := Hl.out; unfold lenTo at *; unfold maxLen; omega) (by have := Hn.out; have := Hl.out; unfold lenTo at *; omega) hsz ?_; intro v' w2 hown' hg)
          go_roundw
          case rel => exact ⟨k + 1, v', by omega, by go_num, rfl, by rw [← flat_take_succ ls k hlt]; exact hown', Hown.out.grown hbw hg hsz (Nat.le_refl _)⟩
          case measure => simp [intOf]; omega
        · obtain rfl : k = ls.length := by omega
          have Hf : Hid (OwnSl wr w.heap.size 141 4 insR vs ls.flatten) := by have := Hown.out; rwa [List.take_length] at this
          go_wp2
          go_ret
          exact ⟨_, rfl, Hf.out, hbw⟩
end Go.Proofs.YthkgjohhbdipcaaGreatDoor
namespace Go.Proofs.YthkgjohhbdipcaaGreatDoor
open Go.RowKit

set_option maxRecDepth 100000 in
set_option maxHeartbeats 1000000 in
theorem cloneIns_any {α : Type} (R : α → List Value → Prop) (h1R : ∀ (y : α) (cs : List Value), R y cs → ∀ c ∈ cs, c.oneCell' = true) (v : Value) (xs : List α) (D : Nat → Prop) (w : World) (h : Sl w D 4 R v xs) (hn : xs.length * 32 ≤ 140737488355328) :
    Calls Tryz.prog 154 #[v] w fun e w' => ∃ v', e = .returned v' ∧ OwnSl w' w.heap.size 141 4 R v' xs ∧ Below w.heap.size w w' := by
  obtain ⟨i0, hi, hz0, hz1, hz2⟩ := info_parts infoIns
  have H := Lib.hid h
  obtain ⟨a, c, rfl, hlc, hcm, hnil, hat⟩ := h
  have Hi := Lib.hid hi
  clear hi
  cases a with
  | none =>
    have hc := hnil rfl
    subst hc
    have hx : xs = [] := List.length_eq_zero_iff.1 (by omega)
    subst hx
    have hq := fun (a : Option Addr) (n c : Nat) (W : World) => Lib.run_eql_slice_nil (P := Tryz.prog) W 98 141 a n c 0 0 Tryz.underlying98
    go_enter Tryz.func154, Tryz.ntmps154
    go_wp2
    go_ret
    exact ⟨_, rfl, OwnSl.nil, Below.refl _ _⟩
  | some ad =>
    have H2 := Lib.hid (H.out.belowR (bel_alloc (Below.refl _ w) (.cells #[] 141)) (fun _ _ _ h => h))
    have Hown : Hid (OwnSl (w.alloc (.cells #[] 141)) w.heap.size 141 4 R (.slice (some ⟨w.heap.size, 0, none⟩) 0 0) ([] : List α)) :=
      ⟨[], RowsOf.nil, by simp, .inr ⟨w.heap.size, 0, #[], rfl, Nat.le_refl _, heap_last _ _, by simp, by simp, by simp, by simp⟩⟩
    clear hat hnil
    have hq := fun (a : Option Addr) (n c : Nat) (W : World) => Lib.run_eql_slice_nil (P := Tryz.prog) W 98 141 a n c 0 0 Tryz.underlying98
    go_enter Tryz.func154, Tryz.ntmps154
    go_wp2_with (at_builtin; refine wpList_app rfl _ _ 98 rfl w.heap.size 141 i0 _ 4 32 Tryz.underlying98 Hi.out hz0 hz1 hz2 rfl (by decide) _ _ rfl Hown.out _ _ rfl H2.out (fun y _ cs h => h1R y cs h) (by show 0 + _ ≤ maxLen; unfold maxLen; omega) (by show (0 + _) * 32 ≤ _; omega) (by simp) ?_; intro v' w3 hown' hg)
    go_ret
    exact ⟨_, rfl, hown', Hown.out.grown (bel_alloc (Below.refl _ _) _) hg (by simp) (Nat.le_refl _)⟩
end Go.Proofs.YthkgjohhbdipcaaGreatDoor
namespace Go.Proofs.YthkgjohhbdipcaaGreatDoor
open Go.RowKit

theorem infocChain : (Tryz.prog.info? 98).map (fun i => (i.zero, i.size, i.bytes)) = some (some (.slice none 0 0), 1, 24) := by kernel_rfl

set_option maxRecDepth 100000 in
set_option maxHeartbeats 1000000 in
theorem cloneChain_any {α : Type} (R : α → List Value → Prop) (h1R : ∀ (y : α) (cs : List Value), R y cs → ∀ c ∈ cs, c.oneCell' = true) (v : Value) (xs : List α) (D : Nat → Prop) (w : World) (h : Sl w D 1 R v xs) (hn : xs.length * 24 ≤ 140737488355328) :
    Calls Tryz.prog 153 #[v] w fun e w' => ∃ v', e = .returned v' ∧ OwnSl w' w.heap.size 98 1 R v' xs ∧ Below w.heap.size w w' := by
  obtain ⟨i0, hi, hz0, hz1, hz2⟩ := info_parts infocChain
  have H := Lib.hid h
  obtain ⟨a, c, rfl, hlc, hcm, hnil, hat⟩ := h
  have Hi := Lib.hid hi
  clear hi
  cases a with
  | none =>
    have hc := hnil rfl
    subst hc
    have hx : xs = [] := List.length_eq_zero_iff.1 (by omega)
    subst hx
    have hq := fun (a : Option Addr) (n c : Nat) (W : World) => Lib.run_eql_slice_nil (P := Tryz.prog) W 50 98 a n c 0 0 Tryz.underlying50
    go_enter Tryz.func153, Tryz.ntmps153
    go_wp2
    go_ret
    exact ⟨_, rfl, OwnSl.nil, Below.refl _ _⟩
  | some ad =>
    have H2 := Lib.hid (H.out.belowR (bel_alloc (Below.refl _ w) (.cells #[] 98)) (fun _ _ _ h => h))
    have Hown : Hid (OwnSl (w.alloc (.cells #[] 98)) w.heap.size 98 1 R (.slice (some ⟨w.heap.size, 0, none⟩) 0 0) ([] : List α)) :=
      ⟨[], RowsOf.nil, by simp, .inr ⟨w.heap.size, 0, #[], rfl, Nat.le_refl _, heap_last _ _, by simp, by simp, by simp, by simp⟩⟩
    clear hat hnil
    have hq := fun (a : Option Addr) (n c : Nat) (W : World) => Lib.run_eql_slice_nil (P := Tryz.prog) W 50 98 a n c 0 0 Tryz.underlying50
    go_enter Tryz.func153, Tryz.ntmps153
    go_wp2_with (at_builtin; refine wpList_app rfl _ _ 50 rfl w.heap.size 98 i0 _ 1 24 Tryz.underlying50 Hi.out hz0 hz1 hz2 rfl (by decide) _ _ rfl Hown.out _ _ rfl H2.out (fun y _ cs h => h1R y cs h) (by show 0 + _ ≤ maxLen; unfold maxLen; omega) (by show (0 + _) * 24 ≤ _; omega) (by simp) ?_; intro v' w3 hown' hg)
    go_ret
    exact ⟨_, rfl, hown', Hown.out.grown (bel_alloc (Below.refl _ _) _) hg (by simp) (Nat.le_refl _)⟩
end Go.Proofs.YthkgjohhbdipcaaGreatDoor
namespace Go.Proofs.YthkgjohhbdipcaaGreatDoor

/-! ### rising lists of integers -/
def insU (x : Int) : List Int → List Int
  | [] => [x]
  | y :: l => if x < y then x :: y :: l else if x = y then y :: l else y :: insU x l
def Rising (l : List Int) : Prop := l.Pairwise (· < ·)
theorem mem_insU (x z : Int) : ∀ l : List Int, z ∈ insU x l ↔ z = x ∨ z ∈ l
  | [] => by simp [insU]
  | y :: l => by
    unfold insU
    split
    · simp
    · split
      · rename_i h; subst h; simp
      · simp only [List.mem_cons, mem_insU x z l]
        constructor
        · rintro (h | h | h) <;> simp [h]
        · rintro (h | h | h) <;> simp [h]
theorem rising_insU (x : Int) : ∀ l : List Int, Rising l → Rising (insU x l)
  | [], _ => by simp [insU, Rising]
  | y :: l, h => by
    unfold Rising at h
    obtain ⟨h1, h2⟩ := List.pairwise_cons.1 h
    unfold insU
    split
    · rename_i hlt
      refine List.pairwise_cons.2 ⟨fun z hz => ?_, h⟩
      rcases List.mem_cons.1 hz with rfl | hz
      · exact hlt
      · have := h1 z hz; omega
    · split
      · exact h
      · rename_i h3 h4
        refine List.pairwise_cons.2 ⟨fun z hz => ?_, rising_insU x l h2⟩
        rcases (mem_insU x z l).1 hz with rfl | hz
        · omega
        · exact h1 z hz
def setOf : List Int → List Int
  | [] => []
  | x :: l => insU x (setOf l)
theorem mem_setOf (z : Int) : ∀ l : List Int, z ∈ setOf l ↔ z ∈ l
  | [] => by simp [setOf]
  | x :: l => by simp [setOf, mem_insU, mem_setOf z l]
theorem rising_setOf : ∀ l : List Int, Rising (setOf l)
  | [] => List.Pairwise.nil
  | x :: l => rising_insU x _ (rising_setOf l)
theorem rising_unique : ∀ (l m : List Int), Rising l → Rising m → (∀ z, z ∈ l ↔ z ∈ m) → l = m
  | [], [], _, _, _ => rfl
  | [], y :: m, _, _, h => by have := (h y).2 (List.mem_cons_self ..); simp at this
  | x :: l, [], _, _, h => by have := (h x).1 (List.mem_cons_self ..); simp at this
  | x :: l, y :: m, hl, hm, h => by
    obtain ⟨h1, h2⟩ := List.pairwise_cons.1 hl
    obtain ⟨h3, h4⟩ := List.pairwise_cons.1 hm
    have hxy : x = y := by
      have a := (h x).1 (List.mem_cons_self ..)
      have b := (h y).2 (List.mem_cons_self ..)
      rcases List.mem_cons.1 a with a | a
      · exact a
      · rcases List.mem_cons.1 b with b | b
        · exact b.symm
        · have := h1 _ b; have := h3 _ a; omega
    subst hxy
    rw [rising_unique l m h2 h4 (fun z => ?_)]
    constructor
    · intro hz
      rcases List.mem_cons.1 ((h z).1 (List.mem_cons_of_mem _ hz)) with rfl | hz'
      · have := h1 _ hz; omega
      · exact hz'
    · intro hz
      rcases List.mem_cons.1 ((h z).2 (List.mem_cons_of_mem _ hz)) with rfl | hz'
      · have := h3 _ hz; omega
      · exact hz'
theorem rising_filter {l : List Int} (p : Int → Bool) (h : Rising l) : Rising (l.filter p) := List.Pairwise.sublist (List.filter_sublist) h

/-! ### cuts -/
def condCuts (f : Int) (c : TCond) : List Int := if c.f = f then (if c.op = 1 ∨ c.op = 2 then [c.v, c.v + 1] else [c.v]) else []
def ruleCuts (f : Int) (r : TRule) : List Int := r.conds.flatMap (condCuts f)
def polCuts (f : Int) (p : TPol) : List Int := p.rules.flatMap (ruleCuts f)
def cutVals (l : List TPol) (f : Int) : List Int := 0 :: l.flatMap (polCuts f)
def cutsOf (l : List TPol) (f : Int) : List Int := (setOf (cutVals l f)).filter fun n => decide (n ≤ mostOf f)
theorem rising_cuts (l : List TPol) (f : Int) : Rising (cutsOf l f) := rising_filter _ (rising_setOf _)
theorem mem_cuts {l : List TPol} {f n : Int} : n ∈ cutsOf l f ↔ n ∈ cutVals l f ∧ n ≤ mostOf f := by
  unfold cutsOf; rw [List.mem_filter, mem_setOf]; simp
theorem most_pos (f : Int) : 0 ≤ mostOf f := by unfold mostOf; split <;> (try split) <;> omega
theorem zero_cut (l : List TPol) (f : Int) : 0 ∈ cutsOf l f := mem_cuts.2 ⟨List.mem_cons_self .., most_pos f⟩
theorem cuts_pos (l : List TPol) (f : Int) : 0 < (cutsOf l f).length := List.length_pos_of_mem (zero_cut l f)
theorem mem_vals {l : List TPol} {f n : Int} : n ∈ cutVals l f ↔ n = 0 ∨ ∃ p ∈ l, ∃ r ∈ p.rules, ∃ c ∈ r.conds, n ∈ condCuts f c := by
  unfold cutVals polCuts ruleCuts
  simp only [List.mem_cons, List.mem_flatMap]
theorem mem_condCuts {f n : Int} {c : TCond} : n ∈ condCuts f c ↔ c.f = f ∧ (n = c.v ∨ ((c.op = 1 ∨ c.op = 2) ∧ n = c.v + 1)) := by
  unfold condCuts
  split
  · rename_i h
    split
    · rename_i h'; simp [h, h']
    · rename_i h'; simp [h, h']
  · rename_i h; simp [h]
/-- all right: no error. -/
def polsE : List TPol → Int
  | [] => 0
  | p :: l => if polE p = 0 then polsE l else polE p
theorem polsE_iff : ∀ l : List TPol, polsE l = 0 ↔ ∀ p ∈ l, OkPol p
  | [] => by simp [polsE]
  | p :: l => by
    simp only [polsE, List.mem_cons, forall_eq_or_imp]
    rw [← polsE_iff l, ← okPol_iff p]
    split
    · rename_i h; simp [h]
    · rename_i h; simp [h]
theorem polsE_drop (l : List TPol) (k : Nat) (h : k < l.length) : polsE (l.drop k) = if polE l[k] = 0 then polsE (l.drop (k + 1)) else polE l[k] := by
  rw [List.drop_eq_getElem_cons h]; rfl
theorem cuts_range {l : List TPol} (h : ∀ p ∈ l, OkPol p) {f n : Int} (hn : n ∈ cutsOf l f) : 0 ≤ n ∧ n ≤ mostOf f := by
  obtain ⟨h1, h2⟩ := mem_cuts.1 hn
  refine ⟨?_, h2⟩
  rcases mem_vals.1 h1 with rfl | ⟨p, hp, r, hr, c, hc, hm⟩
  · omega
  · have := ((h p hp).rules r hr).conds c hc
    obtain ⟨_, h | ⟨_, h⟩⟩ := mem_condCuts.1 hm <;> have := this.v0 <;> omega

/-! ### homes -/
/-- the last one that isn't above n. -/
def best (n : Int) : List Int → Int → Int
  | [], b => b
  | m :: l, b => if m ≤ n then best n l m else best n l b
theorem best_spec (n : Int) : ∀ (l : List Int) (b : Int), Rising l → (∀ m ∈ l, b < m) → b ≤ n → (best n l b = b ∨ best n l b ∈ l) ∧ best n l b ≤ n ∧ b ≤ best n l b ∧ ∀ m ∈ l, m ≤ n → m ≤ best n l b
  | [], b, _, _, hb => by simp [best]; exact hb
  | m :: l, b, h, hm, hb => by
    obtain ⟨h1, h2⟩ := List.pairwise_cons.1 h
    unfold best
    split
    · rename_i hle
      obtain ⟨a1, a2, a3, a4⟩ := best_spec n l m h2 h1 hle
      have := hm m (List.mem_cons_self ..)
      refine ⟨?_, a2, by omega, fun z hz hzn => ?_⟩
      · rcases a1 with a1 | a1
        · right; rw [a1]; exact List.mem_cons_self ..
        · right; exact List.mem_cons_of_mem _ a1
      · rcases List.mem_cons.1 hz with rfl | hz
        · exact a3
        · exact a4 z hz hzn
    · rename_i hle
      obtain ⟨a1, a2, a3, a4⟩ := best_spec n l b h2 (fun z hz => hm z (List.mem_cons_of_mem _ hz)) hb
      refine ⟨?_, a2, a3, fun z hz hzn => ?_⟩
      · rcases a1 with a1 | a1
        · exact .inl a1
        · right; exact List.mem_cons_of_mem _ a1
      · rcases List.mem_cons.1 hz with rfl | hz
        · omega
        · exact a4 z hz hzn
/-- the greatest cut that isn't above n. -/
def homeCut (l : List TPol) (f n : Int) : Int := best n (cutsOf l f) 0
theorem best_zero {n : Int} {l : List Int} (hr : Rising l) (h0 : 0 ∈ l) (hp : ∀ m ∈ l, 0 ≤ m) (hn : 0 ≤ n) : best n l 0 ∈ l ∧ best n l 0 ≤ n ∧ ∀ m ∈ l, m ≤ n → m ≤ best n l 0 := by
  cases l with
  | nil => simp at h0
  | cons z l =>
    obtain ⟨h1, h2⟩ := List.pairwise_cons.1 hr
    have hz : z = 0 := by
      rcases List.mem_cons.1 h0 with h | h
      · exact h.symm
      · have := h1 _ h; have := hp z (List.mem_cons_self ..); omega
    subst hz
    obtain ⟨a1, a2, a3, a4⟩ := best_spec n l 0 h2 h1 hn
    have e : best n (0 :: l) 0 = best n l 0 := by
      show (if (0 : Int) ≤ n then _ else _) = _
      rw [if_pos hn]
    rw [e]
    refine ⟨?_, a2, fun m hm hmn => ?_⟩
    · rcases a1 with a1 | a1
      · rw [a1]; exact List.mem_cons_self ..
      · exact List.mem_cons_of_mem _ a1
    · rcases List.mem_cons.1 hm with rfl | hm
      · exact a3
      · exact a4 m hm hmn
theorem homeCut_spec {l : List TPol} (h : ∀ p ∈ l, OkPol p) {f n : Int} (hn : 0 ≤ n) : homeCut l f n ∈ cutsOf l f ∧ homeCut l f n ≤ n ∧ ∀ m ∈ cutsOf l f, m ≤ n → m ≤ homeCut l f n :=
  best_zero (rising_cuts l f) (zero_cut l f) (fun _ hm => (cuts_range h hm).1) hn
def homeOf (l : List TPol) (x : TCall) : TCall := ⟨homeCut l 0 x.a0, homeCut l 1 x.a1, homeCut l 2 x.a2, homeCut l 3 x.a3, homeCut l 4 x.a4⟩
theorem get_home (l : List TPol) (x : TCall) {f : Int} (h0 : 0 ≤ f) (h1 : f < 5) : (homeOf l x).get f = homeCut l f (x.get f) := by
  have hf : f = 0 ∨ f = 1 ∨ f = 2 ∨ f = 3 ∨ f = 4 := by omega
  rcases hf with rfl | rfl | rfl | rfl | rfl <;> rfl
theorem ok_get {x : TCall} (h : x.ok) {f : Int} (h0 : 0 ≤ f) (h1 : f < 5) : 0 ≤ x.get f ∧ x.get f ≤ mostOf f := by
  have := TCall.ok_get h (k := f.toNat) (by omega)
  rwa [Int.toNat_of_nonneg h0] at this
theorem holds_home {l : List TPol} (h : ∀ p ∈ l, OkPol p) {x : TCall} (hx : x.ok) {p : TPol} (hp : p ∈ l) {r : TRule} (hr : r ∈ p.rules) {c : TCond} (hc : c ∈ r.conds) : holdsB c (homeOf l x) = holdsB c x := by
  have ok := ((h p hp).rules r hr).conds c hc
  have hg := ok_get hx ok.f0 ok.f1
  obtain ⟨a1, a2, a3⟩ := homeCut_spec h (f := c.f) hg.1
  have hv : c.v ∈ cutsOf l c.f := mem_cuts.2 ⟨mem_vals.2 (.inr ⟨p, hp, r, hr, c, hc, mem_condCuts.2 ⟨rfl, .inl rfl⟩⟩), ok.v1⟩
  have hv1 : (c.op = 1 ∨ c.op = 2) → c.v + 1 ≤ mostOf c.f → c.v + 1 ∈ cutsOf l c.f := fun ho hle => mem_cuts.2 ⟨mem_vals.2 (.inr ⟨p, hp, r, hr, c, hc, mem_condCuts.2 ⟨rfl, .inr ⟨ho, rfl⟩⟩⟩), hle⟩
  unfold holdsB
  rw [get_home l x ok.f0 ok.f1]
  generalize hn : x.get c.f = n at *
  generalize hh : homeCut l c.f n = m at *
  have key1 : (c.op = 1 ∨ c.op = 2) → (m = c.v ↔ n = c.v) := by
    intro ho
    constructor
    · intro e
      by_cases e' : n = c.v
      · exact e'
      · have := a3 _ (hv1 ho (by omega)) (by omega); omega
    · intro e
      have := a3 _ hv (by omega); omega
  have key2 : (m < c.v ↔ n < c.v) := by
    constructor
    · intro e
      by_cases e' : n < c.v
      · exact e'
      · have := a3 _ hv (by omega); omega
    · intro e; omega
  split
  · rename_i ho
    rw [Bool.eq_iff_iff]; simp [key1 (.inl ho)]
  · split
    · rename_i ho
      rw [Bool.eq_iff_iff]; simp [key1 (.inr ho)]
    · split
      · rw [Bool.eq_iff_iff]; simp [key2]
      · rw [Bool.eq_iff_iff]; simp; omega
theorem allHold_home {l : List TPol} (h : ∀ p ∈ l, OkPol p) {x : TCall} (hx : x.ok) {p : TPol} (hp : p ∈ l) {r : TRule} (hr : r ∈ p.rules) : allHold (homeOf l x) r.conds = allHold x r.conds := by
  unfold allHold
  rw [Bool.eq_iff_iff, List.all_eq_true, List.all_eq_true]
  constructor
  · intro a c hc; rw [← holds_home h hx hp hr hc]; exact a c hc
  · intro a c hc; rw [holds_home h hx hp hr hc]; exact a c hc
theorem which_congr {x y : TCall} : ∀ (l : List TRule), (∀ r ∈ l, allHold x r.conds = allHold y r.conds) → which x l = which y l
  | [], _ => rfl
  | r :: l, h => by
    unfold which
    rw [h r (List.mem_cons_self ..), which_congr l (fun r hr => h r (List.mem_cons_of_mem _ hr))]
/-- EACH POLICY SAYS OF A CALL WHAT IT SAYS OF ITS HOME, by the same rule. -/
theorem which_home {l : List TPol} (h : ∀ p ∈ l, OkPol p) {x : TCall} (hx : x.ok) {p : TPol} (hp : p ∈ l) : which (homeOf l x) p.rules = which x p.rules :=
  which_congr _ fun _ hr => allHold_home h hx hp hr
theorem judged_home {l : List TPol} (h : ∀ p ∈ l, OkPol p) {x : TCall} (hx : x.ok) {p : TPol} (hp : p ∈ l) : judged p (homeOf l x) = judged p x := by
  unfold judged; rw [which_home h hx hp]
theorem ok_home {l : List TPol} (h : ∀ p ∈ l, OkPol p) {x : TCall} (hx : x.ok) : (homeOf l x).ok := by
  refine TCall.ok_of fun k hk => ?_
  rw [get_home l x (by omega) (by omega)]
  exact cuts_range h (homeCut_spec h (ok_get hx (f := k) (by omega) (by omega)).1).1
theorem homeCut_self {l : List TPol} (h : ∀ p ∈ l, OkPol p) {f n : Int} (hn : n ∈ cutsOf l f) : homeCut l f n = n := by
  obtain ⟨a1, a2, a3⟩ := homeCut_spec h (f := f) (n := n) (cuts_range h hn).1
  have := a3 n hn (Int.le_refl _); omega
theorem home_home {l : List TPol} (h : ∀ p ∈ l, OkPol p) {x : TCall} (hx : x.ok) : homeOf l (homeOf l x) = homeOf l x := by
  have g := fun (f : Int) (h0 : 0 ≤ f) (h1 : f < 5) => homeCut_self h (homeCut_spec h (f := f) (ok_get hx h0 h1).1).1
  have g0 := g 0 (by omega) (by omega); have g1 := g 1 (by omega) (by omega); have g2 := g 2 (by omega) (by omega); have g3 := g 3 (by omega) (by omega); have g4 := g 4 (by omega) (by omega)
  simp only [TCall.get] at g0 g1 g2 g3 g4
  simp only [homeOf]
  simp at g0 g1 g2 g3 g4
  rw [g0, g1, g2, g3, g4]

/-! ### points -/
def TCall.set (x : TCall) (k : Nat) (n : Int) : TCall := match k with
  | 0 => { x with a0 := n } | 1 => { x with a1 := n } | 2 => { x with a2 := n } | 3 => { x with a3 := n } | _ => { x with a4 := n }
def stage (l : List TPol) : Nat → List TCall
  | 0 => [⟨0, 0, 0, 0, 0⟩]
  | k + 1 => (stage l k).flatMap fun x => (cutsOf l k).map fun n => x.set k n
def sizes (l : List TPol) : Nat → Nat
  | 0 => 1
  | k + 1 => sizes l k * (cutsOf l k).length
theorem stage_length (l : List TPol) : ∀ k, (stage l k).length = sizes l k
  | 0 => rfl
  | k + 1 => by
    simp only [stage, sizes, List.length_flatMap, List.length_map]
    rw [← stage_length l k]
    generalize (cutsOf l k).length = m
    induction stage l k with
    | nil => simp
    | cons x r ih => simp [ih, Nat.add_mul]; omega
theorem sizes_pos (l : List TPol) : ∀ k, 0 < sizes l k
  | 0 => by simp [sizes]
  | k + 1 => Nat.mul_pos (sizes_pos l k) (cuts_pos l k)
theorem sizes_mono (l : List TPol) (k : Nat) : sizes l k ≤ sizes l (k + 1) := Nat.le_mul_of_pos_right _ (cuts_pos l k)
theorem sizes_le (l : List TPol) {k m : Nat} (h : k ≤ m) : sizes l k ≤ sizes l m := by
  induction h with
  | refl => exact Nat.le_refl _
  | step _ ih => exact Nat.le_trans ih (sizes_mono l _)
/-- chapter 6's Points. -/
def pointsE (l : List TPol) : List TCall × Int := if polsE l ≠ 0 then ([], polsE l) else if 1000 < sizes l 5 then ([], 2) else (stage l 5, 0)
theorem mem_stage {l : List TPol} {y : TCall} : ∀ {k : Nat}, y ∈ stage l (k + 1) ↔ ∃ x ∈ stage l k, ∃ n ∈ cutsOf l k, y = x.set k n := by
  intro k
  simp only [stage, List.mem_flatMap, List.mem_map]
  constructor
  · rintro ⟨x, hx, n, hn, rfl⟩; exact ⟨x, hx, n, hn, rfl⟩
  · rintro ⟨x, hx, n, hn, rfl⟩; exact ⟨x, hx, n, hn, rfl⟩
theorem mem_points {l : List TPol} {y : TCall} : y ∈ stage l 5 ↔ y.a0 ∈ cutsOf l 0 ∧ y.a1 ∈ cutsOf l 1 ∧ y.a2 ∈ cutsOf l 2 ∧ y.a3 ∈ cutsOf l 3 ∧ y.a4 ∈ cutsOf l 4 := by
  constructor
  · intro h
    obtain ⟨x4, h4, n4, m4, rfl⟩ := mem_stage.1 h
    obtain ⟨x3, h3, n3, m3, rfl⟩ := mem_stage.1 h4
    obtain ⟨x2, h2, n2, m2, rfl⟩ := mem_stage.1 h3
    obtain ⟨x1, h1, n1, m1, rfl⟩ := mem_stage.1 h2
    obtain ⟨x0, h0, n0, m0, rfl⟩ := mem_stage.1 h1
    exact ⟨m0, m1, m2, m3, m4⟩
  · rintro ⟨m0, m1, m2, m3, m4⟩
    refine mem_stage.2 ⟨⟨y.a0, y.a1, y.a2, y.a3, 0⟩, mem_stage.2 ⟨⟨y.a0, y.a1, y.a2, 0, 0⟩, mem_stage.2 ⟨⟨y.a0, y.a1, 0, 0, 0⟩, mem_stage.2 ⟨⟨y.a0, 0, 0, 0, 0⟩, mem_stage.2 ⟨⟨0, 0, 0, 0, 0⟩, List.mem_cons_self .., y.a0, m0, rfl⟩, y.a1, m1, rfl⟩, y.a2, m2, rfl⟩, y.a3, m3, rfl⟩, y.a4, m4, rfl⟩
theorem home_point {l : List TPol} (h : ∀ p ∈ l, OkPol p) {x : TCall} (hx : x.ok) : homeOf l x ∈ stage l 5 := by
  have g := fun (f : Int) (h0 : 0 ≤ f) (h1 : f < 5) => (homeCut_spec h (f := f) (ok_get hx h0 h1).1).1
  exact mem_points.2 ⟨g 0 (by omega) (by omega), g 1 (by omega) (by omega), g 2 (by omega) (by omega), g 3 (by omega) (by omega), g 4 (by omega) (by omega)⟩
theorem point_ok {l : List TPol} (h : ∀ p ∈ l, OkPol p) {x : TCall} (hx : x ∈ stage l 5) : x.ok := by
  obtain ⟨m0, m1, m2, m3, m4⟩ := mem_points.1 hx
  exact ⟨cuts_range h m0, cuts_range h m1, cuts_range h m2, cuts_range h m3, cuts_range h m4⟩
theorem pointsE_ok {l : List TPol} (h : (pointsE l).2 = 0) : (∀ p ∈ l, OkPol p) ∧ sizes l 5 ≤ 1000 ∧ pointsE l = (stage l 5, 0) := by
  unfold pointsE at h ⊢
  split at h
  · rename_i h1; exact absurd h h1
  · rename_i h1
    split at h
    · simp at h
    · rename_i h2
      exact ⟨(polsE_iff l).1 (by simpa using h1), by omega, by rw [if_neg h1, if_neg h2]⟩
theorem pointsE_of {l : List TPol} (h : ∀ p ∈ l, OkPol p) (hs : sizes l 5 ≤ 1000) : pointsE l = (stage l 5, 0) := by
  unfold pointsE
  rw [if_neg (by rw [(polsE_iff l).2 h]; simp), if_neg (by omega)]
/-- with fewer conditions there are no more points. -/
theorem cuts_sub {l m : List TPol} {f : Int} (h : ∀ n, n ∈ cutVals l f → n ∈ cutVals m f) : (∀ n ∈ cutsOf l f, n ∈ cutsOf m f) := fun _ hn => mem_cuts.2 ⟨h _ (mem_cuts.1 hn).1, (mem_cuts.1 hn).2⟩
theorem rising_len : ∀ (l m : List Int), Rising l → Rising m → (∀ z ∈ l, z ∈ m) → l.length ≤ m.length
  | [], _, _, _, _ => by simp
  | x :: l, [], _, _, h => by have := h x (List.mem_cons_self ..); simp at this
  | x :: l, y :: m, hl, hm, h => by
    obtain ⟨h1, h2⟩ := List.pairwise_cons.1 hl
    obtain ⟨h3, h4⟩ := List.pairwise_cons.1 hm
    have := rising_len l m h2 h4 fun z hz => by
      rcases List.mem_cons.1 (h z (List.mem_cons_of_mem _ hz)) with rfl | h'
      · rcases List.mem_cons.1 (h x (List.mem_cons_self ..)) with rfl | h''
        · have := h1 _ hz; omega
        · have := h1 _ hz; have := h3 _ h''; omega
      · exact h'
    simp; omega
theorem sizes_sub {l m : List TPol} (h : ∀ f n, n ∈ cutVals l f → n ∈ cutVals m f) : ∀ k, sizes l k ≤ sizes m k
  | 0 => Nat.le_refl _
  | k + 1 => Nat.mul_le_mul (sizes_sub h k) (rising_len _ _ (rising_cuts l k) (rising_cuts m k) (cuts_sub (h k)))
theorem stage_sub {l m : List TPol} (h : ∀ f n, n ∈ cutVals l f → n ∈ cutVals m f) {x : TCall} (hx : x ∈ stage l 5) : x ∈ stage m 5 := by
  obtain ⟨m0, m1, m2, m3, m4⟩ := mem_points.1 hx
  exact mem_points.2 ⟨cuts_sub (h 0) _ m0, cuts_sub (h 1) _ m1, cuts_sub (h 2) _ m2, cuts_sub (h 3) _ m3, cuts_sub (h 4) _ m4⟩
end Go.Proofs.YthkgjohhbdipcaaGreatDoor
namespace Go.Proofs.YthkgjohhbdipcaaGreatDoor

def zeroCall : TCall := ⟨0, 0, 0, 0, 0⟩
/-- the verdict of a right policy on a right call. -/
def says (p : TPol) (x : TCall) : Int := (judged p x).1
def looserAt (p q : TPol) (x : TCall) : Bool := decide (says q x < says p x)
/-- chapter 7's Looser. -/
def looserE (p q : TPol) : Bool × TCall × Int :=
  if (pointsE [p, q]).2 ≠ 0 then (false, zeroCall, (pointsE [p, q]).2) else match (pointsE [p, q]).1.find? (looserAt p q) with
    | some x => (true, x, 0)
    | none => (false, zeroCall, 0)
/-- chapter 7's Alike. -/
def alikeE (p q : TPol) : Bool × Int := if (looserE p q).2.2 ≠ 0 then (false, (looserE p q).2.2) else (!(looserE p q).1 && !(looserE q p).1, (looserE q p).2.2)
theorem says_home {l : List TPol} (h : ∀ p ∈ l, OkPol p) {x : TCall} (hx : x.ok) {p : TPol} (hp : p ∈ l) : says p (homeOf l x) = says p x := by unfold says; rw [judged_home h hx hp]
theorem verdictAt_range {p : TPol} (h : OkPol p) (k : Nat) : 0 ≤ verdictAt p k ∧ verdictAt p k ≤ 4 := by
  unfold verdictAt
  cases hk : p.rules[k]? with
  | none => exact ⟨h.d0, h.d1⟩
  | some r => exact ⟨(h.rules r (List.mem_of_getElem? hk)).v0, (h.rules r (List.mem_of_getElem? hk)).v1⟩
theorem says_range {p : TPol} (h : OkPol p) (x : TCall) : 0 ≤ says p x ∧ says p x ≤ 4 := verdictAt_range h _
theorem looserE_ok {p q : TPol} (h : (looserE p q).2.2 = 0) : OkPol p ∧ OkPol q ∧ sizes [p, q] 5 ≤ 1000 ∧ pointsE [p, q] = (stage [p, q] 5, 0) := by
  have h0 : (pointsE [p, q]).2 = 0 := by
    unfold looserE at h
    split at h
    · exact h
    · rename_i h'; simpa using h'
  obtain ⟨h1, h2, h3⟩ := pointsE_ok h0
  exact ⟨h1 p (by simp), h1 q (by simp), h2, h3⟩
def looserGo (o : Option TCall) : Bool × TCall × Int := match o with
  | some x => (true, x, 0)
  | none => (false, zeroCall, 0)
theorem looserE_eq {p q : TPol} (h : (looserE p q).2.2 = 0) : looserE p q = looserGo ((stage [p, q] 5).find? (looserAt p q)) := by
  obtain ⟨_, _, _, h3⟩ := looserE_ok h
  unfold looserE
  rw [if_neg (by rw [h3]; simp), h3]
  cases (stage [p, q] 5).find? (looserAt p q) <;> rfl
/-- where it is looser, it is so at the call that is told. -/
theorem looser_at {p q : TPol} (h : (looserE p q).2.2 = 0) (hl : (looserE p q).1 = true) : (looserE p q).2.1.ok ∧ (looserE p q).2.1 ∈ stage [p, q] 5 ∧ says q (looserE p q).2.1 < says p (looserE p q).2.1 := by
  obtain ⟨h1, h2, _, _⟩ := looserE_ok h
  rw [looserE_eq h] at hl ⊢
  cases hf : (stage [p, q] 5).find? (looserAt p q) with
  | none => rw [hf] at hl; simp [looserGo] at hl
  | some x =>
    have hm := List.mem_of_find?_eq_some hf
    have hp := List.find?_some hf
    exact ⟨point_ok (by intro r hr; simp at hr; rcases hr with rfl | rfl <;> assumption) hm, hm, by simpa [looserAt, looserGo] using hp⟩
/-- WHAT ISN'T LOOSER IS SO NOWHERE. -/
theorem looser_not {p q : TPol} (h : (looserE p q).2.2 = 0) (hl : (looserE p q).1 = false) {x : TCall} (hx : x.ok) : says p x ≤ says q x := by
  obtain ⟨h1, h2, _, _⟩ := looserE_ok h
  have hall : ∀ r ∈ [p, q], OkPol r := by intro r hr; simp at hr; rcases hr with rfl | rfl <;> assumption
  rw [looserE_eq h] at hl
  cases hf : (stage [p, q] 5).find? (looserAt p q) with
  | some x => rw [hf] at hl; simp [looserGo] at hl
  | none =>
    have := List.find?_eq_none.1 hf _ (home_point hall hx)
    simp only [looserAt, decide_eq_true_eq] at this
    rw [says_home hall hx (by simp), says_home hall hx (by simp)] at this
    omega
theorem looser_iff {p q : TPol} (h : (looserE p q).2.2 = 0) : (looserE p q).1 = false ↔ ∀ x : TCall, x.ok → says p x ≤ says q x := by
  constructor
  · intro hl x hx; exact looser_not h hl hx
  · intro ha
    cases hl : (looserE p q).1 with
    | false => rfl
    | true =>
      obtain ⟨a, _, c⟩ := looser_at h hl
      have := ha _ a; omega
theorem looser_call {p q : TPol} (hl : (looserE p q).1 = false) : (looserE p q).2.1 = zeroCall := by
  unfold looserE at hl ⊢
  by_cases h1 : (pointsE [p, q]).2 ≠ 0
  · rw [if_pos h1]
  · rw [if_neg h1] at hl ⊢
    cases hf : (pointsE [p, q]).1.find? (looserAt p q) with
    | none => rfl
    | some x => rw [hf] at hl; simp at hl

/-! ### meeting -/
def wholeOf (p : TPol) : List TRule := p.rules ++ [⟨[], p.dflt⟩]
def pairRule (of : Int → Int → Int) (a b : TRule) : TRule := ⟨a.conds ++ b.conds, of a.verdict b.verdict⟩
def pairs (of : Int → Int → Int) (l m : List TRule) : List TRule := l.flatMap fun a => m.map (pairRule of a)
def pairPol (of : Int → Int → Int) (p q : TPol) : TPol := ⟨(pairs of (wholeOf p) (wholeOf q)).dropLast, of p.dflt q.dflt⟩
def zeroPol : TPol := ⟨[], 0⟩
/-- chapter 8's Meet and Except. -/
def pairE (of : Int → Int → Int) (p q : TPol) : TPol × Int := if polsE [p, q] ≠ 0 then (zeroPol, polsE [p, q]) else if polE (pairPol of p q) ≠ 0 then (zeroPol, polE (pairPol of p q)) else (pairPol of p q, 0)
def minOf (a b : Int) : Int := if a ≤ b then a else b
def exceptOf (a b : Int) : Int := if a < b then a else 4
theorem wholeOf_len (p : TPol) : (wholeOf p).length = p.rules.length + 1 := by simp [wholeOf]
theorem pairs_len (of : Int → Int → Int) (l m : List TRule) : (pairs of l m).length = l.length * m.length := by
  unfold pairs
  induction l with
  | nil => simp
  | cons a l ih => simp only [List.flatMap_cons, List.length_append, List.length_map, ih, List.length_cons, Nat.add_mul]; omega
theorem pairs_last (of : Int → Int → Int) (p q : TPol) : pairs of (wholeOf p) (wholeOf q) = (pairPol of p q).rules ++ [⟨[], of p.dflt q.dflt⟩] := by
  have e : pairs of (wholeOf p) (wholeOf q) = (pairs of p.rules (wholeOf q) ++ q.rules.map (pairRule of ⟨[], p.dflt⟩)) ++ [⟨[], of p.dflt q.dflt⟩] := by
    unfold pairs wholeOf
    simp [List.flatMap_append, pairRule]
  show _ = (pairs of (wholeOf p) (wholeOf q)).dropLast ++ _
  rw [e, List.dropLast_concat]
theorem allHold_app (x : TCall) (a b : List TCond) : allHold x (a ++ b) = (allHold x a && allHold x b) := by unfold allHold; rw [List.all_append]
/-- the rule that is the first to hold. -/
def firstOf (x : TCall) (l : List TRule) : Option TRule := l.find? fun r => allHold x r.conds
theorem firstOf_append (x : TCall) (l m : List TRule) : firstOf x (l ++ m) = (firstOf x l).or (firstOf x m) := by unfold firstOf; rw [List.find?_append]
theorem says_first (p : TPol) (x : TCall) : says p x = match firstOf x p.rules with | some r => r.verdict | none => p.dflt := by
  obtain ⟨l, d⟩ := p
  unfold says judged
  dsimp only
  induction l with
  | nil => rfl
  | cons r l ih =>
    unfold which firstOf
    rw [List.find?_cons]
    by_cases h : allHold x r.conds = true
    · rw [if_pos h, h]; rfl
    · rw [if_neg h, Bool.eq_false_iff.2 h]
      exact ih
theorem first_map (of : Int → Int → Int) (x : TCall) (a : TRule) (ha : allHold x a.conds = true) : ∀ m : List TRule, firstOf x (m.map (pairRule of a)) = (firstOf x m).map (pairRule of a)
  | [] => rfl
  | b :: m => by
    have ih := first_map of x a ha m
    unfold firstOf at ih ⊢
    rw [List.map_cons, List.find?_cons, List.find?_cons]
    have e : allHold x (pairRule of a b).conds = allHold x b.conds := by
      show allHold x (a.conds ++ b.conds) = _
      rw [allHold_app, ha, Bool.true_and]
    rw [e]
    cases allHold x b.conds with
    | true => rfl
    | false => exact ih
theorem first_map_no (of : Int → Int → Int) (x : TCall) (a : TRule) (ha : allHold x a.conds = false) : ∀ m : List TRule, firstOf x (m.map (pairRule of a)) = none
  | [] => rfl
  | b :: m => by
    have ih := first_map_no of x a ha m
    unfold firstOf at ih ⊢
    rw [List.map_cons, List.find?_cons]
    have e : allHold x (pairRule of a b).conds = false := by
      show allHold x (a.conds ++ b.conds) = _
      rw [allHold_app, ha, Bool.false_and]
    rw [e]
    exact ih
theorem first_pairs (of : Int → Int → Int) (x : TCall) (m : List TRule) (b : TRule) (hb : firstOf x m = some b) : ∀ l : List TRule, firstOf x (pairs of l m) = (firstOf x l).map fun a => pairRule of a b
  | [] => rfl
  | a :: l => by
    have ih := first_pairs of x m b hb l
    have e : pairs of (a :: l) m = m.map (pairRule of a) ++ pairs of l m := by unfold pairs; rw [List.flatMap_cons]
    rw [e, firstOf_append, ih]
    have e2 : firstOf x (a :: l) = if allHold x a.conds = true then some a else firstOf x l := by
      unfold firstOf
      rw [List.find?_cons]
      cases allHold x a.conds <;> simp
    rw [e2]
    by_cases h : allHold x a.conds = true
    · rw [first_map of x a h, hb, if_pos h]; rfl
    · rw [first_map_no of x a (by simpa using h), if_neg h]; rfl
theorem first_whole (x : TCall) (p : TPol) : ∃ r, firstOf x (wholeOf p) = some r ∧ r.verdict = says p x := by
  rw [says_first]
  unfold wholeOf
  rw [firstOf_append]
  cases firstOf x p.rules with
  | none => exact ⟨⟨[], p.dflt⟩, rfl, rfl⟩
  | some r => exact ⟨r, rfl, rfl⟩
/-- A MEETING SAYS OF EACH CALL what becomes of both verdicts. -/
theorem says_pair (of : Int → Int → Int) (p q : TPol) (x : TCall) : says (pairPol of p q) x = of (says p x) (says q x) := by
  obtain ⟨a, ha, hva⟩ := first_whole x p
  obtain ⟨b, hb, hvb⟩ := first_whole x q
  have h := first_pairs of x (wholeOf q) b hb (wholeOf p)
  rw [ha, pairs_last, firstOf_append] at h
  rw [says_first, ← hva, ← hvb]
  cases hf : firstOf x (pairPol of p q).rules with
  | some r =>
    rw [hf] at h
    simp only [Option.map_some, Option.some_or, Option.some.injEq] at h
    rw [h]; rfl
  | none =>
    rw [hf] at h
    simp only [Option.map_some, Option.none_or] at h
    have h2 : firstOf x [(⟨[], of p.dflt q.dflt⟩ : TRule)] = some ⟨[], of p.dflt q.dflt⟩ := rfl
    rw [h2] at h
    injection h with h
    have := congrArg TRule.verdict h
    exact this
theorem pairPol_len (of : Int → Int → Int) (p q : TPol) : (pairPol of p q).rules.length = (p.rules.length + 1) * (q.rules.length + 1) - 1 := by
  unfold pairPol
  rw [List.length_dropLast, pairs_len, wholeOf_len, wholeOf_len]
theorem pairE_ok {of : Int → Int → Int} {p q : TPol} (h : (pairE of p q).2 = 0) : OkPol p ∧ OkPol q ∧ OkPol (pairPol of p q) ∧ pairE of p q = (pairPol of p q, 0) := by
  unfold pairE at h ⊢
  split at h
  · rename_i h1; exact absurd h h1
  · rename_i h1
    split at h
    · rename_i h2; exact absurd h h2
    · rename_i h2
      have h3 := (polsE_iff _).1 (by simpa using h1)
      exact ⟨h3 p (by simp), h3 q (by simp), (okPol_iff _).1 (by simpa using h2), by rw [if_neg h1, if_neg h2]⟩
theorem pairE_of {of : Int → Int → Int} {p q : TPol} (hp : OkPol p) (hq : OkPol q) (h : OkPol (pairPol of p q)) : pairE of p q = (pairPol of p q, 0) := by
  unfold pairE
  rw [if_neg (by rw [(polsE_iff _).2 (by intro r hr; simp at hr; rcases hr with rfl | rfl <;> assumption)]; simp), if_neg (by rw [(okPol_iff _).2 h]; simp)]
/-- verdicts apart, whether it is right hangs on the conditions alone. -/
theorem rulesGo_conds : ∀ (l m : List TRule), l.map TRule.conds = m.map TRule.conds → (∀ r ∈ l, 0 ≤ r.verdict ∧ r.verdict ≤ 4) → (∀ r ∈ m, 0 ≤ r.verdict ∧ r.verdict ≤ 4) → rulesGo l = rulesGo m
  | [], [], _, _, _ => rfl
  | [], _ :: _, h, _, _ => by simp at h
  | _ :: _, [], h, _, _ => by simp at h
  | a :: l, b :: m, h, h1, h2 => by
    simp only [List.map_cons, List.cons.injEq] at h
    obtain ⟨hc, hr⟩ := h
    have ih := rulesGo_conds l m hr (fun r hr => h1 r (List.mem_cons_of_mem _ hr)) (fun r hr => h2 r (List.mem_cons_of_mem _ hr))
    have e : ruleE a = ruleE b := by
      have := h1 a (List.mem_cons_self ..); have := h2 b (List.mem_cons_self ..)
      unfold ruleE
      rw [hc, if_neg (show ¬ (a.verdict < 0 ∨ 4 < a.verdict) by omega), if_neg (show ¬ (b.verdict < 0 ∨ 4 < b.verdict) by omega)]
    unfold rulesGo
    rw [e, ih]
theorem mem_wholeOf {p : TPol} (h : OkPol p) {r : TRule} (hr : r ∈ wholeOf p) : (0 ≤ r.verdict ∧ r.verdict ≤ 4) ∧ ∀ c ∈ r.conds, OkCond c := by
  unfold wholeOf at hr
  rcases List.mem_append.1 hr with hr | hr
  · have := h.rules r hr; exact ⟨⟨this.v0, this.v1⟩, this.conds⟩
  · simp at hr; subst hr; exact ⟨⟨h.d0, h.d1⟩, fun c hc => by simp at hc⟩
theorem mem_pairs {of : Int → Int → Int} {l m : List TRule} {r : TRule} : r ∈ pairs of l m ↔ ∃ a ∈ l, ∃ b ∈ m, r = pairRule of a b := by
  unfold pairs
  simp only [List.mem_flatMap, List.mem_map]
  constructor
  · rintro ⟨a, ha, b, hb, rfl⟩; exact ⟨a, ha, b, hb, rfl⟩
  · rintro ⟨a, ha, b, hb, rfl⟩; exact ⟨a, ha, b, hb, rfl⟩
def Keeps (of : Int → Int → Int) : Prop := ∀ a b : Int, 0 ≤ a → a ≤ 4 → 0 ≤ b → b ≤ 4 → 0 ≤ of a b ∧ of a b ≤ 4
theorem keeps_min : Keeps minOf := fun a b h0 h1 h2 h3 => by unfold minOf; split <;> omega
theorem keeps_except : Keeps exceptOf := fun a b h0 h1 h2 h3 => by unfold exceptOf; split <;> omega
theorem pair_verdict {of : Int → Int → Int} (hk : Keeps of) {p q : TPol} (hp : OkPol p) (hq : OkPol q) : ∀ r ∈ (pairPol of p q).rules, 0 ≤ r.verdict ∧ r.verdict ≤ 4 := by
  intro r hr
  have hm : r ∈ pairs of (wholeOf p) (wholeOf q) := by rw [pairs_last]; exact List.mem_append_left _ hr
  obtain ⟨a, ha, b, hb, rfl⟩ := mem_pairs.1 hm
  have := mem_wholeOf hp ha; have := mem_wholeOf hq hb
  exact hk _ _ (by omega) (by omega) (by omega) (by omega)
theorem pair_err {of of' : Int → Int → Int} (hk : Keeps of) (hk' : Keeps of') {p q : TPol} : (pairE of p q).2 = (pairE of' p q).2 := by
  unfold pairE
  split
  · rfl
  · rename_i h1
    have h3 := (polsE_iff _).1 (by simpa using h1)
    have hp := h3 p (by simp)
    have hq := h3 q (by simp)
    have e : polE (pairPol of p q) = polE (pairPol of' p q) := by
      have d := hk _ _ hp.d0 hp.d1 hq.d0 hq.d1
      have d' := hk' _ _ hp.d0 hp.d1 hq.d0 hq.d1
      unfold polE
      rw [pairPol_len, pairPol_len, if_neg (show ¬ ((pairPol of p q).dflt < 0 ∨ 4 < (pairPol of p q).dflt) by show ¬ (of p.dflt q.dflt < 0 ∨ 4 < of p.dflt q.dflt); omega), if_neg (show ¬ ((pairPol of' p q).dflt < 0 ∨ 4 < (pairPol of' p q).dflt) by show ¬ (of' p.dflt q.dflt < 0 ∨ 4 < of' p.dflt q.dflt); omega)]
      rw [rulesGo_conds _ (pairPol of' p q).rules _ (pair_verdict hk hp hq) (pair_verdict hk' hp hq)]
      unfold pairPol pairs
      simp only [List.map_dropLast, List.map_flatMap, List.map_map]
      rfl
    rw [e]
    split <;> rfl
/-- the other way round it is as right. -/
theorem pair_turn {of of' : Int → Int → Int} (hk' : Keeps of') {p q : TPol} (h : (pairE of p q).2 = 0) : (pairE of' q p).2 = 0 := by
  obtain ⟨hp, hq, hm, _⟩ := pairE_ok h
  have : OkPol (pairPol of' q p) := by
    have d := hk' _ _ hq.d0 hq.d1 hp.d0 hp.d1
    refine ⟨?_, d.1, d.2, fun r hr => ?_⟩
    · have := hm.len
      rw [pairPol_len] at this ⊢
      rw [Nat.mul_comm]; exact this
    · have hv := pair_verdict hk' hq hp r hr
      have hmem : r ∈ pairs of' (wholeOf q) (wholeOf p) := by rw [pairs_last]; exact List.mem_append_left _ hr
      obtain ⟨a, ha, b, hb, rfl⟩ := mem_pairs.1 hmem
      have hm2 : pairRule of b a ∈ pairs of (wholeOf p) (wholeOf q) := mem_pairs.2 ⟨b, hb, a, ha, rfl⟩
      refine ⟨?_, hv.1, hv.2, fun c hc => ?_⟩
      · rw [pairs_last] at hm2
        rcases List.mem_append.1 hm2 with hm2 | hm2
        · have := (hm.rules _ hm2).len
          simp only [pairRule, List.length_append] at this ⊢; omega
        · simp [pairRule] at hm2
          simp only [pairRule, List.length_append]
          rw [hm2.1.1, hm2.1.2]; simp
      · rcases List.mem_append.1 hc with hc | hc
        · exact (mem_wholeOf hq ha).2 c hc
        · exact (mem_wholeOf hp hb).2 c hc
  rw [pairE_of hq hp this]

/-! ### made shorter -/
def usedRules (ks : List Nat) : List TRule → Nat → List TRule
  | [], _ => []
  | r :: l, i => if ks.contains i then r :: usedRules ks l (i + 1) else usedRules ks l (i + 1)
def trimD (d : Int) : List TRule → List TRule
  | [] => []
  | r :: l => if trimD d l = [] ∧ r.verdict = d then [] else r :: trimD d l
def usedBy (p : TPol) (l : List TCall) : List Nat := l.map fun x => which x p.rules
def shortPol (p : TPol) : TPol := ⟨trimD p.dflt (usedRules (usedBy p (stage [p] 5)) p.rules 0), p.dflt⟩
/-- chapter 8's Short. -/
def shortE (p : TPol) : TPol × Int := if (pointsE [p]).2 ≠ 0 then (zeroPol, (pointsE [p]).2) else (shortPol p, 0)
theorem shortE_ok {p : TPol} (h : (shortE p).2 = 0) : OkPol p ∧ sizes [p] 5 ≤ 1000 ∧ shortE p = (shortPol p, 0) := by
  have h0 : (pointsE [p]).2 = 0 := by
    unfold shortE at h
    split at h
    · exact h
    · rename_i h'; simpa using h'
  obtain ⟨h1, h2, h3⟩ := pointsE_ok h0
  refine ⟨h1 p (by simp), h2, ?_⟩
  unfold shortE
  rw [if_neg (by rw [h0]; simp)]
theorem shortE_of {p : TPol} (h : OkPol p) (hs : sizes [p] 5 ≤ 1000) : shortE p = (shortPol p, 0) := by
  unfold shortE
  rw [if_neg (by rw [pointsE_of (by simpa using h) hs]; simp)]
theorem usedRules_sub (ks : List Nat) : ∀ (l : List TRule) (i : Nat), (usedRules ks l i).Sublist l
  | [], _ => List.Sublist.refl _
  | r :: l, i => by
    unfold usedRules
    split
    · exact (usedRules_sub ks l (i + 1)).cons_cons r
    · exact (usedRules_sub ks l (i + 1)).cons r
theorem trimD_pre (d : Int) : ∀ l : List TRule, trimD d l <+: l
  | [] => List.prefix_refl _
  | r :: l => by
    unfold trimD
    split
    · exact List.nil_prefix
    · exact (List.cons_prefix_cons).2 ⟨rfl, trimD_pre d l⟩
theorem first_used (x : TCall) (ks : List Nat) : ∀ (l : List TRule) (i : Nat), (which x l < l.length → i + which x l ∈ ks) → firstOf x (usedRules ks l i) = firstOf x l
  | [], _, _ => rfl
  | r :: l, i, h => by
    have e2 : ∀ m : List TRule, firstOf x (r :: m) = if allHold x r.conds = true then some r else firstOf x m := fun m => by
      unfold firstOf
      rw [List.find?_cons]
      cases allHold x r.conds <;> simp
    unfold usedRules
    by_cases hr : allHold x r.conds = true
    · have hw : which x (r :: l) = 0 := by unfold which; rw [if_pos hr]
      have hi := h (by rw [hw]; simp)
      rw [hw, Nat.add_zero] at hi
      rw [if_pos (by simpa using hi), e2, e2, if_pos hr, if_pos hr]
    · have hw : which x (r :: l) = which x l + 1 := by conv => lhs; unfold which
                                                       rw [if_neg hr]
      have ih := first_used x ks l (i + 1) (fun hlt => by
        have := h (by rw [hw]; simpa using hlt)
        rw [hw] at this
        rwa [show i + 1 + which x l = i + (which x l + 1) by omega])
      split
      · rw [e2, e2, if_neg hr, if_neg hr, ih]
      · rw [e2, if_neg hr, ih]
def orD (d : Int) : Option TRule → Int
  | some r => r.verdict
  | none => d
theorem says_orD (p : TPol) (x : TCall) : says p x = orD p.dflt (firstOf x p.rules) := by rw [says_first]; rfl
theorem first_trim (x : TCall) (d : Int) : ∀ l : List TRule, orD d (firstOf x (trimD d l)) = orD d (firstOf x l)
  | [] => rfl
  | r :: l => by
    have e2 : ∀ m : List TRule, firstOf x (r :: m) = if allHold x r.conds = true then some r else firstOf x m := fun m => by
      unfold firstOf
      rw [List.find?_cons]
      cases allHold x r.conds <;> simp
    have ih := first_trim x d l
    unfold trimD
    split
    · rename_i h
      rw [h.1] at ih
      rw [e2]
      split
      · show d = r.verdict; exact h.2.symm
      · exact ih
    · rw [e2, e2]
      split
      · rfl
      · exact ih
/-- SHORT SAYS OF EACH CALL WHAT THE POLICY SAYS. -/
theorem says_short {p : TPol} (h : OkPol p) {x : TCall} (hx : x.ok) : says (shortPol p) x = says p x := by
  have hall : ∀ r ∈ [p], OkPol r := by simpa using h
  rw [says_orD, says_orD]
  show orD p.dflt (firstOf x (trimD _ _)) = _
  rw [first_trim, first_used]
  intro _
  rw [Nat.zero_add]
  refine List.mem_map.2 ⟨homeOf [p] x, home_point hall hx, which_home hall hx (by simp)⟩
theorem short_sub (p : TPol) : (shortPol p).rules.Sublist p.rules := (trimD_pre _ _).sublist.trans (usedRules_sub _ _ _)
theorem okPol_sub {p q : TPol} (h : OkPol p) (hs : q.rules.Sublist p.rules) (hd : q.dflt = p.dflt) : OkPol q :=
  ⟨Nat.le_trans hs.length_le h.len, by rw [hd]; exact h.d0, by rw [hd]; exact h.d1, fun r hr => h.rules r (hs.subset hr)⟩
theorem okPol_short {p : TPol} (h : OkPol p) : OkPol (shortPol p) := okPol_sub h (short_sub p) rfl
theorem cutVals_sub {p q : TPol} (hs : q.rules.Sublist p.rules) (f n : Int) (h : n ∈ cutVals [q] f) : n ∈ cutVals [p] f := by
  rcases mem_vals.1 h with rfl | ⟨a, ha, r, hr, c, hc, hm⟩
  · exact mem_vals.2 (.inl rfl)
  · simp at ha; subst ha
    exact mem_vals.2 (.inr ⟨p, by simp, r, hs.subset hr, c, hc, hm⟩)
/-- every rule of a list is the first to hold somewhere among these calls. -/
def AllUsed (p : TPol) (l : List TCall) : Prop := ∀ i, i < p.rules.length → ∃ x ∈ l, which x p.rules = i
theorem used_all (ks : List Nat) : ∀ (l : List TRule) (i : Nat), (∀ j, j < l.length → i + j ∈ ks) → usedRules ks l i = l
  | [], _, _ => rfl
  | r :: l, i, h => by
    unfold usedRules
    rw [if_pos (by have := h 0 (by simp); simpa using this), used_all ks l (i + 1) (fun j hj => by have := h (j + 1) (by simpa using hj); rwa [show i + 1 + j = i + (j + 1) by omega])]
theorem trim_trim (d : Int) : ∀ l : List TRule, trimD d (trimD d l) = trimD d l
  | [] => rfl
  | r :: l => by
    have ih := trim_trim d l
    by_cases h : trimD d l = [] ∧ r.verdict = d
    · have e : trimD d (r :: l) = [] := by unfold trimD; rw [if_pos h]
      rw [e]; rfl
    · have e : trimD d (r :: l) = r :: trimD d l := by conv => lhs; unfold trimD
                                                       rw [if_neg h]
      rw [e]
      conv => lhs; unfold trimD
      rw [ih, if_neg h]
theorem short_of_used {p : TPol} (h : AllUsed p (stage [p] 5)) : shortPol p = ⟨trimD p.dflt p.rules, p.dflt⟩ := by
  unfold shortPol
  rw [used_all]
  intro j hj
  obtain ⟨x, hx, hw⟩ := h j hj
  rw [Nat.zero_add]
  exact List.mem_map.2 ⟨x, hx, hw⟩
/-- the place of a rule that is used, among those that are. -/
theorem used_which (ks : List Nat) : ∀ (l : List TRule) (i j : Nat), j < (usedRules ks l i).length → ∃ k, k < l.length ∧ i + k ∈ ks ∧ ∀ x, which x l = k → which x (usedRules ks l i) = j
  | [], _, _, h => by simp [usedRules] at h
  | r :: l, i, j, h => by
    unfold usedRules at h ⊢
    by_cases hk : ks.contains i = true
    · rw [if_pos hk] at h ⊢
      cases j with
      | zero => exact ⟨0, by simp, by simpa using hk, fun x hx => by
          unfold which at hx ⊢
          split at hx
          · rename_i ha; rw [if_pos ha]
          · omega⟩
      | succ j =>
        obtain ⟨k, h1, h2, h3⟩ := used_which ks l (i + 1) j (by simpa using h)
        refine ⟨k + 1, by simpa using h1, by rwa [show i + (k + 1) = i + 1 + k by omega], fun x hx => ?_⟩
        unfold which at hx ⊢
        split at hx
        · omega
        · rename_i ha; rw [if_neg ha, h3 x (by omega)]
    · rw [if_neg hk] at h ⊢
      obtain ⟨k, h1, h2, h3⟩ := used_which ks l (i + 1) j h
      refine ⟨k + 1, by simpa using h1, by rwa [show i + (k + 1) = i + 1 + k by omega], fun x hx => ?_⟩
      unfold which at hx
      split at hx
      · omega
      · exact h3 x (by omega)
theorem which_pre (x : TCall) : ∀ (l m : List TRule) (j : Nat), l <+: m → which x m = j → j < l.length → which x l = j
  | [], _, _, _, _, h => by simp at h
  | r :: l, m, j, hp, hw, hj => by
    obtain ⟨t, rfl⟩ := hp
    rw [List.cons_append] at hw
    unfold which at hw ⊢
    split at hw
    · rename_i h; rw [if_pos h]; exact hw
    · rename_i h
      rw [if_neg h]
      cases j with
      | zero => omega
      | succ j => rw [which_pre x l (l ++ t) j ⟨t, rfl⟩ (by omega) (by simpa using hj)]
/-- made shorter again it is the same. -/
theorem short_short {p : TPol} (h : OkPol p) : shortPol (shortPol p) = shortPol p := by
  have hall : ∀ r ∈ [p], OkPol r := by simpa using h
  have hs := okPol_short h
  have hsall : ∀ r ∈ [shortPol p], OkPol r := by simpa using hs
  have hu : AllUsed (shortPol p) (stage [shortPol p] 5) := by
    intro j hj
    have hpre : (shortPol p).rules <+: usedRules (usedBy p (stage [p] 5)) p.rules 0 := trimD_pre _ _
    obtain ⟨k, h1, h2, h3⟩ := used_which (usedBy p (stage [p] 5)) p.rules 0 j (Nat.lt_of_lt_of_le hj hpre.length_le)
    rw [Nat.zero_add] at h2
    obtain ⟨x, hx, hw⟩ := List.mem_map.1 h2
    have hxo := point_ok hall hx
    have hj' := which_pre x _ _ j hpre (h3 x hw) hj
    exact ⟨homeOf [shortPol p] x, home_point hsall hxo, by rw [which_home hsall hxo (by simp)]; exact hj'⟩
  rw [short_of_used hu]
  show (⟨trimD p.dflt (trimD p.dflt _), p.dflt⟩ : TPol) = ⟨trimD p.dflt _, p.dflt⟩
  rw [trim_trim]
theorem short_again {p : TPol} (h : (shortE p).2 = 0) : shortE (shortPol p) = (shortPol p, 0) := by
  obtain ⟨h1, h2, _⟩ := shortE_ok h
  rw [shortE_of (okPol_short h1) (Nat.le_trans (sizes_sub (fun f n hn => cutVals_sub (short_sub p) f n hn) 5) h2), short_short h1]

/-! ### chapter 9's Delta -/
def deltaE (p q : TPol) : TPol × Int := if (looserE q p).2.2 ≠ 0 then (zeroPol, (looserE q p).2.2) else if (looserE q p).1 then (zeroPol, 7) else
  if (pairE exceptOf q p).2 ≠ 0 then (zeroPol, (pairE exceptOf q p).2) else shortE (pairPol exceptOf q p)
theorem pointsE_err (l : List TPol) : (pointsE l).2 ≠ 7 := by
  have key : ∀ l : List TPol, polsE l ≠ 7 := by
    have k1 : ∀ c, condE c ≠ 7 := fun c => by unfold condE; split <;> (try split) <;> (try split) <;> omega
    have k2 : ∀ l, condsGo l ≠ 7 := fun l => by
      induction l with
      | nil => simp [condsGo]
      | cons c l ih => unfold condsGo; split; exact ih; exact k1 c
    have k3 : ∀ r, ruleE r ≠ 7 := fun r => by unfold ruleE; split; omega; split; omega; exact k2 _
    have k4 : ∀ l, rulesGo l ≠ 7 := fun l => by
      induction l with
      | nil => simp [rulesGo]
      | cons c l ih => unfold rulesGo; split; exact ih; exact k3 c
    intro l
    induction l with
    | nil => simp [polsE]
    | cons p l ih =>
      unfold polsE; split
      · exact ih
      · unfold polE; split; omega; split; omega; exact k4 _
  unfold pointsE
  split
  · exact key l
  · split <;> simp
theorem polE_err (p : TPol) : polE p ≠ 7 := by
  intro h
  have e : polsE [p] = 7 := by
    unfold polsE
    rw [if_neg (by rw [h]; simp), h]
  have : (pointsE [p]).2 = 7 := by
    unfold pointsE
    rw [if_pos (by rw [e]; simp), e]
  exact pointsE_err [p] this
theorem looserE_err (p q : TPol) : (looserE p q).2.2 ≠ 7 := by
  unfold looserE
  split
  · exact pointsE_err _
  · split <;> simp
theorem pairE_err (of : Int → Int → Int) (p q : TPol) : (pairE of p q).2 ≠ 7 := by
  unfold pairE
  split
  · rename_i h
    show polsE [p, q] ≠ 7
    unfold polsE polsE polsE
    split
    · split
      · simp
      · exact polE_err q
    · exact polE_err p
  · split
    · exact polE_err _
    · simp
theorem shortE_err (p : TPol) : (shortE p).2 ≠ 7 := by
  unfold shortE
  split
  · exact pointsE_err _
  · simp
theorem deltaE_loose {p q : TPol} : (deltaE p q).2 = 7 ↔ ((looserE q p).2.2 = 0 ∧ (looserE q p).1 = true) := by
  unfold deltaE
  constructor
  · intro h
    split at h
    · exact absurd h (looserE_err _ _)
    · rename_i h1
      split at h
      · rename_i h2; exact ⟨by simpa using h1, h2⟩
      · split at h
        · exact absurd h (pairE_err _ _ _)
        · exact absurd h (shortE_err _)
  · rintro ⟨h1, h2⟩
    rw [if_neg (by rw [h1]; simp), if_pos h2]
theorem deltaE_ok {p q : TPol} (h : (deltaE p q).2 = 0) : OkPol p ∧ OkPol q ∧ (looserE q p).2.2 = 0 ∧ (looserE q p).1 = false ∧ OkPol (pairPol exceptOf q p) ∧ deltaE p q = (shortPol (pairPol exceptOf q p), 0) := by
  unfold deltaE at h ⊢
  split at h
  · rename_i h1; exact absurd h h1
  · rename_i h1
    have h1' : (looserE q p).2.2 = 0 := by simpa using h1
    split at h
    · simp at h
    · rename_i h2
      split at h
      · rename_i h3; exact absurd h h3
      · rename_i h3
        obtain ⟨a1, a2, a3, _⟩ := pairE_ok (of := exceptOf) (p := q) (q := p) (by simpa using h3)
        obtain ⟨_, _, b3⟩ := shortE_ok h
        exact ⟨a2, a1, h1', by simpa using h2, a3, by rw [if_neg h1, if_neg h2, if_neg h3]; exact b3⟩
/-- A DELTA allows all of which nothing changes, and says of all else what the stricter policy says. -/
theorem says_delta {p q : TPol} (h : (deltaE p q).2 = 0) {x : TCall} (hx : x.ok) : says (deltaE p q).1 x = exceptOf (says q x) (says p x) := by
  obtain ⟨_, _, _, _, h5, h6⟩ := deltaE_ok h
  rw [h6]
  show says (shortPol _) x = _
  rw [says_short h5 hx, says_pair]
theorem okPol_delta {p q : TPol} (h : (deltaE p q).2 = 0) : OkPol (deltaE p q).1 := by
  obtain ⟨_, _, _, _, h5, h6⟩ := deltaE_ok h
  rw [h6]; exact okPol_short h5
theorem delta_le {p q : TPol} (h : (deltaE p q).2 = 0) {x : TCall} (hx : x.ok) : says q x ≤ says p x := by
  obtain ⟨_, _, h3, h4, _, _⟩ := deltaE_ok h
  exact looser_not h3 h4 hx
theorem trim_all (d : Int) : ∀ l : List TRule, (∀ r ∈ l, r.verdict = d) → trimD d l = []
  | [], _ => rfl
  | r :: l, h => by
    unfold trimD
    rw [if_pos ⟨trim_all d l (fun r hr => h r (List.mem_cons_of_mem _ hr)), h r (List.mem_cons_self ..)⟩]
theorem mem_used (ks : List Nat) : ∀ (l : List TRule) (i : Nat) (r : TRule), r ∈ usedRules ks l i → ∃ k, l[k]? = some r ∧ i + k ∈ ks
  | [], _, _, h => by simp [usedRules] at h
  | a :: l, i, r, h => by
    unfold usedRules at h
    split at h
    · rename_i hk
      rcases List.mem_cons.1 h with rfl | h
      · exact ⟨0, rfl, by simpa using hk⟩
      · obtain ⟨k, h1, h2⟩ := mem_used ks l (i + 1) r h
        exact ⟨k + 1, by simpa using h1, by rwa [show i + (k + 1) = i + 1 + k by omega]⟩
    · obtain ⟨k, h1, h2⟩ := mem_used ks l (i + 1) r h
      exact ⟨k + 1, by simpa using h1, by rwa [show i + (k + 1) = i + 1 + k by omega]⟩
/-- from a policy to itself a delta has no rules. -/
theorem delta_self {p : TPol} (h : (deltaE p p).2 = 0) : (deltaE p p).1.rules = [] := by
  obtain ⟨h1, _, _, _, h5, h6⟩ := deltaE_ok h
  rw [h6]
  show trimD (exceptOf p.dflt p.dflt) _ = []
  have hd : exceptOf p.dflt p.dflt = 4 := by unfold exceptOf; rw [if_neg (by omega)]
  rw [hd]
  refine trim_all 4 _ fun r hr => ?_
  obtain ⟨k, hk, hks⟩ := mem_used _ _ _ _ hr
  rw [Nat.zero_add] at hks
  obtain ⟨x, _, hw⟩ := List.mem_map.1 hks
  have hs := says_pair exceptOf p p x
  have hv : says (pairPol exceptOf p p) x = r.verdict := by
    unfold says judged verdictAt
    dsimp only
    rw [hw, hk]
  rw [hv] at hs
  rw [hs]
  unfold exceptOf
  rw [if_neg (by omega)]
theorem delta_self_not (p : TPol) : (deltaE p p).2 ≠ 7 := by
  intro h
  obtain ⟨h1, h2⟩ := deltaE_loose.1 h
  have := looser_at h1 h2
  omega
theorem looser_self {p : TPol} (h : (looserE p p).2.2 = 0) : (looserE p p).1 = false := (looser_iff h).2 fun _ _ => Int.le_refl _
end Go.Proofs.YthkgjohhbdipcaaGreatDoor
