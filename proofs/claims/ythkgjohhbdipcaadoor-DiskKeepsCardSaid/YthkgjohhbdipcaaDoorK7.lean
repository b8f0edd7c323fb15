/- Texts laid one behind the other: Read, Made, RegB, Worded, PointSpec. No condition beyond theirs. -/
import Derived.Test.YthkgjohhbdipcaaDoorK6
import Derived.Test.YthkgjohhbdipcaaDoorK3
import Derived.Laws.ResultCell
import Derived.Test.YthkgjohhbdipcaaDoorK2
import Derived.Test.YthkgjohhbdipcaaDoorK4
set_option linter.all false
namespace Go.Proofs.YthkgjohhbdipcaaDoor
open Go.RowKit
open Go.MapKept (IsKey)
attribute [local go_sem] gives givesUpon

attribute [-go_sem] run_slice_l
set_option maxRecDepth 8000 in
set_option maxHeartbeats 4000000 in
theorem read_walk (s : ByteArray) (w : World) (hL : Laid w) (hs : s.size ≤ 281474976710656) (hs' : s.size < 4294967281) :
    Calls Tryd.prog 28 #[.string s] w fun e w' => ∃ v, e = .returned (.tuple #[polV v (readP s.data.toList).1.dflt, .int .i64 (readP s.data.toList).2]) ∧ RdRules w' (fun b => w.heap.size ≤ b) v (readP s.data.toList).1.rules ∧ Below w.heap.size w w' := by
  have HL := Lib.hid hL
  clear hL
  have hmm := @run_makeMap Tryd.prog
  have hb0 : w.heap.size + 1 = (w.alloc (.cells #[.slice none 0 0, .int .i64 0] 24)).heap.size := by simp
  have hv0 := run_insert_at (P := Tryd.prog) (t := 100) (es := #[]) (c := 0) (key := bs [107, 105, 108, 108]) (v := .int .i64 0) hb0 Tryd.underlying100 Tryd.underlying9 (by first | exact trivial | rfl) (by kernel_rfl)
  have hv1 := run_insert_at (P := Tryd.prog) (t := 100) (es := #[⟨bs [107, 105, 108, 108], .int .i64 0, 0⟩]) (c := 1) (key := bs [116, 114, 97, 112]) (v := .int .i64 1) hb0 Tryd.underlying100 Tryd.underlying9 (by first | exact trivial | rfl) (by kernel_rfl)
  have hv2 := run_insert_at (P := Tryd.prog) (t := 100) (es := #[⟨bs [107, 105, 108, 108], .int .i64 0, 0⟩, ⟨bs [116, 114, 97, 112], .int .i64 1, 1⟩]) (c := 2) (key := bs [102, 97, 105, 108]) (v := .int .i64 2) hb0 Tryd.underlying100 Tryd.underlying9 (by first | exact trivial | rfl) (by kernel_rfl)
  have hv3 := run_insert_at (P := Tryd.prog) (t := 100) (es := #[⟨bs [107, 105, 108, 108], .int .i64 0, 0⟩, ⟨bs [116, 114, 97, 112], .int .i64 1, 1⟩, ⟨bs [102, 97, 105, 108], .int .i64 2, 2⟩]) (c := 3) (key := bs [108, 111, 103]) (v := .int .i64 3) hb0 Tryd.underlying100 Tryd.underlying9 (by first | exact trivial | rfl) (by kernel_rfl)
  have hv4 := run_insert_at (P := Tryd.prog) (t := 100) (es := #[⟨bs [107, 105, 108, 108], .int .i64 0, 0⟩, ⟨bs [116, 114, 97, 112], .int .i64 1, 1⟩, ⟨bs [102, 97, 105, 108], .int .i64 2, 2⟩, ⟨bs [108, 111, 103], .int .i64 3, 3⟩]) (c := 4) (key := bs [97, 108, 108, 111, 119]) (v := .int .i64 4) hb0 Tryd.underlying100 Tryd.underlying9 (by first | exact trivial | rfl) (by kernel_rfl)
  have hb1 : w.heap.size + 2 = ((w.alloc (.cells #[.slice none 0 0, .int .i64 0] 24)).alloc (.map vmap 5)).heap.size := by simp
  have hf0 := run_insert_at (P := Tryd.prog) (t := 100) (es := #[]) (c := 0) (key := bs [110, 114]) (v := .int .i64 0) hb1 Tryd.underlying100 Tryd.underlying9 (by first | exact trivial | rfl) (by kernel_rfl)
  have hf1 := run_insert_at (P := Tryd.prog) (t := 100) (es := #[⟨bs [110, 114], .int .i64 0, 0⟩]) (c := 1) (key := bs [107, 105, 110, 100]) (v := .int .i64 1) hb1 Tryd.underlying100 Tryd.underlying9 (by first | exact trivial | rfl) (by kernel_rfl)
  have hf2 := run_insert_at (P := Tryd.prog) (t := 100) (es := #[⟨bs [110, 114], .int .i64 0, 0⟩, ⟨bs [107, 105, 110, 100], .int .i64 1, 1⟩]) (c := 2) (key := bs [97]) (v := .int .i64 2) hb1 Tryd.underlying100 Tryd.underlying9 (by first | exact trivial | rfl) (by kernel_rfl)
  have hf3 := run_insert_at (P := Tryd.prog) (t := 100) (es := #[⟨bs [110, 114], .int .i64 0, 0⟩, ⟨bs [107, 105, 110, 100], .int .i64 1, 1⟩, ⟨bs [97], .int .i64 2, 2⟩]) (c := 3) (key := bs [98]) (v := .int .i64 3) hb1 Tryd.underlying100 Tryd.underlying9 (by first | exact trivial | rfl) (by kernel_rfl)
  have hf4 := run_insert_at (P := Tryd.prog) (t := 100) (es := #[⟨bs [110, 114], .int .i64 0, 0⟩, ⟨bs [107, 105, 110, 100], .int .i64 1, 1⟩, ⟨bs [97], .int .i64 2, 2⟩, ⟨bs [98], .int .i64 3, 3⟩]) (c := 4) (key := bs [99]) (v := .int .i64 4) hb1 Tryd.underlying100 Tryd.underlying9 (by first | exact trivial | rfl) (by kernel_rfl)
  have hb2 : w.heap.size + 3 = (((w.alloc (.cells #[.slice none 0 0, .int .i64 0] 24)).alloc (.map vmap 5)).alloc (.map fmap 5)).heap.size := by simp
  have ho0 := run_insert_at (P := Tryd.prog) (t := 101) (es := #[]) (c := 0) (key := .int .u8 61) (v := .int .i64 1) hb2 Tryd.underlying101 Tryd.underlying5 (by first | exact trivial | rfl) (by kernel_rfl)
  have ho1 := run_insert_at (P := Tryd.prog) (t := 101) (es := #[⟨.int .u8 61, .int .i64 1, 0⟩]) (c := 1) (key := .int .u8 33) (v := .int .i64 2) hb2 Tryd.underlying101 Tryd.underlying5 (by first | exact trivial | rfl) (by kernel_rfl)
  have ho2 := run_insert_at (P := Tryd.prog) (t := 101) (es := #[⟨.int .u8 61, .int .i64 1, 0⟩, ⟨.int .u8 33, .int .i64 2, 1⟩]) (c := 2) (key := .int .u8 60) (v := .int .i64 3) hb2 Tryd.underlying101 Tryd.underlying5 (by first | exact trivial | rfl) (by kernel_rfl)
  have ho3 := run_insert_at (P := Tryd.prog) (t := 101) (es := #[⟨.int .u8 61, .int .i64 1, 0⟩, ⟨.int .u8 33, .int .i64 2, 1⟩, ⟨.int .u8 60, .int .i64 3, 2⟩]) (c := 3) (key := .int .u8 62) (v := .int .i64 4) hb2 Tryd.underlying101 Tryd.underlying5 (by first | exact trivial | rfl) (by kernel_rfl)
  simp only [List.push_toArray, List.nil_append, List.cons_append, Nat.reduceAdd] at hv0 hv1 hv2 hv3 hv4 hf0 hf1 hf2 hf3 hf4 ho0 ho1 ho2 ho3
  clear hb0 hb1 hb2
  go_enter Tryd.func28, Tryd.ntmps28
  go_wp2_with fail
  clear hv0 hv1 hv2 hv3 hv4 hf0 hf1 hf2 hf3 hf4 ho0 ho1 ho2 ho3 hmm
  go_loopw [0] (fun sv wr => ∃ (n : Nat) (t : ByteArray) (rs : List TRule) (pv : Value), sv = .string t ∧ t.size < n ∧ rs.length + t.size ≤ s.size ∧ Hid (pread (s.data.toList.length + 1) s.data.toList = (pread n t.data.toList).map fun p => ⟨rs ++ p.rules, p.dflt⟩) ∧ RdState w wr rs pv) (fun sv _ => (match sv with | .string t => t.size | _ => 0))
  case atStart => exact ⟨s.size + 1, s, [], .slice none 0 0, rfl, by omega, by simp, by
    have e : s.data.toList.length = s.size := rfl
    rw [e]
    cases pread (s.size + 1) s.data.toList <;> rfl, rdState0 w⟩
  case round =>
    obtain ⟨n, t, rs, pv, rfl, hn, hts, hp, hst⟩ := hrel
    obtain ⟨pa, pcap, hpv, hpl, hpm, _⟩ := Sl.form hst.rules
    have Hpv := Lib.hid hpv
    have Hst := Lib.hid hst
    clear hpv hpl hpm
    have hsz := hst.sz
    have HLr := Lib.hid (HL.out.below hst.bel)
    clear hst
    go_wp2_with fail
    refine (cut_any t _ HLr.out (by omega)).mono ?_
    rintro e w1 ⟨ta, tr, more, rfl, hta, htr, hmore, hsa, hsr, hb1⟩
    have Hta := Lib.hid hta
    have Htr := Lib.hid htr
    have Hmore := Lib.hid hmore
    clear hta htr hmore
    have Hst1 := Lib.hid (Hst.out.below hb1)
    have HL1 := Lib.hid (HLr.out.below hb1)
    have hsz1 := Hst1.out.sz
    clear Hst HLr hb1 hsz
    go_wp2_with fail
    refine (split_any ta w1 HL1.out (by omega)).mono ?_
    rintro e w2 ⟨ws, rfl, hw2, hws, hw0, hwl, hwu⟩
    obtain ⟨u0, us, rfl⟩ : ∃ u0 us, ws = u0 :: us := by cases ws with
      | nil => simp at hw0
      | cons u0 us => exact ⟨u0, us, rfl⟩
    have hb2 : Below w1.heap.size w1 w2 := by rw [hw2]; exact bel_alloc (Below.refl _ _) _
    have hbl : w2.heap[w1.heap.size]? = some (.cells ((u0 :: us).map Value.string).toArray 9) := by rw [hw2]; exact heap_last _ _
    have hc0 : w2.cell? ⟨w1.heap.size, 0, none⟩ = some (.string u0) := by rw [hw2]; exact (World.cell?_alloc_at _ _ _ _ rfl).trans (by simp)
    have Hst2 := Lib.hid (Hst1.out.below hb2)
    have HL2 := Lib.hid (HL1.out.below hb2)
    have hsz2 := Hst2.out.sz
    have Hbl := Lib.hid hbl
    have Hstep : Hid (∀ k, pread (k + 1) t.data.toList = match verdictOf u0.data.toList with
        | none => none
        | some v => if more then (match condsOf (us.map (·.data.toList)) with
            | none => none
            | some cs => (pread k tr.data.toList).map fun p => ⟨⟨cs, v⟩ :: p.rules, p.dflt⟩) else if 1 < us.length + 1 then none else some ⟨[], v⟩) := fun k => by
      rw [pread_step (u0 := u0.data.toList) (us := us.map (·.data.toList)) (by rw [← Hta.out, ← hws]; rfl), Hmore.out, Htr.out, List.length_map] <;> rfl
    obtain ⟨k, rfl⟩ : ∃ k, n = k + 1 := ⟨n - 1, by omega⟩
    have Hwu := Lib.hid hwu
    clear hw2 hb2 hbl hws hwu Hst1 HL1 Hta Hmore
    obtain ⟨fv, hfv, hfv'⟩ := find_v u0
    have hz : ∀ W : World, (zeroValue 3).run Tryd.prog W = .ok (.int .i64 0) W := fun W => by kernel_rfl
    have hlk := run_lookup_ok (P := Tryd.prog) (key := .string u0) (t := 100) Tryd.underlying100 Tryd.underlying9 Hst2.out.vm (hz _) (by exact trivial) hfv
    have hfs : fv.isSome = (verdictOf u0.data.toList).isSome := by
      have := congrArg Option.isSome hfv'
      simpa using this
    rw [hfs, hfv'] at hlk
    have h1l : (1 : Nat) ≤ us.length + 1 := by omega
    clear hfv hfv' hfs hz hw0
    cases hvd : verdictOf u0.data.toList with
    | none =>
      rw [hvd] at hlk
      simp only [Option.map_none, Option.getD_none, Option.isSome_none] at hlk
      go_wp2_with fail
      refine (bad_any 1 _).mono ?_
      rintro e w3 ⟨rfl, hb3⟩
      have hr3 := blk_below Hst2.out.res hb3
      have hc3 := cells_of hr3
      have hf3 := not_frozen hr3
      have hr4 := set_at (o := 1) (v := .int .i64 0) (set_at (o := 0) (v := .slice none 0 0) hr3)
      have hc4 := cells_of hr4
      have Hb4 := Lib.hid (set_below (a := ⟨w.heap.size, 1, none⟩) (v := .int .i64 0) (set_below (a := ⟨w.heap.size, 0, none⟩) (v := .slice none 0 0) (bel_call Hst2.out.bel hb3) (Nat.le_refl _)) (Nat.le_refl _))
      go_wp2
      have hrd : readP s.data.toList = (⟨[], 0⟩, 1) := readP_none (by rw [hp.out, Hstep.out k, hvd]; rfl)
      rw [hrd]
      refine bodyPost_ret (v := .tuple #[polV (.slice none 0 0) 0, .int .i64 1]) ?_ rfl ⟨_, rfl, ⟨none, 0, rfl, Nat.le_refl _, by unfold maxLen; omega, fun _ => rfl, fun h => by cases h⟩, Hb4.out⟩
      rw [results_cell_tmp rfl]
      go_simp
    | some vd =>
      rw [hvd] at hlk
      simp only [Option.map_some, Option.getD_some, Option.isSome_some] at hlk
      have Hvd := Lib.hid hvd
      clear hvd
      cases more with
      | false =>
        by_cases hus : us.length = 0
        · have d1 : ¬ (1 : Int) < (us.length : Int) + 1 := by omega
          have hpc := Hst2.out.pc
          have hcp := cells_of hpc
          have hfp := not_frozen hpc
          have hR4 : RdRules (w2.setCell ⟨w.heap.size + 4, 1, none⟩ (.int .i64 vd)) (fun b => w.heap.size + 5 ≤ b) pv rs :=
            RdRules.keep Hst2.out.rules (fun _ h _ => h) (fun b hb _ => set_other (by show b ≠ w.heap.size + 4; have : w.heap.size + 5 ≤ b := hb; omega)) (by rw [set_size]; exact Nat.le_refl _)
          have hb4 : Below w.heap.size w (w2.setCell ⟨w.heap.size + 4, 1, none⟩ (.int .i64 vd)) := set_below Hst2.out.bel (by show w.heap.size ≤ w.heap.size + 4; omega)
          have hr4 : (w2.setCell ⟨w.heap.size + 4, 1, none⟩ (.int .i64 vd)).heap[w.heap.size]? = some (.cells #[.slice none 0 0, .int .i64 0] 24) := (set_other (by show w.heap.size ≠ w.heap.size + 4; omega)).trans Hst2.out.res
          have hp4 := set_at (o := 1) (v := .int .i64 vd) hpc
          have hre : Hid (readP s.data.toList = if polE ⟨rs, vd⟩ = 0 then (⟨rs, vd⟩, 0) else (⟨[], 0⟩, polE ⟨rs, vd⟩)) := readP_some (by
            rw [hp.out, Hstep.out k, Hvd.out]
            simp only [Bool.false_eq_true, if_false]
            rw [if_neg (by omega)]
            simp only [Option.map_some, List.append_nil])
          have HR4 := Lib.hid hR4
          have Hb4 := Lib.hid hb4
          have Hr4 := Lib.hid hr4
          have Hp4 := Lib.hid hp4
          clear hR4 hb4 hr4 hp4
          go_wp2_with fail
          refine (rpolcheck_any pv ⟨rs, vd⟩ _ _ HR4.out).mono ?_
          rintro e w5 ⟨rfl, hb5⟩
          have hR5 := RdRules.below HR4.out hb5
          have hr5 := blk_below Hr4.out hb5
          have hp5 := blk_below Hp4.out hb5
          have hb5' := bel_call Hb4.out hb5
          have HR5 := Lib.hid hR5
          have Hb5 := Lib.hid hb5'
          clear hR5 hb5' hb5 hpc hcp hfp HR4 Hb4 Hr4 Hp4
          by_cases hpe : polE ⟨rs, vd⟩ = 0
          · have d2 : (polE ⟨rs, vd⟩ != 0) = false := bne_eq_false_iff_eq.2 hpe
            have Hpe := Lib.hid hpe
            have hcp := cells_of hp5
            have hcr := cells_of hr5
            have hfr := not_frozen hr5
            have hr6 := set_at (o := 1) (v := .int .i64 vd) (set_at (o := 0) (v := pv) hr5)
            have hc6 := cells_of hr6
            have Hb6 := Lib.hid (set_below (a := ⟨w.heap.size, 1, none⟩) (v := .int .i64 vd) (set_below (a := ⟨w.heap.size, 0, none⟩) (v := pv) Hb5.out (Nat.le_refl _)) (Nat.le_refl _))
            have hR6 : Hid (RdRules ((w5.setCell ⟨w.heap.size, 0, none⟩ pv).setCell ⟨w.heap.size, 1, none⟩ (.int .i64 vd)) (fun b => w.heap.size ≤ b) pv rs) :=
              RdRules.keep HR5.out (fun b h _ => by have : w.heap.size + 5 ≤ b := h; show w.heap.size ≤ b; omega) (fun b hb _ => by
                have h1 : w.heap.size + 5 ≤ b := hb
                rw [set_other (by show b ≠ w.heap.size; omega), set_other (by show b ≠ w.heap.size; omega)]) (by rw [set_size, set_size]; exact Nat.le_refl _)
            clear hpe hp5
            have Hre := hre
            clear hre
            obtain rfl := Hpv.out
            go_wp2
            rw [Hre.out, if_pos Hpe.out]
            refine bodyPost_ret (v := .tuple #[polV (.slice pa rs.length pcap) vd, .int .i64 0]) ?_ rfl ⟨_, rfl, hR6.out, Hb6.out⟩
            rw [results_cell_tmp rfl]
            go_simp
          · have d2 : (polE ⟨rs, vd⟩ != 0) = true := bne_iff_ne.2 hpe
            have Hpe := Lib.hid hpe
            clear hpe hp5
            go_wp2_with fail
            refine (bad_any _ _).mono ?_
            rintro e w6 ⟨rfl, hb6⟩
            have hr6 := blk_below hr5 hb6
            have hc6 := cells_of hr6
            have hf6 := not_frozen hr6
            have hr7 := set_at (o := 1) (v := .int .i64 0) (set_at (o := 0) (v := .slice none 0 0) hr6)
            have hc7 := cells_of hr7
            have Hb7 := Lib.hid (set_below (a := ⟨w.heap.size, 1, none⟩) (v := .int .i64 0) (set_below (a := ⟨w.heap.size, 0, none⟩) (v := .slice none 0 0) (bel_call Hb5.out hb6) (Nat.le_refl _)) (Nat.le_refl _))
            clear hr5
            go_wp2
            rw [hre.out, if_neg Hpe.out]
            refine bodyPost_ret (v := .tuple #[polV (.slice none 0 0) 0, .int .i64 (polE ⟨rs, vd⟩)]) ?_ rfl ⟨_, rfl, ⟨none, 0, rfl, Nat.le_refl _, by unfold maxLen; omega, fun _ => rfl, fun h => by cases h⟩, Hb7.out⟩
            rw [results_cell_tmp rfl]
            go_simp
        · have d1 : (1 : Int) < (us.length : Int) + 1 := by omega
          go_wp2_with fail
          refine (bad_any 1 _).mono ?_
          rintro e w3 ⟨rfl, hb3⟩
          have hr3 := blk_below Hst2.out.res hb3
          have hc3 := cells_of hr3
          have hf3 := not_frozen hr3
          have hr4 := set_at (o := 1) (v := .int .i64 0) (set_at (o := 0) (v := .slice none 0 0) hr3)
          have hc4 := cells_of hr4
          have Hb4 := Lib.hid (set_below (a := ⟨w.heap.size, 1, none⟩) (v := .int .i64 0) (set_below (a := ⟨w.heap.size, 0, none⟩) (v := .slice none 0 0) (bel_call Hst2.out.bel hb3) (Nat.le_refl _)) (Nat.le_refl _))
          have hrd : Hid (readP s.data.toList = (⟨[], 0⟩, 1)) := readP_none (by
            rw [hp.out, Hstep.out k, Hvd.out]
            simp only [Bool.false_eq_true, if_false]
            rw [if_pos (by omega)]; rfl)
          go_wp2
          rw [hrd.out]
          refine bodyPost_ret (v := .tuple #[polV (.slice none 0 0) 0, .int .i64 1]) ?_ rfl ⟨_, rfl, ⟨none, 0, rfl, Nat.le_refl _, by unfold maxLen; omega, fun _ => rfl, fun h => by cases h⟩, Hb4.out⟩
          rw [results_cell_tmp rfl]
          go_simp
      | true =>
        have d1 : (1 : Int) ≤ (us.length : Int) + 1 := by omega
        obtain ⟨off, hoff, htl⟩ := slice_tail w1.heap.size us.length
        have Hoff := Lib.hid hoff
        clear hoff
        go_wp2_with fail
        all_goals
          clear htl
          go_loopw [70] (fun jv wr => ∃ (j : Nat) (cs : List TCond) (cv : Value), jv = .int .i64 j ∧ j ≤ us.length ∧ cs.length = j ∧ Hid (condsOf (us.map (·.data.toList)) = (condsOf ((us.map (·.data.toList)).drop j)).map (cs ++ ·)) ∧
            Below w2.heap.size w2 wr ∧ wr.heap[w2.heap.size]? = some (.cells #[cv, .int .i64 vd] 64) ∧ OwnSl wr (w2.heap.size + 1) 72 3 condR cv cs) (fun jv _ => us.length - (intOf jv).toNat)
          case atStart => exact ⟨0, [], .slice none 0 0, rfl, by omega, rfl, by rw [List.drop_zero]; cases condsOf (us.map (·.data.toList)) <;> rfl, bel_alloc (Below.refl _ _) _, heap_last _ _, OwnSl.nil⟩
          case round =>
            obtain ⟨j, cs, cv, rfl, hj, hcl, hcs, hbw, hrb, hown⟩ := hrel
            have hul : us.length ≤ 4294967281 := by have : us.length + 1 ≤ ta.size + 1 := hwl; omega
            have hjb : j ≤ 4294967281 := by omega
            have hcb : cs.length ≤ 4294967281 := by omega
            have Hcl := Lib.hid hcl
            clear hcl
            have Hown := Lib.hid hown
            have Hbw := Lib.hid hbw
            have hszw := hbw.size
            clear hown hbw
            by_cases hlt : j < us.length
            · have hwd : wr.heap[w1.heap.size]? = some (.cells ((u0 :: us).map Value.string).toArray 9) := blk_below Hbl.out Hbw.out
              have hoff1 := Hoff.out (by omega)
              have hwc : wr.cell? ⟨w1.heap.size, off + j, none⟩ = some (.string us[j]) := by
                rw [cells_of hwd, hoff1, Nat.add_comm]
                simp [hlt]
              clear hwd hoff1
              obtain ⟨wo, rfl⟩ : ∃ wo : World, wo = wr := ⟨_, rfl⟩
              obtain ⟨u, hu⟩ : ∃ u : ByteArray, us[j] = u := ⟨_, rfl⟩
              rw [hu] at hwc
              have hus : u.size ≤ ta.size := Hwu.out u (by rw [← hu]; exact List.mem_cons_of_mem _ (List.getElem_mem _))
              have Hu := Lib.hid hu
              clear hu
              have Hlt : Hid (j < us.length) := Lib.hid hlt
              have hbad : Hid (condOf u.data.toList = none → readP s.data.toList = (⟨[], 0⟩, 1)) := fun hc => readP_none (by
                rw [hp.out, Hstep.out k, Hvd.out]
                have h1 : condsOf (us.map (·.data.toList)) = none := by
                  rw [hcs.out, condsOf_drop (by simpa using hlt)]
                  simp [Hu.out, hc]
                simp [h1])
              go_wp2_with fail
              go_loopw [18] (fun kv wr => ∃ k : Nat, kv = .int .i64 k ∧ k ≤ u.size ∧ (∀ i, i < k → ∀ b, u.data.toList[i]? = some b → opOf b = 0) ∧ Below wo.heap.size wo wr) (fun kv _ => u.size - (intOf kv).toNat)
              case atStart => exact ⟨0, rfl, by omega, fun i h => by omega, Below.refl _ _⟩
              case round =>
                obtain ⟨k, rfl, hk, hop, hbo⟩ := hrel
                have Hop := Lib.hid hop
                have Hbo := Lib.hid hbo
                have hszo := hbo.size
                clear hop hbo hwc
                have hom : wr.heap[w.heap.size + 3]? = some (.map omap 4) := blk_below (blk_below Hst2.out.om Hbw.out) Hbo.out
                by_cases hkl : k < u.size
                · have hkz : (k : Int) < (u.size : Int) := by omega
                  obtain ⟨b, hb⟩ : ∃ b : UInt8, u[k] = b := ⟨_, rfl⟩
                  have hbl' : u.data.toList[k]? = some b := by
                    rw [← hb]; exact Lib.data_getElem? u k hkl
                  obtain ⟨fo, hfo, hfo'⟩ := find_o b
                  have hz : ∀ W : World, (zeroValue 3).run Tryd.prog W = .ok (.int .i64 0) W := fun W => by kernel_rfl
                  have hlo := run_lookup_bare (P := Tryd.prog) (key := .int .u8 b.toNat) (t := 101) Tryd.underlying101 Tryd.underlying5 hom (hz _) rfl hfo
                  rw [hfo'] at hlo
                  clear hz hfo hfo' hom
                  have Hbl' := Lib.hid hbl'
                  clear hbl'
                  by_cases h0 : opOf b = 0
                  · have d3 : (opOf b == 0) = true := beq_iff_eq.2 h0
                    have H0 := Lib.hid h0
                    clear h0
                    go_wp2_with fail
                    go_roundw
                    case rel => exact ⟨k + 1, by go_num, by omega, fun i hi c hc => by
                      by_cases hik : i = k
                      · subst hik
                        rw [Hbl'.out] at hc
                        injection hc with hc
                        rw [← hc]; exact H0.out
                      · exact Hop.out i (by omega) c hc, Hbo.out⟩
                    case measure => simp [intOf]; omega
                  · have d3 : (opOf b == 0) = false := beq_eq_false_iff_ne.2 h0
                    have d4 : (k == u.size) = false := beq_eq_false_iff_ne.2 (by omega)
                    have d5 : ((k : Int) == (u.size : Int)) = false := beq_eq_false_iff_ne.2 (by omega)
                    have Hat : Hid (opAt u.data.toList = k) := opAt_spec _ k Hop.out (by show k ≤ u.size; omega) (fun c hc => by
                      rw [Hbl'.out] at hc
                      injection hc with hc
                      rw [← hc]; exact h0)
                    clear h0
                    have hfm : wr.heap[w.heap.size + 2]? = some (.map fmap 5) := blk_below (blk_below Hst2.out.fm Hbw.out) Hbo.out
                    obtain ⟨ff, hff, hff'⟩ := find_f (u.extract 0 k)
                    have hz : ∀ W : World, (zeroValue 3).run Tryd.prog W = .ok (.int .i64 0) W := fun W => by kernel_rfl
                    have hlf := run_lookup_ok (P := Tryd.prog) (key := .string (u.extract 0 k)) (t := 100) Tryd.underlying100 Tryd.underlying9 hfm (hz _) (by exact trivial) hff
                    have hfs : ff.isSome = (fieldOf (u.extract 0 k).data.toList).isSome := by
                      have := congrArg Option.isSome hff'
                      simpa using this
                    rw [hfs, hff', Lib.extract_from_zero] at hlf
                    clear hfm hff hff' hfs hz
                    have HLr := Lib.hid ((HL2.out.below Hbw.out).below Hbo.out)
                    have hkk : (k : Int) + 1 ≤ (u.size : Int) := by omega
                    have hco : Hid (condOf u.data.toList = match fieldOf (u.data.toList.take k) with
                      | none => none
                      | some f => if (wholeS (u.data.toList.drop (k + 1))).2 then some ⟨f, opOf b, (wholeS (u.data.toList.drop (k + 1))).1⟩ else none) := by
                      unfold condOf
                      rw [Hat.out, if_neg (by show k ≠ u.size; omega), List.getD_eq_getElem?_getD, Hbl'.out]
                      rfl
                    cases hfd : fieldOf (u.data.toList.take k) with
                    | none =>
                      rw [hfd] at hlf
                      simp only [Option.map_none, Option.getD_none, Option.isSome_none] at hlf
                      have hrd : Hid (readP s.data.toList = (⟨[], 0⟩, 1)) := hbad.out (by rw [hco.out, hfd])
                      clear hfd hco
                      go_wp2_with fail
                      refine (whole_any (u.extract (k + 1) u.size) wr HLr.out (by rw [ByteArray.size_extract]; omega)).mono ?_
                      rintro e w3 ⟨rfl, hb3⟩
                      have Hb3 := Lib.hid hb3
                      clear hb3
                      go_wp2_with fail
                      refine (bad_any 1 _).mono ?_
                      rintro e w7 ⟨rfl, hb7⟩
                      have hr7 := blk_below (blk_below (blk_below (blk_below Hst2.out.res Hbw.out) Hbo.out) Hb3.out) hb7
                      have hc7 := cells_of hr7
                      have hf7 := not_frozen hr7
                      have hr8 := set_at (o := 1) (v := .int .i64 0) (set_at (o := 0) (v := .slice none 0 0) hr7)
                      have hc8 := cells_of hr8
                      have Hb8 := Lib.hid (set_below (a := ⟨w.heap.size, 1, none⟩) (v := .int .i64 0) (set_below (a := ⟨w.heap.size, 0, none⟩) (v := .slice none 0 0) (bel_call (bel_call (bel_call (bel_call Hst2.out.bel Hbw.out) Hbo.out) Hb3.out) hb7) (Nat.le_refl _)) (Nat.le_refl _))
                      go_wp2
                      rw [hrd.out]
                      refine bodyPost_ret (v := .tuple #[polV (.slice none 0 0) 0, .int .i64 1]) ?_ rfl ⟨_, rfl, ⟨none, 0, rfl, Nat.le_refl _, by unfold maxLen; omega, fun _ => rfl, fun h => by cases h⟩, Hb8.out⟩
                      rw [results_cell_tmp rfl]
                      go_simp
                    | some fd =>
                      rw [hfd] at hlf
                      simp only [Option.map_some, Option.getD_some, Option.isSome_some] at hlf
                      have Hfd := Lib.hid hfd
                      clear hfd
                      go_wp2_with fail
                      refine (whole_any (u.extract (k + 1) u.size) wr HLr.out (by rw [ByteArray.size_extract]; omega)).mono ?_
                      rintro e w3 ⟨rfl, hb3⟩
                      have Hb3 := Lib.hid hb3
                      clear hb3
                      rw [Lib.extract_to_end]
                      rw [Hfd.out] at hco
                      obtain ⟨nn, hnn⟩ : ∃ nn : Int, (wholeS (u.data.toList.drop (k + 1))).1 = nn := ⟨_, rfl⟩
                      cases hgd : (wholeS (u.data.toList.drop (k + 1))).2 with
                      | false =>
                        have hrd : Hid (readP s.data.toList = (⟨[], 0⟩, 1)) := hbad.out (by rw [hco.out, hgd]; rfl)
                        clear hgd hco
                        go_wp2_with fail
                        refine (bad_any 1 _).mono ?_
                        rintro e w7 ⟨rfl, hb7⟩
                        have hr7 := blk_below (blk_below (blk_below (blk_below Hst2.out.res Hbw.out) Hbo.out) Hb3.out) hb7
                        have hc7 := cells_of hr7
                        have hf7 := not_frozen hr7
                        have hr8 := set_at (o := 1) (v := .int .i64 0) (set_at (o := 0) (v := .slice none 0 0) hr7)
                        have hc8 := cells_of hr8
                        have Hb8 := Lib.hid (set_below (a := ⟨w.heap.size, 1, none⟩) (v := .int .i64 0) (set_below (a := ⟨w.heap.size, 0, none⟩) (v := .slice none 0 0) (bel_call (bel_call (bel_call (bel_call Hst2.out.bel Hbw.out) Hbo.out) Hb3.out) hb7) (Nat.le_refl _)) (Nat.le_refl _))
                        go_wp2
                        rw [hrd.out]
                        refine bodyPost_ret (v := .tuple #[polV (.slice none 0 0) 0, .int .i64 1]) ?_ rfl ⟨_, rfl, ⟨none, 0, rfl, Nat.le_refl _, by unfold maxLen; omega, fun _ => rfl, fun h => by cases h⟩, Hb8.out⟩
                        rw [results_cell_tmp rfl]
                        go_simp
                      | true =>
                        have hc1 : Hid (condOf u.data.toList = some ⟨fd, opOf b, nn⟩) := by
                          have := hco.out
                          rw [hgd, hnn] at this
                          exact this
                        rw [hnn]
                        clear hgd hnn hco
                        go_wp2_with fail
                        have hk0 : (0 : Int) ≤ (k : Int) := by omega
                        have hbx3 : w3.cell? ⟨w2.heap.size, 0, none⟩ = some cv := by rw [cells_of (blk_below (blk_below hrb Hbo.out) Hb3.out)]; rfl
                        have hrb3 := blk_below (blk_below hrb Hbo.out) Hb3.out
                        have hom3 : w3.heap[w.heap.size + 3]? = some (.map omap 4) := blk_below (blk_below (blk_below Hst2.out.om Hbw.out) Hbo.out) Hb3.out
                        have hlk : ∀ W : World, W.heap[w.heap.size + 3]? = some (.map omap 4) → (Instr.lookup 101 (.map (some (w.heap.size + 3))) (.int .u8 b.toNat) false).run Tryd.prog W = .ok (.int .i64 (opOf b)) W := fun W hW => by
                          obtain ⟨fo, hfo, hfo'⟩ := find_o b
                          have := run_lookup_bare (P := Tryd.prog) (z := .int .i64 0) (key := .int .u8 b.toNat) (t := 101) Tryd.underlying101 Tryd.underlying5 hW (by kernel_rfl) rfl hfo
                          rw [hfo'] at this
                          exact this
                        have Hlk := Lib.hid hlk
                        clear hlk
                        obtain ⟨rows, hro, hrw⟩ := (Hown.out.below Hbo.out).below Hb3.out
                        obtain ⟨i0, hi0, hz0, hz1, hz2⟩ := info_parts infoCond
                        have hlt3 : w2.heap.size < w3.heap.size := (Array.getElem?_eq_some_iff.1 hrb3).1
                        have ho3 := Hown.out.block
                        have hs3 := Hb3.out.size
                        have hso := Hbo.out.size
                        have hkl' : (k : Int) < (u.size : Int) := by omega
                        have hnb : ∀ g, cv.ownBlock = some g → g ≠ w2.heap.size := fun g e => by have := ho3 _ e; omega
                        have hnm : some (w.heap.size + 3) ≠ cv.ownBlock := fun e => by have := ho3 _ e.symm; omega
                        have Hro := Lib.hid hro
                        have Hhi := Lib.hid hi0
                        have Hrw := Lib.hid hrw
                        have Hom3 := Lib.hid hom3
                        have Hrb3 := Lib.hid hrb3
                        clear hro hi0 hrw hom3 hrb3 hbx3 ho3
                        refine wp_region_app w2.heap.size 64 #[cv, .int .i64 vd] 0 (w2.heap.size + 1) 72 3 cv cs.length rows.flatten 1 [.int .i64 fd, .int .i64 (opOf b), .int .i64 nn] 11 13 (by kernel_rfl) (by kernel_rfl) Hrb3.out Hrw.out (by omega) (Array.getElem?_eq_some_iff.1 Hrb3.out).1 _ rfl
                          [ex (.pointer (some ⟨w2.heap.size, 0, none⟩)), ex cv, ex (.int .i64 fd), ex (.map (some (w.heap.size + 3))), ex (.string u), ex (.int .i64 k), ex (.int .u8 b.toNat), ex (.int .i64 (opOf b)), ex (.int .i64 nn), ex (.agg #[.int .i64 fd, .int .i64 (opOf b), .int .i64 nn]), pr (NewP w3.heap.size 72 1 #[.int .i64 fd, .int .i64 (opOf b), .int .i64 nn]), pr (OwnP (w2.heap.size + 1) 72 3 (cs.length + 1) (rows.flatten ++ [.int .i64 fd, .int .i64 (opOf b), .int .i64 nn])), ex (.pointer (some ⟨w2.heap.size, 0, none⟩)), ex undef] ?_
                          ⟨.inl ⟨_, rfl⟩, .inl ⟨_, rfl⟩, .inl ⟨_, rfl⟩, .inl ⟨_, rfl⟩, .inl ⟨_, rfl⟩, .inl ⟨_, rfl⟩, .inl ⟨_, rfl⟩, .inl ⟨_, rfl⟩, .inl ⟨_, rfl⟩, .inl ⟨_, rfl⟩, .inr (.inl rfl), .inr (.inr ⟨rfl, rfl⟩), .inl ⟨_, rfl⟩, .inl ⟨_, rfl⟩, trivial⟩
                        (refine walkP_ex (fun K hK => ?_); refine ⟨fun done W hI h0 hd hn hf R hR => ?_, ?_⟩; (clear h0 hd hn hf; go_simp; exact hR _ _ (hI.step (Below.refl _ _) (by decide) (by decide)) (AppT.of_below (Below.refl _ _)) rfl); (go_simp; refine hK _ ?_; clear hK K))
                        (refine walkP_ex (fun K hK => ?_); refine ⟨fun done W hI h0 hd hn hf R hR => ?_, ?_⟩; (have h13 : done 13 = false := hn 13 (by decide); have hcb := cells_of (hI.before h13); clear h0 hd hn hf; go_simp; exact hR _ _ (hI.step (Below.refl _ _) (by decide) (by decide)) (AppT.of_below (Below.refl _ _)) rfl); (go_simp; refine hK _ ?_; clear hK K))
                        (refine walkP_ex (fun K hK => ?_); refine ⟨fun done W hI h0 hd hn hf R hR => ?_, ?_⟩; (clear h0 hd hn hf; go_simp; exact hR _ _ (hI.step (Below.refl _ _) (by decide) (by decide)) (AppT.of_below (Below.refl _ _)) rfl); (go_simp; refine hK _ ?_; clear hK K))
                        (refine walkP_ex (fun K hK => ?_); refine ⟨fun done W hI h0 hd hn hf R hR => ?_, ?_⟩; (clear h0 hd hn hf; go_simp; exact hR _ _ (hI.step (Below.refl _ _) (by decide) (by decide)) (AppT.of_below (Below.refl _ _)) rfl); (go_simp; refine hK _ ?_; clear hK K))
                        (refine walkP_ex (fun K hK => ?_); refine ⟨fun done W hI h0 hd hn hf R hR => ?_, ?_⟩; (clear h0 hd hn hf; go_simp; exact hR _ _ (hI.step (Below.refl _ _) (by decide) (by decide)) (AppT.of_below (Below.refl _ _)) rfl); (go_simp; refine hK _ ?_; clear hK K))
                        (refine walkP_ex (fun K hK => ?_); refine ⟨fun done W hI h0 hd hn hf R hR => ?_, ?_⟩; (clear h0 hd hn hf; go_simp; exact hR _ _ (hI.step (Below.refl _ _) (by decide) (by decide)) (AppT.of_below (Below.refl _ _)) rfl); (go_simp; refine hK _ ?_; clear hK K))
                        (refine walkP_ex (fun K hK => ?_); refine ⟨fun done W hI h0 hd hn hf R hR => ?_, ?_⟩; (clear h0 hd hn hf; go_simp; exact hR _ _ (hI.step (Below.refl _ _) (by decide) (by decide)) (AppT.of_below (Below.refl _ _)) rfl); (go_simp; refine hK _ ?_; clear hK K))
                        (refine walkP_ex (fun K hK => ?_); refine ⟨fun done W hI h0 hd hn hf R hR => ?_, ?_⟩; (have hlw := Hlk.out W ((hI.blk (w.heap.size + 3) (by omega) (by omega) hnm).trans Hom3.out); clear h0 hd hn hf; go_simp; exact hR _ _ (hI.step (Below.refl _ _) (by decide) (by decide)) (AppT.of_below (Below.refl _ _)) rfl); (go_simp; refine hK _ ?_; clear hK K))
                        (refine walkP_ex (fun K hK => ?_); refine ⟨fun done W hI h0 hd hn hf R hR => ?_, ?_⟩; (clear h0 hd hn hf; go_simp; exact hR _ _ (hI.step (Below.refl _ _) (by decide) (by decide)) (AppT.of_below (Below.refl _ _)) rfl); (go_simp; refine hK _ ?_; clear hK K))
                        (refine walkP_ex (fun K hK => ?_); refine ⟨fun done W hI h0 hd hn hf R hR => ?_, ?_⟩; (clear h0 hd hn hf; go_simp; exact hR _ _ (hI.step (Below.refl _ _) (by decide) (by decide)) (AppT.of_below (Below.refl _ _)) rfl); (go_simp; refine hK _ ?_; clear hK K))
                        (refine walkP_pr (fun K hK => ?_); refine ⟨fun done W hI h0 hd hn hf R hR => ?_, fun v10 => ?_⟩; (clear h0 hd hn hf; go_simp; exact hR _ _ (hI.step (bel_alloc (Below.refl _ _) _) (by decide) (by decide)) (AppT.of_below (bel_alloc (Below.refl _ _) _)) ⟨_, rfl, hI.size, heap_last _ _⟩); (go_simp; refine hK _ _ ?_; clear hK K))
                        (refine walkP_pr (fun K hK => ?_); refine ⟨fun done W hI h0 hd hn hf R hR => ?_, fun v11 => ?_⟩; (have h10 : NewP w3.heap.size 72 1 #[.int .i64 fd, .int .i64 (opOf b), .int .i64 nn] v10 W := hf 10 (by decide); obtain ⟨bn, rfl, hbn, hcn⟩ := h10; refine ob_plain rfl ?_; refine gives_append (.tmp 123) (.tmp 132) 62 rfl (w2.heap.size + 1) 72 i0 _ 3 24 Tryd.underlying62 Hhi.out hz0 hz1 hz2 rfl (by omega) cv cs.length rows.flatten (by rfl) (hI.own h0) ⟨bn, 0, none⟩ 1 1 [.int .i64 fd, .int .i64 (opOf b), .int .i64 nn] (by rfl) (by rfl) (World.news_of_block hcn) (by simp [Value.oneCell']) (by omega) (by unfold maxLen; omega) (by omega) (by have := hI.size; omega) (fun v' w' h1 h2 => hR _ _ (hI.appended (hn 13 (by decide)) (by decide) hnb h2 (by omega)) (AppT.of_grown h2) h1)); (go_simp; refine hK _ _ ?_; clear hK K))
                        (refine walkP_ex (fun K hK => ?_); refine ⟨fun done W hI h0 hd hn hf R hR => ?_, ?_⟩; (clear h0 hd hn hf; go_simp; exact hR _ _ (hI.step (Below.refl _ _) (by decide) (by decide)) (AppT.of_below (Below.refl _ _)) rfl); (go_simp; refine hK _ ?_; clear hK K))
                        (refine walkP_ex (fun K hK => ?_); refine ⟨fun done W hI h0 hd hn hf R hR => ?_, ?_⟩; (have h11 : OwnP (w2.heap.size + 1) 72 3 (cs.length + 1) (rows.flatten ++ [.int .i64 fd, .int .i64 (opOf b), .int .i64 nn]) v11 W := hf 11 (by decide); have hda : done 11 = true := hd 11 (by decide); have hst := hI.stored (v := v11) h0 hda (by decide) h11 (by omega); obtain ⟨gv, cpv, rfl, _, _⟩ := World.ownsRow.form h11 (by omega); have hcb := cells_of (hI.before h0); have hfb := not_frozen (hI.before h0); clear hd hn hf; go_simp; exact hR _ _ hst AppT.of_store rfl); (go_simp; refine hK _ ?_; clear hK K))
                        intro done W hdone hI hF
                        obtain ⟨v', hbv, hov⟩ := hI.after (hdone 13 (by decide))
                        have hbW : Below w2.heap.size w2 W := hI.below (bel_call (bel_call Hbw.out Hbo.out) Hb3.out) (Nat.le_refl _) (fun g hg => by have := Hown.out.block g hg; omega) (by omega)
                        have Hbv := Lib.hid hbv
                        have Hov := Lib.hid hov
                        have HbW := Lib.hid hbW
                        clear hI hF hdone hbv hov hbW
                        go_wp2
                        go_roundw
                        case rel => exact ⟨j + 1, cs ++ [⟨fd, opOf b, nn⟩], v', by go_num, by have := Hlt.out; omega, by simp [Hcl.out], by
                            show condsOf _ = _
                            rw [hcs.out, condsOf_drop (by simpa using hlt)]
                            simp only [List.getElem_map, Hu.out, hc1.out]
                            cases condsOf (List.drop (j + 1) (us.map (·.data.toList))) <;> simp, HbW.out, Hbv.out,
                          ⟨rows ++ [[.int .i64 fd, .int .i64 (opOf b), .int .i64 nn]], Hro.out.app (RowsOf.cons (sz := 3) (R := condR) (x := (⟨fd, opOf b, nn⟩ : TCond)) (r := [.int .i64 fd, .int .i64 (opOf b), .int .i64 nn]) RowsOf.nil rfl rfl), by
                            have := Hov.out
                            simpa using this⟩⟩
                        case measure => have := Hlt.out; simp [intOf]; omega
                · obtain rfl : k = u.size := by omega
                  have hrd : Hid (readP s.data.toList = (⟨[], 0⟩, 1)) := hbad.out (by
                    unfold condOf
                    rw [if_pos (show opAt u.data.toList = u.data.toList.length from opAt_spec _ u.data.toList.length Hop.out (Nat.le_refl _) (fun c hc => by simp at hc))])
                  clear hom
                  go_wp2_with fail
                  refine (bad_any 1 _).mono ?_
                  rintro e w7 ⟨rfl, hb7⟩
                  have hr7 := blk_below (blk_below (blk_below Hst2.out.res Hbw.out) Hbo.out) hb7
                  have hc7 := cells_of hr7
                  have hf7 := not_frozen hr7
                  have hr8 := set_at (o := 1) (v := .int .i64 0) (set_at (o := 0) (v := .slice none 0 0) hr7)
                  have hc8 := cells_of hr8
                  have Hb8 := Lib.hid (set_below (a := ⟨w.heap.size, 1, none⟩) (v := .int .i64 0) (set_below (a := ⟨w.heap.size, 0, none⟩) (v := .slice none 0 0) (bel_call (bel_call (bel_call Hst2.out.bel Hbw.out) Hbo.out) hb7) (Nat.le_refl _)) (Nat.le_refl _))
                  go_wp2
                  rw [hrd.out]
                  refine bodyPost_ret (v := .tuple #[polV (.slice none 0 0) 0, .int .i64 1]) ?_ rfl ⟨_, rfl, ⟨none, 0, rfl, Nat.le_refl _, by unfold maxLen; omega, fun _ => rfl, fun h => by cases h⟩, Hb8.out⟩
                  rw [results_cell_tmp rfl]
                  go_simp
            · obtain rfl : j = us.length := by omega
              have hcs1 : Hid (condsOf (us.map (·.data.toList)) = some cs) := by
                show condsOf _ = _
                rw [hcs.out, List.drop_of_length_le (by simp)]
                simp [condsOf]
              have hpc := blk_below Hst2.out.pc Hbw.out
              have hcp := cells_of hpc
              have hfp := not_frozen hpc
              have hcr := cells_of hrb
              obtain ⟨ca, cc, hcv, _⟩ := Sl.form (Hown.out.sl (D := fun _ => True) fun _ _ => trivial)
              obtain ⟨rows, hro, hrw⟩ := (Hst2.out.below Hbw.out).own
              obtain ⟨i0, hi0, hz0, hz1, hz2⟩ := info_parts infoRule
              have hpo : ∀ g, pv.ownBlock = some g → w.heap.size + 5 ≤ g := fun g hg => (hrw.lt g hg).1
              have hpn : some (w.heap.size + 4) ≠ pv.ownBlock := fun e => by have := hpo _ e.symm; omega
              have h1 : ∀ u ∈ [cv, Value.int .i64 vd], u.oneCell' = true := by rw [hcv]; simp [Value.oneCell']
              have hsr' : tr.size < t.size := hsr trivial
              have Hro := Lib.hid hro
              have Hrw := Lib.hid hrw
              have Hpc := Lib.hid hpc
              have Hhi := Lib.hid hi0
              have H1 := Lib.hid h1
              have Hrb := Lib.hid hrb
              clear hro hrw hpc hi0 h1 hcv hsr hrb
              go_wp2_with (at_builtin; refine wpList_append_lies _ rfl _ _ _ rfl (w.heap.size + 5) 64 i0 _ 2 32 Tryd.underlying22 Hhi.out hz0 hz1 hz2 rfl (by decide) pv rs.length rows.flatten rfl (Hrw.out.alloc _) ⟨wr.heap.size, 0, none⟩ 1 1 [cv, .int .i64 vd] rfl rfl (World.news_of_block (cs := #[cv, .int .i64 vd]) (blk_at rfl)) H1.out (by omega) (by unfold maxLen; omega) (by omega) (by simp; omega) (wr.heap.size + 1) (by simp) ?_; intro gg cap w4 hown4 hgrow hat hlt4; have hb4 := (hgrow.block (w.heap.size + 4) (by simp; omega) hpn).trans (blk_old Hpc.out); have hc4 := cells_of hb4; have hf4 := not_frozen hb4; have Hown4 := Lib.hid hown4; have Hgrow := Lib.hid hgrow; have Hat := Lib.hid hat; clear hown4 hgrow hat hb4)
              go_roundw
              case rel => exact ⟨k, tr, rs ++ [⟨cs, vd⟩], .slice (some ⟨gg, 0, none⟩) (rs.length + 1) cap, rfl, by omega, by simp; omega, by
                  show pread _ _ = _
                  rw [hp.out, Hstep.out k, Hvd.out, hcs1.out]
                  cases pread k tr.data.toList <;> simp, rd_step Hst2.out Hbw.out Hown.out Hgrow.out Hown4.out Hro.out Hat.out⟩
              case measure => simp; omega
end Go.Proofs.YthkgjohhbdipcaaDoor
namespace Go.Proofs.YthkgjohhbdipcaaDoor
open Go.RowKit

set_option maxHeartbeats 1000000 in
theorem made_any (w : World) (hL : Laid w) : Calls Tryd.prog 36 #[] w fun e w' => ∃ v, e = .returned (polV v 4) ∧ RdRules w' (fun b => w.heap.size ≤ b) v madeP.rules ∧ Below w.heap.size w w' := by
  have HL := Lib.hid (hL.below (bel_alloc (Below.refl _ _) (.cells #[.slice none 0 0, .int .i64 0] 24)))
  clear hL
  go_enter Tryd.func36, Tryd.ntmps36
  go_wp2_with fail
  refine (read_walk ⟨writtenL.toArray⟩ _ HL.out (by decide) (by decide)).mono ?_
  rintro e w1 ⟨v, rfl, hr, hb⟩
  have hrm : readP (⟨writtenL.toArray⟩ : ByteArray).data.toList = (madeP, 0) := read_made
  rw [hrm] at hr
  rw [hrm]
  have hd : (madeP, (0 : Int)).1.dflt = 4 := rfl
  rw [hd]
  have hr1 := blk_below (heap_last w (.cells #[.slice none 0 0, .int .i64 0] 24)) hb
  have Hr := Lib.hid hr
  have Hb := Lib.hid (bel_call (bel_alloc (Below.refl _ w) _) hb)
  obtain ⟨a, c, rfl, _⟩ := Sl.form hr
  have hsz := hb.size
  have hr2 : (w1.alloc (.cells #[.slice a madeP.rules.length c, .int .i64 4] 24)).heap[w.heap.size]? = some (.cells #[.slice none 0 0, .int .i64 0] 24) := blk_old hr1
  have hc2 := cells_of hr2
  have hf2 := not_frozen hr2
  have hr4 := set_at (o := 1) (v := .int .i64 4) (set_at (o := 0) (v := .slice a madeP.rules.length c) hr2)
  have hc4 := cells_of hr4
  have Hb4 := Lib.hid (set_below (a := ⟨w.heap.size, 1, none⟩) (v := .int .i64 4) (set_below (a := ⟨w.heap.size, 0, none⟩) (v := .slice a madeP.rules.length c) (bel_alloc Hb.out (.cells #[.slice a madeP.rules.length c, .int .i64 4] 24)) (Nat.le_refl _)) (Nat.le_refl _))
  have HR4 : Hid (RdRules (((w1.alloc (.cells #[.slice a madeP.rules.length c, .int .i64 4] 24)).setCell ⟨w.heap.size, 0, none⟩ (.slice a madeP.rules.length c)).setCell ⟨w.heap.size, 1, none⟩ (.int .i64 4)) (fun b => w.heap.size ≤ b) (.slice a madeP.rules.length c) madeP.rules) :=
    RdRules.keep (Hr.out.below (bel_alloc (Below.refl _ _) _)) (fun b h _ => by have : (w.alloc _).heap.size ≤ b := h; simp at this; show w.heap.size ≤ b; omega) (fun b hb _ => by
      have h1 : (w.alloc _).heap.size ≤ b := hb
      simp at h1
      rw [set_other (by show b ≠ w.heap.size; omega), set_other (by show b ≠ w.heap.size; omega)]) (by rw [set_size, set_size]; exact Nat.le_refl _)
  clear hr hb hrm hd hr1 hr2
  go_wp2
  refine bodyPost_ret (v := polV (.slice a madeP.rules.length c) 4) ?_ rfl ⟨_, rfl, HR4.out, Hb4.out⟩
  simp [results, Tryd.results36, go_sem, hc4]

end Go.Proofs.YthkgjohhbdipcaaDoor
namespace Go.Proofs.YthkgjohhbdipcaaDoor
open Go.RowKit

section
variable {P : Program} {ops : Array Oper} {B : Nat} {w0 : World} {Q : Act → World → Prop} {o : Oper} {l : List Oper} {ss : List Spec} {a : Act} {fs : List (World → Prop)} {F : World → Prop}
def obB (P : Program) (ops : Array Oper) (B : Nat) (w0 : World) (s : Spec) (o : Oper) (a : Act) (fs : List (World → Prop)) : Prop :=
  ∀ (W : World), Cls B w0 W → depFacts (prune o) fs W → ∀ R : Value → World → Prop, (∀ (v : Value) (W' : World), Below W.heap.size W W' → s.holds v W' → R v W') → if Region.wanted o (yielded ops a.tmps) then gives P o a W R else R undef W
def walkB (P : Program) (ops : Array Oper) (B : Nat) (w0 : World) (Q : Act → World → Prop) : List Oper → List Spec → Act → List (World → Prop) → (World → Prop) → Prop
  | [], _, a, _, F => ∀ (W : World), Cls B w0 W → F W → Q a W
  | _ :: _, [], _, _, _ => False
  | o :: l, s :: ss, a, fs, F => obB P ops B w0 s o a fs ∧
      match s.exact? with
      | some x => walkB P ops B w0 Q l ss (a.put o.dst x) (fs ++ [fun _ : World => True]) F
      | none => ∀ v : Value, walkB P ops B w0 Q l ss (a.put o.dst v) (fs ++ [s.pred v]) (fun w : World => F w ∧ s.pred v w)
theorem walkB_ex {x : Value} (h : ∀ K : Act → Prop, (∀ a', walkB P ops B w0 Q l ss a' (fs ++ [fun _ : World => True]) F → K a') → obB P ops B w0 (ex x) o a fs ∧ K (a.put o.dst x)) : walkB P ops B w0 Q (o :: l) (ex x :: ss) a fs F := h _ (fun _ h => h)
theorem walkB_pr {p : Value → World → Prop} (h : ∀ K : Value → Act → Prop, (∀ v a', walkB P ops B w0 Q l ss a' (fs ++ [p v]) (fun w : World => F w ∧ p v w) → K v a') → obB P ops B w0 (pr p) o a fs ∧ ∀ v, K v (a.put o.dst v)) : walkB P ops B w0 Q (o :: l) (pr p :: ss) a fs F := h _ (fun _ _ h => h)
theorem walkB_P {bs : List (List Nat)} {n : Nat} : ∀ (l : List Oper) (ss : List Spec) (i : Nat) (a : Act) (fs : List (World → Prop)) (F : World → Prop), walkB P ops B w0 Q l ss a fs F → walkP P ops (fun _ => Cls B w0) TB bs Q n l ss i a fs F
  | [], _, _, _, _, _, h => fun _ W _ hC hF => h W hC hF
  | _ :: _, [], _, _, _, _, h => h.elim
  | o :: l, s :: ss, i, a, fs, F, h => by
    obtain ⟨h1, h2⟩ := h
    refine ⟨fun done W hI _ _ _ hf R hR => h1 W hI hf R fun v W' hb hs => hR v W' (hI.step hb) hb hs, ?_⟩
    revert h2
    show (match s.exact? with | some x => _ | none => _) → (match s.exact? with | some x => _ | none => _)
    cases s.exact? with
    | some x => exact fun h2 => walkB_P l ss (i + 1) _ _ _ h2
    | none => exact fun h2 v => walkB_P l ss (i + 1) _ _ _ (h2 v)
def stableP (p : Value → World → Prop) : Prop := ∀ v w w', Below w.heap.size w w' → p v w → p v w'
def stables : List Spec → Prop
  | [] => True
  | s :: r => ((∃ x, s = ex x) ∨ ∃ p, s = pr p ∧ stableP p) ∧ stables r
theorem stables_get : ∀ (ss : List Spec), stables ss → ∀ s ∈ ss, stableB s
  | [], _, s, h => by cases h
  | s0 :: r, h, s, hm => by
    rcases List.mem_cons.1 hm with rfl | hm
    · rcases h.1 with ⟨x, rfl⟩ | ⟨p, rfl, hp⟩
      · exact stable_ex x
      · exact hp
    · exact stables_get r h.2 s hm
/-- THE LAW. -/
theorem wp_region_B {Q : Exit → Act → World → Prop} {id : Nat} {w : World} (ss : List Spec) (B : Nat) (hBw : B ≤ w.heap.size) (hm : P.follows .mixedOrders = true) (hB : monoB2 (l.map prune) a.tmps.size = true)
    (hst : stables ss) (h : walkB P l.toArray B w (Q .normal) l ss a [] (fun _ => True)) : (Code.region id l.toArray true).wp P Q a w :=
  wp_region_done3 ss (fun _ => Cls B w) TB hm hB (fun _ _ s _ hk v _ w1 w2 _ hT hf => stables_get ss hst s (List.mem_of_getElem? hk) v w1 w2 hT hf) ⟨hBw, (Below.refl _ _).drew⟩ _ rfl (walkB_P l ss 0 a [] _ h)
end
end Go.Proofs.YthkgjohhbdipcaaDoor
namespace Go.Proofs.YthkgjohhbdipcaaDoor
open Go.RowKit
attribute [local go_sem] gives givesUpon

theorem wd1 : textE writtenL = (madeP, 0) := by decide +kernel
theorem wd2 : textE [107, 105, 108, 108, 32, 110, 114, 61, 51] = (⟨[], 0⟩, 1) := by decide +kernel
theorem wd3 : printE madeP = (writtenL, 0) := by decide +kernel
theorem wd_str : ((bsL writtenL).toList == [107, 105, 108, 108, 32, 110, 114, 61, 51, 32, 97, 60, 53, 59, 108, 111, 103, 32, 107, 105, 110, 100, 33, 48, 59, 97, 108, 108, 111, 119]) = true := by rw [ByteArray.toList_eq]; decide
theorem madeP_stable : stableP (fun v W => ∃ u, v = polV u 4 ∧ RdRules W (fun _ => True) u madeP.rules) := fun _ _ _ hb ⟨u, h1, h2⟩ => ⟨u, h1, RdRules.below h2 hb⟩
set_option maxRecDepth 100000 in
set_option maxHeartbeats 16000000 in
theorem worded_walk (w : World) (hL : Laid w) : Calls Tryd.prog 8 #[] w fun e w' => e = .returned (.bool true) ∧ Below w.heap.size w w' := by
  have HL := Lib.hid hL
  clear hL
  have hm : madeP.rules.length = 2 := rfl
  go_enter Tryd.func8, Tryd.ntmps8
  go_wp2_with fail
  refine (parse_any writtenL _ HL.out).mono ?_
  rw [wd1]
  rintro e w1 ⟨v1, rfl, hr1, hb1⟩
  have Hb1 := Lib.hid hb1
  have HP1 := Lib.hid (rules_true hr1)
  obtain ⟨a1, c1, rfl, _⟩ := Sl.form hr1
  clear hr1 hb1
  rw [hm] at HP1
  have HX1 := Lib.hid (heap_last w1 (.cells #[.slice a1 2 c1, .int .i64 4] 24))
  have HA1 := Lib.hid (bel_alloc (Below.refl w1.heap.size w1) (.cells #[.slice a1 2 c1, .int .i64 4] 24))
  have HL1 := Lib.hid (HL.out.below (bel_call Hb1.out HA1.out))
  dsimp only
  go_wp2_with fail
  refine (made_any _ HL1.out).mono ?_
  rintro e w2 ⟨v2, rfl, hr2, hb2⟩
  have Hb2 := Lib.hid (bel_call (bel_call Hb1.out HA1.out) hb2)
  have HX2 := Lib.hid (blk_below HX1.out hb2)
  have HP2 := Lib.hid (RdRules.below (RdRules.below HP1.out HA1.out) hb2)
  have HR2 := Lib.hid (rules_true hr2)
  clear hr2 hb2
  go_wp2_with fail
  refine (tprint_any v2 madeP _ _ HR2.out (HL.out.below Hb2.out)).mono ?_
  rw [wd3]
  rintro e w3 ⟨rfl, hb3⟩
  have Hb3 := Lib.hid (bel_call Hb2.out hb3)
  have HX3 := Lib.hid (blk_below HX2.out hb3)
  have HP3 := Lib.hid (RdRules.below HP2.out hb3)
  clear hb3
  dsimp only
  go_wp2_with fail
  refine (parse_any [107, 105, 108, 108, 32, 110, 114, 61, 51] _ (HL.out.below Hb3.out)).mono ?_
  rw [wd2]
  rintro e w4 ⟨v4, rfl, hr4, hb4⟩
  obtain ⟨a4, c4, rfl, _⟩ := Sl.form hr4
  have HA4 := Lib.hid (bel_alloc (Below.refl w4.heap.size w4) (.cells #[.slice a4 0 c4, .int .i64 0] 24))
  have HB4 := Lib.hid (bel_call (bel_call Hb3.out hb4) HA4.out)
  have HX4 := Lib.hid (blk_below (blk_below HX3.out hb4) HA4.out)
  have HP4 := Lib.hid (RdRules.below (RdRules.below HP3.out hb4) HA4.out)
  clear hr4 hb4
  dsimp only
  go_wp2_with fail
  revert HB4 HX4 HP4
  generalize (w4.alloc (.cells #[.slice a4 0 c4, .int .i64 0] 24)) = w5
  intro HB HX HP
  refine wp_region_B [ex (.int .i64 0), ex (.bool true), ex (.bool true), ex (.int .i64 0), ex (.bool true), ex (.bool true), ex (.bool true), ex (.int .i64 1), ex (.bool true), ex (.bool true), ex (.bool true), ex (.string (bsL writtenL)), ex (.bool true), ex (.bool true), ex (.bool true), ex (polV (.slice a1 2 c1) 4), pr (fun v W => ∃ u, v = polV u 4 ∧ RdRules W (fun _ => True) u madeP.rules), ex (.bool true), ex (.bool true), ex (.bool true), ex (.pointer (some ⟨w1.heap.size, 0, none⟩)), ex (.slice a1 2 c1), ex (.int .i64 2), ex (.bool true), ex (.bool true), ex (.bool true)] _ (Nat.le_refl _) (by kernel_rfl) (by kernel_rfl) ⟨.inl ⟨_, rfl⟩, .inl ⟨_, rfl⟩, .inl ⟨_, rfl⟩, .inl ⟨_, rfl⟩, .inl ⟨_, rfl⟩, .inl ⟨_, rfl⟩, .inl ⟨_, rfl⟩, .inl ⟨_, rfl⟩, .inl ⟨_, rfl⟩, .inl ⟨_, rfl⟩, .inl ⟨_, rfl⟩, .inl ⟨_, rfl⟩, .inl ⟨_, rfl⟩, .inl ⟨_, rfl⟩, .inl ⟨_, rfl⟩, .inl ⟨_, rfl⟩, .inr ⟨_, rfl, madeP_stable⟩, .inl ⟨_, rfl⟩, .inl ⟨_, rfl⟩, .inl ⟨_, rfl⟩, .inl ⟨_, rfl⟩, .inl ⟨_, rfl⟩, .inl ⟨_, rfl⟩, .inl ⟨_, rfl⟩, .inl ⟨_, rfl⟩, .inl ⟨_, rfl⟩, trivial⟩ ?_
  (refine walkB_ex (fun K hK => ?_); refine ⟨fun W hC hd R hR => ?_, ?_⟩; (have hqb := cells_of (blk_below HX.out hC.2); clear hd; go_simp; exact hR _ _ (Below.refl _ _) rfl); (go_simp; refine hK _ ?_; clear hK K))
  (refine walkB_ex (fun K hK => ?_); refine ⟨fun W hC hd R hR => ?_, ?_⟩; (have hqb := cells_of (blk_below HX.out hC.2); clear hd; go_simp; exact hR _ _ (Below.refl _ _) rfl); (go_simp; refine hK _ ?_; clear hK K))
  (refine walkB_ex (fun K hK => ?_); refine ⟨fun W hC hd R hR => ?_, ?_⟩; (have hqb := cells_of (blk_below HX.out hC.2); clear hd; go_simp; exact hR _ _ (Below.refl _ _) rfl); (go_simp; refine hK _ ?_; clear hK K))
  (refine walkB_ex (fun K hK => ?_); refine ⟨fun W hC hd R hR => ?_, ?_⟩; (have hqb := cells_of (blk_below HX.out hC.2); clear hd; go_simp; exact hR _ _ (Below.refl _ _) rfl); (go_simp; refine hK _ ?_; clear hK K))
  (refine walkB_ex (fun K hK => ?_); refine ⟨fun W hC hd R hR => ?_, ?_⟩; (have hqb := cells_of (blk_below HX.out hC.2); clear hd; go_simp; exact hR _ _ (Below.refl _ _) rfl); (go_simp; refine hK _ ?_; clear hK K))
  (refine walkB_ex (fun K hK => ?_); refine ⟨fun W hC hd R hR => ?_, ?_⟩; (have hqb := cells_of (blk_below HX.out hC.2); clear hd; go_simp; exact hR _ _ (Below.refl _ _) rfl); (go_simp; refine hK _ ?_; clear hK K))
  (refine walkB_ex (fun K hK => ?_); refine ⟨fun W hC hd R hR => ?_, ?_⟩; (have hqb := cells_of (blk_below HX.out hC.2); clear hd; go_simp; exact hR _ _ (Below.refl _ _) rfl); (go_simp; refine hK _ ?_; clear hK K))
  (refine walkB_ex (fun K hK => ?_); refine ⟨fun W hC hd R hR => ?_, ?_⟩; (have hqb := cells_of (blk_below HX.out hC.2); clear hd; go_simp; exact hR _ _ (Below.refl _ _) rfl); (go_simp; refine hK _ ?_; clear hK K))
  (refine walkB_ex (fun K hK => ?_); refine ⟨fun W hC hd R hR => ?_, ?_⟩; (have hqb := cells_of (blk_below HX.out hC.2); clear hd; go_simp; exact hR _ _ (Below.refl _ _) rfl); (go_simp; refine hK _ ?_; clear hK K))
  (refine walkB_ex (fun K hK => ?_); refine ⟨fun W hC hd R hR => ?_, ?_⟩; (have hqb := cells_of (blk_below HX.out hC.2); clear hd; go_simp; exact hR _ _ (Below.refl _ _) rfl); (go_simp; refine hK _ ?_; clear hK K))
  (refine walkB_ex (fun K hK => ?_); refine ⟨fun W hC hd R hR => ?_, ?_⟩; (have hqb := cells_of (blk_below HX.out hC.2); clear hd; go_simp; exact hR _ _ (Below.refl _ _) rfl); (go_simp; refine hK _ ?_; clear hK K))
  (refine walkB_ex (fun K hK => ?_); refine ⟨fun W hC hd R hR => ?_, ?_⟩; (have hqb := cells_of (blk_below HX.out hC.2); clear hd; go_simp; exact hR _ _ (Below.refl _ _) rfl); (go_simp; refine hK _ ?_; clear hK K))
  (refine walkB_ex (fun K hK => ?_); refine ⟨fun W hC hd R hR => ?_, ?_⟩; (have hqb := cells_of (blk_below HX.out hC.2); have hws := wd_str; clear hd; go_simp; exact hR _ _ (Below.refl _ _) rfl); (go_simp; refine hK _ ?_; clear hK K))
  (refine walkB_ex (fun K hK => ?_); refine ⟨fun W hC hd R hR => ?_, ?_⟩; (have hqb := cells_of (blk_below HX.out hC.2); clear hd; go_simp; exact hR _ _ (Below.refl _ _) rfl); (go_simp; refine hK _ ?_; clear hK K))
  (refine walkB_ex (fun K hK => ?_); refine ⟨fun W hC hd R hR => ?_, ?_⟩; (have hqb := cells_of (blk_below HX.out hC.2); clear hd; go_simp; exact hR _ _ (Below.refl _ _) rfl); (go_simp; refine hK _ ?_; clear hK K))
  (refine walkB_ex (fun K hK => ?_); refine ⟨fun W hC hd R hR => ?_, ?_⟩; (have hqb := cells_of (blk_below HX.out hC.2); clear hd; go_simp; exact hR _ _ (Below.refl _ _) rfl); (go_simp; refine hK _ ?_; clear hK K))
  (refine walkB_pr (fun K hK => ?_); refine ⟨fun W hC hd R hR => ?_, fun v16 => ?_⟩; (clear hd; have HLW := Lib.hid (HL.out.below (bel_call HB.out hC.2)); go_simp; go_at_call 36; refine (made_any _ HLW.out).mono ?_; rintro e w9 ⟨v9, rfl, hr9, hb9⟩; exact ⟨_, rfl, hR _ _ hb9 ⟨_, rfl, rules_true hr9⟩⟩); (go_simp; refine hK _ _ ?_; clear hK K))
  (refine walkB_ex (fun K hK => ?_); refine ⟨fun W hC hd R hR => ?_, ?_⟩; (have hs : ∃ u, v16 = polV u 4 ∧ RdRules W (fun _ => True) u madeP.rules := hd 16 (by decide); obtain ⟨u9, rfl, hs⟩ := hs; have Hs := Lib.hid hs; have HpW := Lib.hid (RdRules.below HP.out hC.2); clear hd hs; go_simp; go_at_call 9; refine (same_any _ _ madeP madeP (fun _ => True) _ HpW.out Hs.out).mono ?_; rintro e w9 ⟨rfl, hb9⟩; exact ⟨_, rfl, hR _ _ hb9 (by simp; rfl)⟩); (go_simp; refine hK _ ?_; clear hK K))
  (refine walkB_ex (fun K hK => ?_); refine ⟨fun W hC hd R hR => ?_, ?_⟩; (have hqb := cells_of (blk_below HX.out hC.2); clear hd; go_simp; exact hR _ _ (Below.refl _ _) rfl); (go_simp; refine hK _ ?_; clear hK K))
  (refine walkB_ex (fun K hK => ?_); refine ⟨fun W hC hd R hR => ?_, ?_⟩; (have hqb := cells_of (blk_below HX.out hC.2); clear hd; go_simp; exact hR _ _ (Below.refl _ _) rfl); (go_simp; refine hK _ ?_; clear hK K))
  (refine walkB_ex (fun K hK => ?_); refine ⟨fun W hC hd R hR => ?_, ?_⟩; (have hqb := cells_of (blk_below HX.out hC.2); clear hd; go_simp; exact hR _ _ (Below.refl _ _) rfl); (go_simp; refine hK _ ?_; clear hK K))
  (refine walkB_ex (fun K hK => ?_); refine ⟨fun W hC hd R hR => ?_, ?_⟩; (have hqb := cells_of (blk_below HX.out hC.2); clear hd; go_simp; exact hR _ _ (Below.refl _ _) rfl); (go_simp; refine hK _ ?_; clear hK K))
  (refine walkB_ex (fun K hK => ?_); refine ⟨fun W hC hd R hR => ?_, ?_⟩; (have hqb := cells_of (blk_below HX.out hC.2); clear hd; go_simp; exact hR _ _ (Below.refl _ _) rfl); (go_simp; refine hK _ ?_; clear hK K))
  (refine walkB_ex (fun K hK => ?_); refine ⟨fun W hC hd R hR => ?_, ?_⟩; (have hqb := cells_of (blk_below HX.out hC.2); clear hd; go_simp; exact hR _ _ (Below.refl _ _) rfl); (go_simp; refine hK _ ?_; clear hK K))
  (refine walkB_ex (fun K hK => ?_); refine ⟨fun W hC hd R hR => ?_, ?_⟩; (have hqb := cells_of (blk_below HX.out hC.2); clear hd; go_simp; exact hR _ _ (Below.refl _ _) rfl); (go_simp; refine hK _ ?_; clear hK K))
  (refine walkB_ex (fun K hK => ?_); refine ⟨fun W hC hd R hR => ?_, ?_⟩; (have hqb := cells_of (blk_below HX.out hC.2); clear hd; go_simp; exact hR _ _ (Below.refl _ _) rfl); (go_simp; refine hK _ ?_; clear hK K))
  intro w7 hC _
  have HBf := Lib.hid (bel_call HB.out hC.2)
  clear hC
  go_wp2
  go_ret
  exact ⟨rfl, HBf.out⟩
end Go.Proofs.YthkgjohhbdipcaaDoor
namespace Go.Proofs.YthkgjohhbdipcaaDoor

/-! ### rising lists of integers -/
def insU (x : Int) : List Int → List Int
  | [] => [x]
  | y :: l => if x < y then x :: y :: l else if x = y then y :: l else y :: insU x l
def Rising (l : List Int) : Prop := l.Pairwise (· < ·)
theorem mem_insU (x z : Int) : ∀ l : List Int, z ∈ insU x l ↔ z = x ∨ z ∈ l
  | [] => by simp [insU]
  | y :: l => by
    unfold insU
    split
    · simp
    · split
      · rename_i h; subst h; simp
      · simp only [List.mem_cons, mem_insU x z l]
        constructor
        · rintro (h | h | h) <;> simp [h]
        · rintro (h | h | h) <;> simp [h]
theorem rising_insU (x : Int) : ∀ l : List Int, Rising l → Rising (insU x l)
  | [], _ => by simp [insU, Rising]
  | y :: l, h => by
    unfold Rising at h
    obtain ⟨h1, h2⟩ := List.pairwise_cons.1 h
    unfold insU
    split
    · rename_i hlt
      refine List.pairwise_cons.2 ⟨fun z hz => ?_, h⟩
      rcases List.mem_cons.1 hz with rfl | hz
      · exact hlt
      · have := h1 z hz; omega
    · split
      · exact h
      · rename_i h3 h4
        refine List.pairwise_cons.2 ⟨fun z hz => ?_, rising_insU x l h2⟩
        rcases (mem_insU x z l).1 hz with rfl | hz
        · omega
        · exact h1 z hz
def setOf : List Int → List Int
  | [] => []
  | x :: l => insU x (setOf l)
theorem mem_setOf (z : Int) : ∀ l : List Int, z ∈ setOf l ↔ z ∈ l
  | [] => by simp [setOf]
  | x :: l => by simp [setOf, mem_insU, mem_setOf z l]
theorem rising_setOf : ∀ l : List Int, Rising (setOf l)
  | [] => List.Pairwise.nil
  | x :: l => rising_insU x _ (rising_setOf l)
theorem rising_unique : ∀ (l m : List Int), Rising l → Rising m → (∀ z, z ∈ l ↔ z ∈ m) → l = m
  | [], [], _, _, _ => rfl
  | [], y :: m, _, _, h => by have := (h y).2 (List.mem_cons_self ..); simp at this
  | x :: l, [], _, _, h => by have := (h x).1 (List.mem_cons_self ..); simp at this
  | x :: l, y :: m, hl, hm, h => by
    obtain ⟨h1, h2⟩ := List.pairwise_cons.1 hl
    obtain ⟨h3, h4⟩ := List.pairwise_cons.1 hm
    have hxy : x = y := by
      have a := (h x).1 (List.mem_cons_self ..)
      have b := (h y).2 (List.mem_cons_self ..)
      rcases List.mem_cons.1 a with a | a
      · exact a
      · rcases List.mem_cons.1 b with b | b
        · exact b.symm
        · have := h1 _ b; have := h3 _ a; omega
    subst hxy
    rw [rising_unique l m h2 h4 (fun z => ?_)]
    constructor
    · intro hz
      rcases List.mem_cons.1 ((h z).1 (List.mem_cons_of_mem _ hz)) with rfl | hz'
      · have := h1 _ hz; omega
      · exact hz'
    · intro hz
      rcases List.mem_cons.1 ((h z).2 (List.mem_cons_of_mem _ hz)) with rfl | hz'
      · have := h3 _ hz; omega
      · exact hz'
theorem rising_filter {l : List Int} (p : Int → Bool) (h : Rising l) : Rising (l.filter p) := List.Pairwise.sublist (List.filter_sublist) h

/-! ### cuts -/
def condCuts (f : Int) (c : TCond) : List Int := if c.f = f then (if c.op = 1 ∨ c.op = 2 then [c.v, c.v + 1] else [c.v]) else []
def ruleCuts (f : Int) (r : TRule) : List Int := r.conds.flatMap (condCuts f)
def polCuts (f : Int) (p : TPol) : List Int := p.rules.flatMap (ruleCuts f)
def cutVals (l : List TPol) (f : Int) : List Int := 0 :: l.flatMap (polCuts f)
def cutsOf (l : List TPol) (f : Int) : List Int := (setOf (cutVals l f)).filter fun n => decide (n ≤ mostOf f)
theorem rising_cuts (l : List TPol) (f : Int) : Rising (cutsOf l f) := rising_filter _ (rising_setOf _)
theorem mem_cuts {l : List TPol} {f n : Int} : n ∈ cutsOf l f ↔ n ∈ cutVals l f ∧ n ≤ mostOf f := by
  unfold cutsOf; rw [List.mem_filter, mem_setOf]; simp
theorem most_pos (f : Int) : 0 ≤ mostOf f := by unfold mostOf; split <;> (try split) <;> omega
theorem zero_cut (l : List TPol) (f : Int) : 0 ∈ cutsOf l f := mem_cuts.2 ⟨List.mem_cons_self .., most_pos f⟩
theorem cuts_pos (l : List TPol) (f : Int) : 0 < (cutsOf l f).length := List.length_pos_of_mem (zero_cut l f)
theorem mem_vals {l : List TPol} {f n : Int} : n ∈ cutVals l f ↔ n = 0 ∨ ∃ p ∈ l, ∃ r ∈ p.rules, ∃ c ∈ r.conds, n ∈ condCuts f c := by
  unfold cutVals polCuts ruleCuts
  simp only [List.mem_cons, List.mem_flatMap]
theorem mem_condCuts {f n : Int} {c : TCond} : n ∈ condCuts f c ↔ c.f = f ∧ (n = c.v ∨ ((c.op = 1 ∨ c.op = 2) ∧ n = c.v + 1)) := by
  unfold condCuts
  split
  · rename_i h
    split
    · rename_i h'; simp [h, h']
    · rename_i h'; simp [h, h']
  · rename_i h; simp [h]
/-- all right: no error. -/
def polsE : List TPol → Int
  | [] => 0
  | p :: l => if polE p = 0 then polsE l else polE p
theorem polsE_iff : ∀ l : List TPol, polsE l = 0 ↔ ∀ p ∈ l, OkPol p
  | [] => by simp [polsE]
  | p :: l => by
    simp only [polsE, List.mem_cons, forall_eq_or_imp]
    rw [← polsE_iff l, ← okPol_iff p]
    split
    · rename_i h; simp [h]
    · rename_i h; simp [h]
theorem polsE_drop (l : List TPol) (k : Nat) (h : k < l.length) : polsE (l.drop k) = if polE l[k] = 0 then polsE (l.drop (k + 1)) else polE l[k] := by
  rw [List.drop_eq_getElem_cons h]; rfl
theorem cuts_range {l : List TPol} (h : ∀ p ∈ l, OkPol p) {f n : Int} (hn : n ∈ cutsOf l f) : 0 ≤ n ∧ n ≤ mostOf f := by
  obtain ⟨h1, h2⟩ := mem_cuts.1 hn
  refine ⟨?_, h2⟩
  rcases mem_vals.1 h1 with rfl | ⟨p, hp, r, hr, c, hc, hm⟩
  · omega
  · have := ((h p hp).rules r hr).conds c hc
    obtain ⟨_, h | ⟨_, h⟩⟩ := mem_condCuts.1 hm <;> have := this.v0 <;> omega

/-! ### homes -/
/-- the last one that isn't above n. -/
def best (n : Int) : List Int → Int → Int
  | [], b => b
  | m :: l, b => if m ≤ n then best n l m else best n l b
theorem best_spec (n : Int) : ∀ (l : List Int) (b : Int), Rising l → (∀ m ∈ l, b < m) → b ≤ n → (best n l b = b ∨ best n l b ∈ l) ∧ best n l b ≤ n ∧ b ≤ best n l b ∧ ∀ m ∈ l, m ≤ n → m ≤ best n l b
  | [], b, _, _, hb => by simp [best]; exact hb
  | m :: l, b, h, hm, hb => by
    obtain ⟨h1, h2⟩ := List.pairwise_cons.1 h
    unfold best
    split
    · rename_i hle
      obtain ⟨a1, a2, a3, a4⟩ := best_spec n l m h2 h1 hle
      have := hm m (List.mem_cons_self ..)
      refine ⟨?_, a2, by omega, fun z hz hzn => ?_⟩
      · rcases a1 with a1 | a1
        · right; rw [a1]; exact List.mem_cons_self ..
        · right; exact List.mem_cons_of_mem _ a1
      · rcases List.mem_cons.1 hz with rfl | hz
        · exact a3
        · exact a4 z hz hzn
    · rename_i hle
      obtain ⟨a1, a2, a3, a4⟩ := best_spec n l b h2 (fun z hz => hm z (List.mem_cons_of_mem _ hz)) hb
      refine ⟨?_, a2, a3, fun z hz hzn => ?_⟩
      · rcases a1 with a1 | a1
        · exact .inl a1
        · right; exact List.mem_cons_of_mem _ a1
      · rcases List.mem_cons.1 hz with rfl | hz
        · omega
        · exact a4 z hz hzn
/-- the greatest cut that isn't above n. -/
def homeCut (l : List TPol) (f n : Int) : Int := best n (cutsOf l f) 0
theorem best_zero {n : Int} {l : List Int} (hr : Rising l) (h0 : 0 ∈ l) (hp : ∀ m ∈ l, 0 ≤ m) (hn : 0 ≤ n) : best n l 0 ∈ l ∧ best n l 0 ≤ n ∧ ∀ m ∈ l, m ≤ n → m ≤ best n l 0 := by
  cases l with
  | nil => simp at h0
  | cons z l =>
    obtain ⟨h1, h2⟩ := List.pairwise_cons.1 hr
    have hz : z = 0 := by
      rcases List.mem_cons.1 h0 with h | h
      · exact h.symm
      · have := h1 _ h; have := hp z (List.mem_cons_self ..); omega
    subst hz
    obtain ⟨a1, a2, a3, a4⟩ := best_spec n l 0 h2 h1 hn
    have e : best n (0 :: l) 0 = best n l 0 := by
      show (if (0 : Int) ≤ n then _ else _) = _
      rw [if_pos hn]
    rw [e]
    refine ⟨?_, a2, fun m hm hmn => ?_⟩
    · rcases a1 with a1 | a1
      · rw [a1]; exact List.mem_cons_self ..
      · exact List.mem_cons_of_mem _ a1
    · rcases List.mem_cons.1 hm with rfl | hm
      · exact a3
      · exact a4 m hm hmn
theorem homeCut_spec {l : List TPol} (h : ∀ p ∈ l, OkPol p) {f n : Int} (hn : 0 ≤ n) : homeCut l f n ∈ cutsOf l f ∧ homeCut l f n ≤ n ∧ ∀ m ∈ cutsOf l f, m ≤ n → m ≤ homeCut l f n :=
  best_zero (rising_cuts l f) (zero_cut l f) (fun _ hm => (cuts_range h hm).1) hn
def homeOf (l : List TPol) (x : TCall) : TCall := ⟨homeCut l 0 x.a0, homeCut l 1 x.a1, homeCut l 2 x.a2, homeCut l 3 x.a3, homeCut l 4 x.a4⟩
theorem get_home (l : List TPol) (x : TCall) {f : Int} (h0 : 0 ≤ f) (h1 : f < 5) : (homeOf l x).get f = homeCut l f (x.get f) := by
  have hf : f = 0 ∨ f = 1 ∨ f = 2 ∨ f = 3 ∨ f = 4 := by omega
  rcases hf with rfl | rfl | rfl | rfl | rfl <;> rfl
theorem ok_get {x : TCall} (h : x.ok) {f : Int} (h0 : 0 ≤ f) (h1 : f < 5) : 0 ≤ x.get f ∧ x.get f ≤ mostOf f := by
  have := TCall.ok_get h (k := f.toNat) (by omega)
  rwa [Int.toNat_of_nonneg h0] at this
theorem holds_home {l : List TPol} (h : ∀ p ∈ l, OkPol p) {x : TCall} (hx : x.ok) {p : TPol} (hp : p ∈ l) {r : TRule} (hr : r ∈ p.rules) {c : TCond} (hc : c ∈ r.conds) : holdsB c (homeOf l x) = holdsB c x := by
  have ok := ((h p hp).rules r hr).conds c hc
  have hg := ok_get hx ok.f0 ok.f1
  obtain ⟨a1, a2, a3⟩ := homeCut_spec h (f := c.f) hg.1
  have hv : c.v ∈ cutsOf l c.f := mem_cuts.2 ⟨mem_vals.2 (.inr ⟨p, hp, r, hr, c, hc, mem_condCuts.2 ⟨rfl, .inl rfl⟩⟩), ok.v1⟩
  have hv1 : (c.op = 1 ∨ c.op = 2) → c.v + 1 ≤ mostOf c.f → c.v + 1 ∈ cutsOf l c.f := fun ho hle => mem_cuts.2 ⟨mem_vals.2 (.inr ⟨p, hp, r, hr, c, hc, mem_condCuts.2 ⟨rfl, .inr ⟨ho, rfl⟩⟩⟩), hle⟩
  unfold holdsB
  rw [get_home l x ok.f0 ok.f1]
  generalize hn : x.get c.f = n at *
  generalize hh : homeCut l c.f n = m at *
  have key1 : (c.op = 1 ∨ c.op = 2) → (m = c.v ↔ n = c.v) := by
    intro ho
    constructor
    · intro e
      by_cases e' : n = c.v
      · exact e'
      · have := a3 _ (hv1 ho (by omega)) (by omega); omega
    · intro e
      have := a3 _ hv (by omega); omega
  have key2 : (m < c.v ↔ n < c.v) := by
    constructor
    · intro e
      by_cases e' : n < c.v
      · exact e'
      · have := a3 _ hv (by omega); omega
    · intro e; omega
  split
  · rename_i ho
    rw [Bool.eq_iff_iff]; simp [key1 (.inl ho)]
  · split
    · rename_i ho
      rw [Bool.eq_iff_iff]; simp [key1 (.inr ho)]
    · split
      · rw [Bool.eq_iff_iff]; simp [key2]
      · rw [Bool.eq_iff_iff]; simp; omega
theorem allHold_home {l : List TPol} (h : ∀ p ∈ l, OkPol p) {x : TCall} (hx : x.ok) {p : TPol} (hp : p ∈ l) {r : TRule} (hr : r ∈ p.rules) : allHold (homeOf l x) r.conds = allHold x r.conds := by
  unfold allHold
  rw [Bool.eq_iff_iff, List.all_eq_true, List.all_eq_true]
  constructor
  · intro a c hc; rw [← holds_home h hx hp hr hc]; exact a c hc
  · intro a c hc; rw [holds_home h hx hp hr hc]; exact a c hc
theorem which_congr {x y : TCall} : ∀ (l : List TRule), (∀ r ∈ l, allHold x r.conds = allHold y r.conds) → which x l = which y l
  | [], _ => rfl
  | r :: l, h => by
    unfold which
    rw [h r (List.mem_cons_self ..), which_congr l (fun r hr => h r (List.mem_cons_of_mem _ hr))]
/-- EACH POLICY SAYS OF A CALL WHAT IT SAYS OF ITS HOME, by the same rule. -/
theorem which_home {l : List TPol} (h : ∀ p ∈ l, OkPol p) {x : TCall} (hx : x.ok) {p : TPol} (hp : p ∈ l) : which (homeOf l x) p.rules = which x p.rules :=
  which_congr _ fun _ hr => allHold_home h hx hp hr
theorem judged_home {l : List TPol} (h : ∀ p ∈ l, OkPol p) {x : TCall} (hx : x.ok) {p : TPol} (hp : p ∈ l) : judged p (homeOf l x) = judged p x := by
  unfold judged; rw [which_home h hx hp]
theorem ok_home {l : List TPol} (h : ∀ p ∈ l, OkPol p) {x : TCall} (hx : x.ok) : (homeOf l x).ok := by
  refine TCall.ok_of fun k hk => ?_
  rw [get_home l x (by omega) (by omega)]
  exact cuts_range h (homeCut_spec h (ok_get hx (f := k) (by omega) (by omega)).1).1
theorem homeCut_self {l : List TPol} (h : ∀ p ∈ l, OkPol p) {f n : Int} (hn : n ∈ cutsOf l f) : homeCut l f n = n := by
  obtain ⟨a1, a2, a3⟩ := homeCut_spec h (f := f) (n := n) (cuts_range h hn).1
  have := a3 n hn (Int.le_refl _); omega
theorem home_home {l : List TPol} (h : ∀ p ∈ l, OkPol p) {x : TCall} (hx : x.ok) : homeOf l (homeOf l x) = homeOf l x := by
  have g := fun (f : Int) (h0 : 0 ≤ f) (h1 : f < 5) => homeCut_self h (homeCut_spec h (f := f) (ok_get hx h0 h1).1).1
  have g0 := g 0 (by omega) (by omega); have g1 := g 1 (by omega) (by omega); have g2 := g 2 (by omega) (by omega); have g3 := g 3 (by omega) (by omega); have g4 := g 4 (by omega) (by omega)
  simp only [TCall.get] at g0 g1 g2 g3 g4
  simp only [homeOf]
  simp at g0 g1 g2 g3 g4
  rw [g0, g1, g2, g3, g4]

/-! ### points -/
def TCall.set (x : TCall) (k : Nat) (n : Int) : TCall := match k with
  | 0 => { x with a0 := n } | 1 => { x with a1 := n } | 2 => { x with a2 := n } | 3 => { x with a3 := n } | _ => { x with a4 := n }
def stage (l : List TPol) : Nat → List TCall
  | 0 => [⟨0, 0, 0, 0, 0⟩]
  | k + 1 => (stage l k).flatMap fun x => (cutsOf l k).map fun n => x.set k n
def sizes (l : List TPol) : Nat → Nat
  | 0 => 1
  | k + 1 => sizes l k * (cutsOf l k).length
theorem stage_length (l : List TPol) : ∀ k, (stage l k).length = sizes l k
  | 0 => rfl
  | k + 1 => by
    simp only [stage, sizes, List.length_flatMap, List.length_map]
    rw [← stage_length l k]
    generalize (cutsOf l k).length = m
    induction stage l k with
    | nil => simp
    | cons x r ih => simp [ih, Nat.add_mul]; omega
theorem sizes_pos (l : List TPol) : ∀ k, 0 < sizes l k
  | 0 => by simp [sizes]
  | k + 1 => Nat.mul_pos (sizes_pos l k) (cuts_pos l k)
theorem sizes_mono (l : List TPol) (k : Nat) : sizes l k ≤ sizes l (k + 1) := Nat.le_mul_of_pos_right _ (cuts_pos l k)
theorem sizes_le (l : List TPol) {k m : Nat} (h : k ≤ m) : sizes l k ≤ sizes l m := by
  induction h with
  | refl => exact Nat.le_refl _
  | step _ ih => exact Nat.le_trans ih (sizes_mono l _)
/-- chapter 6's Points. -/
def pointsE (l : List TPol) : List TCall × Int := if polsE l ≠ 0 then ([], polsE l) else if 1000 < sizes l 5 then ([], 2) else (stage l 5, 0)
theorem mem_stage {l : List TPol} {y : TCall} : ∀ {k : Nat}, y ∈ stage l (k + 1) ↔ ∃ x ∈ stage l k, ∃ n ∈ cutsOf l k, y = x.set k n := by
  intro k
  simp only [stage, List.mem_flatMap, List.mem_map]
  constructor
  · rintro ⟨x, hx, n, hn, rfl⟩; exact ⟨x, hx, n, hn, rfl⟩
  · rintro ⟨x, hx, n, hn, rfl⟩; exact ⟨x, hx, n, hn, rfl⟩
theorem mem_points {l : List TPol} {y : TCall} : y ∈ stage l 5 ↔ y.a0 ∈ cutsOf l 0 ∧ y.a1 ∈ cutsOf l 1 ∧ y.a2 ∈ cutsOf l 2 ∧ y.a3 ∈ cutsOf l 3 ∧ y.a4 ∈ cutsOf l 4 := by
  constructor
  · intro h
    obtain ⟨x4, h4, n4, m4, rfl⟩ := mem_stage.1 h
    obtain ⟨x3, h3, n3, m3, rfl⟩ := mem_stage.1 h4
    obtain ⟨x2, h2, n2, m2, rfl⟩ := mem_stage.1 h3
    obtain ⟨x1, h1, n1, m1, rfl⟩ := mem_stage.1 h2
    obtain ⟨x0, h0, n0, m0, rfl⟩ := mem_stage.1 h1
    exact ⟨m0, m1, m2, m3, m4⟩
  · rintro ⟨m0, m1, m2, m3, m4⟩
    refine mem_stage.2 ⟨⟨y.a0, y.a1, y.a2, y.a3, 0⟩, mem_stage.2 ⟨⟨y.a0, y.a1, y.a2, 0, 0⟩, mem_stage.2 ⟨⟨y.a0, y.a1, 0, 0, 0⟩, mem_stage.2 ⟨⟨y.a0, 0, 0, 0, 0⟩, mem_stage.2 ⟨⟨0, 0, 0, 0, 0⟩, List.mem_cons_self .., y.a0, m0, rfl⟩, y.a1, m1, rfl⟩, y.a2, m2, rfl⟩, y.a3, m3, rfl⟩, y.a4, m4, rfl⟩
theorem home_point {l : List TPol} (h : ∀ p ∈ l, OkPol p) {x : TCall} (hx : x.ok) : homeOf l x ∈ stage l 5 := by
  have g := fun (f : Int) (h0 : 0 ≤ f) (h1 : f < 5) => (homeCut_spec h (f := f) (ok_get hx h0 h1).1).1
  exact mem_points.2 ⟨g 0 (by omega) (by omega), g 1 (by omega) (by omega), g 2 (by omega) (by omega), g 3 (by omega) (by omega), g 4 (by omega) (by omega)⟩
theorem point_ok {l : List TPol} (h : ∀ p ∈ l, OkPol p) {x : TCall} (hx : x ∈ stage l 5) : x.ok := by
  obtain ⟨m0, m1, m2, m3, m4⟩ := mem_points.1 hx
  exact ⟨cuts_range h m0, cuts_range h m1, cuts_range h m2, cuts_range h m3, cuts_range h m4⟩
theorem pointsE_ok {l : List TPol} (h : (pointsE l).2 = 0) : (∀ p ∈ l, OkPol p) ∧ sizes l 5 ≤ 1000 ∧ pointsE l = (stage l 5, 0) := by
  unfold pointsE at h ⊢
  split at h
  · rename_i h1; exact absurd h h1
  · rename_i h1
    split at h
    · simp at h
    · rename_i h2
      exact ⟨(polsE_iff l).1 (by simpa using h1), by omega, by rw [if_neg h1, if_neg h2]⟩
theorem pointsE_of {l : List TPol} (h : ∀ p ∈ l, OkPol p) (hs : sizes l 5 ≤ 1000) : pointsE l = (stage l 5, 0) := by
  unfold pointsE
  rw [if_neg (by rw [(polsE_iff l).2 h]; simp), if_neg (by omega)]
/-- with fewer conditions there are no more points. -/
theorem cuts_sub {l m : List TPol} {f : Int} (h : ∀ n, n ∈ cutVals l f → n ∈ cutVals m f) : (∀ n ∈ cutsOf l f, n ∈ cutsOf m f) := fun _ hn => mem_cuts.2 ⟨h _ (mem_cuts.1 hn).1, (mem_cuts.1 hn).2⟩
theorem rising_len : ∀ (l m : List Int), Rising l → Rising m → (∀ z ∈ l, z ∈ m) → l.length ≤ m.length
  | [], _, _, _, _ => by simp
  | x :: l, [], _, _, h => by have := h x (List.mem_cons_self ..); simp at this
  | x :: l, y :: m, hl, hm, h => by
    obtain ⟨h1, h2⟩ := List.pairwise_cons.1 hl
    obtain ⟨h3, h4⟩ := List.pairwise_cons.1 hm
    have := rising_len l m h2 h4 fun z hz => by
      rcases List.mem_cons.1 (h z (List.mem_cons_of_mem _ hz)) with rfl | h'
      · rcases List.mem_cons.1 (h x (List.mem_cons_self ..)) with rfl | h''
        · have := h1 _ hz; omega
        · have := h1 _ hz; have := h3 _ h''; omega
      · exact h'
    simp; omega
theorem sizes_sub {l m : List TPol} (h : ∀ f n, n ∈ cutVals l f → n ∈ cutVals m f) : ∀ k, sizes l k ≤ sizes m k
  | 0 => Nat.le_refl _
  | k + 1 => Nat.mul_le_mul (sizes_sub h k) (rising_len _ _ (rising_cuts l k) (rising_cuts m k) (cuts_sub (h k)))
theorem stage_sub {l m : List TPol} (h : ∀ f n, n ∈ cutVals l f → n ∈ cutVals m f) {x : TCall} (hx : x ∈ stage l 5) : x ∈ stage m 5 := by
  obtain ⟨m0, m1, m2, m3, m4⟩ := mem_points.1 hx
  exact mem_points.2 ⟨cuts_sub (h 0) _ m0, cuts_sub (h 1) _ m1, cuts_sub (h 2) _ m2, cuts_sub (h 3) _ m3, cuts_sub (h 4) _ m4⟩
end Go.Proofs.YthkgjohhbdipcaaDoor
