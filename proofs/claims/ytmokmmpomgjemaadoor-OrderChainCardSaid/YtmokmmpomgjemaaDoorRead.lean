/- Walk: the reference's PolicyRead. Condition: Laid, few enough bytes. -/
import Derived.Test.YtmokmmpomgjemaaDoorReadMaps
import Derived.Test.YtmokmmpomgjemaaDoorRPolCheck
import Derived.Test.YtmokmmpomgjemaaDoorOwn
import Derived.Laws.ResultCell
import Derived.Test.YtmokmmpomgjemaaDoorReadSt
namespace Go.Proofs.YtmokmmpomgjemaaDoor
open Go.RowKit
open Go.MapKept (IsKey)
attribute [local go_sem] gives givesUpon

attribute [-go_sem] run_slice_l
set_option maxRecDepth 8000 in
set_option maxHeartbeats 4000000 in
theorem read_walk (s : ByteArray) (w : World) (hL : Laid w) (hs : s.size ≤ 281474976710656) (hs' : s.size < 4294967281) :
    Calls Tryd.prog 19 #[.string s] w fun e w' => ∃ v, e = .returned (.tuple #[polV v (readP s.data.toList).1.dflt, .int .i64 (readP s.data.toList).2]) ∧ RdRules w' (fun b => w.heap.size ≤ b) v (readP s.data.toList).1.rules ∧ Below w.heap.size w w' := by
  have HL := Lib.hid hL
  clear hL
  have hmm := @run_makeMap Tryd.prog
  have hb0 : w.heap.size + 1 = (w.alloc (.cells #[.slice none 0 0, .int .i64 0] 24)).heap.size := by simp
  have hv0 := run_insert_at (P := Tryd.prog) (t := 67) (es := #[]) (c := 0) (key := bs [107, 105, 108, 108]) (v := .int .i64 0) hb0 Tryd.underlying67 Tryd.underlying9 (by first | exact trivial | rfl) (by kernel_rfl)
  have hv1 := run_insert_at (P := Tryd.prog) (t := 67) (es := #[⟨bs [107, 105, 108, 108], .int .i64 0, 0⟩]) (c := 1) (key := bs [116, 114, 97, 112]) (v := .int .i64 1) hb0 Tryd.underlying67 Tryd.underlying9 (by first | exact trivial | rfl) (by kernel_rfl)
  have hv2 := run_insert_at (P := Tryd.prog) (t := 67) (es := #[⟨bs [107, 105, 108, 108], .int .i64 0, 0⟩, ⟨bs [116, 114, 97, 112], .int .i64 1, 1⟩]) (c := 2) (key := bs [102, 97, 105, 108]) (v := .int .i64 2) hb0 Tryd.underlying67 Tryd.underlying9 (by first | exact trivial | rfl) (by kernel_rfl)
  have hv3 := run_insert_at (P := Tryd.prog) (t := 67) (es := #[⟨bs [107, 105, 108, 108], .int .i64 0, 0⟩, ⟨bs [116, 114, 97, 112], .int .i64 1, 1⟩, ⟨bs [102, 97, 105, 108], .int .i64 2, 2⟩]) (c := 3) (key := bs [108, 111, 103]) (v := .int .i64 3) hb0 Tryd.underlying67 Tryd.underlying9 (by first | exact trivial | rfl) (by kernel_rfl)
  have hv4 := run_insert_at (P := Tryd.prog) (t := 67) (es := #[⟨bs [107, 105, 108, 108], .int .i64 0, 0⟩, ⟨bs [116, 114, 97, 112], .int .i64 1, 1⟩, ⟨bs [102, 97, 105, 108], .int .i64 2, 2⟩, ⟨bs [108, 111, 103], .int .i64 3, 3⟩]) (c := 4) (key := bs [97, 108, 108, 111, 119]) (v := .int .i64 4) hb0 Tryd.underlying67 Tryd.underlying9 (by first | exact trivial | rfl) (by kernel_rfl)
  have hb1 : w.heap.size + 2 = ((w.alloc (.cells #[.slice none 0 0, .int .i64 0] 24)).alloc (.map vmap 5)).heap.size := by simp
  have hf0 := run_insert_at (P := Tryd.prog) (t := 67) (es := #[]) (c := 0) (key := bs [110, 114]) (v := .int .i64 0) hb1 Tryd.underlying67 Tryd.underlying9 (by first | exact trivial | rfl) (by kernel_rfl)
  have hf1 := run_insert_at (P := Tryd.prog) (t := 67) (es := #[⟨bs [110, 114], .int .i64 0, 0⟩]) (c := 1) (key := bs [107, 105, 110, 100]) (v := .int .i64 1) hb1 Tryd.underlying67 Tryd.underlying9 (by first | exact trivial | rfl) (by kernel_rfl)
  have hf2 := run_insert_at (P := Tryd.prog) (t := 67) (es := #[⟨bs [110, 114], .int .i64 0, 0⟩, ⟨bs [107, 105, 110, 100], .int .i64 1, 1⟩]) (c := 2) (key := bs [97]) (v := .int .i64 2) hb1 Tryd.underlying67 Tryd.underlying9 (by first | exact trivial | rfl) (by kernel_rfl)
  have hf3 := run_insert_at (P := Tryd.prog) (t := 67) (es := #[⟨bs [110, 114], .int .i64 0, 0⟩, ⟨bs [107, 105, 110, 100], .int .i64 1, 1⟩, ⟨bs [97], .int .i64 2, 2⟩]) (c := 3) (key := bs [98]) (v := .int .i64 3) hb1 Tryd.underlying67 Tryd.underlying9 (by first | exact trivial | rfl) (by kernel_rfl)
  have hf4 := run_insert_at (P := Tryd.prog) (t := 67) (es := #[⟨bs [110, 114], .int .i64 0, 0⟩, ⟨bs [107, 105, 110, 100], .int .i64 1, 1⟩, ⟨bs [97], .int .i64 2, 2⟩, ⟨bs [98], .int .i64 3, 3⟩]) (c := 4) (key := bs [99]) (v := .int .i64 4) hb1 Tryd.underlying67 Tryd.underlying9 (by first | exact trivial | rfl) (by kernel_rfl)
  have hb2 : w.heap.size + 3 = (((w.alloc (.cells #[.slice none 0 0, .int .i64 0] 24)).alloc (.map vmap 5)).alloc (.map fmap 5)).heap.size := by simp
  have ho0 := run_insert_at (P := Tryd.prog) (t := 68) (es := #[]) (c := 0) (key := .int .u8 61) (v := .int .i64 1) hb2 Tryd.underlying68 Tryd.underlying5 (by first | exact trivial | rfl) (by kernel_rfl)
  have ho1 := run_insert_at (P := Tryd.prog) (t := 68) (es := #[⟨.int .u8 61, .int .i64 1, 0⟩]) (c := 1) (key := .int .u8 33) (v := .int .i64 2) hb2 Tryd.underlying68 Tryd.underlying5 (by first | exact trivial | rfl) (by kernel_rfl)
  have ho2 := run_insert_at (P := Tryd.prog) (t := 68) (es := #[⟨.int .u8 61, .int .i64 1, 0⟩, ⟨.int .u8 33, .int .i64 2, 1⟩]) (c := 2) (key := .int .u8 60) (v := .int .i64 3) hb2 Tryd.underlying68 Tryd.underlying5 (by first | exact trivial | rfl) (by kernel_rfl)
  have ho3 := run_insert_at (P := Tryd.prog) (t := 68) (es := #[⟨.int .u8 61, .int .i64 1, 0⟩, ⟨.int .u8 33, .int .i64 2, 1⟩, ⟨.int .u8 60, .int .i64 3, 2⟩]) (c := 3) (key := .int .u8 62) (v := .int .i64 4) hb2 Tryd.underlying68 Tryd.underlying5 (by first | exact trivial | rfl) (by kernel_rfl)
  simp only [List.push_toArray, List.nil_append, List.cons_append, Nat.reduceAdd] at hv0 hv1 hv2 hv3 hv4 hf0 hf1 hf2 hf3 hf4 ho0 ho1 ho2 ho3
  clear hb0 hb1 hb2
  go_enter Tryd.func19, Tryd.ntmps19
  go_wp2_with fail
  clear hv0 hv1 hv2 hv3 hv4 hf0 hf1 hf2 hf3 hf4 ho0 ho1 ho2 ho3 hmm
  go_loopw [0] (fun sv wr => ∃ (n : Nat) (t : ByteArray) (rs : List TRule) (pv : Value), sv = .string t ∧ t.size < n ∧ rs.length + t.size ≤ s.size ∧ Hid (pread (s.data.toList.length + 1) s.data.toList = (pread n t.data.toList).map fun p => ⟨rs ++ p.rules, p.dflt⟩) ∧ RdState w wr rs pv) (fun sv _ => (match sv with | .string t => t.size | _ => 0))
  case atStart => exact ⟨s.size + 1, s, [], .slice none 0 0, rfl, by omega, by simp, by
    have e : s.data.toList.length = s.size := rfl
    rw [e]
    cases pread (s.size + 1) s.data.toList <;> rfl, rdState0 w⟩
  case round =>
    obtain ⟨n, t, rs, pv, rfl, hn, hts, hp, hst⟩ := hrel
    obtain ⟨pa, pcap, hpv, hpl, hpm, _⟩ := Sl.form hst.rules
    have Hpv := Lib.hid hpv
    have Hst := Lib.hid hst
    clear hpv hpl hpm
    have hsz := hst.sz
    have HLr := Lib.hid (HL.out.below hst.bel)
    clear hst
    go_wp2_with fail
    refine (cut_any t _ HLr.out (by omega)).mono ?_
    rintro e w1 ⟨ta, tr, more, rfl, hta, htr, hmore, hsa, hsr, hb1⟩
    have Hta := Lib.hid hta
    have Htr := Lib.hid htr
    have Hmore := Lib.hid hmore
    clear hta htr hmore
    have Hst1 := Lib.hid (Hst.out.below hb1)
    have HL1 := Lib.hid (HLr.out.below hb1)
    have hsz1 := Hst1.out.sz
    clear Hst HLr hb1 hsz
    go_wp2_with fail
    refine (split_any ta w1 HL1.out (by omega)).mono ?_
    rintro e w2 ⟨ws, rfl, hw2, hws, hw0, hwl, hwu⟩
    obtain ⟨u0, us, rfl⟩ : ∃ u0 us, ws = u0 :: us := by cases ws with
      | nil => simp at hw0
      | cons u0 us => exact ⟨u0, us, rfl⟩
    have hb2 : Below w1.heap.size w1 w2 := by rw [hw2]; exact bel_alloc (Below.refl _ _) _
    have hbl : w2.heap[w1.heap.size]? = some (.cells ((u0 :: us).map Value.string).toArray 9) := by rw [hw2]; exact heap_last _ _
    have hc0 : w2.cell? ⟨w1.heap.size, 0, none⟩ = some (.string u0) := by rw [hw2]; exact (World.cell?_alloc_at _ _ _ _ rfl).trans (by simp)
    have Hst2 := Lib.hid (Hst1.out.below hb2)
    have HL2 := Lib.hid (HL1.out.below hb2)
    have hsz2 := Hst2.out.sz
    have Hbl := Lib.hid hbl
    have Hstep : Hid (∀ k, pread (k + 1) t.data.toList = match verdictOf u0.data.toList with
        | none => none
        | some v => if more then (match condsOf (us.map (·.data.toList)) with
            | none => none
            | some cs => (pread k tr.data.toList).map fun p => ⟨⟨cs, v⟩ :: p.rules, p.dflt⟩) else if 1 < us.length + 1 then none else some ⟨[], v⟩) := fun k => by
      rw [pread_step (u0 := u0.data.toList) (us := us.map (·.data.toList)) (by rw [← Hta.out, ← hws]; rfl), Hmore.out, Htr.out, List.length_map]
      rfl
    obtain ⟨k, rfl⟩ : ∃ k, n = k + 1 := ⟨n - 1, by omega⟩
    have Hwu := Lib.hid hwu
    clear hw2 hb2 hbl hws hwu Hst1 HL1 Hta Hmore
    obtain ⟨fv, hfv, hfv'⟩ := find_v u0
    have hz : ∀ W : World, (zeroValue 3).run Tryd.prog W = .ok (.int .i64 0) W := fun W => by kernel_rfl
    have hlk := run_lookup_ok (P := Tryd.prog) (key := .string u0) (t := 67) Tryd.underlying67 Tryd.underlying9 Hst2.out.vm (hz _) (by exact trivial) hfv
    have hfs : fv.isSome = (verdictOf u0.data.toList).isSome := by
      have := congrArg Option.isSome hfv'
      simpa using this
    rw [hfs, hfv'] at hlk
    have h1l : (1 : Nat) ≤ us.length + 1 := by omega
    clear hfv hfv' hfs hz hw0
    cases hvd : verdictOf u0.data.toList with
    | none =>
      rw [hvd] at hlk
      simp only [Option.map_none, Option.getD_none, Option.isSome_none] at hlk
      go_wp2_with fail
      refine (bad_any 1 _).mono ?_
      rintro e w3 ⟨rfl, hb3⟩
      have hr3 := blk_below Hst2.out.res hb3
      have hc3 := cells_of hr3
      have hf3 := not_frozen hr3
      have hr4 := set_at (o := 1) (v := .int .i64 0) (set_at (o := 0) (v := .slice none 0 0) hr3)
      have hc4 := cells_of hr4
      have Hb4 := Lib.hid (set_below (a := ⟨w.heap.size, 1, none⟩) (v := .int .i64 0) (set_below (a := ⟨w.heap.size, 0, none⟩) (v := .slice none 0 0) (bel_call Hst2.out.bel hb3) (Nat.le_refl _)) (Nat.le_refl _))
      go_wp2
      have hrd : readP s.data.toList = (⟨[], 0⟩, 1) := readP_none (by rw [hp.out, Hstep.out k, hvd]; rfl)
      rw [hrd]
      refine bodyPost_ret (v := .tuple #[polV (.slice none 0 0) 0, .int .i64 1]) ?_ rfl ⟨_, rfl, ⟨none, 0, rfl, Nat.le_refl _, by unfold maxLen; omega, fun _ => rfl, fun h => by cases h⟩, Hb4.out⟩
      rw [results_cell_tmp rfl]
      go_simp
    | some vd =>
      rw [hvd] at hlk
      simp only [Option.map_some, Option.getD_some, Option.isSome_some] at hlk
      have Hvd := Lib.hid hvd
      clear hvd
      cases more with
      | false =>
        by_cases hus : us.length = 0
        · have d1 : ¬ (1 : Int) < (us.length : Int) + 1 := by omega
          have hpc := Hst2.out.pc
          have hcp := cells_of hpc
          have hfp := not_frozen hpc
          have hR4 : RdRules (w2.setCell ⟨w.heap.size + 4, 1, none⟩ (.int .i64 vd)) (fun b => w.heap.size + 5 ≤ b) pv rs :=
            RdRules.keep Hst2.out.rules (fun _ h _ => h) (fun b hb _ => set_other (by show b ≠ w.heap.size + 4; have : w.heap.size + 5 ≤ b := hb; omega)) (by rw [set_size]; exact Nat.le_refl _)
          have hb4 : Below w.heap.size w (w2.setCell ⟨w.heap.size + 4, 1, none⟩ (.int .i64 vd)) := set_below Hst2.out.bel (by show w.heap.size ≤ w.heap.size + 4; omega)
          have hr4 : (w2.setCell ⟨w.heap.size + 4, 1, none⟩ (.int .i64 vd)).heap[w.heap.size]? = some (.cells #[.slice none 0 0, .int .i64 0] 24) := (set_other (by show w.heap.size ≠ w.heap.size + 4; omega)).trans Hst2.out.res
          have hp4 := set_at (o := 1) (v := .int .i64 vd) hpc
          have hre : Hid (readP s.data.toList = if polE ⟨rs, vd⟩ = 0 then (⟨rs, vd⟩, 0) else (⟨[], 0⟩, polE ⟨rs, vd⟩)) := readP_some (by
            rw [hp.out, Hstep.out k, Hvd.out]
            simp only [Bool.false_eq_true, if_false]
            rw [if_neg (by omega)]
            simp only [Option.map_some, List.append_nil])
          have HR4 := Lib.hid hR4
          have Hb4 := Lib.hid hb4
          have Hr4 := Lib.hid hr4
          have Hp4 := Lib.hid hp4
          clear hR4 hb4 hr4 hp4
          go_wp2_with fail
          refine (rpolcheck_any pv ⟨rs, vd⟩ _ _ HR4.out).mono ?_
          rintro e w5 ⟨rfl, hb5⟩
          have hR5 := RdRules.below HR4.out hb5
          have hr5 := blk_below Hr4.out hb5
          have hp5 := blk_below Hp4.out hb5
          have hb5' := bel_call Hb4.out hb5
          have HR5 := Lib.hid hR5
          have Hb5 := Lib.hid hb5'
          clear hR5 hb5' hb5 hpc hcp hfp HR4 Hb4 Hr4 Hp4
          by_cases hpe : polE ⟨rs, vd⟩ = 0
          · have d2 : (polE ⟨rs, vd⟩ != 0) = false := bne_eq_false_iff_eq.2 hpe
            have Hpe := Lib.hid hpe
            have hcp := cells_of hp5
            have hcr := cells_of hr5
            have hfr := not_frozen hr5
            have hr6 := set_at (o := 1) (v := .int .i64 vd) (set_at (o := 0) (v := pv) hr5)
            have hc6 := cells_of hr6
            have Hb6 := Lib.hid (set_below (a := ⟨w.heap.size, 1, none⟩) (v := .int .i64 vd) (set_below (a := ⟨w.heap.size, 0, none⟩) (v := pv) Hb5.out (Nat.le_refl _)) (Nat.le_refl _))
            have hR6 : Hid (RdRules ((w5.setCell ⟨w.heap.size, 0, none⟩ pv).setCell ⟨w.heap.size, 1, none⟩ (.int .i64 vd)) (fun b => w.heap.size ≤ b) pv rs) :=
              RdRules.keep HR5.out (fun b h _ => by have : w.heap.size + 5 ≤ b := h; show w.heap.size ≤ b; omega) (fun b hb _ => by
                have h1 : w.heap.size + 5 ≤ b := hb
                rw [set_other (by show b ≠ w.heap.size; omega), set_other (by show b ≠ w.heap.size; omega)]) (by rw [set_size, set_size]; exact Nat.le_refl _)
            clear hpe hp5
            have Hre := hre
            clear hre
            obtain rfl := Hpv.out
            go_wp2
            rw [Hre.out, if_pos Hpe.out]
            refine bodyPost_ret (v := .tuple #[polV (.slice pa rs.length pcap) vd, .int .i64 0]) ?_ rfl ⟨_, rfl, hR6.out, Hb6.out⟩
            rw [results_cell_tmp rfl]
            go_simp
          · have d2 : (polE ⟨rs, vd⟩ != 0) = true := bne_iff_ne.2 hpe
            have Hpe := Lib.hid hpe
            clear hpe hp5
            go_wp2_with fail
            refine (bad_any _ _).mono ?_
            rintro e w6 ⟨rfl, hb6⟩
            have hr6 := blk_below hr5 hb6
            have hc6 := cells_of hr6
            have hf6 := not_frozen hr6
            have hr7 := set_at (o := 1) (v := .int .i64 0) (set_at (o := 0) (v := .slice none 0 0) hr6)
            have hc7 := cells_of hr7
            have Hb7 := Lib.hid (set_below (a := ⟨w.heap.size, 1, none⟩) (v := .int .i64 0) (set_below (a := ⟨w.heap.size, 0, none⟩) (v := .slice none 0 0) (bel_call Hb5.out hb6) (Nat.le_refl _)) (Nat.le_refl _))
            clear hr5
            go_wp2
            rw [hre.out, if_neg Hpe.out]
            refine bodyPost_ret (v := .tuple #[polV (.slice none 0 0) 0, .int .i64 (polE ⟨rs, vd⟩)]) ?_ rfl ⟨_, rfl, ⟨none, 0, rfl, Nat.le_refl _, by unfold maxLen; omega, fun _ => rfl, fun h => by cases h⟩, Hb7.out⟩
            rw [results_cell_tmp rfl]
            go_simp
        · have d1 : (1 : Int) < (us.length : Int) + 1 := by omega
          go_wp2_with fail
          refine (bad_any 1 _).mono ?_
          rintro e w3 ⟨rfl, hb3⟩
          have hr3 := blk_below Hst2.out.res hb3
          have hc3 := cells_of hr3
          have hf3 := not_frozen hr3
          have hr4 := set_at (o := 1) (v := .int .i64 0) (set_at (o := 0) (v := .slice none 0 0) hr3)
          have hc4 := cells_of hr4
          have Hb4 := Lib.hid (set_below (a := ⟨w.heap.size, 1, none⟩) (v := .int .i64 0) (set_below (a := ⟨w.heap.size, 0, none⟩) (v := .slice none 0 0) (bel_call Hst2.out.bel hb3) (Nat.le_refl _)) (Nat.le_refl _))
          have hrd : Hid (readP s.data.toList = (⟨[], 0⟩, 1)) := readP_none (by
            rw [hp.out, Hstep.out k, Hvd.out]
            simp only [Bool.false_eq_true, if_false]
            rw [if_pos (by omega)]; rfl)
          go_wp2
          rw [hrd.out]
          refine bodyPost_ret (v := .tuple #[polV (.slice none 0 0) 0, .int .i64 1]) ?_ rfl ⟨_, rfl, ⟨none, 0, rfl, Nat.le_refl _, by unfold maxLen; omega, fun _ => rfl, fun h => by cases h⟩, Hb4.out⟩
          rw [results_cell_tmp rfl]
          go_simp
      | true =>
        have d1 : (1 : Int) ≤ (us.length : Int) + 1 := by omega
        obtain ⟨off, hoff, htl⟩ := slice_tail w1.heap.size us.length
        have Hoff := Lib.hid hoff
        clear hoff
        go_wp2_with fail
        all_goals
          clear htl
          go_loopw [70] (fun jv wr => ∃ (j : Nat) (cs : List TCond) (cv : Value), jv = .int .i64 j ∧ j ≤ us.length ∧ cs.length = j ∧ Hid (condsOf (us.map (·.data.toList)) = (condsOf ((us.map (·.data.toList)).drop j)).map (cs ++ ·)) ∧
            Below w2.heap.size w2 wr ∧ wr.heap[w2.heap.size]? = some (.cells #[cv, .int .i64 vd] 46) ∧ OwnSl wr (w2.heap.size + 1) 60 3 condR cv cs) (fun jv _ => us.length - (intOf jv).toNat)
          case atStart => exact ⟨0, [], .slice none 0 0, rfl, by omega, rfl, by rw [List.drop_zero]; cases condsOf (us.map (·.data.toList)) <;> rfl, bel_alloc (Below.refl _ _) _, heap_last _ _, OwnSl.nil⟩
          case round =>
            obtain ⟨j, cs, cv, rfl, hj, hcl, hcs, hbw, hrb, hown⟩ := hrel
            have hul : us.length ≤ 4294967281 := by have : us.length + 1 ≤ ta.size + 1 := hwl; omega
            have hjb : j ≤ 4294967281 := by omega
            have hcb : cs.length ≤ 4294967281 := by omega
            have Hcl := Lib.hid hcl
            clear hcl
            have Hown := Lib.hid hown
            have Hbw := Lib.hid hbw
            have hszw := hbw.size
            clear hown hbw
            by_cases hlt : j < us.length
            · have hwd : wr.heap[w1.heap.size]? = some (.cells ((u0 :: us).map Value.string).toArray 9) := blk_below Hbl.out Hbw.out
              have hoff1 := Hoff.out (by omega)
              have hwc : wr.cell? ⟨w1.heap.size, off + j, none⟩ = some (.string us[j]) := by
                rw [cells_of hwd, hoff1, Nat.add_comm]
                simp [hlt]
              clear hwd hoff1
              obtain ⟨wo, rfl⟩ : ∃ wo : World, wo = wr := ⟨_, rfl⟩
              obtain ⟨u, hu⟩ : ∃ u : ByteArray, us[j] = u := ⟨_, rfl⟩
              rw [hu] at hwc
              have hus : u.size ≤ ta.size := Hwu.out u (by rw [← hu]; exact List.mem_cons_of_mem _ (List.getElem_mem _))
              have Hu := Lib.hid hu
              clear hu
              have Hlt : Hid (j < us.length) := Lib.hid hlt
              have hbad : Hid (condOf u.data.toList = none → readP s.data.toList = (⟨[], 0⟩, 1)) := fun hc => readP_none (by
                rw [hp.out, Hstep.out k, Hvd.out]
                have h1 : condsOf (us.map (·.data.toList)) = none := by
                  rw [hcs.out, condsOf_drop (by simpa using hlt)]
                  simp [Hu.out, hc]
                simp [h1])
              go_wp2_with fail
              go_loopw [18] (fun kv wr => ∃ k : Nat, kv = .int .i64 k ∧ k ≤ u.size ∧ (∀ i, i < k → ∀ b, u.data.toList[i]? = some b → opOf b = 0) ∧ Below wo.heap.size wo wr) (fun kv _ => u.size - (intOf kv).toNat)
              case atStart => exact ⟨0, rfl, by omega, fun i h => by omega, Below.refl _ _⟩
              case round =>
                obtain ⟨k, rfl, hk, hop, hbo⟩ := hrel
                have Hop := Lib.hid hop
                have Hbo := Lib.hid hbo
                have hszo := hbo.size
                clear hop hbo hwc
                have hom : wr.heap[w.heap.size + 3]? = some (.map omap 4) := blk_below (blk_below Hst2.out.om Hbw.out) Hbo.out
                by_cases hkl : k < u.size
                · have hkz : (k : Int) < (u.size : Int) := by omega
                  obtain ⟨b, hb⟩ : ∃ b : UInt8, u[k] = b := ⟨_, rfl⟩
                  have hbl' : u.data.toList[k]? = some b := by
                    rw [← hb]; exact Lib.data_getElem? u k hkl
                  obtain ⟨fo, hfo, hfo'⟩ := find_o b
                  have hz : ∀ W : World, (zeroValue 3).run Tryd.prog W = .ok (.int .i64 0) W := fun W => by kernel_rfl
                  have hlo := run_lookup_bare (P := Tryd.prog) (key := .int .u8 b.toNat) (t := 68) Tryd.underlying68 Tryd.underlying5 hom (hz _) rfl hfo
                  rw [hfo'] at hlo
                  clear hz hfo hfo' hom
                  have Hbl' := Lib.hid hbl'
                  clear hbl'
                  by_cases h0 : opOf b = 0
                  · have d3 : (opOf b == 0) = true := beq_iff_eq.2 h0
                    have H0 := Lib.hid h0
                    clear h0
                    go_wp2_with fail
                    go_roundw
                    case rel => exact ⟨k + 1, by go_num, by omega, fun i hi c hc => by
                      by_cases hik : i = k
                      · subst hik
                        rw [Hbl'.out] at hc
                        injection hc with hc
                        rw [← hc]; exact H0.out
                      · exact Hop.out i (by omega) c hc, Hbo.out⟩
                    case measure => simp [intOf]; omega
                  · have d3 : (opOf b == 0) = false := beq_eq_false_iff_ne.2 h0
                    have d4 : (k == u.size) = false := beq_eq_false_iff_ne.2 (by omega)
                    have d5 : ((k : Int) == (u.size : Int)) = false := beq_eq_false_iff_ne.2 (by omega)
                    have Hat : Hid (opAt u.data.toList = k) := opAt_spec _ k Hop.out (by show k ≤ u.size; omega) (fun c hc => by
                      rw [Hbl'.out] at hc
                      injection hc with hc
                      rw [← hc]; exact h0)
                    clear h0
                    have hfm : wr.heap[w.heap.size + 2]? = some (.map fmap 5) := blk_below (blk_below Hst2.out.fm Hbw.out) Hbo.out
                    obtain ⟨ff, hff, hff'⟩ := find_f (u.extract 0 k)
                    have hz : ∀ W : World, (zeroValue 3).run Tryd.prog W = .ok (.int .i64 0) W := fun W => by kernel_rfl
                    have hlf := run_lookup_ok (P := Tryd.prog) (key := .string (u.extract 0 k)) (t := 67) Tryd.underlying67 Tryd.underlying9 hfm (hz _) (by exact trivial) hff
                    have hfs : ff.isSome = (fieldOf (u.extract 0 k).data.toList).isSome := by
                      have := congrArg Option.isSome hff'
                      simpa using this
                    rw [hfs, hff', Lib.extract_from_zero] at hlf
                    clear hfm hff hff' hfs hz
                    have HLr := Lib.hid ((HL2.out.below Hbw.out).below Hbo.out)
                    have hkk : (k : Int) + 1 ≤ (u.size : Int) := by omega
                    have hco : Hid (condOf u.data.toList = match fieldOf (u.data.toList.take k) with
                      | none => none
                      | some f => if (wholeS (u.data.toList.drop (k + 1))).2 then some ⟨f, opOf b, (wholeS (u.data.toList.drop (k + 1))).1⟩ else none) := by
                      unfold condOf
                      rw [Hat.out, if_neg (by show k ≠ u.size; omega), List.getD_eq_getElem?_getD, Hbl'.out]
                      rfl
                    cases hfd : fieldOf (u.data.toList.take k) with
                    | none =>
                      rw [hfd] at hlf
                      simp only [Option.map_none, Option.getD_none, Option.isSome_none] at hlf
                      have hrd : Hid (readP s.data.toList = (⟨[], 0⟩, 1)) := hbad.out (by rw [hco.out, hfd])
                      clear hfd hco
                      go_wp2_with fail
                      refine (whole_any (u.extract (k + 1) u.size) wr HLr.out (by rw [ByteArray.size_extract]; omega)).mono ?_
                      rintro e w3 ⟨rfl, hb3⟩
                      have Hb3 := Lib.hid hb3
                      clear hb3
                      go_wp2_with fail
                      refine (bad_any 1 _).mono ?_
                      rintro e w7 ⟨rfl, hb7⟩
                      have hr7 := blk_below (blk_below (blk_below (blk_below Hst2.out.res Hbw.out) Hbo.out) Hb3.out) hb7
                      have hc7 := cells_of hr7
                      have hf7 := not_frozen hr7
                      have hr8 := set_at (o := 1) (v := .int .i64 0) (set_at (o := 0) (v := .slice none 0 0) hr7)
                      have hc8 := cells_of hr8
                      have Hb8 := Lib.hid (set_below (a := ⟨w.heap.size, 1, none⟩) (v := .int .i64 0) (set_below (a := ⟨w.heap.size, 0, none⟩) (v := .slice none 0 0) (bel_call (bel_call (bel_call (bel_call Hst2.out.bel Hbw.out) Hbo.out) Hb3.out) hb7) (Nat.le_refl _)) (Nat.le_refl _))
                      go_wp2
                      rw [hrd.out]
                      refine bodyPost_ret (v := .tuple #[polV (.slice none 0 0) 0, .int .i64 1]) ?_ rfl ⟨_, rfl, ⟨none, 0, rfl, Nat.le_refl _, by unfold maxLen; omega, fun _ => rfl, fun h => by cases h⟩, Hb8.out⟩
                      rw [results_cell_tmp rfl]
                      go_simp
                    | some fd =>
                      rw [hfd] at hlf
                      simp only [Option.map_some, Option.getD_some, Option.isSome_some] at hlf
                      have Hfd := Lib.hid hfd
                      clear hfd
                      go_wp2_with fail
                      refine (whole_any (u.extract (k + 1) u.size) wr HLr.out (by rw [ByteArray.size_extract]; omega)).mono ?_
                      rintro e w3 ⟨rfl, hb3⟩
                      have Hb3 := Lib.hid hb3
                      clear hb3
                      rw [Lib.extract_to_end]
                      rw [Hfd.out] at hco
                      obtain ⟨nn, hnn⟩ : ∃ nn : Int, (wholeS (u.data.toList.drop (k + 1))).1 = nn := ⟨_, rfl⟩
                      cases hgd : (wholeS (u.data.toList.drop (k + 1))).2 with
                      | false =>
                        have hrd : Hid (readP s.data.toList = (⟨[], 0⟩, 1)) := hbad.out (by rw [hco.out, hgd]; rfl)
                        clear hgd hco
                        go_wp2_with fail
                        refine (bad_any 1 _).mono ?_
                        rintro e w7 ⟨rfl, hb7⟩
                        have hr7 := blk_below (blk_below (blk_below (blk_below Hst2.out.res Hbw.out) Hbo.out) Hb3.out) hb7
                        have hc7 := cells_of hr7
                        have hf7 := not_frozen hr7
                        have hr8 := set_at (o := 1) (v := .int .i64 0) (set_at (o := 0) (v := .slice none 0 0) hr7)
                        have hc8 := cells_of hr8
                        have Hb8 := Lib.hid (set_below (a := ⟨w.heap.size, 1, none⟩) (v := .int .i64 0) (set_below (a := ⟨w.heap.size, 0, none⟩) (v := .slice none 0 0) (bel_call (bel_call (bel_call (bel_call Hst2.out.bel Hbw.out) Hbo.out) Hb3.out) hb7) (Nat.le_refl _)) (Nat.le_refl _))
                        go_wp2
                        rw [hrd.out]
                        refine bodyPost_ret (v := .tuple #[polV (.slice none 0 0) 0, .int .i64 1]) ?_ rfl ⟨_, rfl, ⟨none, 0, rfl, Nat.le_refl _, by unfold maxLen; omega, fun _ => rfl, fun h => by cases h⟩, Hb8.out⟩
                        rw [results_cell_tmp rfl]
                        go_simp
                      | true =>
                        have hc1 : Hid (condOf u.data.toList = some ⟨fd, opOf b, nn⟩) := by
                          have := hco.out
                          rw [hgd, hnn] at this
                          exact this
                        rw [hnn]
                        clear hgd hnn hco
                        go_wp2_with fail
                        have hk0 : (0 : Int) ≤ (k : Int) := by omega
                        have hbx3 : w3.cell? ⟨w2.heap.size, 0, none⟩ = some cv := by rw [cells_of (blk_below (blk_below hrb Hbo.out) Hb3.out)]; rfl
                        have hrb3 := blk_below (blk_below hrb Hbo.out) Hb3.out
                        have hom3 : w3.heap[w.heap.size + 3]? = some (.map omap 4) := blk_below (blk_below (blk_below Hst2.out.om Hbw.out) Hbo.out) Hb3.out
                        have hlk : ∀ W : World, W.heap[w.heap.size + 3]? = some (.map omap 4) → (Instr.lookup 68 (.map (some (w.heap.size + 3))) (.int .u8 b.toNat) false).run Tryd.prog W = .ok (.int .i64 (opOf b)) W := fun W hW => by
                          obtain ⟨fo, hfo, hfo'⟩ := find_o b
                          have := run_lookup_bare (P := Tryd.prog) (z := .int .i64 0) (key := .int .u8 b.toNat) (t := 68) Tryd.underlying68 Tryd.underlying5 hW (by kernel_rfl) rfl hfo
                          rw [hfo'] at this
                          exact this
                        have Hlk := Lib.hid hlk
                        clear hlk
                        obtain ⟨rows, hro, hrw⟩ := (Hown.out.below Hbo.out).below Hb3.out
                        obtain ⟨i0, hi0, hz0, hz1, hz2⟩ := info_parts infoCond
                        have hlt3 : w2.heap.size < w3.heap.size := (Array.getElem?_eq_some_iff.1 hrb3).1
                        have ho3 := Hown.out.block
                        have hs3 := Hb3.out.size
                        have hso := Hbo.out.size
                        have hkl' : (k : Int) < (u.size : Int) := by omega
                        have hnb : ∀ g, cv.ownBlock = some g → g ≠ w2.heap.size := fun g e => by have := ho3 _ e; omega
                        have hnm : some (w.heap.size + 3) ≠ cv.ownBlock := fun e => by have := ho3 _ e.symm; omega
                        have Hro := Lib.hid hro
                        have Hhi := Lib.hid hi0
                        have Hrw := Lib.hid hrw
                        have Hom3 := Lib.hid hom3
                        have Hrb3 := Lib.hid hrb3
                        clear hro hi0 hrw hom3 hrb3 hbx3 ho3
                        refine wp_region_app w2.heap.size 46 #[cv, .int .i64 vd] 0 (w2.heap.size + 1) 60 3 cv cs.length rows.flatten 1 [.int .i64 fd, .int .i64 (opOf b), .int .i64 nn] 11 13 (by kernel_rfl) (by kernel_rfl) Hrb3.out Hrw.out (by omega) (Array.getElem?_eq_some_iff.1 Hrb3.out).1 _ rfl
                          [ex (.pointer (some ⟨w2.heap.size, 0, none⟩)), ex cv, ex (.int .i64 fd), ex (.map (some (w.heap.size + 3))), ex (.string u), ex (.int .i64 k), ex (.int .u8 b.toNat), ex (.int .i64 (opOf b)), ex (.int .i64 nn), ex (.agg #[.int .i64 fd, .int .i64 (opOf b), .int .i64 nn]), pr (NewP w3.heap.size 60 1 #[.int .i64 fd, .int .i64 (opOf b), .int .i64 nn]), pr (OwnP (w2.heap.size + 1) 60 3 (cs.length + 1) (rows.flatten ++ [.int .i64 fd, .int .i64 (opOf b), .int .i64 nn])), ex (.pointer (some ⟨w2.heap.size, 0, none⟩)), ex undef] ?_
                          ⟨.inl ⟨_, rfl⟩, .inl ⟨_, rfl⟩, .inl ⟨_, rfl⟩, .inl ⟨_, rfl⟩, .inl ⟨_, rfl⟩, .inl ⟨_, rfl⟩, .inl ⟨_, rfl⟩, .inl ⟨_, rfl⟩, .inl ⟨_, rfl⟩, .inl ⟨_, rfl⟩, .inr (.inl rfl), .inr (.inr ⟨rfl, rfl⟩), .inl ⟨_, rfl⟩, .inl ⟨_, rfl⟩, trivial⟩
                        (refine walkP_ex (fun K hK => ?_); refine ⟨fun done W hI h0 hd hn hf R hR => ?_, ?_⟩; (clear h0 hd hn hf; go_simp; exact hR _ _ (hI.step (Below.refl _ _) (by decide) (by decide)) (AppT.of_below (Below.refl _ _)) rfl); (go_simp; refine hK _ ?_; clear hK K))
                        (refine walkP_ex (fun K hK => ?_); refine ⟨fun done W hI h0 hd hn hf R hR => ?_, ?_⟩; (have h13 : done 13 = false := hn 13 (by decide); have hcb := cells_of (hI.before h13); clear h0 hd hn hf; go_simp; exact hR _ _ (hI.step (Below.refl _ _) (by decide) (by decide)) (AppT.of_below (Below.refl _ _)) rfl); (go_simp; refine hK _ ?_; clear hK K))
                        (refine walkP_ex (fun K hK => ?_); refine ⟨fun done W hI h0 hd hn hf R hR => ?_, ?_⟩; (clear h0 hd hn hf; go_simp; exact hR _ _ (hI.step (Below.refl _ _) (by decide) (by decide)) (AppT.of_below (Below.refl _ _)) rfl); (go_simp; refine hK _ ?_; clear hK K))
                        (refine walkP_ex (fun K hK => ?_); refine ⟨fun done W hI h0 hd hn hf R hR => ?_, ?_⟩; (clear h0 hd hn hf; go_simp; exact hR _ _ (hI.step (Below.refl _ _) (by decide) (by decide)) (AppT.of_below (Below.refl _ _)) rfl); (go_simp; refine hK _ ?_; clear hK K))
                        (refine walkP_ex (fun K hK => ?_); refine ⟨fun done W hI h0 hd hn hf R hR => ?_, ?_⟩; (clear h0 hd hn hf; go_simp; exact hR _ _ (hI.step (Below.refl _ _) (by decide) (by decide)) (AppT.of_below (Below.refl _ _)) rfl); (go_simp; refine hK _ ?_; clear hK K))
                        (refine walkP_ex (fun K hK => ?_); refine ⟨fun done W hI h0 hd hn hf R hR => ?_, ?_⟩; (clear h0 hd hn hf; go_simp; exact hR _ _ (hI.step (Below.refl _ _) (by decide) (by decide)) (AppT.of_below (Below.refl _ _)) rfl); (go_simp; refine hK _ ?_; clear hK K))
                        (refine walkP_ex (fun K hK => ?_); refine ⟨fun done W hI h0 hd hn hf R hR => ?_, ?_⟩; (clear h0 hd hn hf; go_simp; exact hR _ _ (hI.step (Below.refl _ _) (by decide) (by decide)) (AppT.of_below (Below.refl _ _)) rfl); (go_simp; refine hK _ ?_; clear hK K))
                        (refine walkP_ex (fun K hK => ?_); refine ⟨fun done W hI h0 hd hn hf R hR => ?_, ?_⟩; (have hlw := Hlk.out W ((hI.blk (w.heap.size + 3) (by omega) (by omega) hnm).trans Hom3.out); clear h0 hd hn hf; go_simp; exact hR _ _ (hI.step (Below.refl _ _) (by decide) (by decide)) (AppT.of_below (Below.refl _ _)) rfl); (go_simp; refine hK _ ?_; clear hK K))
                        (refine walkP_ex (fun K hK => ?_); refine ⟨fun done W hI h0 hd hn hf R hR => ?_, ?_⟩; (clear h0 hd hn hf; go_simp; exact hR _ _ (hI.step (Below.refl _ _) (by decide) (by decide)) (AppT.of_below (Below.refl _ _)) rfl); (go_simp; refine hK _ ?_; clear hK K))
                        (refine walkP_ex (fun K hK => ?_); refine ⟨fun done W hI h0 hd hn hf R hR => ?_, ?_⟩; (clear h0 hd hn hf; go_simp; exact hR _ _ (hI.step (Below.refl _ _) (by decide) (by decide)) (AppT.of_below (Below.refl _ _)) rfl); (go_simp; refine hK _ ?_; clear hK K))
                        (refine walkP_pr (fun K hK => ?_); refine ⟨fun done W hI h0 hd hn hf R hR => ?_, fun v10 => ?_⟩; (clear h0 hd hn hf; go_simp; exact hR _ _ (hI.step (bel_alloc (Below.refl _ _) _) (by decide) (by decide)) (AppT.of_below (bel_alloc (Below.refl _ _) _)) ⟨_, rfl, hI.size, heap_last _ _⟩); (go_simp; refine hK _ _ ?_; clear hK K))
                        (refine walkP_pr (fun K hK => ?_); refine ⟨fun done W hI h0 hd hn hf R hR => ?_, fun v11 => ?_⟩; (have h10 : NewP w3.heap.size 60 1 #[.int .i64 fd, .int .i64 (opOf b), .int .i64 nn] v10 W := hf 10 (by decide); obtain ⟨bn, rfl, hbn, hcn⟩ := h10; refine ob_plain rfl ?_; refine gives_append (.tmp 123) (.tmp 132) 44 rfl (w2.heap.size + 1) 60 i0 _ 3 24 Tryd.underlying44 Hhi.out hz0 hz1 hz2 rfl (by omega) cv cs.length rows.flatten (by rfl) (hI.own h0) ⟨bn, 0, none⟩ 1 1 [.int .i64 fd, .int .i64 (opOf b), .int .i64 nn] (by rfl) (by rfl) (World.news_of_block hcn) (by simp [Value.oneCell']) (by omega) (by unfold maxLen; omega) (by omega) (by have := hI.size; omega) (fun v' w' h1 h2 => hR _ _ (hI.appended (hn 13 (by decide)) (by decide) hnb h2 (by omega)) (AppT.of_grown h2) h1)); (go_simp; refine hK _ _ ?_; clear hK K))
                        (refine walkP_ex (fun K hK => ?_); refine ⟨fun done W hI h0 hd hn hf R hR => ?_, ?_⟩; (clear h0 hd hn hf; go_simp; exact hR _ _ (hI.step (Below.refl _ _) (by decide) (by decide)) (AppT.of_below (Below.refl _ _)) rfl); (go_simp; refine hK _ ?_; clear hK K))
                        (refine walkP_ex (fun K hK => ?_); refine ⟨fun done W hI h0 hd hn hf R hR => ?_, ?_⟩; (have h11 : OwnP (w2.heap.size + 1) 60 3 (cs.length + 1) (rows.flatten ++ [.int .i64 fd, .int .i64 (opOf b), .int .i64 nn]) v11 W := hf 11 (by decide); have hda : done 11 = true := hd 11 (by decide); have hst := hI.stored (v := v11) h0 hda (by decide) h11 (by omega); obtain ⟨gv, cpv, rfl, _, _⟩ := World.ownsRow.form h11 (by omega); have hcb := cells_of (hI.before h0); have hfb := not_frozen (hI.before h0); clear hd hn hf; go_simp; exact hR _ _ hst AppT.of_store rfl); (go_simp; refine hK _ ?_; clear hK K))
                        intro done W hdone hI hF
                        obtain ⟨v', hbv, hov⟩ := hI.after (hdone 13 (by decide))
                        have hbW : Below w2.heap.size w2 W := hI.below (bel_call (bel_call Hbw.out Hbo.out) Hb3.out) (Nat.le_refl _) (fun g hg => by have := Hown.out.block g hg; omega) (by omega)
                        have Hbv := Lib.hid hbv
                        have Hov := Lib.hid hov
                        have HbW := Lib.hid hbW
                        clear hI hF hdone hbv hov hbW
                        go_wp2
                        go_roundw
                        case rel => exact ⟨j + 1, cs ++ [⟨fd, opOf b, nn⟩], v', by go_num, by have := Hlt.out; omega, by simp [Hcl.out], by
                            show condsOf _ = _
                            rw [hcs.out, condsOf_drop (by simpa using hlt)]
                            simp only [List.getElem_map, Hu.out, hc1.out]
                            cases condsOf (List.drop (j + 1) (us.map (·.data.toList))) <;> simp, HbW.out, Hbv.out,
                          ⟨rows ++ [[.int .i64 fd, .int .i64 (opOf b), .int .i64 nn]], Hro.out.app (RowsOf.cons (sz := 3) (R := condR) (x := (⟨fd, opOf b, nn⟩ : TCond)) (r := [.int .i64 fd, .int .i64 (opOf b), .int .i64 nn]) RowsOf.nil rfl rfl), by
                            have := Hov.out
                            simpa using this⟩⟩
                        case measure => have := Hlt.out; simp [intOf]; omega
                · obtain rfl : k = u.size := by omega
                  have hrd : Hid (readP s.data.toList = (⟨[], 0⟩, 1)) := hbad.out (by
                    unfold condOf
                    rw [if_pos (show opAt u.data.toList = u.data.toList.length from opAt_spec _ u.data.toList.length Hop.out (Nat.le_refl _) (fun c hc => by simp at hc))])
                  clear hom
                  go_wp2_with fail
                  refine (bad_any 1 _).mono ?_
                  rintro e w7 ⟨rfl, hb7⟩
                  have hr7 := blk_below (blk_below (blk_below Hst2.out.res Hbw.out) Hbo.out) hb7
                  have hc7 := cells_of hr7
                  have hf7 := not_frozen hr7
                  have hr8 := set_at (o := 1) (v := .int .i64 0) (set_at (o := 0) (v := .slice none 0 0) hr7)
                  have hc8 := cells_of hr8
                  have Hb8 := Lib.hid (set_below (a := ⟨w.heap.size, 1, none⟩) (v := .int .i64 0) (set_below (a := ⟨w.heap.size, 0, none⟩) (v := .slice none 0 0) (bel_call (bel_call (bel_call Hst2.out.bel Hbw.out) Hbo.out) hb7) (Nat.le_refl _)) (Nat.le_refl _))
                  go_wp2
                  rw [hrd.out]
                  refine bodyPost_ret (v := .tuple #[polV (.slice none 0 0) 0, .int .i64 1]) ?_ rfl ⟨_, rfl, ⟨none, 0, rfl, Nat.le_refl _, by unfold maxLen; omega, fun _ => rfl, fun h => by cases h⟩, Hb8.out⟩
                  rw [results_cell_tmp rfl]
                  go_simp
            · obtain rfl : j = us.length := by omega
              have hcs1 : Hid (condsOf (us.map (·.data.toList)) = some cs) := by
                show condsOf _ = _
                rw [hcs.out, List.drop_of_length_le (by simp)]
                simp [condsOf]
              have hpc := blk_below Hst2.out.pc Hbw.out
              have hcp := cells_of hpc
              have hfp := not_frozen hpc
              have hcr := cells_of hrb
              obtain ⟨ca, cc, hcv, _⟩ := Sl.form (Hown.out.sl (D := fun _ => True) fun _ _ => trivial)
              obtain ⟨rows, hro, hrw⟩ := (Hst2.out.below Hbw.out).own
              obtain ⟨i0, hi0, hz0, hz1, hz2⟩ := info_parts infoRule
              have hpo : ∀ g, pv.ownBlock = some g → w.heap.size + 5 ≤ g := fun g hg => (hrw.lt g hg).1
              have hpn : some (w.heap.size + 4) ≠ pv.ownBlock := fun e => by have := hpo _ e.symm; omega
              have h1 : ∀ u ∈ [cv, Value.int .i64 vd], u.oneCell' = true := by rw [hcv]; simp [Value.oneCell']
              have hsr' : tr.size < t.size := hsr trivial
              have Hro := Lib.hid hro
              have Hrw := Lib.hid hrw
              have Hpc := Lib.hid hpc
              have Hhi := Lib.hid hi0
              have H1 := Lib.hid h1
              have Hrb := Lib.hid hrb
              clear hro hrw hpc hi0 h1 hcv hsr hrb
              go_wp2_with (at_builtin; refine wpList_append_lies _ rfl _ _ _ rfl (w.heap.size + 5) 46 i0 _ 2 32 Tryd.underlying22 Hhi.out hz0 hz1 hz2 rfl (by decide) pv rs.length rows.flatten rfl (Hrw.out.alloc _) ⟨wr.heap.size, 0, none⟩ 1 1 [cv, .int .i64 vd] rfl rfl (World.news_of_block (cs := #[cv, .int .i64 vd]) (blk_at rfl)) H1.out (by omega) (by unfold maxLen; omega) (by omega) (by simp; omega) (wr.heap.size + 1) (by simp) ?_; intro gg cap w4 hown4 hgrow hat hlt4; have hb4 := (hgrow.block (w.heap.size + 4) (by simp; omega) hpn).trans (blk_old Hpc.out); have hc4 := cells_of hb4; have hf4 := not_frozen hb4; have Hown4 := Lib.hid hown4; have Hgrow := Lib.hid hgrow; have Hat := Lib.hid hat; clear hown4 hgrow hat hb4)
              go_roundw
              case rel => exact ⟨k, tr, rs ++ [⟨cs, vd⟩], .slice (some ⟨gg, 0, none⟩) (rs.length + 1) cap, rfl, by omega, by simp; omega, by
                  show pread _ _ = _
                  rw [hp.out, Hstep.out k, Hvd.out, hcs1.out]
                  cases pread k tr.data.toList <;> simp, rd_step Hst2.out Hbw.out Hown.out Hgrow.out Hown4.out Hro.out Hat.out⟩
              case measure => simp; omega
end Go.Proofs.YtmokmmpomgjemaaDoor
