/- Texts laid one behind the other: Read, Judge, Judge2, Judge3, Made, Equal, ConcatRule, CloneRule, RulesOf, Cut, BoolMap, BoolRange, RPointSpec. No condition beyond theirs. -/
import Derived.Test.YtioeliocdbckbaaDoorK4
import Derived.Test.YtioeliocdbckbaaDoorK1
import Derived.Laws.ResultCell
import Derived.Test.YtioeliocdbckbaaDoorK3
import Derived.Test.YtioeliocdbckbaaDoorProg
import Derived.KernelRfl
import Derived.Deep.LoopGhost
import Derived.Test.YtioeliocdbckbaaDoorK2
import Derived.Maps.OwnSet
import Derived.Maps.RangeWalk
import Derived.Laws.IdiomRangeMap
namespace Go.Proofs.YtioeliocdbckbaaDoor
open Go.RowKit
open Go.MapKept (IsKey)
attribute [local go_sem] gives givesUpon

attribute [-go_sem] run_slice_l
set_option maxRecDepth 8000 in
set_option maxHeartbeats 4000000 in
theorem read_walk (s : ByteArray) (w : World) (hL : Laid w) (hs : s.size ≤ 281474976710656) (hs' : s.size < 4294967281) :
    Calls Tryd.prog 44 #[.string s] w fun e w' => ∃ v, e = .returned (.tuple #[polV v (readP s.data.toList).1.dflt, .int .i64 (readP s.data.toList).2]) ∧ RdRules w' (fun b => w.heap.size ≤ b) v (readP s.data.toList).1.rules ∧ Below w.heap.size w w' := by
  have HL := Lib.hid hL
  clear hL
  have hmm := @run_makeMap Tryd.prog
  have hb0 : w.heap.size + 1 = (w.alloc (.cells #[.slice none 0 0, .int .i64 0] 44)).heap.size := by simp
  have hv0 := run_insert_at (P := Tryd.prog) (t := 89) (es := #[]) (c := 0) (key := bs [107, 105, 108, 108]) (v := .int .i64 0) hb0 Tryd.underlying89 Tryd.underlying9 (by first | exact trivial | rfl) (by kernel_rfl)
  have hv1 := run_insert_at (P := Tryd.prog) (t := 89) (es := #[⟨bs [107, 105, 108, 108], .int .i64 0, 0⟩]) (c := 1) (key := bs [116, 114, 97, 112]) (v := .int .i64 1) hb0 Tryd.underlying89 Tryd.underlying9 (by first | exact trivial | rfl) (by kernel_rfl)
  have hv2 := run_insert_at (P := Tryd.prog) (t := 89) (es := #[⟨bs [107, 105, 108, 108], .int .i64 0, 0⟩, ⟨bs [116, 114, 97, 112], .int .i64 1, 1⟩]) (c := 2) (key := bs [102, 97, 105, 108]) (v := .int .i64 2) hb0 Tryd.underlying89 Tryd.underlying9 (by first | exact trivial | rfl) (by kernel_rfl)
  have hv3 := run_insert_at (P := Tryd.prog) (t := 89) (es := #[⟨bs [107, 105, 108, 108], .int .i64 0, 0⟩, ⟨bs [116, 114, 97, 112], .int .i64 1, 1⟩, ⟨bs [102, 97, 105, 108], .int .i64 2, 2⟩]) (c := 3) (key := bs [108, 111, 103]) (v := .int .i64 3) hb0 Tryd.underlying89 Tryd.underlying9 (by first | exact trivial | rfl) (by kernel_rfl)
  have hv4 := run_insert_at (P := Tryd.prog) (t := 89) (es := #[⟨bs [107, 105, 108, 108], .int .i64 0, 0⟩, ⟨bs [116, 114, 97, 112], .int .i64 1, 1⟩, ⟨bs [102, 97, 105, 108], .int .i64 2, 2⟩, ⟨bs [108, 111, 103], .int .i64 3, 3⟩]) (c := 4) (key := bs [97, 108, 108, 111, 119]) (v := .int .i64 4) hb0 Tryd.underlying89 Tryd.underlying9 (by first | exact trivial | rfl) (by kernel_rfl)
  have hb1 : w.heap.size + 2 = ((w.alloc (.cells #[.slice none 0 0, .int .i64 0] 44)).alloc (.map vmap 5)).heap.size := by simp
  have hf0 := run_insert_at (P := Tryd.prog) (t := 89) (es := #[]) (c := 0) (key := bs [110, 114]) (v := .int .i64 0) hb1 Tryd.underlying89 Tryd.underlying9 (by first | exact trivial | rfl) (by kernel_rfl)
  have hf1 := run_insert_at (P := Tryd.prog) (t := 89) (es := #[⟨bs [110, 114], .int .i64 0, 0⟩]) (c := 1) (key := bs [107, 105, 110, 100]) (v := .int .i64 1) hb1 Tryd.underlying89 Tryd.underlying9 (by first | exact trivial | rfl) (by kernel_rfl)
  have hf2 := run_insert_at (P := Tryd.prog) (t := 89) (es := #[⟨bs [110, 114], .int .i64 0, 0⟩, ⟨bs [107, 105, 110, 100], .int .i64 1, 1⟩]) (c := 2) (key := bs [97]) (v := .int .i64 2) hb1 Tryd.underlying89 Tryd.underlying9 (by first | exact trivial | rfl) (by kernel_rfl)
  have hf3 := run_insert_at (P := Tryd.prog) (t := 89) (es := #[⟨bs [110, 114], .int .i64 0, 0⟩, ⟨bs [107, 105, 110, 100], .int .i64 1, 1⟩, ⟨bs [97], .int .i64 2, 2⟩]) (c := 3) (key := bs [98]) (v := .int .i64 3) hb1 Tryd.underlying89 Tryd.underlying9 (by first | exact trivial | rfl) (by kernel_rfl)
  have hf4 := run_insert_at (P := Tryd.prog) (t := 89) (es := #[⟨bs [110, 114], .int .i64 0, 0⟩, ⟨bs [107, 105, 110, 100], .int .i64 1, 1⟩, ⟨bs [97], .int .i64 2, 2⟩, ⟨bs [98], .int .i64 3, 3⟩]) (c := 4) (key := bs [99]) (v := .int .i64 4) hb1 Tryd.underlying89 Tryd.underlying9 (by first | exact trivial | rfl) (by kernel_rfl)
  have hb2 : w.heap.size + 3 = (((w.alloc (.cells #[.slice none 0 0, .int .i64 0] 44)).alloc (.map vmap 5)).alloc (.map fmap 5)).heap.size := by simp
  have ho0 := run_insert_at (P := Tryd.prog) (t := 90) (es := #[]) (c := 0) (key := .int .u8 61) (v := .int .i64 1) hb2 Tryd.underlying90 Tryd.underlying5 (by first | exact trivial | rfl) (by kernel_rfl)
  have ho1 := run_insert_at (P := Tryd.prog) (t := 90) (es := #[⟨.int .u8 61, .int .i64 1, 0⟩]) (c := 1) (key := .int .u8 33) (v := .int .i64 2) hb2 Tryd.underlying90 Tryd.underlying5 (by first | exact trivial | rfl) (by kernel_rfl)
  have ho2 := run_insert_at (P := Tryd.prog) (t := 90) (es := #[⟨.int .u8 61, .int .i64 1, 0⟩, ⟨.int .u8 33, .int .i64 2, 1⟩]) (c := 2) (key := .int .u8 60) (v := .int .i64 3) hb2 Tryd.underlying90 Tryd.underlying5 (by first | exact trivial | rfl) (by kernel_rfl)
  have ho3 := run_insert_at (P := Tryd.prog) (t := 90) (es := #[⟨.int .u8 61, .int .i64 1, 0⟩, ⟨.int .u8 33, .int .i64 2, 1⟩, ⟨.int .u8 60, .int .i64 3, 2⟩]) (c := 3) (key := .int .u8 62) (v := .int .i64 4) hb2 Tryd.underlying90 Tryd.underlying5 (by first | exact trivial | rfl) (by kernel_rfl)
  simp only [List.push_toArray, List.nil_append, List.cons_append, Nat.reduceAdd] at hv0 hv1 hv2 hv3 hv4 hf0 hf1 hf2 hf3 hf4 ho0 ho1 ho2 ho3
  clear hb0 hb1 hb2
  go_enter Tryd.func44, Tryd.ntmps44
  go_wp2_with fail
  clear hv0 hv1 hv2 hv3 hv4 hf0 hf1 hf2 hf3 hf4 ho0 ho1 ho2 ho3 hmm
  go_loopw [0] (fun sv wr => ∃ (n : Nat) (t : ByteArray) (rs : List TRule) (pv : Value), sv = .string t ∧ t.size < n ∧ rs.length + t.size ≤ s.size ∧ Hid (pread (s.data.toList.length + 1) s.data.toList = (pread n t.data.toList).map fun p => ⟨rs ++ p.rules, p.dflt⟩) ∧ RdState w wr rs pv) (fun sv _ => (match sv with | .string t => t.size | _ => 0))
  case atStart => exact ⟨s.size + 1, s, [], .slice none 0 0, rfl, by omega, by simp, by
    have e : s.data.toList.length = s.size := rfl
    rw [e]
    cases pread (s.size + 1) s.data.toList <;> rfl, rdState0 w⟩
  case round =>
    obtain ⟨n, t, rs, pv, rfl, hn, hts, hp, hst⟩ := hrel
    obtain ⟨pa, pcap, hpv, hpl, hpm, _⟩ := Sl.form hst.rules
    have Hpv := Lib.hid hpv
    have Hst := Lib.hid hst
    clear hpv hpl hpm
    have hsz := hst.sz
    have HLr := Lib.hid (HL.out.below hst.bel)
    clear hst
    go_wp2_with fail
    refine (cut_any t _ HLr.out (by omega)).mono ?_
    rintro e w1 ⟨ta, tr, more, rfl, hta, htr, hmore, hsa, hsr, hb1⟩
    have Hta := Lib.hid hta
    have Htr := Lib.hid htr
    have Hmore := Lib.hid hmore
    clear hta htr hmore
    have Hst1 := Lib.hid (Hst.out.below hb1)
    have HL1 := Lib.hid (HLr.out.below hb1)
    have hsz1 := Hst1.out.sz
    clear Hst HLr hb1 hsz
    go_wp2_with fail
    refine (split_any ta w1 HL1.out (by omega)).mono ?_
    rintro e w2 ⟨ws, rfl, hw2, hws, hw0, hwl, hwu⟩
    obtain ⟨u0, us, rfl⟩ : ∃ u0 us, ws = u0 :: us := by cases ws with
      | nil => simp at hw0
      | cons u0 us => exact ⟨u0, us, rfl⟩
    have hb2 : Below w1.heap.size w1 w2 := by rw [hw2]; exact bel_alloc (Below.refl _ _) _
    have hbl : w2.heap[w1.heap.size]? = some (.cells ((u0 :: us).map Value.string).toArray 9) := by rw [hw2]; exact heap_last _ _
    have hc0 : w2.cell? ⟨w1.heap.size, 0, none⟩ = some (.string u0) := by rw [hw2]; exact (World.cell?_alloc_at _ _ _ _ rfl).trans (by simp)
    have Hst2 := Lib.hid (Hst1.out.below hb2)
    have HL2 := Lib.hid (HL1.out.below hb2)
    have hsz2 := Hst2.out.sz
    have Hbl := Lib.hid hbl
    have Hstep : Hid (∀ k, pread (k + 1) t.data.toList = match verdictOf u0.data.toList with
        | none => none
        | some v => if more then (match condsOf (us.map (·.data.toList)) with
            | none => none
            | some cs => (pread k tr.data.toList).map fun p => ⟨⟨cs, v⟩ :: p.rules, p.dflt⟩) else if 1 < us.length + 1 then none else some ⟨[], v⟩) := fun k => by
      rw [pread_step (u0 := u0.data.toList) (us := us.map (·.data.toList)) (by rw [← Hta.out, ← hws]; rfl), Hmore.out, Htr.out, List.length_map] <;> rfl
    obtain ⟨k, rfl⟩ : ∃ k, n = k + 1 := ⟨n - 1, by omega⟩
    have Hwu := Lib.hid hwu
    clear hw2 hb2 hbl hws hwu Hst1 HL1 Hta Hmore
    obtain ⟨fv, hfv, hfv'⟩ := find_v u0
    have hz : ∀ W : World, (zeroValue 3).run Tryd.prog W = .ok (.int .i64 0) W := fun W => by kernel_rfl
    have hlk := run_lookup_ok (P := Tryd.prog) (key := .string u0) (t := 89) Tryd.underlying89 Tryd.underlying9 Hst2.out.vm (hz _) (by exact trivial) hfv
    have hfs : fv.isSome = (verdictOf u0.data.toList).isSome := by
      have := congrArg Option.isSome hfv'
      simpa using this
    rw [hfs, hfv'] at hlk
    have h1l : (1 : Nat) ≤ us.length + 1 := by omega
    clear hfv hfv' hfs hz hw0
    cases hvd : verdictOf u0.data.toList with
    | none =>
      rw [hvd] at hlk
      simp only [Option.map_none, Option.getD_none, Option.isSome_none] at hlk
      go_wp2_with fail
      refine (bad_any 1 _).mono ?_
      rintro e w3 ⟨rfl, hb3⟩
      have hr3 := blk_below Hst2.out.res hb3
      have hc3 := cells_of hr3
      have hf3 := not_frozen hr3
      have hr4 := set_at (o := 1) (v := .int .i64 0) (set_at (o := 0) (v := .slice none 0 0) hr3)
      have hc4 := cells_of hr4
      have Hb4 := Lib.hid (set_below (a := ⟨w.heap.size, 1, none⟩) (v := .int .i64 0) (set_below (a := ⟨w.heap.size, 0, none⟩) (v := .slice none 0 0) (bel_call Hst2.out.bel hb3) (Nat.le_refl _)) (Nat.le_refl _))
      go_wp2
      have hrd : readP s.data.toList = (⟨[], 0⟩, 1) := readP_none (by rw [hp.out, Hstep.out k, hvd]; rfl)
      rw [hrd]
      refine bodyPost_ret (v := .tuple #[polV (.slice none 0 0) 0, .int .i64 1]) ?_ rfl ⟨_, rfl, ⟨none, 0, rfl, Nat.le_refl _, by unfold maxLen; omega, fun _ => rfl, fun h => by cases h⟩, Hb4.out⟩
      rw [results_cell_tmp rfl]
      go_simp
    | some vd =>
      rw [hvd] at hlk
      simp only [Option.map_some, Option.getD_some, Option.isSome_some] at hlk
      have Hvd := Lib.hid hvd
      clear hvd
      cases more with
      | false =>
        by_cases hus : us.length = 0
        · have d1 : ¬ (1 : Int) < (us.length : Int) + 1 := by omega
          have hpc := Hst2.out.pc
          have hcp := cells_of hpc
          have hfp := not_frozen hpc
          have hR4 : RdRules (w2.setCell ⟨w.heap.size + 4, 1, none⟩ (.int .i64 vd)) (fun b => w.heap.size + 5 ≤ b) pv rs :=
            RdRules.keep Hst2.out.rules (fun _ h _ => h) (fun b hb _ => set_other (by show b ≠ w.heap.size + 4; have : w.heap.size + 5 ≤ b := hb; omega)) (by rw [set_size]; exact Nat.le_refl _)
          have hb4 : Below w.heap.size w (w2.setCell ⟨w.heap.size + 4, 1, none⟩ (.int .i64 vd)) := set_below Hst2.out.bel (by show w.heap.size ≤ w.heap.size + 4; omega)
          have hr4 : (w2.setCell ⟨w.heap.size + 4, 1, none⟩ (.int .i64 vd)).heap[w.heap.size]? = some (.cells #[.slice none 0 0, .int .i64 0] 44) := (set_other (by show w.heap.size ≠ w.heap.size + 4; omega)).trans Hst2.out.res
          have hp4 := set_at (o := 1) (v := .int .i64 vd) hpc
          have hre : Hid (readP s.data.toList = if polE ⟨rs, vd⟩ = 0 then (⟨rs, vd⟩, 0) else (⟨[], 0⟩, polE ⟨rs, vd⟩)) := readP_some (by
            rw [hp.out, Hstep.out k, Hvd.out]
            simp only [Bool.false_eq_true, if_false]
            rw [if_neg (by omega)]
            simp only [Option.map_some, List.append_nil])
          have HR4 := Lib.hid hR4
          have Hb4 := Lib.hid hb4
          have Hr4 := Lib.hid hr4
          have Hp4 := Lib.hid hp4
          clear hR4 hb4 hr4 hp4
          go_wp2_with fail
          refine (rpolcheck_any pv ⟨rs, vd⟩ _ _ HR4.out).mono ?_
          rintro e w5 ⟨rfl, hb5⟩
          have hR5 := RdRules.below HR4.out hb5
          have hr5 := blk_below Hr4.out hb5
          have hp5 := blk_below Hp4.out hb5
          have hb5' := bel_call Hb4.out hb5
          have HR5 := Lib.hid hR5
          have Hb5 := Lib.hid hb5'
          clear hR5 hb5' hb5 hpc hcp hfp HR4 Hb4 Hr4 Hp4
          by_cases hpe : polE ⟨rs, vd⟩ = 0
          · have d2 : (polE ⟨rs, vd⟩ != 0) = false := bne_eq_false_iff_eq.2 hpe
            have Hpe := Lib.hid hpe
            have hcp := cells_of hp5
            have hcr := cells_of hr5
            have hfr := not_frozen hr5
            have hr6 := set_at (o := 1) (v := .int .i64 vd) (set_at (o := 0) (v := pv) hr5)
            have hc6 := cells_of hr6
            have Hb6 := Lib.hid (set_below (a := ⟨w.heap.size, 1, none⟩) (v := .int .i64 vd) (set_below (a := ⟨w.heap.size, 0, none⟩) (v := pv) Hb5.out (Nat.le_refl _)) (Nat.le_refl _))
            have hR6 : Hid (RdRules ((w5.setCell ⟨w.heap.size, 0, none⟩ pv).setCell ⟨w.heap.size, 1, none⟩ (.int .i64 vd)) (fun b => w.heap.size ≤ b) pv rs) :=
              RdRules.keep HR5.out (fun b h _ => by have : w.heap.size + 5 ≤ b := h; show w.heap.size ≤ b; omega) (fun b hb _ => by
                have h1 : w.heap.size + 5 ≤ b := hb
                rw [set_other (by show b ≠ w.heap.size; omega), set_other (by show b ≠ w.heap.size; omega)]) (by rw [set_size, set_size]; exact Nat.le_refl _)
            clear hpe hp5
            have Hre := hre
            clear hre
            obtain rfl := Hpv.out
            go_wp2
            rw [Hre.out, if_pos Hpe.out]
            refine bodyPost_ret (v := .tuple #[polV (.slice pa rs.length pcap) vd, .int .i64 0]) ?_ rfl ⟨_, rfl, hR6.out, Hb6.out⟩
            rw [results_cell_tmp rfl]
            go_simp
          · have d2 : (polE ⟨rs, vd⟩ != 0) = true := bne_iff_ne.2 hpe
            have Hpe := Lib.hid hpe
            clear hpe hp5
            go_wp2_with fail
            refine (bad_any _ _).mono ?_
            rintro e w6 ⟨rfl, hb6⟩
            have hr6 := blk_below hr5 hb6
            have hc6 := cells_of hr6
            have hf6 := not_frozen hr6
            have hr7 := set_at (o := 1) (v := .int .i64 0) (set_at (o := 0) (v := .slice none 0 0) hr6)
            have hc7 := cells_of hr7
            have Hb7 := Lib.hid (set_below (a := ⟨w.heap.size, 1, none⟩) (v := .int .i64 0) (set_below (a := ⟨w.heap.size, 0, none⟩) (v := .slice none 0 0) (bel_call Hb5.out hb6) (Nat.le_refl _)) (Nat.le_refl _))
            clear hr5
            go_wp2
            rw [hre.out, if_neg Hpe.out]
            refine bodyPost_ret (v := .tuple #[polV (.slice none 0 0) 0, .int .i64 (polE ⟨rs, vd⟩)]) ?_ rfl ⟨_, rfl, ⟨none, 0, rfl, Nat.le_refl _, by unfold maxLen; omega, fun _ => rfl, fun h => by cases h⟩, Hb7.out⟩
            rw [results_cell_tmp rfl]
            go_simp
        · have d1 : (1 : Int) < (us.length : Int) + 1 := by omega
          go_wp2_with fail
          refine (bad_any 1 _).mono ?_
          rintro e w3 ⟨rfl, hb3⟩
          have hr3 := blk_below Hst2.out.res hb3
          have hc3 := cells_of hr3
          have hf3 := not_frozen hr3
          have hr4 := set_at (o := 1) (v := .int .i64 0) (set_at (o := 0) (v := .slice none 0 0) hr3)
          have hc4 := cells_of hr4
          have Hb4 := Lib.hid (set_below (a := ⟨w.heap.size, 1, none⟩) (v := .int .i64 0) (set_below (a := ⟨w.heap.size, 0, none⟩) (v := .slice none 0 0) (bel_call Hst2.out.bel hb3) (Nat.le_refl _)) (Nat.le_refl _))
          have hrd : Hid (readP s.data.toList = (⟨[], 0⟩, 1)) := readP_none (by
            rw [hp.out, Hstep.out k, Hvd.out]
            simp only [Bool.false_eq_true, if_false]
            rw [if_pos (by omega)]; rfl)
          go_wp2
          rw [hrd.out]
          refine bodyPost_ret (v := .tuple #[polV (.slice none 0 0) 0, .int .i64 1]) ?_ rfl ⟨_, rfl, ⟨none, 0, rfl, Nat.le_refl _, by unfold maxLen; omega, fun _ => rfl, fun h => by cases h⟩, Hb4.out⟩
          rw [results_cell_tmp rfl]
          go_simp
      | true =>
        have d1 : (1 : Int) ≤ (us.length : Int) + 1 := by omega
        obtain ⟨off, hoff, htl⟩ := slice_tail w1.heap.size us.length
        have Hoff := Lib.hid hoff
        clear hoff
        go_wp2_with fail
        all_goals
          clear htl
          go_loopw [70] (fun jv wr => ∃ (j : Nat) (cs : List TCond) (cv : Value), jv = .int .i64 j ∧ j ≤ us.length ∧ cs.length = j ∧ Hid (condsOf (us.map (·.data.toList)) = (condsOf ((us.map (·.data.toList)).drop j)).map (cs ++ ·)) ∧
            Below w2.heap.size w2 wr ∧ wr.heap[w2.heap.size]? = some (.cells #[cv, .int .i64 vd] 65) ∧ OwnSl wr (w2.heap.size + 1) 67 3 condR cv cs) (fun jv _ => us.length - (intOf jv).toNat)
          case atStart => exact ⟨0, [], .slice none 0 0, rfl, by omega, rfl, by rw [List.drop_zero]; cases condsOf (us.map (·.data.toList)) <;> rfl, bel_alloc (Below.refl _ _) _, heap_last _ _, OwnSl.nil⟩
          case round =>
            obtain ⟨j, cs, cv, rfl, hj, hcl, hcs, hbw, hrb, hown⟩ := hrel
            have hul : us.length ≤ 4294967281 := by have : us.length + 1 ≤ ta.size + 1 := hwl; omega
            have hjb : j ≤ 4294967281 := by omega
            have hcb : cs.length ≤ 4294967281 := by omega
            have Hcl := Lib.hid hcl
            clear hcl
            have Hown := Lib.hid hown
            have Hbw := Lib.hid hbw
            have hszw := hbw.size
            clear hown hbw
            by_cases hlt : j < us.length
            · have hwd : wr.heap[w1.heap.size]? = some (.cells ((u0 :: us).map Value.string).toArray 9) := blk_below Hbl.out Hbw.out
              have hoff1 := Hoff.out (by omega)
              have hwc : wr.cell? ⟨w1.heap.size, off + j, none⟩ = some (.string us[j]) := by
                rw [cells_of hwd, hoff1, Nat.add_comm]
                simp [hlt]
              clear hwd hoff1
              obtain ⟨wo, rfl⟩ : ∃ wo : World, wo = wr := ⟨_, rfl⟩
              obtain ⟨u, hu⟩ : ∃ u : ByteArray, us[j] = u := ⟨_, rfl⟩
              rw [hu] at hwc
              have hus : u.size ≤ ta.size := Hwu.out u (by rw [← hu]; exact List.mem_cons_of_mem _ (List.getElem_mem _))
              have Hu := Lib.hid hu
              clear hu
              have Hlt : Hid (j < us.length) := Lib.hid hlt
              have hbad : Hid (condOf u.data.toList = none → readP s.data.toList = (⟨[], 0⟩, 1)) := fun hc => readP_none (by
                rw [hp.out, Hstep.out k, Hvd.out]
                have h1 : condsOf (us.map (·.data.toList)) = none := by
                  rw [hcs.out, condsOf_drop (by simpa using hlt)]
                  simp [Hu.out, hc]
                simp [h1])
              go_wp2_with fail
              go_loopw [18] (fun kv wr => ∃ k : Nat, kv = .int .i64 k ∧ k ≤ u.size ∧ (∀ i, i < k → ∀ b, u.data.toList[i]? = some b → opOf b = 0) ∧ Below wo.heap.size wo wr) (fun kv _ => u.size - (intOf kv).toNat)
              case atStart => exact ⟨0, rfl, by omega, fun i h => by omega, Below.refl _ _⟩
              case round =>
                obtain ⟨k, rfl, hk, hop, hbo⟩ := hrel
                have Hop := Lib.hid hop
                have Hbo := Lib.hid hbo
                have hszo := hbo.size
                clear hop hbo hwc
                have hom : wr.heap[w.heap.size + 3]? = some (.map omap 4) := blk_below (blk_below Hst2.out.om Hbw.out) Hbo.out
                by_cases hkl : k < u.size
                · have hkz : (k : Int) < (u.size : Int) := by omega
                  obtain ⟨b, hb⟩ : ∃ b : UInt8, u[k] = b := ⟨_, rfl⟩
                  have hbl' : u.data.toList[k]? = some b := by
                    rw [← hb]; exact Lib.data_getElem? u k hkl
                  obtain ⟨fo, hfo, hfo'⟩ := find_o b
                  have hz : ∀ W : World, (zeroValue 3).run Tryd.prog W = .ok (.int .i64 0) W := fun W => by kernel_rfl
                  have hlo := run_lookup_bare (P := Tryd.prog) (key := .int .u8 b.toNat) (t := 90) Tryd.underlying90 Tryd.underlying5 hom (hz _) rfl hfo
                  rw [hfo'] at hlo
                  clear hz hfo hfo' hom
                  have Hbl' := Lib.hid hbl'
                  clear hbl'
                  by_cases h0 : opOf b = 0
                  · have d3 : (opOf b == 0) = true := beq_iff_eq.2 h0
                    have H0 := Lib.hid h0
                    clear h0
                    go_wp2_with fail
                    go_roundw
                    case rel => exact ⟨k + 1, by go_num, by omega, fun i hi c hc => by
                      by_cases hik : i = k
                      · subst hik
                        rw [Hbl'.out] at hc
                        injection hc with hc
                        rw [← hc]; exact H0.out
                      · exact Hop.out i (by omega) c hc, Hbo.out⟩
                    case measure => simp [intOf]; omega
                  · have d3 : (opOf b == 0) = false := beq_eq_false_iff_ne.2 h0
                    have d4 : (k == u.size) = false := beq_eq_false_iff_ne.2 (by omega)
                    have d5 : ((k : Int) == (u.size : Int)) = false := beq_eq_false_iff_ne.2 (by omega)
                    have Hat : Hid (opAt u.data.toList = k) := opAt_spec _ k Hop.out (by show k ≤ u.size; omega) (fun c hc => by
                      rw [Hbl'.out] at hc
                      injection hc with hc
                      rw [← hc]; exact h0)
                    clear h0
                    have hfm : wr.heap[w.heap.size + 2]? = some (.map fmap 5) := blk_below (blk_below Hst2.out.fm Hbw.out) Hbo.out
                    obtain ⟨ff, hff, hff'⟩ := find_f (u.extract 0 k)
                    have hz : ∀ W : World, (zeroValue 3).run Tryd.prog W = .ok (.int .i64 0) W := fun W => by kernel_rfl
                    have hlf := run_lookup_ok (P := Tryd.prog) (key := .string (u.extract 0 k)) (t := 89) Tryd.underlying89 Tryd.underlying9 hfm (hz _) (by exact trivial) hff
                    have hfs : ff.isSome = (fieldOf (u.extract 0 k).data.toList).isSome := by
                      have := congrArg Option.isSome hff'
                      simpa using this
                    rw [hfs, hff', Lib.extract_from_zero] at hlf
                    clear hfm hff hff' hfs hz
                    have HLr := Lib.hid ((HL2.out.below Hbw.out).below Hbo.out)
                    have hkk : (k : Int) + 1 ≤ (u.size : Int) := by omega
                    have hco : Hid (condOf u.data.toList = match fieldOf (u.data.toList.take k) with
                      | none => none
                      | some f => if (wholeS (u.data.toList.drop (k + 1))).2 then some ⟨f, opOf b, (wholeS (u.data.toList.drop (k + 1))).1⟩ else none) := by
                      unfold condOf
                      rw [Hat.out, if_neg (by show k ≠ u.size; omega), List.getD_eq_getElem?_getD, Hbl'.out]
                      rfl
                    cases hfd : fieldOf (u.data.toList.take k) with
                    | none =>
                      rw [hfd] at hlf
                      simp only [Option.map_none, Option.getD_none, Option.isSome_none] at hlf
                      have hrd : Hid (readP s.data.toList = (⟨[], 0⟩, 1)) := hbad.out (by rw [hco.out, hfd])
                      clear hfd hco
                      go_wp2_with fail
                      refine (whole_any (u.extract (k + 1) u.size) wr HLr.out (by rw [ByteArray.size_extract]; omega)).mono ?_
                      rintro e w3 ⟨rfl, hb3⟩
                      have Hb3 := Lib.hid hb3
                      clear hb3
                      go_wp2_with fail
                      refine (bad_any 1 _).mono ?_
                      rintro e w7 ⟨rfl, hb7⟩
                      have hr7 := blk_below (blk_below (blk_below (blk_below Hst2.out.res Hbw.out) Hbo.out) Hb3.out) hb7
                      have hc7 := cells_of hr7
                      have hf7 := not_frozen hr7
                      have hr8 := set_at (o := 1) (v := .int .i64 0) (set_at (o := 0) (v := .slice none 0 0) hr7)
                      have hc8 := cells_of hr8
                      have Hb8 := Lib.hid (set_below (a := ⟨w.heap.size, 1, none⟩) (v := .int .i64 0) (set_below (a := ⟨w.heap.size, 0, none⟩) (v := .slice none 0 0) (bel_call (bel_call (bel_call (bel_call Hst2.out.bel Hbw.out) Hbo.out) Hb3.out) hb7) (Nat.le_refl _)) (Nat.le_refl _))
                      go_wp2
                      rw [hrd.out]
                      refine bodyPost_ret (v := .tuple #[polV (.slice none 0 0) 0, .int .i64 1]) ?_ rfl ⟨_, rfl, ⟨none, 0, rfl, Nat.le_refl _, by unfold maxLen; omega, fun _ => rfl, fun h => by cases h⟩, Hb8.out⟩
                      rw [results_cell_tmp rfl]
                      go_simp
                    | some fd =>
                      rw [hfd] at hlf
                      simp only [Option.map_some, Option.getD_some, Option.isSome_some] at hlf
                      have Hfd := Lib.hid hfd
                      clear hfd
                      go_wp2_with fail
                      refine (whole_any (u.extract (k + 1) u.size) wr HLr.out (by rw [ByteArray.size_extract]; omega)).mono ?_
                      rintro e w3 ⟨rfl, hb3⟩
                      have Hb3 := Lib.hid hb3
                      clear hb3
                      rw [Lib.extract_to_end]
                      rw [Hfd.out] at hco
                      obtain ⟨nn, hnn⟩ : ∃ nn : Int, (wholeS (u.data.toList.drop (k + 1))).1 = nn := ⟨_, rfl⟩
                      cases hgd : (wholeS (u.data.toList.drop (k + 1))).2 with
                      | false =>
                        have hrd : Hid (readP s.data.toList = (⟨[], 0⟩, 1)) := hbad.out (by rw [hco.out, hgd]; rfl)
                        clear hgd hco
                        go_wp2_with fail
                        refine (bad_any 1 _).mono ?_
                        rintro e w7 ⟨rfl, hb7⟩
                        have hr7 := blk_below (blk_below (blk_below (blk_below Hst2.out.res Hbw.out) Hbo.out) Hb3.out) hb7
                        have hc7 := cells_of hr7
                        have hf7 := not_frozen hr7
                        have hr8 := set_at (o := 1) (v := .int .i64 0) (set_at (o := 0) (v := .slice none 0 0) hr7)
                        have hc8 := cells_of hr8
                        have Hb8 := Lib.hid (set_below (a := ⟨w.heap.size, 1, none⟩) (v := .int .i64 0) (set_below (a := ⟨w.heap.size, 0, none⟩) (v := .slice none 0 0) (bel_call (bel_call (bel_call (bel_call Hst2.out.bel Hbw.out) Hbo.out) Hb3.out) hb7) (Nat.le_refl _)) (Nat.le_refl _))
                        go_wp2
                        rw [hrd.out]
                        refine bodyPost_ret (v := .tuple #[polV (.slice none 0 0) 0, .int .i64 1]) ?_ rfl ⟨_, rfl, ⟨none, 0, rfl, Nat.le_refl _, by unfold maxLen; omega, fun _ => rfl, fun h => by cases h⟩, Hb8.out⟩
                        rw [results_cell_tmp rfl]
                        go_simp
                      | true =>
                        have hc1 : Hid (condOf u.data.toList = some ⟨fd, opOf b, nn⟩) := by
                          have := hco.out
                          rw [hgd, hnn] at this
                          exact this
                        rw [hnn]
                        clear hgd hnn hco
                        go_wp2_with fail
                        have hk0 : (0 : Int) ≤ (k : Int) := by omega
                        have hbx3 : w3.cell? ⟨w2.heap.size, 0, none⟩ = some cv := by rw [cells_of (blk_below (blk_below hrb Hbo.out) Hb3.out)]; rfl
                        have hrb3 := blk_below (blk_below hrb Hbo.out) Hb3.out
                        have hom3 : w3.heap[w.heap.size + 3]? = some (.map omap 4) := blk_below (blk_below (blk_below Hst2.out.om Hbw.out) Hbo.out) Hb3.out
                        have hlk : ∀ W : World, W.heap[w.heap.size + 3]? = some (.map omap 4) → (Instr.lookup 90 (.map (some (w.heap.size + 3))) (.int .u8 b.toNat) false).run Tryd.prog W = .ok (.int .i64 (opOf b)) W := fun W hW => by
                          obtain ⟨fo, hfo, hfo'⟩ := find_o b
                          have := run_lookup_bare (P := Tryd.prog) (z := .int .i64 0) (key := .int .u8 b.toNat) (t := 90) Tryd.underlying90 Tryd.underlying5 hW (by kernel_rfl) rfl hfo
                          rw [hfo'] at this
                          exact this
                        have Hlk := Lib.hid hlk
                        clear hlk
                        obtain ⟨rows, hro, hrw⟩ := (Hown.out.below Hbo.out).below Hb3.out
                        obtain ⟨i0, hi0, hz0, hz1, hz2⟩ := info_parts infoCond
                        have hlt3 : w2.heap.size < w3.heap.size := (Array.getElem?_eq_some_iff.1 hrb3).1
                        have ho3 := Hown.out.block
                        have hs3 := Hb3.out.size
                        have hso := Hbo.out.size
                        have hkl' : (k : Int) < (u.size : Int) := by omega
                        have hnb : ∀ g, cv.ownBlock = some g → g ≠ w2.heap.size := fun g e => by have := ho3 _ e; omega
                        have hnm : some (w.heap.size + 3) ≠ cv.ownBlock := fun e => by have := ho3 _ e.symm; omega
                        have Hro := Lib.hid hro
                        have Hhi := Lib.hid hi0
                        have Hrw := Lib.hid hrw
                        have Hom3 := Lib.hid hom3
                        have Hrb3 := Lib.hid hrb3
                        clear hro hi0 hrw hom3 hrb3 hbx3 ho3
                        refine wp_region_app w2.heap.size 65 #[cv, .int .i64 vd] 0 (w2.heap.size + 1) 67 3 cv cs.length rows.flatten 1 [.int .i64 fd, .int .i64 (opOf b), .int .i64 nn] 11 13 (by kernel_rfl) (by kernel_rfl) Hrb3.out Hrw.out (by omega) (Array.getElem?_eq_some_iff.1 Hrb3.out).1 _ rfl
                          [ex (.pointer (some ⟨w2.heap.size, 0, none⟩)), ex cv, ex (.int .i64 fd), ex (.map (some (w.heap.size + 3))), ex (.string u), ex (.int .i64 k), ex (.int .u8 b.toNat), ex (.int .i64 (opOf b)), ex (.int .i64 nn), ex (.agg #[.int .i64 fd, .int .i64 (opOf b), .int .i64 nn]), pr (NewP w3.heap.size 67 1 #[.int .i64 fd, .int .i64 (opOf b), .int .i64 nn]), pr (OwnP (w2.heap.size + 1) 67 3 (cs.length + 1) (rows.flatten ++ [.int .i64 fd, .int .i64 (opOf b), .int .i64 nn])), ex (.pointer (some ⟨w2.heap.size, 0, none⟩)), ex undef] ?_
                          ⟨.inl ⟨_, rfl⟩, .inl ⟨_, rfl⟩, .inl ⟨_, rfl⟩, .inl ⟨_, rfl⟩, .inl ⟨_, rfl⟩, .inl ⟨_, rfl⟩, .inl ⟨_, rfl⟩, .inl ⟨_, rfl⟩, .inl ⟨_, rfl⟩, .inl ⟨_, rfl⟩, .inr (.inl rfl), .inr (.inr ⟨rfl, rfl⟩), .inl ⟨_, rfl⟩, .inl ⟨_, rfl⟩, trivial⟩
                        (refine walkP_ex (fun K hK => ?_); refine ⟨fun done W hI h0 hd hn hf R hR => ?_, ?_⟩; (clear h0 hd hn hf; go_simp; exact hR _ _ (hI.step (Below.refl _ _) (by decide) (by decide)) (AppT.of_below (Below.refl _ _)) rfl); (go_simp; refine hK _ ?_; clear hK K))
                        (refine walkP_ex (fun K hK => ?_); refine ⟨fun done W hI h0 hd hn hf R hR => ?_, ?_⟩; (have h13 : done 13 = false := hn 13 (by decide); have hcb := cells_of (hI.before h13); clear h0 hd hn hf; go_simp; exact hR _ _ (hI.step (Below.refl _ _) (by decide) (by decide)) (AppT.of_below (Below.refl _ _)) rfl); (go_simp; refine hK _ ?_; clear hK K))
                        (refine walkP_ex (fun K hK => ?_); refine ⟨fun done W hI h0 hd hn hf R hR => ?_, ?_⟩; (clear h0 hd hn hf; go_simp; exact hR _ _ (hI.step (Below.refl _ _) (by decide) (by decide)) (AppT.of_below (Below.refl _ _)) rfl); (go_simp; refine hK _ ?_; clear hK K))
                        (refine walkP_ex (fun K hK => ?_); refine ⟨fun done W hI h0 hd hn hf R hR => ?_, ?_⟩; (clear h0 hd hn hf; go_simp; exact hR _ _ (hI.step (Below.refl _ _) (by decide) (by decide)) (AppT.of_below (Below.refl _ _)) rfl); (go_simp; refine hK _ ?_; clear hK K))
                        (refine walkP_ex (fun K hK => ?_); refine ⟨fun done W hI h0 hd hn hf R hR => ?_, ?_⟩; (clear h0 hd hn hf; go_simp; exact hR _ _ (hI.step (Below.refl _ _) (by decide) (by decide)) (AppT.of_below (Below.refl _ _)) rfl); (go_simp; refine hK _ ?_; clear hK K))
                        (refine walkP_ex (fun K hK => ?_); refine ⟨fun done W hI h0 hd hn hf R hR => ?_, ?_⟩; (clear h0 hd hn hf; go_simp; exact hR _ _ (hI.step (Below.refl _ _) (by decide) (by decide)) (AppT.of_below (Below.refl _ _)) rfl); (go_simp; refine hK _ ?_; clear hK K))
                        (refine walkP_ex (fun K hK => ?_); refine ⟨fun done W hI h0 hd hn hf R hR => ?_, ?_⟩; (clear h0 hd hn hf; go_simp; exact hR _ _ (hI.step (Below.refl _ _) (by decide) (by decide)) (AppT.of_below (Below.refl _ _)) rfl); (go_simp; refine hK _ ?_; clear hK K))
                        (refine walkP_ex (fun K hK => ?_); refine ⟨fun done W hI h0 hd hn hf R hR => ?_, ?_⟩; (have hlw := Hlk.out W ((hI.blk (w.heap.size + 3) (by omega) (by omega) hnm).trans Hom3.out); clear h0 hd hn hf; go_simp; exact hR _ _ (hI.step (Below.refl _ _) (by decide) (by decide)) (AppT.of_below (Below.refl _ _)) rfl); (go_simp; refine hK _ ?_; clear hK K))
                        (refine walkP_ex (fun K hK => ?_); refine ⟨fun done W hI h0 hd hn hf R hR => ?_, ?_⟩; (clear h0 hd hn hf; go_simp; exact hR _ _ (hI.step (Below.refl _ _) (by decide) (by decide)) (AppT.of_below (Below.refl _ _)) rfl); (go_simp; refine hK _ ?_; clear hK K))
                        (refine walkP_ex (fun K hK => ?_); refine ⟨fun done W hI h0 hd hn hf R hR => ?_, ?_⟩; (clear h0 hd hn hf; go_simp; exact hR _ _ (hI.step (Below.refl _ _) (by decide) (by decide)) (AppT.of_below (Below.refl _ _)) rfl); (go_simp; refine hK _ ?_; clear hK K))
                        (refine walkP_pr (fun K hK => ?_); refine ⟨fun done W hI h0 hd hn hf R hR => ?_, fun v10 => ?_⟩; (clear h0 hd hn hf; go_simp; exact hR _ _ (hI.step (bel_alloc (Below.refl _ _) _) (by decide) (by decide)) (AppT.of_below (bel_alloc (Below.refl _ _) _)) ⟨_, rfl, hI.size, heap_last _ _⟩); (go_simp; refine hK _ _ ?_; clear hK K))
                        (refine walkP_pr (fun K hK => ?_); refine ⟨fun done W hI h0 hd hn hf R hR => ?_, fun v11 => ?_⟩; (have h10 : NewP w3.heap.size 67 1 #[.int .i64 fd, .int .i64 (opOf b), .int .i64 nn] v10 W := hf 10 (by decide); obtain ⟨bn, rfl, hbn, hcn⟩ := h10; refine ob_plain rfl ?_; refine gives_append (.tmp 123) (.tmp 132) 63 rfl (w2.heap.size + 1) 67 i0 _ 3 24 Tryd.underlying63 Hhi.out hz0 hz1 hz2 rfl (by omega) cv cs.length rows.flatten (by rfl) (hI.own h0) ⟨bn, 0, none⟩ 1 1 [.int .i64 fd, .int .i64 (opOf b), .int .i64 nn] (by rfl) (by rfl) (World.news_of_block hcn) (by simp [Value.oneCell']) (by omega) (by unfold maxLen; omega) (by omega) (by have := hI.size; omega) (fun v' w' h1 h2 => hR _ _ (hI.appended (hn 13 (by decide)) (by decide) hnb h2 (by omega)) (AppT.of_grown h2) h1)); (go_simp; refine hK _ _ ?_; clear hK K))
                        (refine walkP_ex (fun K hK => ?_); refine ⟨fun done W hI h0 hd hn hf R hR => ?_, ?_⟩; (clear h0 hd hn hf; go_simp; exact hR _ _ (hI.step (Below.refl _ _) (by decide) (by decide)) (AppT.of_below (Below.refl _ _)) rfl); (go_simp; refine hK _ ?_; clear hK K))
                        (refine walkP_ex (fun K hK => ?_); refine ⟨fun done W hI h0 hd hn hf R hR => ?_, ?_⟩; (have h11 : OwnP (w2.heap.size + 1) 67 3 (cs.length + 1) (rows.flatten ++ [.int .i64 fd, .int .i64 (opOf b), .int .i64 nn]) v11 W := hf 11 (by decide); have hda : done 11 = true := hd 11 (by decide); have hst := hI.stored (v := v11) h0 hda (by decide) h11 (by omega); obtain ⟨gv, cpv, rfl, _, _⟩ := World.ownsRow.form h11 (by omega); have hcb := cells_of (hI.before h0); have hfb := not_frozen (hI.before h0); clear hd hn hf; go_simp; exact hR _ _ hst AppT.of_store rfl); (go_simp; refine hK _ ?_; clear hK K))
                        intro done W hdone hI hF
                        obtain ⟨v', hbv, hov⟩ := hI.after (hdone 13 (by decide))
                        have hbW : Below w2.heap.size w2 W := hI.below (bel_call (bel_call Hbw.out Hbo.out) Hb3.out) (Nat.le_refl _) (fun g hg => by have := Hown.out.block g hg; omega) (by omega)
                        have Hbv := Lib.hid hbv
                        have Hov := Lib.hid hov
                        have HbW := Lib.hid hbW
                        clear hI hF hdone hbv hov hbW
                        go_wp2
                        go_roundw
                        case rel => exact ⟨j + 1, cs ++ [⟨fd, opOf b, nn⟩], v', by go_num, by have := Hlt.out; omega, by simp [Hcl.out], by
                            show condsOf _ = _
                            rw [hcs.out, condsOf_drop (by simpa using hlt)]
                            simp only [List.getElem_map, Hu.out, hc1.out]
                            cases condsOf (List.drop (j + 1) (us.map (·.data.toList))) <;> simp, HbW.out, Hbv.out,
                          ⟨rows ++ [[.int .i64 fd, .int .i64 (opOf b), .int .i64 nn]], Hro.out.app (RowsOf.cons (sz := 3) (R := condR) (x := (⟨fd, opOf b, nn⟩ : TCond)) (r := [.int .i64 fd, .int .i64 (opOf b), .int .i64 nn]) RowsOf.nil rfl rfl), by
                            have := Hov.out
                            simpa using this⟩⟩
                        case measure => have := Hlt.out; simp [intOf]; omega
                · obtain rfl : k = u.size := by omega
                  have hrd : Hid (readP s.data.toList = (⟨[], 0⟩, 1)) := hbad.out (by
                    unfold condOf
                    rw [if_pos (show opAt u.data.toList = u.data.toList.length from opAt_spec _ u.data.toList.length Hop.out (Nat.le_refl _) (fun c hc => by simp at hc))])
                  clear hom
                  go_wp2_with fail
                  refine (bad_any 1 _).mono ?_
                  rintro e w7 ⟨rfl, hb7⟩
                  have hr7 := blk_below (blk_below (blk_below Hst2.out.res Hbw.out) Hbo.out) hb7
                  have hc7 := cells_of hr7
                  have hf7 := not_frozen hr7
                  have hr8 := set_at (o := 1) (v := .int .i64 0) (set_at (o := 0) (v := .slice none 0 0) hr7)
                  have hc8 := cells_of hr8
                  have Hb8 := Lib.hid (set_below (a := ⟨w.heap.size, 1, none⟩) (v := .int .i64 0) (set_below (a := ⟨w.heap.size, 0, none⟩) (v := .slice none 0 0) (bel_call (bel_call (bel_call Hst2.out.bel Hbw.out) Hbo.out) hb7) (Nat.le_refl _)) (Nat.le_refl _))
                  go_wp2
                  rw [hrd.out]
                  refine bodyPost_ret (v := .tuple #[polV (.slice none 0 0) 0, .int .i64 1]) ?_ rfl ⟨_, rfl, ⟨none, 0, rfl, Nat.le_refl _, by unfold maxLen; omega, fun _ => rfl, fun h => by cases h⟩, Hb8.out⟩
                  rw [results_cell_tmp rfl]
                  go_simp
            · obtain rfl : j = us.length := by omega
              have hcs1 : Hid (condsOf (us.map (·.data.toList)) = some cs) := by
                show condsOf _ = _
                rw [hcs.out, List.drop_of_length_le (by simp)]
                simp [condsOf]
              have hpc := blk_below Hst2.out.pc Hbw.out
              have hcp := cells_of hpc
              have hfp := not_frozen hpc
              have hcr := cells_of hrb
              obtain ⟨ca, cc, hcv, _⟩ := Sl.form (Hown.out.sl (D := fun _ => True) fun _ _ => trivial)
              obtain ⟨rows, hro, hrw⟩ := (Hst2.out.below Hbw.out).own
              obtain ⟨i0, hi0, hz0, hz1, hz2⟩ := info_parts infoRule
              have hpo : ∀ g, pv.ownBlock = some g → w.heap.size + 5 ≤ g := fun g hg => (hrw.lt g hg).1
              have hpn : some (w.heap.size + 4) ≠ pv.ownBlock := fun e => by have := hpo _ e.symm; omega
              have h1 : ∀ u ∈ [cv, Value.int .i64 vd], u.oneCell' = true := by rw [hcv]; simp [Value.oneCell']
              have hsr' : tr.size < t.size := hsr trivial
              have Hro := Lib.hid hro
              have Hrw := Lib.hid hrw
              have Hpc := Lib.hid hpc
              have Hhi := Lib.hid hi0
              have H1 := Lib.hid h1
              have Hrb := Lib.hid hrb
              clear hro hrw hpc hi0 h1 hcv hsr hrb
              go_wp2_with (at_builtin; refine wpList_append_lies _ rfl _ _ _ rfl (w.heap.size + 5) 65 i0 _ 2 32 Tryd.underlying42 Hhi.out hz0 hz1 hz2 rfl (by decide) pv rs.length rows.flatten rfl (Hrw.out.alloc _) ⟨wr.heap.size, 0, none⟩ 1 1 [cv, .int .i64 vd] rfl rfl (World.news_of_block (cs := #[cv, .int .i64 vd]) (blk_at rfl)) H1.out (by omega) (by unfold maxLen; omega) (by omega) (by simp; omega) (wr.heap.size + 1) (by simp) ?_; intro gg cap w4 hown4 hgrow hat hlt4; have hb4 := (hgrow.block (w.heap.size + 4) (by simp; omega) hpn).trans (blk_old Hpc.out); have hc4 := cells_of hb4; have hf4 := not_frozen hb4; have Hown4 := Lib.hid hown4; have Hgrow := Lib.hid hgrow; have Hat := Lib.hid hat; clear hown4 hgrow hat hb4)
              go_roundw
              case rel => exact ⟨k, tr, rs ++ [⟨cs, vd⟩], .slice (some ⟨gg, 0, none⟩) (rs.length + 1) cap, rfl, by omega, by simp; omega, by
                  show pread _ _ = _
                  rw [hp.out, Hstep.out k, Hvd.out, hcs1.out]
                  cases pread k tr.data.toList <;> simp, rd_step Hst2.out Hbw.out Hown.out Hgrow.out Hown4.out Hro.out Hat.out⟩
              case measure => simp; omega
end Go.Proofs.YtioeliocdbckbaaDoor
namespace Go.Proofs.YtioeliocdbckbaaDoor
open Go.RowKit

@[reducible] def callCells (x : TCall) : Array Value := #[.int .i64 x.a0, .int .i64 x.a1, .int .i64 x.a2, .int .i64 x.a3, .int .i64 x.a4]
@[reducible] def condV (c : TCond) : Value := .agg #[.int .i64 c.f, .int .i64 c.op, .int .i64 c.v]

set_option maxHeartbeats 2000000 in
theorem holds_any (c : TCond) (x : TCall) (w : World) (hf0 : 0 ≤ c.f) (hf1 : c.f < 5) (ho0 : 1 ≤ c.op) (ho1 : c.op ≤ 4) : Calls Tryd.prog 49 #[condV c, callV x] w fun e w' => e = .returned (.bool (holdsB c x)) ∧ Below w.heap.size w w' := by
  obtain ⟨f, op, v⟩ := c
  dsimp only at hf0 hf1 ho0 ho1
  obtain ⟨m, rfl⟩ := Int.eq_ofNat_of_zero_le hf0
  have hm : m < 5 := by omega
  have hc : ∀ o, ((w.alloc o).alloc (.cells (callCells x) 24)).cell? ⟨w.heap.size + 1, m, none⟩ = some (.int .i64 (x.get m)) := fun o => by
    rw [World.cell?_alloc_at _ _ _ _ (by simp)]; exact cell5 x m hm
  have Hx : Hid (holdsB ⟨m, op, v⟩ x = if op = 1 then x.get m == v else if op = 2 then x.get m != v else if op = 3 then decide (x.get m < v) else decide (v ≤ x.get m)) := rfl
  have hop : op = 1 ∨ op = 2 ∨ op = 3 ∨ op = 4 := by omega
  rcases hop with rfl | rfl | rfl | rfl
  · rw [Hx.out]; simp only [if_true]
    clear Hx ho0 ho1
    go_enter Tryd.func49, Tryd.ntmps49
    go_wp2
    go_ret
    exact ⟨rfl, bel_alloc (bel_alloc (Below.refl _ _) _) _⟩
  · rw [Hx.out]; simp only [if_true, show ¬ ((2 : Int) = 1) by decide, if_false]
    clear Hx ho0 ho1
    go_enter Tryd.func49, Tryd.ntmps49
    go_wp2
    go_ret
    exact ⟨rfl, bel_alloc (bel_alloc (Below.refl _ _) _) _⟩
  · rw [Hx.out]; simp only [if_true, show ¬ ((3 : Int) = 1) by decide, show ¬ ((3 : Int) = 2) by decide, if_false]
    clear Hx ho0 ho1
    go_enter Tryd.func49, Tryd.ntmps49
    go_wp2
    go_ret
    exact ⟨rfl, bel_alloc (bel_alloc (Below.refl _ _) _) _⟩
  · rw [Hx.out]; simp only [show ¬ ((4 : Int) = 1) by decide, show ¬ ((4 : Int) = 2) by decide, show ¬ ((4 : Int) = 3) by decide, if_false]
    clear Hx ho0 ho1
    go_enter Tryd.func49, Tryd.ntmps49
    go_wp2
    go_ret
    exact ⟨rfl, bel_alloc (bel_alloc (Below.refl _ _) _) _⟩

theorem which1_any (c : TCond) (x : TCall) (bx : Nat) (w : World) (hok : OkCond c) (hx : ∀ j, w.cell? ⟨bx, j, none⟩ = (callCells x)[j]?) (hbx : bx < w.heap.size) :
    Calls Tryd.prog 48 #[condV c, .pointer (some ⟨bx, 0, none⟩)] w fun e w' => e = .returned (.bool (!holdsB c x)) ∧ Below w.heap.size w w' := by
  have hx' : ∀ o j, (w.alloc o).cell? ⟨bx, j, none⟩ = (callCells x)[j]? := fun o j => (World.cell?_alloc_lt w o ⟨bx, j, none⟩ hbx).trans (hx j)
  have Hok := Lib.hid hok
  clear hok hx
  go_enter Tryd.func48, Tryd.ntmps48
  go_wp2_with fail
  refine (holds_any c x _ Hok.out.f0 Hok.out.f1 Hok.out.o0 Hok.out.o1).mono ?_
  rintro e w1 ⟨rfl, hb1⟩
  go_wp2
  go_ret
  exact ⟨rfl, bel_alloc_call (Below.refl _ _) hb1⟩

theorem allHold_take {x : TCall} {l : List TCond} {k : Nat} (hk : k < l.length) (h : allHold x (l.take k) = true) (hh : holdsB l[k] x = true) : allHold x (l.take (k + 1)) = true := by
  rw [List.take_succ_eq_append_getElem hk]
  unfold allHold at *
  rw [List.all_append, h]
  simp [hh]
theorem allHold_not {x : TCall} {l : List TCond} {k : Nat} (hk : k < l.length) (hh : holdsB l[k] x = false) : allHold x l = false := by
  unfold allHold
  rw [List.all_eq_false]
  exact ⟨l[k], List.getElem_mem hk, by simp [hh]⟩

set_option maxHeartbeats 2000000 in
theorem indexFunc_any (v : Value) (l : List TCond) (x : TCall) (bx : Nat) (D : Nat → Prop) (w : World) (h : RdConds w D v l) (hok : ∀ c ∈ l, OkCond c) (hx : ∀ j, w.cell? ⟨bx, j, none⟩ = (callCells x)[j]?) (hbx : bx < w.heap.size) :
    Calls Tryd.prog 67 #[v, .func (.func 48) #[] #[.pointer (some ⟨bx, 0, none⟩)]] w fun e w' =>
      ∃ n : Int, e = .returned (.int .i64 n) ∧ decide (0 ≤ n) = (!allHold x l) ∧ Below w.heap.size w w' := by
  obtain ⟨a, c, rfl, hlc, hcm, hat⟩ := Sl.form h
  have H := Lib.hid h
  have Hok := Lib.hid hok
  have Hx := Lib.hid hx
  clear h hok hx
  go_enter Tryd.func67, Tryd.ntmps67
  go_wp2_with fail
  go_loopw [8] (fun i wr => ∃ k : Nat, k ≤ l.length ∧ i = .int .i64 k ∧ allHold x (l.take k) = true ∧ Below w.heap.size w wr) (fun i _ => l.length - (intOf i).toNat)
  case atStart => exact ⟨0, by omega, rfl, rfl, Below.refl _ _⟩
  case round =>
    obtain ⟨k, hk, rfl, hall, hbw⟩ := hrel
    have Hall := Lib.hid hall
    have hsz := hbw.size
    clear hall
    by_cases hlt : k < l.length
    · obtain ⟨b, o, rfl, hDb, hb⟩ := hat (by omega)
      obtain ⟨c0, c1, c2⟩ := RdConds.cells (RdConds.below H.out hbw) hlt
      go_wp2_with fail
      refine (which1_any l[k] x bx _ (Hok.out _ (List.getElem_mem hlt)) (fun j => (hbw.cell (p := ⟨bx, j, none⟩) hbx).trans (Hx.out j)) (by omega)).mono ?_
      rintro e w1 ⟨rfl, hb1⟩
      cases hh : holdsB l[k] x with
      | true =>
        have Hn := Lib.hid (allHold_take hlt Hall.out hh)
        clear hh
        go_wp2
        go_roundw
        case rel => exact ⟨k + 1, by omega, by go_num, Hn.out, bel_call hbw hb1⟩
        case measure => simp [intOf]; omega
      | false =>
        have Hn := Lib.hid (allHold_not hlt hh)
        clear hh
        go_wp2
        go_ret
        exact ⟨_, rfl, by rw [Hn.out]; simp, bel_call hbw hb1⟩
    · obtain rfl : k = l.length := by omega
      have Hn : Hid (allHold x l = true) := by have := Hall.out; rwa [List.take_length] at this
      go_wp2
      go_ret
      exact ⟨_, rfl, by rw [Hn.out]; simp, hbw⟩

theorem containsFunc_any (v : Value) (l : List TCond) (x : TCall) (bx : Nat) (D : Nat → Prop) (w : World) (h : RdConds w D v l) (hok : ∀ c ∈ l, OkCond c) (hx : ∀ j, w.cell? ⟨bx, j, none⟩ = (callCells x)[j]?) (hbx : bx < w.heap.size) :
    Calls Tryd.prog 47 #[v, .func (.func 48) #[] #[.pointer (some ⟨bx, 0, none⟩)]] w fun e w' => e = .returned (.bool (!allHold x l)) ∧ Below w.heap.size w w' := by
  have H := Lib.hid h
  have Hok := Lib.hid hok
  have Hx := Lib.hid hx
  clear h hok hx
  go_enter Tryd.func47, Tryd.ntmps47
  go_wp2_with fail
  refine (indexFunc_any v l x bx D _ H.out Hok.out Hx.out hbx).mono ?_
  rintro e w1 ⟨n, rfl, hn, hb1⟩
  have Hn := Lib.hid hn
  clear hn
  go_wp2
  go_ret
  exact ⟨ret_bool (by rw [← Hn.out]), hb1⟩
end Go.Proofs.YtioeliocdbckbaaDoor
namespace Go.Proofs.YtioeliocdbckbaaDoor
open Go.RowKit

set_option maxHeartbeats 2000000 in
theorem which_any (v : Value) (p : TPol) (x : TCall) (D : Nat → Prop) (w : World) (h : RdRules w D v p.rules) (hok : OkPol p) :
    Calls Tryd.prog 36 #[polV v p.dflt, callV x] w fun e w' => e = .returned (.int .i64 (which x p.rules)) ∧ Below w.heap.size w w' := by
  obtain ⟨rs, d⟩ := p
  dsimp only at h ⊢
  obtain ⟨a, c, rfl, hlc, hcm, hat⟩ := Sl.form h
  have H := Lib.hid h
  have Hok := Lib.hid hok
  have hmk : ∀ (fn : Fn) (first cap : Array Value) (w : World), (Instr.makeFunc fn first cap).run Tryd.prog w = .ok (.func fn first cap) w := fun _ _ _ _ => rfl
  clear h hok
  go_enter Tryd.func36, Tryd.ntmps36
  go_wp2_with fail
  go_loopw [10] (fun i wr => ∃ k : Nat, k ≤ rs.length ∧ i = .int .i64 k ∧ which x rs = k + which x (rs.drop k) ∧ Below (w.heap.size + 2) ((w.alloc (.cells #[.slice a rs.length c, .int .i64 d] 44)).alloc (.cells (callCells x) 24)) wr) (fun i _ => rs.length - (intOf i).toNat)
  case atStart => exact ⟨0, by omega, rfl, by simp, Below.refl _ _⟩
  case round =>
    obtain ⟨k, hk, rfl, hgo, hbx⟩ := hrel
    have Hgo := Lib.hid hgo
    have hsz := size_box2 hbx
    have Hb := Lib.hid (bel_box2 hbx)
    obtain ⟨hc1, hc2⟩ := box2_cells hbx
    clear hgo
    by_cases hlt : k < rs.length
    · obtain ⟨b, o, rfl, hDb, hb⟩ := hat (by omega)
      obtain ⟨a', c', k0, k1, hr, hlc', hcm', hat'⟩ := RdRules.cells (RdRules.below H.out Hb.out) hlt
      have Hr := Lib.hid hr
      have Hd := Lib.hid (which_drop x rs k hlt)
      have Hrok := Lib.hid (Hok.out.rules _ (List.getElem_mem hlt))
      have HC := Lib.hid hc2
      clear hr hc1 hc2 hat'
      go_wp2_with fail
      refine (containsFunc_any _ rs[k].conds x (w.heap.size + 1) D _ (RdConds.below Hr.out (bel_alloc (Below.refl _ _) _)) Hrok.out.conds (fun j => (World.cell?_alloc_lt _ _ ⟨w.heap.size + 1, j, none⟩ (show w.heap.size + 1 < wr.heap.size by omega)).trans (HC.out j)) (by simp; omega)).mono ?_
      rintro e w1 ⟨rfl, hb1⟩
      have hb2 : Below (w.heap.size + 2) wr w1 := ((Below.refl _ _).alloc (by omega) _).trans (hb1.mono (by simp; omega))
      have Hb1 := Lib.hid (hbx.trans hb2)
      clear hb1 hb2
      cases hh : allHold x rs[k].conds with
      | true =>
        have Hn := Lib.hid (show which x rs = k by rw [Hgo.out, Hd.out, if_pos hh]; omega)
        clear hh
        go_wp2
        go_ret
        exact ⟨ret_int (by rw [Hn.out]), bel_box2 Hb1.out⟩
      | false =>
        have Hn := Lib.hid (show which x rs = (k + 1 : Nat) + which x (rs.drop (k + 1)) by rw [Hgo.out, Hd.out, hh]; simp; omega)
        clear hh
        go_wp2
        go_roundw
        case rel => exact ⟨k + 1, by omega, by go_num, Hn.out, Hb1.out⟩
        case measure => simp [intOf]; omega
    · obtain rfl : k = rs.length := by omega
      have Hn := Lib.hid (show which x rs = rs.length by rw [Hgo.out, List.drop_length]; rfl)
      go_wp2
      go_ret
      exact ⟨ret_int (by rw [Hn.out]), Hb.out⟩
end Go.Proofs.YtioeliocdbckbaaDoor
namespace Go.Proofs.YtioeliocdbckbaaDoor
open Go.RowKit

/-- the two boxes of Judge, kept. -/
theorem box2_step {w wr w1 : World} {o o' : Obj} (hb : Below (w.heap.size + 2) ((w.alloc o).alloc o') wr) (h1 : Below wr.heap.size wr w1) : Below (w.heap.size + 2) ((w.alloc o).alloc o') w1 := hb.trans (h1.mono (size_box2 hb))

set_option maxHeartbeats 4000000 in
theorem judge_any (v : Value) (p : TPol) (x : TCall) (D : Nat → Prop) (w : World) (h : RdRules w D v p.rules) :
    Calls Tryd.prog 21 #[polV v p.dflt, callV x] w fun e w' => e = .returned (.tuple #[.int .i64 (judgeE p x).1, .int .i64 (judgeE p x).2.1, .int .i64 (judgeE p x).2.2]) ∧ Below w.heap.size w w' := by
  have H := Lib.hid h
  obtain ⟨a, c, rfl, hlc, hcm, hat⟩ := Sl.form h
  clear h
  by_cases hp : polE p = 0
  · have Hp := Lib.hid hp
    by_cases hx : x.ok
    · have e : judgeE p x = ((judged p x).1, ((judged p x).2 : Int), 0) := by unfold judgeE; rw [if_neg (by omega), if_pos hx]
      have hxe : Hid (callE x = 0) := if_pos hx
      have Hle := Lib.hid (which_le x p.rules)
      rw [e]
      clear e hp hx
      go_enter Tryd.func21, Tryd.ntmps21
      go_wp2_with fail
      refine (polcheck_any _ p D _ (RdRules.below H.out (bel_alloc (bel_alloc (Below.refl _ _) _) _))).mono ?_
      rw [Hp.out]
      rintro e w1 ⟨rfl, hb1⟩
      have hb1' : Below (w.heap.size + 2) _ w1 := hb1.mono (by simp)
      obtain ⟨hc1, hc2⟩ := box2_cells hb1'
      clear hb1
      go_wp2_with fail
      refine (callcheck_any x _).mono ?_
      rw [hxe.out]
      rintro e w2 ⟨rfl, hb2⟩
      have hb2' := box2_step hb1' hb2
      clear hc1 hc2 hb1' hb2
      obtain ⟨hc1, hc2⟩ := box2_cells hb2'
      go_wp2_with fail
      refine (which_any _ p x D _ (RdRules.below H.out (bel_box2 hb2')) ((okPol_iff p).1 Hp.out)).mono ?_
      rintro e w3 ⟨rfl, hb3⟩
      have hb3' := box2_step hb2' hb3
      clear hc1 hc2 hb2' hb3
      obtain ⟨hc1, hc2⟩ := box2_cells hb3'
      have Hb := Lib.hid (bel_box2 hb3')
      have hsz := size_box2 hb3'
      by_cases hw : which x p.rules = p.rules.length
      · have hj : Hid (judged p x = (p.dflt, p.rules.length)) := by
          show judged p x = _
          unfold judged verdictAt
          rw [hw, List.getElem?_eq_none (Nat.le_refl _)]
        have b0 : ((which x p.rules : Int) == (p.rules.length : Int)) = true := beq_iff_eq.2 (by omega)
        have b1 : (which x p.rules == p.rules.length) = true := beq_iff_eq.2 hw
        have Hw := Lib.hid hw
        clear hw
        go_wp2
        go_ret3
        exact ⟨by rw [hj.out, Hw.out]; rfl, Hb.out⟩
      · have hlt : which x p.rules < p.rules.length := by have := Hle.out; omega
        have hj : Hid (judged p x = (p.rules[which x p.rules].verdict, which x p.rules)) := by
          show judged p x = _
          unfold judged verdictAt
          rw [List.getElem?_eq_getElem hlt]
        have b0 : ((which x p.rules : Int) == (p.rules.length : Int)) = false := beq_eq_false_iff_ne.2 (by omega)
        have b1 : (which x p.rules == p.rules.length) = false := beq_eq_false_iff_ne.2 hw
        obtain ⟨b, o, rfl, hDb, hbb⟩ := hat (by omega)
        obtain ⟨a', c', k0, k1, hr, hlc', hcm', hat'⟩ := RdRules.cells (RdRules.below H.out Hb.out) hlt
        clear hw hr hat' k0
        go_wp2
        go_ret3
        exact ⟨by rw [hj.out]; rfl, Hb.out⟩
    · have e : judgeE p x = (0, 0, 3) := by unfold judgeE; rw [if_neg (by omega), if_neg hx]
      have hxe : Hid (callE x = 3) := if_neg hx
      rw [e]
      clear e hp hx
      go_enter Tryd.func21, Tryd.ntmps21
      go_wp2_with fail
      refine (polcheck_any _ p D _ (RdRules.below H.out (bel_alloc (bel_alloc (Below.refl _ _) _) _))).mono ?_
      rw [Hp.out]
      rintro e w1 ⟨rfl, hb1⟩
      have hb1' : Below (w.heap.size + 2) _ w1 := hb1.mono (by simp)
      obtain ⟨hc1, hc2⟩ := box2_cells hb1'
      clear hb1
      go_wp2_with fail
      refine (callcheck_any x _).mono ?_
      rw [hxe.out]
      rintro e w2 ⟨rfl, hb2⟩
      have hb2' := box2_step hb1' hb2
      clear hc1 hc2 hb1' hb2
      go_wp2
      go_ret3
      exact ⟨rfl, bel_box2 hb2'⟩
  · have e : judgeE p x = (0, 0, polE p) := by unfold judgeE; rw [if_pos hp]
    have d : (polE p != 0) = true := bne_iff_ne.2 hp
    rw [e]
    clear e hp
    go_enter Tryd.func21, Tryd.ntmps21
    go_wp2_with fail
    refine (polcheck_any _ p D _ (RdRules.below H.out (bel_alloc (bel_alloc (Below.refl _ _) _) _))).mono ?_
    rintro e w1 ⟨rfl, hb1⟩
    have hb1' : Below (w.heap.size + 2) _ w1 := hb1.mono (by simp)
    clear hb1
    go_wp2
    go_ret3
    exact ⟨rfl, bel_box2 hb1'⟩
end Go.Proofs.YtioeliocdbckbaaDoor
namespace Go.Proofs.YtioeliocdbckbaaDoor
open Go.RowKit

set_option maxHeartbeats 1000000 in
theorem made_any (w : World) (hL : Laid w) : Calls Tryd.prog 30 #[] w fun e w' => ∃ v, e = .returned (polV v 4) ∧ RdRules w' (fun b => w.heap.size ≤ b) v madeP.rules ∧ Below w.heap.size w w' := by
  have HL := Lib.hid (hL.below (bel_alloc (Below.refl _ _) (.cells #[.slice none 0 0, .int .i64 0] 44)))
  clear hL
  go_enter Tryd.func30, Tryd.ntmps30
  go_wp2_with fail
  refine (read_walk ⟨writtenL.toArray⟩ _ HL.out (by decide) (by decide)).mono ?_
  rintro e w1 ⟨v, rfl, hr, hb⟩
  have hrm : readP (⟨writtenL.toArray⟩ : ByteArray).data.toList = (madeP, 0) := read_made
  rw [hrm] at hr
  rw [hrm]
  have hd : (madeP, (0 : Int)).1.dflt = 4 := rfl
  rw [hd]
  have hr1 := blk_below (heap_last w (.cells #[.slice none 0 0, .int .i64 0] 44)) hb
  have Hr := Lib.hid hr
  have Hb := Lib.hid (bel_call (bel_alloc (Below.refl _ w) _) hb)
  obtain ⟨a, c, rfl, _⟩ := Sl.form hr
  have hsz := hb.size
  have hr2 : (w1.alloc (.cells #[.slice a madeP.rules.length c, .int .i64 4] 44)).heap[w.heap.size]? = some (.cells #[.slice none 0 0, .int .i64 0] 44) := blk_old hr1
  have hc2 := cells_of hr2
  have hf2 := not_frozen hr2
  have hr4 := set_at (o := 1) (v := .int .i64 4) (set_at (o := 0) (v := .slice a madeP.rules.length c) hr2)
  have hc4 := cells_of hr4
  have Hb4 := Lib.hid (set_below (a := ⟨w.heap.size, 1, none⟩) (v := .int .i64 4) (set_below (a := ⟨w.heap.size, 0, none⟩) (v := .slice a madeP.rules.length c) (bel_alloc Hb.out (.cells #[.slice a madeP.rules.length c, .int .i64 4] 44)) (Nat.le_refl _)) (Nat.le_refl _))
  have HR4 : Hid (RdRules (((w1.alloc (.cells #[.slice a madeP.rules.length c, .int .i64 4] 44)).setCell ⟨w.heap.size, 0, none⟩ (.slice a madeP.rules.length c)).setCell ⟨w.heap.size, 1, none⟩ (.int .i64 4)) (fun b => w.heap.size ≤ b) (.slice a madeP.rules.length c) madeP.rules) :=
    RdRules.keep (Hr.out.below (bel_alloc (Below.refl _ _) _)) (fun b h _ => by have : (w.alloc _).heap.size ≤ b := h; simp at this; show w.heap.size ≤ b; omega) (fun b hb _ => by
      have h1 : (w.alloc _).heap.size ≤ b := hb
      simp at h1
      rw [set_other (by show b ≠ w.heap.size; omega), set_other (by show b ≠ w.heap.size; omega)]) (by rw [set_size, set_size]; exact Nat.le_refl _)
  clear hr hb hrm hd hr1 hr2
  go_wp2
  refine bodyPost_ret (v := polV (.slice a madeP.rules.length c) 4) ?_ rfl ⟨_, rfl, HR4.out, Hb4.out⟩
  simp [results, Tryd.results30, go_sem, hc4]

end Go.Proofs.YtioeliocdbckbaaDoor
namespace Go.Proofs.YtioeliocdbckbaaDoor
open Go.RowKit
attribute [local go_sem] gives givesUpon

theorem take_eq_step {α : Type} {xs ys : List α} {k : Nat} (hx : k < xs.length) (hy : k < ys.length) (h : xs.take k = ys.take k) (e : xs[k] = ys[k]) : xs.take (k + 1) = ys.take (k + 1) := by
  rw [List.take_succ_eq_append_getElem hx, List.take_succ_eq_append_getElem hy, h, e]
theorem ne_of_get {α : Type} {xs ys : List α} {k : Nat} (hx : k < xs.length) (hy : k < ys.length) (e : xs[k] ≠ ys[k]) : xs ≠ ys := fun h => e (by subst h; rfl)

set_option maxRecDepth 100000 in
set_option maxHeartbeats 1000000 in
theorem eqints_any (v u : Value) (xs ys : List Int) (D : Nat → Prop) (w : World) (h : RdInts w D v xs) (h' : RdInts w D u ys) :
    Calls Tryd.prog 15 #[v, u] w fun e w' => e = .returned (.bool (decide (xs = ys))) ∧ Below w.heap.size w w' := by
  obtain ⟨a, c, rfl, hlc, hcm, hat⟩ := Sl.form h
  obtain ⟨a', c', rfl, hlc', hcm', hat'⟩ := Sl.form h'
  have H := Lib.hid h
  have H' := Lib.hid h'
  clear h h'
  by_cases hl : xs.length = ys.length
  · have b0 : ((xs.length : Int) != (ys.length : Int)) = false := bne_eq_false_iff_eq.2 (by omega)
    have hl' := Lib.hid hl
    have hl1 : xs.length ≤ ys.length := by omega
    have hl2 : ys.length ≤ xs.length := by omega
    clear hl
    go_enter Tryd.func15, Tryd.ntmps15
    go_wp2_with fail
    go_loopw [13] (fun i wr => ∃ k : Nat, k ≤ xs.length ∧ i = .int .i64 k ∧ xs.take k = ys.take k ∧ Below w.heap.size w wr) (fun i _ => xs.length - (intOf i).toNat)
    case atStart => exact ⟨0, by omega, rfl, rfl, Below.refl _ _⟩
    case round =>
      obtain ⟨k, hk, rfl, htk, hbw⟩ := hrel
      have Ht := Lib.hid htk
      have hsz := hbw.size
      clear htk
      by_cases hlt : k < xs.length
      · obtain ⟨b, o, rfl, hDb, hb⟩ := hat (by omega)
        obtain ⟨b', o', rfl, hDb', hb'⟩ := hat' (by omega)
        have hlt' : k < ys.length := by omega
        have hc : ∀ W, Cls w.heap.size wr W → W.cell? ⟨b, o + k, none⟩ = some (.int .i64 xs[k]) ∧ W.cell? ⟨b', o' + k, none⟩ = some (.int .i64 ys[k]) := fun W hW =>
          ⟨RdInts.cell (H.out.below (hbw.trans hW.2)) hlt, RdInts.cell (H'.out.below (hbw.trans hW.2)) hlt'⟩
        have Hc := Lib.hid hc
        clear hc
        go_wp2_with fail
        refine wp_region_exact w.heap.size hsz (by kernel_rfl) (by kernel_rfl) ?_
        repeat (refine monoE_step (fun K hK => ?_); apply Exists.intro; refine ⟨fun W hC R hR => ?_, ?_⟩; (obtain ⟨hc1, hc2⟩ := Hc.out W hC; go_simp; exact hR _ _ (Below.refl _ _) rfl); (go_simp; refine hK _ ?_; clear hK K))
        intro w2 hC2
        by_cases he : xs[k] = ys[k]
        · have Hn := Lib.hid (take_eq_step hlt hlt' Ht.out he)
          have d : (xs[k] != ys[k]) = false := bne_eq_false_iff_eq.2 he
          clear he
          simp only [d]
          go_wp2
          go_roundw
          case rel => exact ⟨k + 1, by omega, by go_num, Hn.out, hbw.trans hC2.2⟩
          case measure => simp [intOf]; omega
        · have Hn := Lib.hid (ne_of_get hlt hlt' he)
          have d : (xs[k] != ys[k]) = true := bne_iff_ne.2 he
          clear he
          simp only [d]
          go_wp2
          go_ret
          exact ⟨ret_bool (decide_eq_false Hn.out).symm, hbw.trans hC2.2⟩
      · obtain rfl : k = xs.length := by omega
        have Hn : Hid (xs = ys) := by
          have := Ht.out
          rw [List.take_length, hl'.out, List.take_length] at this
          exact this
        go_wp2
        go_ret
        exact ⟨ret_bool (decide_eq_true Hn.out).symm, hbw⟩
  · have b0 : ((xs.length : Int) != (ys.length : Int)) = true := bne_iff_ne.2 (by omega)
    have hn : decide (xs = ys) = false := decide_eq_false fun e => hl (by rw [e])
    rw [hn]
    clear hn hl
    go_enter Tryd.func15, Tryd.ntmps15
    go_wp2
    go_ret
    exact ⟨rfl, Below.refl _ _⟩
end Go.Proofs.YtioeliocdbckbaaDoor
namespace Go.Proofs.YtioeliocdbckbaaDoor
open Go.RowKit

theorem infocRule : (Tryd.prog.info? 65).map (fun i => (i.zero, i.size, i.bytes)) = some (some (.agg #[.slice none 0 0, .int .i64 0]), 2, 32) := by kernel_rfl

end Go.Proofs.YtioeliocdbckbaaDoor
namespace Go.Proofs.YtioeliocdbckbaaDoor
open Go.RowKit

set_option maxRecDepth 100000 in
set_option maxHeartbeats 1000000 in
theorem cloneRule_any {α : Type} (R : α → List Value → Prop) (h1R : ∀ (y : α) (cs : List Value), R y cs → ∀ c ∈ cs, c.oneCell' = true) (v : Value) (xs : List α) (D : Nat → Prop) (w : World) (h : Sl w D 2 R v xs) (hn : xs.length * 32 ≤ 140737488355328) :
    Calls Tryd.prog 34 #[v] w fun e w' => ∃ v', e = .returned v' ∧ OwnSl w' w.heap.size 65 2 R v' xs ∧ Below w.heap.size w w' := by
  obtain ⟨i0, hi, hz0, hz1, hz2⟩ := info_parts infocRule
  have H := Lib.hid h
  obtain ⟨a, c, rfl, hlc, hcm, hnil, hat⟩ := h
  have Hi := Lib.hid hi
  clear hi
  cases a with
  | none =>
    have hc := hnil rfl
    subst hc
    have hx : xs = [] := List.length_eq_zero_iff.1 (by omega)
    subst hx
    have hq := fun (a : Option Addr) (n c : Nat) (W : World) => Lib.run_eql_slice_nil (P := Tryd.prog) W 42 65 a n c 0 0 Tryd.underlying42
    go_enter Tryd.func34, Tryd.ntmps34
    go_wp2
    go_ret
    exact ⟨_, rfl, OwnSl.nil, Below.refl _ _⟩
  | some ad =>
    have H2 := Lib.hid (H.out.belowR (bel_alloc (Below.refl _ w) (.cells #[] 65)) (fun _ _ _ h => h))
    have Hown : Hid (OwnSl (w.alloc (.cells #[] 65)) w.heap.size 65 2 R (.slice (some ⟨w.heap.size, 0, none⟩) 0 0) ([] : List α)) :=
      ⟨[], RowsOf.nil, by simp, .inr ⟨w.heap.size, 0, #[], rfl, Nat.le_refl _, heap_last _ _, by simp, by simp, by simp, by simp⟩⟩
    clear hat hnil
    have hq := fun (a : Option Addr) (n c : Nat) (W : World) => Lib.run_eql_slice_nil (P := Tryd.prog) W 42 65 a n c 0 0 Tryd.underlying42
    go_enter Tryd.func34, Tryd.ntmps34
    go_wp2_with (at_builtin; refine wpList_app rfl _ _ 42 rfl w.heap.size 65 i0 _ 2 32 Tryd.underlying42 Hi.out hz0 hz1 hz2 rfl (by decide) _ _ rfl Hown.out _ _ rfl H2.out (fun y _ cs h => h1R y cs h) (by show 0 + _ ≤ maxLen; unfold maxLen; omega) (by show (0 + _) * 32 ≤ _; omega) (by simp) ?_; intro v' w3 hown' hg)
    go_ret
    exact ⟨_, rfl, hown', Hown.out.grown (bel_alloc (Below.refl _ _) _) hg (by simp) (Nat.le_refl _)⟩
end Go.Proofs.YtioeliocdbckbaaDoor
namespace Go.Proofs.YtioeliocdbckbaaDoor
open Go.RowKit

theorem ruleR_one {w : World} {D : Nat → Prop} (y : TRule) (cs : List Value) (h : ruleR w D y cs) : ∀ c ∈ cs, c.oneCell' = true := by
  obtain ⟨v, rfl, h⟩ := h
  obtain ⟨a, c, rfl, _⟩ := Sl.form h
  intro u hu
  simp at hu
  rcases hu with rfl | rfl <;> rfl
theorem rules_of {w W : World} {D : Nat → Prop} {v : Value} {l : List TRule} (h : Sl W D 2 (ruleR w (fun _ => True)) v l) (hb : Below w.heap.size w W) : RdRules W (fun _ => True) v l :=
  Sl.mono h (fun _ _ _ => trivial) (fun _ _ _ => rfl) (Nat.le_refl _) (fun _ _ _ ⟨u, h1, h2⟩ => ⟨u, h1, h2.below hb⟩)
theorem rules_true {w : World} {D : Nat → Prop} {v : Value} {l : List TRule} (h : RdRules w D v l) : RdRules w (fun _ => True) v l := h.keep (fun _ _ _ => trivial) (fun _ _ _ => rfl) (Nat.le_refl _)
theorem OwnSl.app1 {α : Type} {w : World} {base n : Nat} {e : TypeId} {sz : Nat} {R : α → List Value → Prop} {v : Value} {xs : List α} {rows : List (List Value)} {y : α} {r : List Value} (hr : RowsOf sz R xs rows) (hy : R y r) (hl : r.length = sz) (h : w.ownsRow base e sz v n (rows.flatten ++ r)) (hn : n = xs.length + 1) : OwnSl w base e sz R v (xs ++ [y]) := by
  subst hn
  refine ⟨rows ++ [r], hr.app (RowsOf.cons (x := y) (r := r) RowsOf.nil hy hl), ?_⟩
  simpa using h
end Go.Proofs.YtioeliocdbckbaaDoor
namespace Go.Proofs.YtioeliocdbckbaaDoor
open Go.RowKit

theorem cut1 : cutsE [madeP] 0 = ([0, 3, 4], 0) := by decide +kernel
theorem cut2 : cutsE [madeP] 2 = ([0, 5], 0) := by decide +kernel
theorem cut3 : (pointsE [madeP]).2 = 0 := by decide +kernel
theorem cut4 : (pointsE [madeP]).1.length = 12 := by decide +kernel
theorem cut5 : (pointsE [madeP]).1[1]? = some ⟨0, 0, 5, 0, 0⟩ := by decide +kernel
theorem cut6 : homeE [madeP] ⟨9, 3, 7, 7, 7⟩ = (⟨4, 1, 5, 0, 0⟩, 0) := by decide +kernel
theorem cut7 (f : Int) : (cutVals [madeP] f).length * 8 ≤ 140737488355328 := by
  have h1 : ∀ c : TCond, (condCuts f c).length ≤ 2 := fun c => by unfold condCuts; split <;> (try split) <;> simp
  have := h1 ⟨0, 1, 3⟩
  have := h1 ⟨2, 3, 5⟩
  have := h1 ⟨1, 2, 0⟩
  simp only [cutVals, polCuts, ruleCuts, madeP, List.flatMap_cons, List.flatMap_nil, List.length_cons, List.length_append, List.length_nil]
  omega
/-- one policy, in a row of its own. -/
theorem one_pol {W : World} {p : TPol} {v : Value} {b : Nat} (hr : RdRules W (fun _ => True) v p.rules) (hb : b = W.heap.size) : RdPols (W.alloc (.cells #[v, .int .i64 p.dflt] 44)) (fun _ => True) (.slice (some ⟨b, 0, none⟩) 1 1) [p] :=
  sl_block (xs := [p]) (rows := [[v, .int .i64 p.dflt]]) (RowsOf.cons RowsOf.nil ⟨_, rfl, hr.below (bel_alloc (Below.refl _ _) _)⟩ rfl) (blk_at hb) rfl trivial (by simp [maxLen])

set_option maxRecDepth 100000 in
set_option maxHeartbeats 8000000 in
theorem cut_walk (w : World) (hL : Laid w) : Calls Tryd.prog 12 #[] w fun e w' => e = .returned (.bool true) ∧ Below w.heap.size w w' := by
  have HL := Lib.hid hL
  clear hL
  have hm1 : madeP.rules.length = 2 := rfl
  go_enter Tryd.func12, Tryd.ntmps12
  go_wp2_with fail
  refine (made_any _ HL.out).mono ?_
  rintro e w1 ⟨v1, rfl, hr1, hb1⟩
  have Hb1 := Lib.hid hb1
  have Hr1 := Lib.hid (rules_true hr1)
  obtain ⟨a1, c1, rfl, _⟩ := Sl.form hr1
  rw [hm1] at Hr1
  have HP1 := Lib.hid (one_pol (p := madeP) Hr1.out rfl)
  have HA1 := Lib.hid (bel_alloc (Below.refl w1.heap.size w1) (.cells #[.slice a1 2 c1, .int .i64 4] 44))
  have Hc1 := Lib.hid (bel_call Hb1.out HA1.out)
  clear hr1 hb1
  go_wp2_with fail
  refine (cutsE_any _ [madeP] 0 _ _ HP1.out (fun _ _ _ => cut7 0)).mono ?_
  rw [cut1]
  rintro e w2 ⟨q1, rfl, ho1, hb2⟩
  have Hb2 := Lib.hid (bel_call Hc1.out hb2)
  have R1 : Hid (RdInts w2 (fun _ => True) q1 [0, 3, 4]) := OwnSl.sl ho1 (D := fun _ => True) (fun _ _ => trivial)
  obtain ⟨u1, k1, rfl⟩ := ho1.slice
  clear ho1
  clear hb2
  simp only [List.length_cons, List.length_nil, Nat.zero_add, Nat.reduceAdd] at R1 ⊢
  go_wp2_with fail
  refine (made_any _ (HL.out.below Hb2.out)).mono ?_
  rintro e w3 ⟨v3, rfl, hr3, hb3⟩
  have Hb3 := Lib.hid (bel_call Hb2.out hb3)
  replace R1 := Lib.hid (R1.out.below hb3)
  have Hr3 := Lib.hid (rules_true hr3)
  obtain ⟨a3, c3, rfl, _⟩ := Sl.form hr3
  rw [hm1] at Hr3
  have HP3 := Lib.hid (one_pol (p := madeP) Hr3.out rfl)
  have HA3 := Lib.hid (bel_alloc (Below.refl w3.heap.size w3) (.cells #[.slice a3 2 c3, .int .i64 4] 44))
  have Hc3 := Lib.hid (bel_call Hb3.out HA3.out)
  replace R1 := Lib.hid (R1.out.below HA3.out)
  clear hr3 hb3
  go_wp2_with fail
  refine (cutsE_any _ [madeP] 2 _ _ HP3.out (fun _ _ _ => cut7 2)).mono ?_
  rw [cut2]
  rintro e w4 ⟨q2, rfl, ho2, hb4⟩
  have Hb4 := Lib.hid (bel_call Hc3.out hb4)
  replace R1 := Lib.hid (R1.out.below hb4)
  have R2 : Hid (RdInts w4 (fun _ => True) q2 [0, 5]) := OwnSl.sl ho2 (D := fun _ => True) (fun _ _ => trivial)
  obtain ⟨u2, k2, rfl⟩ := ho2.slice
  clear ho2
  clear hb4
  simp only [List.length_cons, List.length_nil, Nat.zero_add, Nat.reduceAdd] at R2 ⊢
  go_wp2_with fail
  refine (made_any _ (HL.out.below Hb4.out)).mono ?_
  rintro e w5 ⟨v5, rfl, hr5, hb5⟩
  have Hb5 := Lib.hid (bel_call Hb4.out hb5)
  replace R1 := Lib.hid (R1.out.below hb5)
  replace R2 := Lib.hid (R2.out.below hb5)
  have Hr5 := Lib.hid (rules_true hr5)
  obtain ⟨a5, c5, rfl, _⟩ := Sl.form hr5
  rw [hm1] at Hr5
  have HP5 := Lib.hid (one_pol (p := madeP) Hr5.out rfl)
  have HA5 := Lib.hid (bel_alloc (Below.refl w5.heap.size w5) (.cells #[.slice a5 2 c5, .int .i64 4] 44))
  have Hc5 := Lib.hid (bel_call Hb5.out HA5.out)
  replace R1 := Lib.hid (R1.out.below HA5.out)
  replace R2 := Lib.hid (R2.out.below HA5.out)
  clear hr5 hb5
  go_wp2_with fail
  have h4 := cut4
  have h5 := cut5
  obtain ⟨PT, hPT⟩ : ∃ P, (pointsE [madeP]).1 = P := ⟨_, rfl⟩
  rw [hPT] at h4 h5
  have H4 := Lib.hid h4
  have H5 := Lib.hid h5
  clear h4 h5
  refine (points_any _ [madeP] _ _ HP5.out (fun _ f _ _ => cut7 f)).mono ?_
  rw [cut3, hPT]
  rintro e w6 ⟨q3, rfl, ho3, hb6⟩
  have Hb6 := Lib.hid (bel_call Hc5.out hb6)
  replace R1 := Lib.hid (R1.out.below hb6)
  replace R2 := Lib.hid (R2.out.below hb6)
  have R3 : Hid (RdCalls w6 (fun _ => True) q3 PT) := OwnSl.sl ho3 (D := fun _ => True) (fun _ _ => trivial)
  obtain ⟨u3, k3, rfl⟩ := ho3.slice
  clear ho3
  rw [H4.out] at R3
  clear hb6
  clear hPT
  rw [H4.out]
  go_wp2_with fail
  refine (made_any _ (HL.out.below Hb6.out)).mono ?_
  rintro e w7 ⟨v7, rfl, hr7, hb7⟩
  have Hb7 := Lib.hid (bel_call Hb6.out hb7)
  replace R1 := Lib.hid (R1.out.below hb7)
  replace R2 := Lib.hid (R2.out.below hb7)
  replace R3 := Lib.hid (R3.out.below hb7)
  have Hr7 := Lib.hid (rules_true hr7)
  obtain ⟨a7, c7, rfl, _⟩ := Sl.form hr7
  rw [hm1] at Hr7
  have HP7 := Lib.hid (one_pol (p := madeP) Hr7.out rfl)
  have HA7 := Lib.hid (bel_alloc (Below.refl w7.heap.size w7) (.cells #[.slice a7 2 c7, .int .i64 4] 44))
  have Hc7 := Lib.hid (bel_call Hb7.out HA7.out)
  replace R1 := Lib.hid (R1.out.below HA7.out)
  replace R2 := Lib.hid (R2.out.below HA7.out)
  replace R3 := Lib.hid (R3.out.below HA7.out)
  clear hr7 hb7
  go_wp2_with fail
  refine (home_any _ [madeP] ⟨9, 3, 7, 7, 7⟩ _ _ HP7.out (fun _ f _ _ => cut7 f)).mono ?_
  rw [cut6]
  rintro e w8 ⟨rfl, hb8⟩
  have Hb8 := Lib.hid (bel_call Hc7.out hb8)
  replace R1 := Lib.hid (R1.out.below hb8)
  replace R2 := Lib.hid (R2.out.below hb8)
  replace R3 := Lib.hid (R3.out.below hb8)
  clear hb8
  dsimp only
  obtain ⟨wx, hwx⟩ : ∃ wx, (w8.alloc (.cells #[.int .i64 4, .int .i64 1, .int .i64 5, .int .i64 0, .int .i64 0] 24)) = wx := ⟨_, rfl⟩
  have HX0 : Hid (Bx w8 [.cells #[.int .i64 4, .int .i64 1, .int .i64 5, .int .i64 0, .int .i64 0] 24] wx) := by show Bx _ _ _; rw [← hwx]; exact Bx.one
  obtain ⟨wy, hwy⟩ : ∃ wy, ((wx.setCell ⟨w8.heap.size, 3, none⟩ (.int .i64 0)).setCell ⟨w8.heap.size, 4, none⟩ (.int .i64 0)) = wy := ⟨_, rfl⟩
  have HX : Hid (Bx w8 [.cells #[.int .i64 4, .int .i64 1, .int .i64 5, .int .i64 0, .int .i64 0] 24] wy) := by show Bx _ _ _; rw [← hwy]; exact (HX0.out.set (i := 0) rfl 3 (.int .i64 0)).set (i := 0) rfl 4 (.int .i64 0)
  have hxc := HX0.out.cells0
  have hxf := HX0.out.free0
  have hxs : ∀ v, (wx.setCell ⟨w8.heap.size, 3, none⟩ v).cell? ⟨w8.heap.size, 4, none⟩ = some (.int .i64 0) := fun v => (HX0.out.set (i := 0) rfl 3 v).cells0 4
  have hxg : ∀ v, (wx.setCell ⟨w8.heap.size, 3, none⟩ v).frozen? ⟨w8.heap.size, 4, none⟩ = false := fun v => (HX0.out.set (i := 0) rfl 3 v).free0 4
  have hyc := HX.out.cells0
  have HbX := Lib.hid (bel_call Hb8.out HX.out.bel)
  replace R1 := Lib.hid (R1.out.below HX.out.bel)
  replace R2 := Lib.hid (R2.out.below HX.out.bel)
  replace R3 := Lib.hid (R3.out.below HX.out.bel)
  have HI := Lib.hid (Bx.one (w := wy) (o := .cells #[.int .i64 0, .int .i64 3, .int .i64 4] 3))
  have RI : Hid (RdInts (wy.alloc (.cells #[.int .i64 0, .int .i64 3, .int .i64 4] 3)) (fun _ => True) (.slice (some ⟨wy.heap.size, 0, none⟩) 3 3) [0, 3, 4]) := sl_block (xs := [0, 3, 4]) (rows := [[.int .i64 0], [.int .i64 3], [.int .i64 4]]) (RowsOf.cons (RowsOf.cons (RowsOf.cons RowsOf.nil rfl rfl) rfl rfl) rfl rfl) (heap_last _ _) rfl trivial (by simp [maxLen])
  go_wp2_with fail
  refine (eqints_any _ _ [0, 3, 4] [0, 3, 4] _ _ (R1.out.below HI.out.bel) RI.out).mono ?_
  rw [decide_eq_true rfl]
  rintro e w9 ⟨rfl, hb9⟩
  have HbI := Lib.hid (Below.trans HI.out.bel (hb9.mono HI.out.bel.size))
  have Hb9 := Lib.hid (bel_call HbX.out HbI.out)
  replace HX := Lib.hid (HX.out.below HbI.out)
  replace R2 := Lib.hid (R2.out.below HbI.out)
  replace R3 := Lib.hid (R3.out.below HbI.out)
  clear hb9 HI RI R1 HbI hwx hwy hxc hxf hxs hxg hyc HX0
  have HI := Lib.hid (Bx.one (w := w9) (o := .cells #[.int .i64 0, .int .i64 5] 3))
  have RI : Hid (RdInts (w9.alloc (.cells #[.int .i64 0, .int .i64 5] 3)) (fun _ => True) (.slice (some ⟨w9.heap.size, 0, none⟩) 2 2) [0, 5]) := sl_block (xs := [0, 5]) (rows := [[.int .i64 0], [.int .i64 5]]) (RowsOf.cons (RowsOf.cons RowsOf.nil rfl rfl) rfl rfl) (heap_last _ _) rfl trivial (by simp [maxLen])
  go_wp2_with fail
  refine (eqints_any _ _ [0, 5] [0, 5] _ _ (R2.out.below HI.out.bel) RI.out).mono ?_
  rw [decide_eq_true rfl]
  rintro e w10 ⟨rfl, hb10⟩
  have HbI := Lib.hid (Below.trans HI.out.bel (hb10.mono HI.out.bel.size))
  have Hb10 := Lib.hid (bel_call Hb9.out HbI.out)
  replace HX := Lib.hid (HX.out.below HbI.out)
  replace R3 := Lib.hid (R3.out.below HbI.out)
  clear hb10 HI RI R2 HbI
  obtain ⟨h1lt, hg⟩ := List.getElem?_eq_some_iff.1 H5.out
  obtain ⟨g, o, rfl, _⟩ := Sl.at_ R3.out (by omega)
  obtain ⟨x0, x1, x2, x3, x4⟩ := RdCalls.cells R3.out h1lt
  rw [hg] at x0 x1 x2 x3 x4
  clear hg
  have hqx := HX.out.cells0
  have he1 := calleq_self ⟨0, 0, 5, 0, 0⟩
  have he2 := calleq_self ⟨4, 1, 5, 0, 0⟩
  dsimp only at he1 he2 x0 x1 x2 x3 x4
  go_wp2
  go_ret
  exact ⟨rfl, Hb10.out⟩
end Go.Proofs.YtioeliocdbckbaaDoor
namespace Go.Proofs.YtioeliocdbckbaaDoor
open Go.RowKit Go.Maps

theorem keyInt : Keyed Tryd.prog 3 := int_keyed Tryd.underlying3
/-- block b is a map of at most n entries that says f. -/
def BoolMap (w : World) (b n : Nat) (f : Int → Bool) : Prop :=
  ∃ D : DataW Unit, w.ownsMap Tryd.prog 3 (plainElem Tryd.prog 4) b n D ∧ ∀ z : Int, D.atKey (.int .i64 z) (.lit (.bool false)) = .lit (.bool (f z))
theorem BoolMap.made (w : World) : BoolMap (w.alloc (.map #[] 0)) w.heap.size 0 (fun _ => false) := ⟨.map [], World.ownsMap_made _ _ _ _, fun _ => rfl⟩
theorem BoolMap.below {w w' : World} {b n : Nat} {f : Int → Bool} (h : BoolMap w b n f) (hb : Below w.heap.size w w') : BoolMap w' b n f := by
  obtain ⟨D, ⟨es, clock, hbk, F, hs, hD⟩, hat⟩ := h
  exact ⟨D, ⟨es, clock, blk_below hbk hb, F, hs, hD⟩, hat⟩
theorem BoolMap.keep {w w' : World} {b n : Nat} {f : Int → Bool} (h : BoolMap w b n f) (hb : w'.heap[b]? = w.heap[b]?) : BoolMap w' b n f := by
  obtain ⟨D, ⟨es, clock, hbk, F, hs, hD⟩, hat⟩ := h
  exact ⟨D, ⟨es, clock, hb.trans hbk, F, hs, hD⟩, hat⟩
theorem BoolMap.lt {w : World} {b n : Nat} {f : Int → Bool} (h : BoolMap w b n f) : b < w.heap.size := by
  obtain ⟨D, ho, _⟩ := h
  exact ho.lt
set_option maxRecDepth 100000 in
theorem plainElem_bool_inv {v : Value} {x : Bool} {ps : List MemPlace} (h : plainElem (H := Unit) Tryd.prog 4 v = some (.lit (.bool x), ps)) : v = .bool x := by
  have hu := Tryd.underlying4
  unfold plainElem at h
  generalize Tryd.prog.underlying 4 = u at h hu
  subst hu
  cases v <;> first | (cases h; rfl) | (cases h)
theorem wfInt {z : Int} (h0 : -9223372036854775808 ≤ z) (h1 : z ≤ 9223372036854775807) : (Lit.int .i64 z).wf = true := by
  simp [Lit.wf, IntKind.min, IntKind.max, IntKind.signed, IntKind.bits]; omega
theorem BoolMap.look {w : World} {b n : Nat} {f : Int → Bool} (h : BoolMap w b n f) {z : Int} (h0 : -9223372036854775808 ≤ z) (h1 : z ≤ 9223372036854775807) :
    (Instr.lookup 62 (.map (some b)) (.int .i64 z) false).run Tryd.prog w = .ok (.bool (f z)) w := by
  obtain ⟨D, ho, hat⟩ := h
  obtain ⟨v, ps, hrun, hv⟩ := ho.lookup keyInt Tryd.underlying62 (z := .bool false) (by kernel_rfl) (plainElem_bool Tryd.underlying4 false) (keyOf_int_mk Tryd.underlying3 (wfInt h0 h1))
  rw [hat z] at hv
  rw [plainElem_bool_inv hv] at hrun
  exact hrun
/-- 'm[z] = x' at the operation. -/
theorem wpList_putBool {w : World} {ops : Array Oper} {rest : List Oper} {o : Oper} {a : Act} {Q : Exit → Act → World → Prop} (hg : o.guard = none) (m x v : Operand) (hop : o.op = Op.mapUpdate 62 m x v)
    (b n : Nat) (f : Int → Bool) (hm : a.eval m = .map (some b)) (hown : BoolMap w b n f) (hn : n < maxLen) (z : Int) (h0 : -9223372036854775808 ≤ z) (h1 : z ≤ 9223372036854775807) (y : Bool) (hx : a.eval x = .int .i64 z) (hv : a.eval v = .bool y)
    (hK : ∀ w', BoolMap w' b (n + 1) (fun t => if t = z then y else f t) → w.grownBy w' (some b) → wpList Tryd.prog ops Q rest (a.put o.dst undef) w') : wpList Tryd.prog ops Q (o :: rest) a w := by
  obtain ⟨D, ho, hat⟩ := hown
  have hkey := keyOf_int_mk (P := Tryd.prog) Tryd.underlying3 (wfInt h0 h1)
  refine wpList_mapUpdate_own w hg m x v _ hop _ _ keyInt Tryd.underlying62 _ b n D hm ho hn _ _ _ hx hv hkey (.lit (.bool y)) [] (plainElem_bool Tryd.underlying4 y) fun w' ho' hgr => hK w' ⟨_, ho', fun t => ?_⟩ hgr
  show _ = DataW.lit (.bool (if t = z then y else f t))
  by_cases e : t = z
  · subst e
    rw [if_pos rfl, atKey_put_same ho.isMap (keyInt.key hkey)]
  · rw [if_neg e, atKey_put_other (fun e' => by injection e' with _ e'; exact e e')]
    exact hat t
end Go.Proofs.YtioeliocdbckbaaDoor
namespace Go.Proofs.YtioeliocdbckbaaDoor
open Go.RowKit Go.Maps

/-- block r is a loop over the map at b, that says f; left: what is still to come. -/
def BoolRange (w : World) (b r n : Nat) (f left : Int → Bool) (cnt : Nat) : Prop :=
  ∃ (D : DataW Unit) (lf : Lit → Bool), w.ranges Tryd.prog 3 (plainElem Tryd.prog 4) b r n D lf cnt ∧ (∀ z : Int, D.atKey (.int .i64 z) (.lit (.bool false)) = .lit (.bool (f z))) ∧ ∀ z : Int, lf (.int .i64 z) = left z
theorem BoolRange.kept {w w' : World} {b r n cnt : Nat} {f left : Int → Bool} {row : Option Nat} (h : BoolRange w b r n f left cnt) (hg : w.grownBy w' row) (h1 : some b ≠ row) (h2 : some r ≠ row) : BoolRange w' b r n f left cnt := by
  obtain ⟨D, lf, hr, h3, h4⟩ := h
  exact ⟨D, lf, hr.kept hg h1 h2, h3, h4⟩
theorem BoolRange.left_eq {w : World} {b r n cnt : Nat} {f left : Int → Bool} (h : BoolRange w b r n f left cnt) : w.rangeLeft b r = cnt := by
  obtain ⟨D, lf, hr, _⟩ := h
  exact hr.left_eq
theorem BoolRange.lt {w : World} {b r n cnt : Nat} {f left : Int → Bool} (h : BoolRange w b r n f left cnt) : r < w.heap.size ∧ b < w.heap.size := by
  obtain ⟨D, lf, hr, _⟩ := h
  exact ⟨hr.lt, hr.owns.lt⟩
section
variable {w : World} {ops : Array Oper} {rest : List Oper} {o : Oper} {a : Act} {Q : Exit → Act → World → Prop}
theorem wpList_rangeBool (hg : o.guard = none) (m : Operand) (hop : o.op = Op.range 62 m) (b n : Nat) (f : Int → Bool) (hm : a.eval m = .map (some b)) (hown : BoolMap w b n f)
    (hK : ∀ w' left cnt, BoolRange w' b w.heap.size n f left cnt → (∀ z : Int, f z = true → left z = true) → cnt ≤ n → w.grownBy w' none → w'.heap.size = w.heap.size + 1 → wpList Tryd.prog ops Q rest (a.put o.dst (.pointer (some ⟨w.heap.size, 0, none⟩))) w') :
    wpList Tryd.prog ops Q (o :: rest) a w := by
  obtain ⟨D, ho, hat⟩ := hown
  refine wpList_range_own w hg m _ hop _ _ keyInt Tryd.underlying62 _ b n D hm ho fun w' hr hgr hs => hK w' (fun z => Maps.has D (.int .i64 z)) (Maps.size D) ⟨D, _, hr, hat, fun _ => rfl⟩ (fun z hz => ?_) ?_ hgr hs
  · cases h : Maps.has D (.int .i64 z) with
    | true => rfl
    | false =>
      have := hat z
      rw [Maps.atKey_of_not_has h, hz] at this
      cases this
  · obtain ⟨es, clock, _, _, hsz, hD⟩ := ho
    rw [hD]
    show List.length _ ≤ n
    rw [length_sorted]
    simpa using hsz
theorem wpList_nextBool (hg : o.guard = none) (it : Operand) (hop : o.op = Op.next it false) (b r n : Nat) (f left : Int → Bool) (cnt : Nat) (hit : a.eval it = .pointer (some ⟨r, 0, none⟩)) (h : BoolRange w b r n f left cnt)
    (hDone : (∀ z, left z = false) → wpList Tryd.prog ops Q rest (a.put o.dst (.tuple #[.bool false])) w)
    (hMore : ∀ (x : Int) (w' : World) (cnt' : Nat), left x = true → BoolRange w' b r n f (fun z => left z && !decide (z = x)) cnt' → cnt' < cnt → w.grownBy w' (some r) → w'.heap.size = w.heap.size →
      (Instr.entry (.pointer (some ⟨r, 0, none⟩))).run Tryd.prog w' = .ok (.tuple #[.int .i64 x, .bool (f x)]) w' → wpList Tryd.prog ops Q rest (a.put o.dst (.tuple #[.bool true, .int .i64 x, .bool (f x)])) w') :
    wpList Tryd.prog ops Q (o :: rest) a w := by
  obtain ⟨D, lf, hr, hat, hlf⟩ := h
  refine wpList_next_ranges w hg it hop 3 keyInt (plainElem Tryd.prog 4) (Value.int .i64) Value.bool (fun key kl hkey => by obtain ⟨x, rfl, _⟩ := Maps.keyOf_int_inv Tryd.underlying3 hkey; exact ⟨x, rfl⟩) (fun v y hv => ?_) b r n D lf cnt hit hr (fun _ hl => hDone fun z => by rw [← hlf z]; exact hl _) fun x c kl y w' cnt' hkey hlk hv hat' hrg hlt hgr hsz hen => ?_
  · have hu := Tryd.underlying4
    unfold plainElem at hv
    generalize Tryd.prog.underlying 4 = u at hv hu
    subst hu
    cases v <;> first | exact ⟨_, rfl⟩ | (cases hv)
  · obtain ⟨x', ex, rfl, _⟩ := Maps.keyOf_int_inv Tryd.underlying3 hkey
    cases ex
    have hy : y.1 = .lit (.bool (f x)) := by rw [← hat x]; exact (hat' _).symm
    obtain ⟨y1, y2⟩ := y
    subst hy
    have hc := plainElem_bool_inv hv
    injection hc with hc
    subst hc
    refine hMore x w' cnt' (by rw [← hlf]; exact hlk) ⟨D, _, hrg, hat, fun z => ?_⟩ hlt hgr hsz hen
    show (lf (.int .i64 z) && !(Lit.int .i64 z).sameKey (.int .i64 x)) = _
    rw [hlf]
    unfold Lit.sameKey
    simp
end
end Go.Proofs.YtioeliocdbckbaaDoor
namespace Go.Proofs.YtioeliocdbckbaaDoor

/-! ### the map of cuts -/
/-- what a condition makes of the map. -/
def atCond (f : Int) (g : Int → Bool) (c : TCond) : Int → Bool :=
  if c.f = f then fun t => if t = c.v + 1 then (if c.v + 1 = c.v then true else g (c.v + 1)) || decide (c.op = 1 ∨ c.op = 2) else if t = c.v then true else g t else g
def atStart : Int → Bool := fun t => if t = 0 then true else false
def atAll (f : Int) (cs : List TCond) : Int → Bool := cs.foldl (atCond f) atStart
theorem atCond_true {f : Int} {g : Int → Bool} {c : TCond} {t : Int} : atCond f g c t = true ↔ g t = true ∨ t ∈ condCuts f c := by
  rw [mem_condCuts]
  unfold atCond
  by_cases h : c.f = f
  · rw [if_pos h]
    by_cases h1 : t = c.v + 1
    · rw [if_pos h1, if_neg (by omega), Bool.or_eq_true, decide_eq_true_eq, ← h1]
      constructor
      · rintro (h2 | h2)
        · exact .inl h2
        · exact .inr ⟨h, .inr ⟨h2, rfl⟩⟩
      · rintro (h2 | ⟨_, h2 | ⟨h2, _⟩⟩)
        · exact .inl h2
        · omega
        · exact .inr h2
    · rw [if_neg h1]
      by_cases h2 : t = c.v
      · simp [h2, h]
      · rw [if_neg h2]
        constructor
        · exact .inl
        · rintro (h3 | ⟨_, h3 | ⟨_, h3⟩⟩)
          · exact h3
          · exact absurd h3 h2
          · exact absurd h3 h1
  · rw [if_neg h]
    constructor
    · exact .inl
    · rintro (h1 | ⟨h1, _⟩)
      · exact h1
      · exact absurd h1 h
theorem foldl_at {f t : Int} : ∀ (cs : List TCond) (g : Int → Bool), cs.foldl (atCond f) g t = true ↔ g t = true ∨ t ∈ cs.flatMap (condCuts f)
  | [], g => by simp
  | c :: cs, g => by
    rw [List.foldl_cons, foldl_at cs, atCond_true, List.flatMap_cons, List.mem_append, or_assoc]
def polConds (p : TPol) : List TCond := p.rules.flatMap fun r => r.conds
theorem atAll_true {f t : Int} {l : List TPol} : atAll f (l.flatMap polConds) t = true ↔ t ∈ cutVals l f := by
  unfold atAll
  rw [foldl_at, mem_vals]
  unfold atStart polConds
  simp only [List.mem_flatMap]
  constructor
  · rintro (h | ⟨c, ⟨p, hp, r, hr, hc⟩, h⟩)
    · left
      by_cases e : t = 0
      · exact e
      · simp [e] at h
    · exact .inr ⟨p, hp, r, hr, c, hc, h⟩
  · rintro (h | ⟨p, hp, r, hr, c, hc, h⟩)
    · left; simp [h]
    · exact .inr ⟨c, ⟨p, hp, r, hr, hc⟩, h⟩
theorem atAll_snoc (f : Int) (cs : List TCond) (c : TCond) : atAll f (cs ++ [c]) = atCond f (atAll f cs) c := by
  unfold atAll
  rw [List.foldl_append]
  rfl

/-! ### points by number -/
theorem fm_get {α β γ : Type} (M : List β) (hm : 0 < M.length) (g : α → β → γ) : ∀ (L : List α) (i : Nat), (L.flatMap fun x => M.map (g x))[i]? = (L[i / M.length]?).bind fun x => (M[i % M.length]?).map (g x)
  | [], i => by simp
  | x :: L, i => by
    rw [List.flatMap_cons, List.getElem?_append, List.length_map]
    by_cases h : i < M.length
    · rw [if_pos h, Nat.div_eq_of_lt h, Nat.mod_eq_of_lt h, List.getElem?_map]
      rfl
    · obtain ⟨j, rfl⟩ : ∃ j, i = j + M.length := ⟨i - M.length, by omega⟩
      rw [if_neg h, Nat.add_sub_cancel, fm_get M hm g L, Nat.add_div_right _ hm, Nat.add_mod_right, List.getElem?_cons_succ]
theorem stage_get (l : List TPol) (k i : Nat) : (stage l (k + 1))[i]? = ((stage l k)[i / (cutsOf l k).length]?).bind fun x => ((cutsOf l k)[i % (cutsOf l k).length]?).map fun n => x.set k n :=
  fm_get (cutsOf l k) (cuts_pos l k) (fun (x : TCall) (n : Int) => x.set k n) (stage l k) i
/-- a cut by its number. -/
def cutAt (l : List TPol) (k i : Nat) : Int := (cutsOf l k)[i % (cutsOf l k).length]?.getD 0
theorem cutAt_get (l : List TPol) (k i : Nat) : (cutsOf l k)[i % (cutsOf l k).length]? = some (cutAt l k i) := by
  unfold cutAt
  rw [List.getElem?_eq_getElem (Nat.mod_lt _ (cuts_pos l k))]
  rfl
/-- what is left of a number when the fields from k on have been told. -/
def leftOf (l : List TPol) (i : Nat) : Nat → Nat
  | 0 => i
  | j + 1 => leftOf l i j / (cutsOf l (4 - j : Nat)).length
/-- a point when j fields have been told, the last ones first. -/
def tellOf (l : List TPol) (i : Nat) : Nat → TCall
  | 0 => ⟨0, 0, 0, 0, 0⟩
  | j + 1 => (tellOf l i j).set (4 - j) (cutAt l (4 - j) (leftOf l i j))
theorem left_lt {l : List TPol} {i : Nat} (h : i < sizes l 5) : leftOf l i 5 = 0 ∧ ∀ j, j ≤ 5 → leftOf l i j < sizes l (5 - j) := by
  have step : ∀ j, j < 5 → leftOf l i j < sizes l (5 - j) → leftOf l i (j + 1) < sizes l (5 - (j + 1)) := fun j hj h => by
    show leftOf l i j / _ < _
    rw [Nat.div_lt_iff_lt_mul (cuts_pos l _)]
    have e : 5 - j = (4 - j) + 1 := by omega
    rw [e] at h
    have e' : 5 - (j + 1) = 4 - j := by omega
    rw [e']
    exact h
  have all : ∀ j, j ≤ 5 → leftOf l i j < sizes l (5 - j) := fun j => by
    induction j with
    | zero => intro _; exact h
    | succ j ih => intro hj; exact step j (by omega) (ih (by omega))
  have h5 := all 5 (by omega)
  simp only [Nat.sub_self, sizes] at h5
  exact ⟨by omega, all⟩
theorem tell_stage {l : List TPol} {i : Nat} (h : i < sizes l 5) : (stage l 5)[i]? = some (tellOf l i 5) := by
  obtain ⟨h0, _⟩ := left_lt h
  have e5 : leftOf l i 5 = leftOf l i 4 / (cutsOf l (0 : Nat)).length := rfl
  have e4 : leftOf l i 4 = leftOf l i 3 / (cutsOf l (1 : Nat)).length := rfl
  have e3 : leftOf l i 3 = leftOf l i 2 / (cutsOf l (2 : Nat)).length := rfl
  have e2 : leftOf l i 2 = leftOf l i 1 / (cutsOf l (3 : Nat)).length := rfl
  have e1 : leftOf l i 1 = i / (cutsOf l (4 : Nat)).length := rfl
  rw [stage_get, cutAt_get, ← e1, stage_get, cutAt_get, ← e2, stage_get, cutAt_get, ← e3, stage_get, cutAt_get, ← e4, stage_get, cutAt_get, ← e5, h0]
  rfl
theorem stage_tell (l : List TPol) : stage l 5 = (List.range (sizes l 5)).map fun i => tellOf l i 5 := by
  apply List.ext_getElem?
  intro i
  rw [List.getElem?_map]
  by_cases h : i < sizes l 5
  · rw [tell_stage h, List.getElem?_range h]
    rfl
  · rw [List.getElem?_eq_none (by rw [stage_length]; omega), List.getElem?_eq_none (by simp; omega)]
    rfl
theorem stage_take {l : List TPol} {i : Nat} (h : i < sizes l 5) : (stage l 5).take (i + 1) = (stage l 5).take i ++ [tellOf l i 5] := by
  have hl : i < (stage l 5).length := by rw [stage_length]; exact h
  rw [List.take_succ_eq_append_getElem hl]
  have := tell_stage h
  rw [List.getElem?_eq_getElem hl] at this
  rw [Option.some.inj this]
end Go.Proofs.YtioeliocdbckbaaDoor
