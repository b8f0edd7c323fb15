/- PointOrder returns true at every list of policies of at most 1048576 values and number. Condition: Laid. -/
import Derived.Test.YtioeliocdbckbaaDoorK5
import Derived.Test.YtioeliocdbckbaaDoorK6
import Derived.Test.YtioeliocdbckbaaDoorK7
namespace Go.Proofs.YtioeliocdbckbaaDoor
open Go.RowKit
attribute [local go_sem] gives givesUpon

/-- a call of the row, read as five numbers. -/
theorem call_ints {w : World} {b o n c : Nat} {l : List TCall} (h : RdCalls w (fun _ => True) (.slice (some ⟨b, o, none⟩) n c) l) {i : Nat} (hi : i < l.length) : RdInts w (fun _ => True) (.slice (some ⟨b, o + i * 5, none⟩) 5 5) [l[i].a0, l[i].a1, l[i].a2, l[i].a3, l[i].a4] := by
  obtain ⟨x0, x1, x2, x3, x4⟩ := RdCalls.cells h hi
  refine ⟨some ⟨b, o + i * 5, none⟩, 5, rfl, Nat.le_refl _, by decide, (fun h => by cases h), fun _ => ⟨b, o + i * 5, rfl, trivial, World.block_lt_of_cell? _ _ x0, fun j y hj => ?_⟩⟩
  refine ⟨[.int .i64 y], rfl, rfl, fun m u hu => ?_⟩
  have hm : m = 0 ∧ u = .int .i64 y := by
    cases m with
    | zero => simp at hu; exact ⟨rfl, hu.symm⟩
    | succ m => simp at hu
  obtain ⟨rfl, rfl⟩ := hm
  match j, hj with
  | 0, hj => simp at hj; subst hj; exact x0
  | 1, hj => simp at hj; subst hj; exact x1
  | 2, hj => simp at hj; subst hj; exact x2
  | 3, hj => simp at hj; subst hj; exact x3
  | 4, hj => simp at hj; subst hj; exact x4
  | j + 5, hj => simp at hj
theorem conds_take (l : List TPol) (k : Nat) : ((l.take k).flatMap polConds).length ≤ (l.flatMap polConds).length := by
  conv => rhs; rw [← List.take_append_drop k l]
  rw [List.flatMap_append, List.length_append]
  omega
theorem sub_stage {l : List TPol} {k : Nat} {x : TCall} (h : x ∈ stage (l.take k) 5) : x ∈ stage l 5 := stage_sub (fun f n hn => vals_take l k f n hn) h
set_option maxRecDepth 100000 in
set_option maxHeartbeats 16000000 in
theorem pointOrder_walk {w : World} (hL : Laid w) (v0 : Value) (l : List TPol) (rd0 : RdPols w (fun _ => True) v0 l) (hbk : (l.flatMap polConds).length + l.length ≤ 1048576) (f : Int) :
    Calls Tryd.prog 6 #[v0, .int .i64 f] w fun e w' => e = .returned (.bool true) ∧ Below w.heap.size w w' := by
  have HL := Lib.hid hL
  have H0 := Lib.hid rd0
  have Hbk := Lib.hid hbk
  have Hn : Hid (∀ f, (cutVals l f).length * 8 ≤ 140737488355328) := fun f => by have := vals_conds l f; omega
  obtain ⟨a0, c0, rfl, hlc, hcm, _⟩ := Sl.form rd0
  have Hlc := Lib.hid hlc
  have Hcm := Lib.hid hcm
  clear hL rd0 hbk hlc hcm
  obtain ⟨⟨T, te⟩, hT⟩ : ∃ E, pointsE l = E := ⟨_, rfl⟩
  have HT := Lib.hid hT
  clear hT
  go_enter Tryd.func6, Tryd.ntmps6
  go_wp2_with fail
  refine (points_any _ l _ _ H0.out (fun _ f _ _ => Hn.out f)).mono ?_
  rw [HT.out]
  rintro e w1 ⟨v1, rfl, ho1, hb1⟩
  have R1 : Hid (RdCalls w1 (fun _ => True) v1 T) := OwnSl.sl ho1 (D := fun _ => True) (fun _ _ => trivial)
  have Hb1 := Lib.hid hb1
  obtain ⟨a1, c1, rfl⟩ := ho1.slice
  clear ho1 hb1
  go_wp2_with fail
  refine (cut_walk _ (HL.out.below Hb1.out)).mono ?_
  rintro e w2 ⟨rfl, hb2⟩
  have Hb2 := Lib.hid (bel_call Hb1.out hb2)
  replace R1 := Lib.hid (R1.out.below hb2)
  clear hb2 Hb1
  by_cases h0 : te = 0
  · subst h0
    obtain ⟨hok, hsz, hpe⟩ := pointsE_ok (l := l) (by rw [HT.out])
    have hTs : T = stage l 5 := by have := HT.out.symm.trans hpe; injection this
    have Hok := Lib.hid hok
    have Hsz := Lib.hid hsz
    have HTs := Lib.hid hTs
    have Hpt : Hid (∀ x ∈ T, callE x = 0) := fun x hx => by rw [hTs] at hx; exact if_pos (point_ok hok hx)
    have Hri : Hid (∀ (i : Nat) (h : i + 1 < T.length), callLt (T[i]'(by omega)) T[i + 1]) := by subst hTs; exact fun i h => points_rise l h
    clear hok hsz hpe hTs
    obtain ⟨_, _, _, hTa, hTm, _⟩ := Sl.form R1.out
    have HTm : Hid (T.length ≤ 9223372036854775807) := Nat.le_trans hTa hTm
    clear hTa hTm
    go_wp2_with fail
    go_loopw [26] (fun iv wr => ∃ k : Nat, iv = .int .i64 k ∧ k ≤ T.length ∧ Below w2.heap.size w2 wr) (fun iv _ => T.length - (intOf iv).toNat)
    case atStart => exact ⟨0, rfl, Nat.zero_le _, Below.refl _ _⟩
    case round =>
      obtain ⟨k, rfl, hk, hbw⟩ := hrel
      have Hbw := Lib.hid hbw
      clear hbw
      by_cases hlt : k < T.length
      · obtain ⟨b, o, rfl, _⟩ := Sl.at_ R1.out (by omega)
        obtain ⟨x0, x1, x2, x3, x4⟩ := RdCalls.cells (R1.out.below Hbw.out) hlt
        obtain ⟨x, hx⟩ : ∃ x, T[k] = x := ⟨_, rfl⟩
        have Hxe : Hid (callE x = 0) := by show callE x = 0; rw [← hx]; exact Hpt.out _ (List.getElem_mem hlt)
        have Hlt' : Hid (0 < k → callLt (T.getD (k - 1) ⟨0, 0, 0, 0, 0⟩) x) := fun hk0 => by
          obtain ⟨j, rfl⟩ : ∃ j, k = j + 1 := ⟨k - 1, by omega⟩
          rw [Nat.add_sub_cancel, List.getD_eq_getElem?_getD, List.getElem?_eq_getElem (by omega), ← hx]
          exact Hri.out j hlt
        rw [hx] at x0 x1 x2 x3 x4
        clear hx
        have HC := Lib.hid (Bx.one (w := wr) (o := .cells #[.int .i64 x.a0, .int .i64 x.a1, .int .i64 x.a2, .int .i64 x.a3, .int .i64 x.a4] 24))
        have HbC := Lib.hid (bel_call Hbw.out HC.out.bel)
        have RX : Hid (RdInts (wr.alloc (.cells #[.int .i64 x.a0, .int .i64 x.a1, .int .i64 x.a2, .int .i64 x.a3, .int .i64 x.a4] 24)) (fun _ => True) (.slice (some ⟨wr.heap.size, 0, none⟩) 5 5) [x.a0, x.a1, x.a2, x.a3, x.a4]) := sl_block (xs := [x.a0, x.a1, x.a2, x.a3, x.a4]) (rows := [[.int .i64 x.a0], [.int .i64 x.a1], [.int .i64 x.a2], [.int .i64 x.a3], [.int .i64 x.a4]]) (RowsOf.cons (RowsOf.cons (RowsOf.cons (RowsOf.cons (RowsOf.cons RowsOf.nil rfl rfl) rfl rfl) rfl rfl) rfl rfl) rfl rfl) (heap_last _ _) rfl trivial (by simp [maxLen])
        have hTb := HTm.out
        rcases Nat.eq_zero_or_pos k with hk0 | hk0
        · subst hk0
          simp only [Nat.zero_mul, Nat.add_zero] at x0 x1 x2 x3 x4
          go_wp2_with fail
          refine wp_region_B [ex (callV x), ex (.int .i64 0), ex (.bool false), ex (.bool false), ex (.int .i64 0), ex (.bool false), ex (.bool false), ex (undef), ex (undef), ex (undef), ex (undef), ex (undef), ex (undef), ex (undef), ex (undef), ex (.bool false), ex (.bool false)] _ (Nat.le_refl _) (by kernel_rfl) (by kernel_rfl) ⟨.inl ⟨_, rfl⟩, .inl ⟨_, rfl⟩, .inl ⟨_, rfl⟩, .inl ⟨_, rfl⟩, .inl ⟨_, rfl⟩, .inl ⟨_, rfl⟩, .inl ⟨_, rfl⟩, .inl ⟨_, rfl⟩, .inl ⟨_, rfl⟩, .inl ⟨_, rfl⟩, .inl ⟨_, rfl⟩, .inl ⟨_, rfl⟩, .inl ⟨_, rfl⟩, .inl ⟨_, rfl⟩, .inl ⟨_, rfl⟩, .inl ⟨_, rfl⟩, .inl ⟨_, rfl⟩, trivial⟩ ?_
          (refine walkB_ex (fun K hK => ?_); refine ⟨fun W hC hd R hR => ?_, ?_⟩; (have hqc := (HC.out.below hC.2).cells0; clear hd; go_simp; exact hR _ _ (Below.refl _ _) rfl); (go_simp; refine hK _ ?_; clear hK K))
          (refine walkB_ex (fun K hK => ?_); refine ⟨fun W hC hd R hR => ?_, ?_⟩; (clear hd; go_simp; go_at_call 22; refine (callcheck_any x _).mono ?_; rw [Hxe.out]; rintro e w9 ⟨rfl, hb9⟩; exact ⟨_, rfl, hR _ _ hb9 rfl⟩); (go_simp; refine hK _ ?_; clear hK K))
          (refine walkB_ex (fun K hK => ?_); refine ⟨fun W hC hd R hR => ?_, ?_⟩; (have hqc := (HC.out.below hC.2).cells0; clear hd; go_simp; exact hR _ _ (Below.refl _ _) rfl); (go_simp; refine hK _ ?_; clear hK K))
          (refine walkB_ex (fun K hK => ?_); refine ⟨fun W hC hd R hR => ?_, ?_⟩; (have hqc := (HC.out.below hC.2).cells0; clear hd; go_simp; exact hR _ _ (Below.refl _ _) rfl); (go_simp; refine hK _ ?_; clear hK K))
          (refine walkB_ex (fun K hK => ?_); refine ⟨fun W hC hd R hR => ?_, ?_⟩; (have hqc := (HC.out.below hC.2).cells0; clear hd; go_simp; exact hR _ _ (Below.refl _ _) rfl); (go_simp; refine hK _ ?_; clear hK K))
          (refine walkB_ex (fun K hK => ?_); refine ⟨fun W hC hd R hR => ?_, ?_⟩; (have hqc := (HC.out.below hC.2).cells0; clear hd; go_simp; exact hR _ _ (Below.refl _ _) rfl); (go_simp; refine hK _ ?_; clear hK K))
          (refine walkB_ex (fun K hK => ?_); refine ⟨fun W hC hd R hR => ?_, ?_⟩; (have hqc := (HC.out.below hC.2).cells0; clear hd; go_simp; exact hR _ _ (Below.refl _ _) rfl); (go_simp; refine hK _ ?_; clear hK K))
          (refine walkB_ex (fun K hK => ?_); refine ⟨fun W hC hd R hR => ?_, ?_⟩; (have hqc := (HC.out.below hC.2).cells0; clear hd; go_simp; exact hR _ _ (Below.refl _ _) rfl); (go_simp; refine hK _ ?_; clear hK K))
          (refine walkB_ex (fun K hK => ?_); refine ⟨fun W hC hd R hR => ?_, ?_⟩; (have hqc := (HC.out.below hC.2).cells0; clear hd; go_simp; exact hR _ _ (Below.refl _ _) rfl); (go_simp; refine hK _ ?_; clear hK K))
          (refine walkB_ex (fun K hK => ?_); refine ⟨fun W hC hd R hR => ?_, ?_⟩; (have hqc := (HC.out.below hC.2).cells0; clear hd; go_simp; exact hR _ _ (Below.refl _ _) rfl); (go_simp; refine hK _ ?_; clear hK K))
          (refine walkB_ex (fun K hK => ?_); refine ⟨fun W hC hd R hR => ?_, ?_⟩; (have hqc := (HC.out.below hC.2).cells0; clear hd; go_simp; exact hR _ _ (Below.refl _ _) rfl); (go_simp; refine hK _ ?_; clear hK K))
          (refine walkB_ex (fun K hK => ?_); refine ⟨fun W hC hd R hR => ?_, ?_⟩; (have hqc := (HC.out.below hC.2).cells0; clear hd; go_simp; exact hR _ _ (Below.refl _ _) rfl); (go_simp; refine hK _ ?_; clear hK K))
          (refine walkB_ex (fun K hK => ?_); refine ⟨fun W hC hd R hR => ?_, ?_⟩; (have hqc := (HC.out.below hC.2).cells0; clear hd; go_simp; exact hR _ _ (Below.refl _ _) rfl); (go_simp; refine hK _ ?_; clear hK K))
          (refine walkB_ex (fun K hK => ?_); refine ⟨fun W hC hd R hR => ?_, ?_⟩; (have hqc := (HC.out.below hC.2).cells0; clear hd; go_simp; exact hR _ _ (Below.refl _ _) rfl); (go_simp; refine hK _ ?_; clear hK K))
          (refine walkB_ex (fun K hK => ?_); refine ⟨fun W hC hd R hR => ?_, ?_⟩; (have hqc := (HC.out.below hC.2).cells0; clear hd; go_simp; exact hR _ _ (Below.refl _ _) rfl); (go_simp; refine hK _ ?_; clear hK K))
          (refine walkB_ex (fun K hK => ?_); refine ⟨fun W hC hd R hR => ?_, ?_⟩; (have hqc := (HC.out.below hC.2).cells0; clear hd; go_simp; exact hR _ _ (Below.refl _ _) rfl); (go_simp; refine hK _ ?_; clear hK K))
          (refine walkB_ex (fun K hK => ?_); refine ⟨fun W hC hd R hR => ?_, ?_⟩; (have hqc := (HC.out.below hC.2).cells0; clear hd; go_simp; exact hR _ _ (Below.refl _ _) rfl); (go_simp; refine hK _ ?_; clear hK K))
          intro w3 hC3 _
          have Hb3 := Lib.hid (bel_call HbC.out hC3.2)
          clear hC3 HC HbC RX x0 x1 x2 x3 x4
          go_wp2
          go_roundw
          case rel => first | exact ⟨1, by go_num, by omega, Hb3.out⟩ | ((repeat apply Exists.intro); exact ⟨⟨1, by go_num, by omega, Hb3.out⟩, rfl⟩)
          case measure => simp [intOf]; omega
        · obtain ⟨j, hj⟩ : ∃ j, k = j + 1 := ⟨k - 1, by omega⟩
          have hjl : j < T.length := by omega
          obtain ⟨y, hy⟩ : ∃ y, T[j] = y := ⟨_, rfl⟩
          have Hcmp : Hid (cmpL [y.a0, y.a1, y.a2, y.a3, y.a4] [x.a0, x.a1, x.a2, x.a3, x.a4] = -1) := by
            show _ = _
            have h1 := Hlt'.out hk0
            rw [show k - 1 = j by omega, List.getD_eq_getElem?_getD, List.getElem?_eq_getElem hjl, hy] at h1
            exact cmp_lt h1
          have RY : Hid (RdInts (wr.alloc (.cells #[.int .i64 x.a0, .int .i64 x.a1, .int .i64 x.a2, .int .i64 x.a3, .int .i64 x.a4] 24)) (fun _ => True) (.slice (some ⟨b, o + j * 5, none⟩) 5 5) [y.a0, y.a1, y.a2, y.a3, y.a4]) := by
            have := call_ints ((R1.out.below Hbw.out).below HC.out.bel) hjl
            rw [hy] at this
            exact this
          clear hy
          have Hj := Lib.hid hj
          have hj1 : (k : Int) - 1 = (j : Int) := by omega
          have hw2 : IntKind.i64.wrap (j : Int) = (j : Int) := IntWalk.i64_in _ (by omega)
          have hw1 : IntKind.i64.wrap ((k : Int) - 1) = (j : Int) := by rw [hj1]; exact hw2
          have hj0 : (0 : Int) ≤ (j : Int) := by omega
          have hji : (j : Int) < (T.length : Int) := by omega
          have hk1 : (0 : Int) < (k : Int) := by omega
          clear hj
          go_wp2_with fail
          refine wp_region_B [ex (callV x), ex (.int .i64 0), ex (.bool false), ex (.bool false), ex (.int .i64 k), ex (.bool true), ex (.bool true), ex (.slice (some ⟨b, o, none⟩) T.length c1), ex (.int .i64 k), ex (.int .i64 j), ex (.pointer (some ⟨b, o + j * 5, none⟩)), ex (.slice (some ⟨b, o + j * 5, none⟩) 5 5), ex (.slice (some ⟨wr.heap.size, 0, none⟩) 5 5), ex (.int .i64 (-1)), ex (.bool false), ex (.bool false), ex (.bool false)] _ (Nat.le_refl _) (by kernel_rfl) (by kernel_rfl) ⟨.inl ⟨_, rfl⟩, .inl ⟨_, rfl⟩, .inl ⟨_, rfl⟩, .inl ⟨_, rfl⟩, .inl ⟨_, rfl⟩, .inl ⟨_, rfl⟩, .inl ⟨_, rfl⟩, .inl ⟨_, rfl⟩, .inl ⟨_, rfl⟩, .inl ⟨_, rfl⟩, .inl ⟨_, rfl⟩, .inl ⟨_, rfl⟩, .inl ⟨_, rfl⟩, .inl ⟨_, rfl⟩, .inl ⟨_, rfl⟩, .inl ⟨_, rfl⟩, .inl ⟨_, rfl⟩, trivial⟩ ?_
          (refine walkB_ex (fun K hK => ?_); refine ⟨fun W hC hd R hR => ?_, ?_⟩; (have hqc := (HC.out.below hC.2).cells0; clear hd; go_simp; exact hR _ _ (Below.refl _ _) rfl); (go_simp; refine hK _ ?_; clear hK K))
          (refine walkB_ex (fun K hK => ?_); refine ⟨fun W hC hd R hR => ?_, ?_⟩; (clear hd; go_simp; go_at_call 22; refine (callcheck_any x _).mono ?_; rw [Hxe.out]; rintro e w9 ⟨rfl, hb9⟩; exact ⟨_, rfl, hR _ _ hb9 rfl⟩); (go_simp; refine hK _ ?_; clear hK K))
          (refine walkB_ex (fun K hK => ?_); refine ⟨fun W hC hd R hR => ?_, ?_⟩; (have hqc := (HC.out.below hC.2).cells0; clear hd; go_simp; exact hR _ _ (Below.refl _ _) rfl); (go_simp; refine hK _ ?_; clear hK K))
          (refine walkB_ex (fun K hK => ?_); refine ⟨fun W hC hd R hR => ?_, ?_⟩; (have hqc := (HC.out.below hC.2).cells0; clear hd; go_simp; exact hR _ _ (Below.refl _ _) rfl); (go_simp; refine hK _ ?_; clear hK K))
          (refine walkB_ex (fun K hK => ?_); refine ⟨fun W hC hd R hR => ?_, ?_⟩; (have hqc := (HC.out.below hC.2).cells0; clear hd; go_simp; exact hR _ _ (Below.refl _ _) rfl); (go_simp; refine hK _ ?_; clear hK K))
          (refine walkB_ex (fun K hK => ?_); refine ⟨fun W hC hd R hR => ?_, ?_⟩; (have hqc := (HC.out.below hC.2).cells0; clear hd; go_simp; exact hR _ _ (Below.refl _ _) rfl); (go_simp; refine hK _ ?_; clear hK K))
          (refine walkB_ex (fun K hK => ?_); refine ⟨fun W hC hd R hR => ?_, ?_⟩; (have hqc := (HC.out.below hC.2).cells0; clear hd; go_simp; exact hR _ _ (Below.refl _ _) rfl); (go_simp; refine hK _ ?_; clear hK K))
          (refine walkB_ex (fun K hK => ?_); refine ⟨fun W hC hd R hR => ?_, ?_⟩; (have hqc := (HC.out.below hC.2).cells0; clear hd; go_simp; exact hR _ _ (Below.refl _ _) rfl); (go_simp; refine hK _ ?_; clear hK K))
          (refine walkB_ex (fun K hK => ?_); refine ⟨fun W hC hd R hR => ?_, ?_⟩; (have hqc := (HC.out.below hC.2).cells0; clear hd; go_simp; exact hR _ _ (Below.refl _ _) rfl); (go_simp; refine hK _ ?_; clear hK K))
          (refine walkB_ex (fun K hK => ?_); refine ⟨fun W hC hd R hR => ?_, ?_⟩; (have hqc := (HC.out.below hC.2).cells0; clear hd; go_simp; exact hR _ _ (Below.refl _ _) rfl); (go_simp; refine hK _ ?_; clear hK K))
          (refine walkB_ex (fun K hK => ?_); refine ⟨fun W hC hd R hR => ?_, ?_⟩; (have hqc := (HC.out.below hC.2).cells0; clear hd; go_simp; exact hR _ _ (Below.refl _ _) rfl); (go_simp; refine hK _ ?_; clear hK K))
          (refine walkB_ex (fun K hK => ?_); refine ⟨fun W hC hd R hR => ?_, ?_⟩; (have hqc := (HC.out.below hC.2).cells0; clear hd; go_simp; exact hR _ _ (Below.refl _ _) rfl); (go_simp; refine hK _ ?_; clear hK K))
          (refine walkB_ex (fun K hK => ?_); refine ⟨fun W hC hd R hR => ?_, ?_⟩; (have hqc := (HC.out.below hC.2).cells0; clear hd; go_simp; exact hR _ _ (Below.refl _ _) rfl); (go_simp; refine hK _ ?_; clear hK K))
          (refine walkB_ex (fun K hK => ?_); refine ⟨fun W hC hd R hR => ?_, ?_⟩; (clear hd; have RYW := Lib.hid (RY.out.below hC.2); have RXW := Lib.hid (RX.out.below hC.2); go_simp; go_at_call 23; refine (cmpints_any _ _ _ _ _ RYW.out RXW.out).mono ?_; rw [Hcmp.out]; rintro e w9 ⟨rfl, hb9⟩; exact ⟨_, rfl, hR _ _ hb9 rfl⟩); (go_simp; refine hK _ ?_; clear hK K))
          (refine walkB_ex (fun K hK => ?_); refine ⟨fun W hC hd R hR => ?_, ?_⟩; (have hqc := (HC.out.below hC.2).cells0; clear hd; go_simp; exact hR _ _ (Below.refl _ _) rfl); (go_simp; refine hK _ ?_; clear hK K))
          (refine walkB_ex (fun K hK => ?_); refine ⟨fun W hC hd R hR => ?_, ?_⟩; (have hqc := (HC.out.below hC.2).cells0; clear hd; go_simp; exact hR _ _ (Below.refl _ _) rfl); (go_simp; refine hK _ ?_; clear hK K))
          (refine walkB_ex (fun K hK => ?_); refine ⟨fun W hC hd R hR => ?_, ?_⟩; (have hqc := (HC.out.below hC.2).cells0; clear hd; go_simp; exact hR _ _ (Below.refl _ _) rfl); (go_simp; refine hK _ ?_; clear hK K))
          intro w3 hC3 _
          have Hb3 := Lib.hid (bel_call HbC.out hC3.2)
          clear hC3 HC HbC RX x0 x1 x2 x3 x4
          clear hw1 hw2 hj0 hji hk1 hj1
          go_wp2
          go_roundw
          case rel => first | exact ⟨k + 1, by go_num, by omega, Hb3.out⟩ | ((repeat apply Exists.intro); exact ⟨⟨k + 1, by go_num, by omega, Hb3.out⟩, rfl⟩)
          case measure => simp [intOf]; omega
      · obtain rfl : k = T.length := by omega
        have hl1 := Hbk.out
        have hw1 : IntKind.i64.wrap ((l.length : Int) + 1) = (l.length : Int) + 1 := IntWalk.i64_in _ (by omega)
        clear hl1
        replace R1 := Lib.hid (R1.out.below Hbw.out)
        have Hb3 := Lib.hid (bel_call Hb2.out Hbw.out)
        go_wp2_with fail
        refine (at_any f ((l.length : Int) + 1) _ (by omega) (by have := Hbk.out; omega)).mono ?_
        rintro e w3 ⟨⟨n, hn, rfl⟩, rfl⟩
        have hnl : n ≤ l.length := by omega
        have Hnl := Lib.hid hnl
        have H2 : Hid (RdPols w3 (fun _ => True) (.slice a0 n c0) (l.take n)) := Sl.take (H0.out.below Hb3.out) hnl
        have Hp2 : Hid (pointsE (l.take n) = (stage (l.take n) 5, 0)) := pointsE_of (fun p hp => Hok.out p (List.mem_of_mem_take hp)) (by
          have h1 := points_fewer (l := l.take n) (m := l) (fun f z hz => vals_take l n f z hz)
          rw [stage_length, stage_length] at h1
          exact Nat.le_trans h1 Hsz.out)
        have Hfew : Hid ((stage (l.take n) 5).length ≤ T.length) := by rw [HTs.out]; exact points_fewer (fun f z hz => vals_take l n f z hz)
        have Hmem : Hid (∀ x ∈ stage (l.take n) 5, x ∈ T) := fun x hx => by rw [HTs.out]; exact sub_stage hx
        have hn0 : (0 : Int) ≤ (n : Int) := by omega
        have hnc : (n : Int) ≤ (c0 : Int) := by have := Hlc.out; omega
        have hnw : IntKind.i64.wrap (n : Int) = (n : Int) := IntWalk.i64_in _ (by have := Hbk.out; omega)
        have hnn : n ≤ c0 := by have := Hlc.out; omega
        clear hn hnl hw1
        go_wp2_with fail
        refine (points_any _ (l.take n) _ _ H2.out (fun _ f _ _ => by have := vals_conds (l.take n) f; have h1 : ((l.take n).flatMap polConds).length ≤ (l.flatMap polConds).length := conds_take l n; have := Hbk.out; omega)).mono ?_
        rw [Hp2.out]
        obtain ⟨S, hS⟩ : ∃ S, stage (l.take n) 5 = S := ⟨_, rfl⟩
        rw [hS] at Hfew Hmem ⊢
        clear hS
        rintro e w4 ⟨v4, rfl, ho4, hb4⟩
        have R4 : Hid (RdCalls w4 (fun _ => True) v4 S) := OwnSl.sl ho4 (D := fun _ => True) (fun _ _ => trivial)
        obtain ⟨a4, c4, rfl⟩ := ho4.slice
        have Hb4 := Lib.hid (bel_call Hb3.out hb4)
        replace R1 := Lib.hid (R1.out.below hb4)
        clear ho4 hb4 hn0 hnc hnw hnn
        have hSl : ¬ (T.length : Int) < (S.length : Int) := by have := Hfew.out; omega
        go_wp2_with fail
        have hSd : decide (T.length < S.length) = false := decide_eq_false (by have := Hfew.out; omega)
        simp only [hSd]
        clear hSl hSd
        go_loopw [71] (fun iv wr => ∃ k : Nat, iv = .int .i64 k ∧ k ≤ S.length ∧ Below w4.heap.size w4 wr) (fun iv _ => S.length - (intOf iv).toNat)
        case atStart => exact ⟨0, rfl, Nat.zero_le _, Below.refl _ _⟩
        case round =>
          obtain ⟨k, rfl, hk, hbw⟩ := hrel
          have Hbw4 := Lib.hid hbw
          clear hbw
          by_cases hlt : k < S.length
          · obtain ⟨b, o, rfl, _⟩ := Sl.at_ R4.out (by omega)
            obtain ⟨x0, x1, x2, x3, x4⟩ := RdCalls.cells (R4.out.below Hbw4.out) hlt
            obtain ⟨x, hx⟩ : ∃ x, S[k] = x := ⟨_, rfl⟩
            have Hxm : Hid (x ∈ T) := by show x ∈ T; rw [← hx]; exact Hmem.out _ (List.getElem_mem hlt)
            rw [hx] at x0 x1 x2 x3 x4
            clear hx
            have HC := Lib.hid (Bx.one (w := wr) (o := .cells #[.int .i64 x.a0, .int .i64 x.a1, .int .i64 x.a2, .int .i64 x.a3, .int .i64 x.a4] 24))
            have hSb : S.length ≤ 9223372036854775807 := by have := Hfew.out; have := HTm.out; omega
            go_wp2_with fail
            refine (contcalls_any _ T x _ ((R1.out.below Hbw4.out).below HC.out.bel)).mono ?_
            rw [decide_eq_true Hxm.out]
            rintro e w5 ⟨rfl, hb5⟩
            have Hb5 := Lib.hid (bel_call (bel_call Hbw4.out HC.out.bel) hb5)
            clear hb5 HC x0 x1 x2 x3 x4
            go_wp2
            go_roundw
            case rel => first | exact ⟨k + 1, by go_num, by omega, Hb5.out⟩ | ((repeat apply Exists.intro); refine ⟨?_, rfl⟩; exact ⟨k + 1, by go_num, by omega, Hb5.out⟩)
            case measure => simp [intOf]; omega
          · obtain rfl : k = S.length := by omega
            have Hf := Lib.hid (bel_call Hb4.out Hbw4.out)
            go_wp2
            go_ret
            exact ⟨rfl, Hf.out⟩
  · have hne : (te != 0) = true := bne_iff_ne.2 h0
    clear h0
    go_wp2_with fail
    refine (cut_walk _ (HL.out.below Hb2.out)).mono ?_
    rintro e w3 ⟨rfl, hb3⟩
    have Hb3 := Lib.hid (bel_call Hb2.out hb3)
    clear hb3
    go_wp2
    go_ret
    exact ⟨rfl, Hb3.out⟩
end Go.Proofs.YtioeliocdbckbaaDoor
