/- CodeEnds returns true at every filter and call. No condition. -/
import Derived.Test.YthacmjepepiapaaCodeSays
import Derived.Test.YthacmjepepiapaaRight
import Derived.Test.YthacmjepepiapaaConcatIns
namespace Go.Proofs.Ythacmjepepiapaa
open Go.RowKit

/-! ### the plain law -/
theorem runGo_bounds (x : TCall) : ∀ (f : Nat) (l : List TIns) (n : Int) (d : Nat), Right l → l.length ≤ f → d < (runGo x f l n d).2 ∧ (runGo x f l n d).2 ≤ d + l.length ∧ 0 ≤ (runGo x f l n d).1 ∧ (runGo x f l n d).1 ≤ 4
  | 0, l, n, d, h, hf => absurd (List.length_eq_zero_iff.1 (by omega)) h.ne
  | f + 1, [], n, d, h, _ => absurd rfl h.ne
  | f + 1, i :: r, n, d, h, hf => by
    have hlen : r.length ≤ f := by simpa using hf
    unfold runGo
    by_cases h4 : i.k = 4
    · rw [if_pos h4]
      have := insE_cases h.ins
      simp only [List.length_cons]
      omega
    · rw [if_neg h4]
      have hr : r ≠ [] := fun e => by subst e; exact h4 h.last
      have hpos : 0 < r.length := List.length_pos_iff.2 hr
      by_cases h1 : i.k = 1
      · rw [if_pos h1]
        have := runGo_bounds x f r (x.get i.a) (d + 1) (h.tail hr) hlen
        simp only [List.length_cons]
        omega
      · rw [if_neg h1]
        have hc := insE_cases h.ins
        have hn : insNext i n < r.length := by unfold insNext; split <;> omega
        have := runGo_bounds x f (r.drop (insNext i n)) n (d + 1) ((h.tail hr).drop hn) (by simp; omega)
        simp only [List.length_cons]
        simp only [List.length_drop] at this
        omega
theorem runGo_fuel (x : TCall) : ∀ (f g : Nat) (l : List TIns) (n : Int) (d : Nat), l.length ≤ f → l.length ≤ g → runGo x f l n d = runGo x g l n d
  | 0, 0, _, _, _, _, _ => rfl
  | 0, g + 1, l, n, d, h, _ => by
    have := List.length_eq_zero_iff.1 (Nat.le_zero.1 h); subst this; rfl
  | f + 1, 0, l, n, d, _, h => by
    have := List.length_eq_zero_iff.1 (Nat.le_zero.1 h); subst this; rfl
  | f + 1, g + 1, [], _, _, _, _ => rfl
  | f + 1, g + 1, i :: r, n, d, h, h' => by
    have h1 : r.length ≤ f := by simpa using h
    have h2 : r.length ≤ g := by simpa using h'
    unfold runGo
    rw [runGo_fuel x f g r _ _ h1 h2, runGo_fuel x f g (r.drop (insNext i n)) n (d + 1) (by simp; omega) (by simp; omega)]
theorem runGo_shift (x : TCall) : ∀ (f : Nat) (l : List TIns) (n : Int) (d : Nat), (runGo x f l n (d + 1)) = ((runGo x f l n d).1, (runGo x f l n d).2 + 1)
  | 0, _, _, _ => rfl
  | f + 1, [], _, _ => rfl
  | f + 1, i :: r, n, d => by
    unfold runGo
    split
    · rfl
    · split
      · exact runGo_shift x f r _ (d + 1)
      · exact runGo_shift x f _ n (d + 1)

/-- what stands ahead of a filter and is gone past. -/
def pastL (l : List TIns) : List TIns := ⟨2, 0, 1, 1⟩ :: ⟨4, 0, 0, 0⟩ :: l
theorem past_right {l : List TIns} (h : Right l) : Right (pastL l) := by
  have hpos : 0 < l.length := List.length_pos_iff.2 h.ne
  refine ⟨by simp [pastL], ?_, ?_⟩
  · unfold pastL codeGo
    have h1 : insE ⟨2, 0, 1, 1⟩ ((⟨4, 0, 0, 0⟩ : TIns) :: l).length = 0 := by
      unfold insE; simp; omega
    rw [if_pos h1]
    unfold codeGo
    have h2 : insE ⟨4, 0, 0, 0⟩ l.length = 0 := by unfold insE; simp
    rw [if_pos h2]
    exact h.go
  · unfold pastL
    cases l with
    | nil => exact absurd rfl h.ne
    | cons y r => exact h.last
theorem codeE_of {l : List TIns} (h : Right l) (hl : l.length ≤ 1500) : codeE l = 0 := by
  have hpos : 0 < l.length := List.length_pos_iff.2 h.ne
  unfold codeE
  rw [if_neg (by omega), if_neg (by simp [h.go]), if_pos h.last]
theorem past_run (x : TCall) (l : List TIns) : run (pastL l) x = ((run l x).1, (run l x).2 + 1) := by
  have e : run (pastL l) x = runGo x (l.length + 1) l 0 1 := by
    unfold run pastL
    simp only [List.length_cons, runGo, insNext]
    simp
  rw [e, runGo_fuel x (l.length + 1) l.length l 0 1 (by omega) (Nat.le_refl _), runGo_shift]
  rfl

/-- The boxed call of a law, brought within bounds. -/
abbrev BoxR (w : World) (x : TCall) (W : World) : Prop := OneBlk (w.alloc (.cells #[.int .i64 x.a0, .int .i64 x.a1, .int .i64 x.a2, .int .i64 x.a3, .int .i64 x.a4] 28)) w.heap.size 28 #[.int .i64 x.right.a0, .int .i64 x.right.a1, .int .i64 x.right.a2, .int .i64 x.right.a3, .int .i64 x.right.a4] W
theorem boxR_set {w w1 : World} {x : TCall} (hb : Below (w.alloc (.cells #[.int .i64 x.a0, .int .i64 x.a1, .int .i64 x.a2, .int .i64 x.a3, .int .i64 x.a4] 28)).heap.size (w.alloc (.cells #[.int .i64 x.a0, .int .i64 x.a1, .int .i64 x.a2, .int .i64 x.a3, .int .i64 x.a4] 28)) w1) :
    BoxR w x (((((w1.setCell ⟨w.heap.size, 0, none⟩ (.int .i64 x.right.a0)).setCell ⟨w.heap.size, 1, none⟩ (.int .i64 x.right.a1)).setCell ⟨w.heap.size, 2, none⟩ (.int .i64 x.right.a2)).setCell ⟨w.heap.size, 3, none⟩ (.int .i64 x.right.a3)).setCell ⟨w.heap.size, 4, none⟩ (.int .i64 x.right.a4)) := by
  have h0 : OneBlk (w.alloc (.cells #[.int .i64 x.a0, .int .i64 x.a1, .int .i64 x.a2, .int .i64 x.a3, .int .i64 x.a4] 28)) w.heap.size 28 #[.int .i64 x.a0, .int .i64 x.a1, .int .i64 x.a2, .int .i64 x.a3, .int .i64 x.a4] (w.alloc (.cells #[.int .i64 x.a0, .int .i64 x.a1, .int .i64 x.a2, .int .i64 x.a3, .int .i64 x.a4] 28)) :=
    ⟨⟨rfl, rfl, rfl, Nat.le_refl _, fun _ _ _ => rfl⟩, blk_at rfl⟩
  exact (((((h0.below hb).set 0 _).set 1 _).set 2 _).set 3 _).set 4 _
theorem BoxR.bel {w W : World} {x : TCall} (h : BoxR w x W) : Below w.heap.size w W := (bel_alloc (Below.refl _ _) _).trans (h.toBelow (Nat.le_refl _) (by simp))

theorem lenTo_two {α : Type} (a b : List α) : lenTo [a, b] [a, b].length = a.length + b.length := by simp [lenTo]
theorem nat_add_sub {a b : Int} : a + b - b = a := by omega

set_option maxHeartbeats 4000000 in
set_option maxRecDepth 100000 in
theorem codeEnds_walk {w : World} (v : Value) (l : List TIns) (h : RdCode w (fun _ => True) v l) (x : TCall) : Calls Try.prog 6 #[v, callV x] w fun e w' => e = .returned (.bool true) ∧ Below w.heap.size w w' := by
  have H := Lib.hid h
  obtain ⟨a, c, rfl, hlc, hcm, -⟩ := Sl.form h
  clear h
  go_enter Try.func6, Try.ntmps6
  go_wp2_with fail
  refine (right_any x _).mono ?_
  rintro e0 w0 ⟨rfl, hb0⟩
  have hx0 : Below (w.heap.size + 1) _ w0 := hb0.mono (by simp)
  have hcell := box_cells hx0
  have hfr : ∀ j, w0.frozen? ⟨w.heap.size, j, none⟩ = false := fun j => (hx0.frozen (p := ⟨w.heap.size, j, none⟩) (by simp)).trans (World.frozen?_alloc_at _ _ _ _ rfl)
  have HO := Lib.hid (boxR_set hb0)
  clear hb0 hx0
  go_wp2_with fail
  clear hcell hfr
  revert HO
  generalize hwz : (((((w0.setCell ⟨w.heap.size, 0, none⟩ (.int .i64 x.right.a0)).setCell ⟨w.heap.size, 1, none⟩ (.int .i64 x.right.a1)).setCell ⟨w.heap.size, 2, none⟩ (.int .i64 x.right.a2)).setCell ⟨w.heap.size, 3, none⟩ (.int .i64 x.right.a3)).setCell ⟨w.heap.size, 4, none⟩ (.int .i64 x.right.a4)) = wz
  clear hwz
  intro HO
  refine (run_any _ l x.right (fun _ => True) _ (RdCode.below H.out (BoxR.bel HO.out))).mono ?_
  rintro e1 w1 ⟨rfl, hb1⟩
  have HO1 := Lib.hid (HO.out.below hb1)
  clear HO hb1
  have hcell := HO1.out.cell
  by_cases hc : codeE l = 0
  · have Hc := Lib.hid hc
    have e : runE l x.right = ((run l x.right).1, ((run l x.right).2 : Int), 0) := by unfold runE; rw [if_neg (by omega), if_pos x.right_ok]
    obtain ⟨hR, hl⟩ := right_of hc
    obtain ⟨g1, g2, g3, g4⟩ := runGo_bounds x.right l.length l 0 0 hR (Nat.le_refl _)
    rw [e]
    clear e hc
    have HR := Lib.hid hR
    have hp : (0 : Int) ≤ ((run l x.right).2 : Int) := by omega
    have hr1 : ¬ ((run l x.right).2 : Int) < 1 := by unfold run; omega
    have hr2 : ¬ (l.length : Int) < ((run l x.right).2 : Int) := by unfold run; omega
    have hr3 : ¬ (run l x.right).1 < 0 := by unfold run; omega
    have hr4 : ¬ 4 < (run l x.right).1 := by unfold run; omega
    clear hR g1 g2 g3 g4
    go_wp2_with fail
    refine (ran_any _).mono ?_
    rintro e2 w2 ⟨rfl, hb2⟩
    have HO2 := Lib.hid (HO1.out.below hb2)
    clear HO1 hb2 hcell
    have hcell := HO2.out.cell
    by_cases hbig : l.length + 2 ≤ 1500
    · have hbz : ¬ (1500 < (l.length : Int) + 2) := by omega
      have HP : Hid (Sl ((w2.alloc (.cells #[.int .i64 2, .int .i64 0, .int .i64 1, .int .i64 1, .int .i64 4, .int .i64 0, .int .i64 0, .int .i64 0] 42)).alloc (.cells #[.slice (some ⟨w2.heap.size, 0, none⟩) 2 2, .slice a l.length c] 32)) (fun _ => True) 1 (rowsRIns ((w2.alloc (.cells #[.int .i64 2, .int .i64 0, .int .i64 1, .int .i64 1, .int .i64 4, .int .i64 0, .int .i64 0, .int .i64 0] 42)).alloc (.cells #[.slice (some ⟨w2.heap.size, 0, none⟩) 2 2, .slice a l.length c] 32)) (fun _ => True)) (.slice (some ⟨w2.heap.size + 1, 0, none⟩) 2 2) [[⟨2, 0, 1, 1⟩, ⟨4, 0, 0, 0⟩], l]) := by
        refine rd_row (xs := [[(⟨2, 0, 1, 1⟩ : TIns), ⟨4, 0, 0, 0⟩], l]) (blk_at (by simp)) trivial [[.slice (some ⟨w2.heap.size, 0, none⟩) 2 2], [.slice a l.length c]] rfl rfl (by intro r hr; simp at hr; rcases hr with rfl | rfl <;> rfl) (fun i y r hy hr => ?_) (by simp [maxLen])
        match i with
        | 0 =>
          simp at hy hr; subst hy hr
          exact ⟨_, rfl, rd_code (l := [⟨2, 0, 1, 1⟩, ⟨4, 0, 0, 0⟩]) (blk_old (blk_at rfl)) trivial rfl (by simp [maxLen])⟩
        | 1 =>
          simp at hy hr; subst hy hr
          exact ⟨_, rfl, RdCode.below H.out (bel_alloc (bel_alloc (BoxR.bel HO2.out) _) _)⟩
        | i + 2 => simp at hy
      have hs2 := (BoxR.bel HO2.out).size
      go_wp2_with fail
      refine (concatIns_any _ _ _ _ HP.out ?_).mono ?_
      · rw [lenTo_two]; simp; omega
      rintro e3 w3 ⟨vp, rfl, hown, hb3⟩
      have HO3 := Lib.hid (((HO2.out.alloc _).alloc _).below hb3)
      have Hown := Lib.hid (show RdCode w3 (fun _ => True) vp (pastL l) from OwnSl.sl (by simpa [pastL] using hown) (fun _ _ => trivial))
      clear hown hb3 HO2 hcell HP
      have hcell := HO3.out.cell
      go_wp2_with fail
      refine (run_any _ (pastL l) x.right (fun _ => True) _ Hown.out).mono ?_
      have e : runE (pastL l) x.right = ((run l x.right).1, ((run l x.right).2 : Int) + 1, 0) := by
        unfold runE
        rw [if_neg (by rw [codeE_of (past_right HR.out) (by simp [pastL]; omega)]; simp), if_pos x.right_ok, past_run]
        simp
      rw [e]
      rintro e4 w4 ⟨rfl, hb4⟩
      have HO4 := Lib.hid (HO3.out.below hb4)
      clear e hb4 HO3
      go_wp2
      go_ret
      exact ⟨ret_bool (by simp), BoxR.bel HO4.out⟩
    · have hbz : 1500 < (l.length : Int) + 2 := by omega
      go_wp2
      go_ret
      exact ⟨rfl, BoxR.bel HO2.out⟩
  · have e : runE l x.right = (0, 0, codeE l) := by unfold runE; rw [if_pos hc]
    have d2 : (codeE l != 0) = true := bne_iff_ne.2 hc
    rw [e]
    clear e hc
    go_wp2_with fail
    refine (ran_any _).mono ?_
    rintro e2 w2 ⟨rfl, hb2⟩
    have HO2 := Lib.hid (HO1.out.below hb2)
    clear HO1 hb2
    go_wp2_with fail
    refine (ran_any _).mono ?_
    rintro e3 w3 ⟨rfl, hb3⟩
    have HO3 := Lib.hid (HO2.out.below hb3)
    go_wp2
    go_ret
    exact ⟨rfl, BoxR.bel HO3.out⟩
end Go.Proofs.Ythacmjepepiapaa
