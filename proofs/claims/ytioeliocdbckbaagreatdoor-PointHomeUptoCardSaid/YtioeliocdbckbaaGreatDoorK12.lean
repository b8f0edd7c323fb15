/- Texts laid one behind the other: RiseSpec, CallRow, Home, Equal, Cut, Upto. No condition beyond theirs. -/
import Derived.Test.YtioeliocdbckbaaGreatDoorK3
import Derived.Test.YtioeliocdbckbaaGreatDoorK5
import Derived.Test.YtioeliocdbckbaaGreatDoorK10
import Derived.Test.YtioeliocdbckbaaGreatDoorK1
import Derived.Test.YtioeliocdbckbaaGreatDoorProg
import Derived.KernelRfl
import Derived.Test.YtioeliocdbckbaaGreatDoorK6
import Derived.Test.YtioeliocdbckbaaGreatDoorK2
import Derived.Test.YtioeliocdbckbaaGreatDoorK7
import Derived.Deep.DeepHandedRow
namespace Go.Proofs.YtioeliocdbckbaaGreatDoor

/-- one call ahead of another one: the first field in which they differ says. -/
def callLt (x y : TCall) : Prop := x.a0 < y.a0 ∨ x.a0 = y.a0 ∧ (x.a1 < y.a1 ∨ x.a1 = y.a1 ∧ (x.a2 < y.a2 ∨ x.a2 = y.a2 ∧ (x.a3 < y.a3 ∨ x.a3 = y.a3 ∧ x.a4 < y.a4)))
/-- fields from k on are nought. -/
def noneFrom (k : Nat) (x : TCall) : Prop := (k ≤ 0 → x.a0 = 0) ∧ (k ≤ 1 → x.a1 = 0) ∧ (k ≤ 2 → x.a2 = 0) ∧ (k ≤ 3 → x.a3 = 0) ∧ (k ≤ 4 → x.a4 = 0)
theorem none_set {k : Nat} {x : TCall} {n : Int} (h : noneFrom k x) (hk : k < 5) : noneFrom (k + 1) (x.set k n) := by
  obtain ⟨h0, h1, h2, h3, h4⟩ := h
  have hk : k = 0 ∨ k = 1 ∨ k = 2 ∨ k = 3 ∨ k = 4 := by omega
  rcases hk with rfl | rfl | rfl | rfl | rfl <;> (unfold noneFrom TCall.set; simp_all)
theorem lt_same {k : Nat} {x : TCall} {n m : Int} (h : noneFrom k x) (hk : k < 5) (hn : n < m) : callLt (x.set k n) (x.set k m) := by
  have hk : k = 0 ∨ k = 1 ∨ k = 2 ∨ k = 3 ∨ k = 4 := by omega
  rcases hk with rfl | rfl | rfl | rfl | rfl <;> (unfold callLt TCall.set; simp [hn])
theorem lt_less {k : Nat} {x y : TCall} {n m : Int} (hx : noneFrom k x) (hy : noneFrom k y) (hk : k < 5) (h : callLt x y) : callLt (x.set k n) (y.set k m) := by
  obtain ⟨x0, x1, x2, x3, x4⟩ := hx
  obtain ⟨y0, y1, y2, y3, y4⟩ := hy
  have hk : k = 0 ∨ k = 1 ∨ k = 2 ∨ k = 3 ∨ k = 4 := by omega
  rcases hk with rfl | rfl | rfl | rfl | rfl <;> (unfold callLt at *; unfold TCall.set; simp at x0 x1 x2 x3 x4 y0 y1 y2 y3 y4; simp only []; omega)
theorem stage_rise (l : List TPol) : ∀ k, k ≤ 5 → (∀ x ∈ stage l k, noneFrom k x) ∧ (stage l k).Pairwise callLt
  | 0, _ => by
    refine ⟨fun x hx => ?_, ?_⟩
    · have : x = ⟨0, 0, 0, 0, 0⟩ := by simpa [stage] using hx
      subst this
      simp [noneFrom]
    · simp [stage]
  | k + 1, hk => by
    obtain ⟨i1, i2⟩ := stage_rise l k (by omega)
    refine ⟨fun y hy => ?_, ?_⟩
    · obtain ⟨x, hx, n, _, rfl⟩ := mem_stage.1 hy
      exact none_set (i1 x hx) (by omega)
    · have e : stage l (k + 1) = (stage l k).flatMap fun x => (cutsOf l k).map fun n => x.set k n := rfl
      rw [e, List.pairwise_flatMap]
      refine ⟨fun x hx => ?_, ?_⟩
      · rw [List.pairwise_map]
        exact (rising_cuts l k).imp fun h => lt_same (i1 x hx) (by omega) h
      · refine i2.imp_of_mem fun hx hy h a ha b hb => ?_
        obtain ⟨n, _, rfl⟩ := List.mem_map.1 ha
        obtain ⟨m, _, rfl⟩ := List.mem_map.1 hb
        exact lt_less (i1 _ hx) (i1 _ hy) (by omega) h
theorem points_rise (l : List TPol) {i : Nat} (h : i + 1 < (stage l 5).length) : callLt ((stage l 5)[i]'(by omega)) (stage l 5)[i + 1] := List.pairwise_iff_getElem.1 (stage_rise l 5 (by omega)).2 i (i + 1) (by omega) h (by omega)
theorem points_fewer {l m : List TPol} (h : ∀ f n, n ∈ cutVals l f → n ∈ cutVals m f) : (stage l 5).length ≤ (stage m 5).length := by
  rw [stage_length, stage_length]; exact sizes_sub h 5
theorem vals_take (l : List TPol) (k : Nat) (f n : Int) (h : n ∈ cutVals (l.take k) f) : n ∈ cutVals l f := by
  rw [mem_vals] at h ⊢
  rcases h with h | ⟨p, hp, h⟩
  · exact .inl h
  · exact .inr ⟨p, List.mem_of_mem_take hp, h⟩
end Go.Proofs.YtioeliocdbckbaaGreatDoor
namespace Go.Proofs.YtioeliocdbckbaaGreatDoor
open Go.RowKit
attribute [local go_sem] gives givesUpon

theorem take_eq_step5 {xs ys : List TCall} {k : Nat} (hx : k < xs.length) (hy : k < ys.length) (h : xs.take k = ys.take k) (e : xs[k] = ys[k]) : xs.take (k + 1) = ys.take (k + 1) := by
  rw [List.take_succ_eq_append_getElem hx, List.take_succ_eq_append_getElem hy, h, e]
theorem ne_of_get5 {xs ys : List TCall} {k : Nat} (hx : k < xs.length) (hy : k < ys.length) (e : xs[k] ≠ ys[k]) : xs ≠ ys := fun h => e (by subst h; rfl)
set_option maxRecDepth 100000 in
set_option maxHeartbeats 4000000 in
theorem idxcalls_any (v : Value) (xs : List TCall) (x : TCall) (w : World) (h : RdCalls w (fun _ => True) v xs) :
    Calls Tryz.prog 43 #[v, callV x] w fun e w' => (∃ n : Int, e = .returned (.int .i64 n) ∧ (0 ≤ n ↔ x ∈ xs)) ∧ Below w.heap.size w w' := by
  obtain ⟨a, c, rfl, hlc, hcm, hat⟩ := Sl.form h
  have H := Lib.hid h
  clear h
  have HB := Lib.hid (Bx.one (w := w) (o := .cells #[.int .i64 x.a0, .int .i64 x.a1, .int .i64 x.a2, .int .i64 x.a3, .int .i64 x.a4] 26))
  have HBb := Lib.hid HB.out.bel
  go_enter Tryz.func43, Tryz.ntmps43
  go_wp2_with fail
  go_loopw [8] (fun i wr => ∃ k : Nat, k ≤ xs.length ∧ i = .int .i64 k ∧ (¬ x ∈ xs.take k) ∧ Bx w [.cells #[.int .i64 x.a0, .int .i64 x.a1, .int .i64 x.a2, .int .i64 x.a3, .int .i64 x.a4] 26] wr) (fun i _ => xs.length - (intOf i).toNat)
  case atStart => exact ⟨0, by omega, rfl, by simp, HB.out⟩
  case round =>
    obtain ⟨k, hk, rfl, htk, hbw⟩ := hrel
    have Ht := Lib.hid htk
    have HBw := Lib.hid hbw
    have hsz := hbw.bel.size
    clear htk hbw
    by_cases hlt : k < xs.length
    · obtain ⟨b, o, rfl, hDb, hb⟩ := hat (by omega)
      have hc : ∀ W, Cls wr.heap.size wr W → (W.cell? ⟨b, o + k * 5, none⟩ = some (.int .i64 xs[k].a0) ∧ W.cell? ⟨b, o + k * 5 + 1, none⟩ = some (.int .i64 xs[k].a1) ∧ W.cell? ⟨b, o + k * 5 + 2, none⟩ = some (.int .i64 xs[k].a2) ∧ W.cell? ⟨b, o + k * 5 + 3, none⟩ = some (.int .i64 xs[k].a3) ∧ W.cell? ⟨b, o + k * 5 + 4, none⟩ = some (.int .i64 xs[k].a4)) ∧
          (∀ i, W.cell? ⟨w.heap.size, i, none⟩ = (#[Value.int .i64 x.a0, .int .i64 x.a1, .int .i64 x.a2, .int .i64 x.a3, .int .i64 x.a4] : Array Value)[i]?) := fun W hW =>
        ⟨RdCalls.cells ((H.out.below HBw.out.bel).below hW.2) hlt, (HBw.out.below hW.2).cells0⟩
      have Hc := Lib.hid hc
      have heq := calleq_run x xs[k]
      clear hc
      go_wp2_with fail
      refine wp_region_exact3 wr.heap.size (Nat.le_refl _) (by kernel_rfl) (by kernel_rfl) ?_
      repeat (refine monoE_step (fun K hK => ?_); apply Exists.intro; refine ⟨fun W hC R hR => ?_, ?_⟩; (have hcell := Hc.out W hC; go_simp; exact hR _ _ (Below.refl _ _) rfl); (go_simp; refine hK _ ?_; clear hK K))
      intro w2 hC2
      have HB2 := Lib.hid (HBw.out.below hC2.2)
      clear heq
      by_cases he : x = xs[k]
      · have Hn : Hid (x ∈ xs) := by show x ∈ xs; rw [he]; exact List.getElem_mem hlt
        have d : decide (x = xs[k]) = true := decide_eq_true he
        clear he
        simp only [d]
        go_wp2
        go_ret
        exact ⟨⟨_, rfl, ⟨fun _ => Hn.out, fun _ => by omega⟩⟩, HB2.out.bel⟩
      · have Hn : Hid (¬ x ∈ xs.take (k + 1)) := by
          show ¬ _
          rw [List.take_succ_eq_append_getElem hlt]
          simp only [List.mem_append, List.mem_singleton, not_or]
          exact ⟨Ht.out, he⟩
        have d : decide (x = xs[k]) = false := decide_eq_false he
        clear he
        simp only [d]
        go_wp2
        go_roundw
        case rel => exact ⟨k + 1, by omega, by go_num, Hn.out, HB2.out⟩
        case measure => simp [intOf]; omega
    · obtain rfl : k = xs.length := by omega
      have Hn : Hid (¬ x ∈ xs) := by have := Ht.out; rw [List.take_length] at this; exact this
      go_wp2
      go_ret
      exact ⟨⟨_, rfl, ⟨fun h => absurd h (by omega), fun h => absurd h Hn.out⟩⟩, HBw.out.bel⟩
theorem contcalls_any (v : Value) (xs : List TCall) (x : TCall) (w : World) (h : RdCalls w (fun _ => True) v xs) :
    Calls Tryz.prog 20 #[v, callV x] w fun e w' => e = .returned (.bool (decide (x ∈ xs))) ∧ Below w.heap.size w w' := by
  have H := Lib.hid h
  obtain ⟨a, c, rfl, hlc, hcm, hat⟩ := Sl.form h
  clear h hlc hcm hat
  have HB := Lib.hid (Bx.one (w := w) (o := .cells #[.int .i64 x.a0, .int .i64 x.a1, .int .i64 x.a2, .int .i64 x.a3, .int .i64 x.a4] 26))
  go_enter Tryz.func20, Tryz.ntmps20
  go_wp2_with fail
  refine (idxcalls_any _ xs x _ (H.out.below HB.out.bel)).mono ?_
  rintro e w1 ⟨⟨n, rfl, hn⟩, hb1⟩
  have HB1 := Lib.hid (HB.out.below hb1)
  have Hn := Lib.hid hn
  clear hn hb1
  by_cases h0 : 0 ≤ n
  · have HD : Hid (decide (x ∈ xs) = true) := decide_eq_true (Hn.out.1 h0)
    go_wp2
    go_ret
    exact ⟨by rw [HD.out]; rfl, HB1.out.bel⟩
  · have HD : Hid (decide (x ∈ xs) = false) := decide_eq_false (fun h => h0 (Hn.out.2 h))
    go_wp2
    go_ret
    exact ⟨by rw [HD.out]; show Ending.returned (.bool (decide (0 ≤ n))) = _; rw [decide_eq_false (by omega)], HB1.out.bel⟩
end Go.Proofs.YtioeliocdbckbaaGreatDoor
namespace Go.Proofs.YtioeliocdbckbaaGreatDoor
open Go.RowKit

/-- chapter 6's Home, errors too. -/
def homeE (l : List TPol) (x : TCall) : TCall × Int := if callE x ≠ 0 then (⟨0, 0, 0, 0, 0⟩, callE x) else if polsE l ≠ 0 then (⟨0, 0, 0, 0, 0⟩, polsE l) else (homeOf l x, 0)
def homeTo (l : List TPol) (x : TCall) : Nat → TCall
  | 0 => x
  | k + 1 => (homeTo l x k).set k (homeCut l k (x.get k))
theorem homeTo_5 (l : List TPol) (x : TCall) : homeTo l x 5 = homeOf l x := rfl
theorem homeTo_get (l : List TPol) (x : TCall) (k : Nat) (h : k < 5) : (homeTo l x k).get k = x.get k := by
  match k, h with
  | 0, _ => rfl
  | 1, _ => rfl
  | 2, _ => rfl
  | 3, _ => rfl
  | 4, _ => rfl
theorem cloneI_any (v : Value) (l : List Int) (D : Nat → Prop) (w : World) (h : RdInts w D v l) (hl : 0 < l.length) (hn : l.length * 8 ≤ 140737488355328) :
    Calls Tryz.prog 39 #[v] w fun e w' => ∃ v', e = .returned v' ∧ OwnSl w' w.heap.size 3 1 intR v' l ∧ Below w.heap.size w w' := by
  obtain ⟨a, c, rfl, hlc, hcm, hat⟩ := Sl.form h
  obtain ⟨b, o, rfl, _, _⟩ := hat hl
  refine (Tryz.slices_Clone_int b o l.length c l w (Nat.le_refl _) hn (fun j hj => ?_)).mono ?_
  · rw [RdInts.cell h hj, List.getD_eq_getElem?_getD, List.getElem?_eq_getElem hj]; rfl
  · rintro e w' ⟨v', rfl, ho, _, hb⟩
    rw [List.take_length] at ho
    exact ⟨v', rfl, OwnSl.of_ints ho, hb⟩
/-- a store at the head of a row of integers. -/
theorem OwnSl.head {w : World} {base : Nat} {e : TypeId} {n c b : Nat} {x m : Int} {l : List Int} (h : OwnSl w base e 1 intR (.slice (some ⟨b, 0, none⟩) n c) (x :: l)) : OwnSl (w.setCell ⟨b, 0, none⟩ (.int .i64 m)) base e 1 intR (.slice (some ⟨b, 0, none⟩) n c) (m :: l) := by
  obtain ⟨h1, h2⟩ := h.ints
  rcases h2 with ⟨h0, _⟩ | ⟨g, cap, cur, hv, hg, hh, hnc, hcm, hcs, htk⟩
  · cases h0
  · injection hv with ha hn hc
    injection ha with ha; injection ha with ha
    subst ha hn hc
    refine OwnSl.of_ints ⟨by simp, .inr ⟨b, c, cur.setIfInBounds 0 (.int .i64 m), by simp, hg, set_at hh, by simpa using hnc, hcm, by simp [hcs], ?_⟩⟩
    simp only [List.length_cons, Nat.mul_one, List.map_cons] at htk ⊢
    cases hcur : cur.toList with
    | nil => rw [hcur] at htk; simp at htk
    | cons y ys =>
      rw [hcur] at htk
      simp only [List.take_succ_cons, List.cons.injEq] at htk
      rw [Array.toList_setIfInBounds, hcur]
      simp only [List.set_cons_zero, List.take_succ_cons, htk.2]
theorem best_take (n : Int) (C : List Int) (k : Nat) (h : k < C.length) (b : Int) : best n (C.take (k + 1)) b = if C[k] ≤ n then C[k] else best n (C.take k) b := by
  have key : ∀ (l : List Int) (x b : Int), best n (l ++ [x]) b = if x ≤ n then x else best n l b := by
    intro l x
    induction l with
    | nil => intro b; rfl
    | cons y l ih => intro b; show (if y ≤ n then best n (l ++ [x]) y else best n (l ++ [x]) b) = _; rw [ih, ih]; show _ = if x ≤ n then x else (if y ≤ n then best n l y else best n l b); split <;> split <;> rfl
  rw [List.take_succ_eq_append_getElem h, key]
theorem best_stop (n : Int) (C : List Int) (k : Nat) (hr : Rising C) (h : k < C.length) (hgt : n < C[k]) (b : Int) : best n C b = best n (C.take k) b := by
  have key : ∀ j, k ≤ j → j ≤ C.length → best n (C.take j) b = best n (C.take k) b := by
    intro j hj
    induction hj with
    | refl => intro _; rfl
    | @step m hm ih =>
      intro hle
      have hm' : k ≤ m := hm
      have := rising_get hr h (show m < C.length by omega) hm'
      rw [best_take n C m (by omega), if_neg (by omega), ih (by omega)]
  have := key C.length (by omega) (Nat.le_refl _)
  rwa [List.take_length] at this
theorem cuts_head {l : List TPol} (h : ∀ p ∈ l, OkPol p) (f : Int) : ∃ T, cutsOf l f = 0 :: T := by
  have h0 := zero_cut l f
  have hr := rising_cuts l f
  cases hc : cutsOf l f with
  | nil => rw [hc] at h0; simp at h0
  | cons z T =>
    rw [hc] at h0 hr
    refine ⟨T, ?_⟩
    rcases List.mem_cons.1 h0 with e | e
    · rw [← e]
    · have h1 := (List.pairwise_cons.1 hr).1 _ e
      have h2 := (cuts_range h (f := f) (n := z) (by rw [hc]; exact List.mem_cons_self ..)).1
      omega
theorem setL_len (C : List TPol) (f : Int) : (cutsOf C f).length ≤ (cutVals C f).length := by
  unfold cutsOf
  refine Nat.le_trans (List.length_filter_le _ _) ?_
  have h3 : ∀ m : List Int, (setOf m).length ≤ m.length := fun m => by
    have h4 : ∀ (x : Int) (m : List Int), (insU x m).length ≤ m.length + 1 := fun x m => by
      induction m with
      | nil => simp [insU]
      | cons y m ih => unfold insU; split <;> (try split) <;> simp <;> omega
    induction m with
    | nil => simp [setOf]
    | cons x m ih => have := h4 x (setOf m); simp [setOf]; omega
  exact h3 _

set_option maxRecDepth 100000 in
set_option maxHeartbeats 8000000 in
theorem home_any (v : Value) (l : List TPol) (x : TCall) (D : Nat → Prop) (w : World) (h : RdPols w D v l) (hn : polsE l = 0 → ∀ f : Int, 0 ≤ f → f < 5 → (cutVals l f).length * 8 ≤ 140737488355328) :
    Calls Tryz.prog 16 #[v, callV x] w fun e w' => e = .returned (.tuple #[callV (homeE l x).1, .int .i64 (homeE l x).2]) ∧ Below w.heap.size w w' := by
  have H := Lib.hid h
  have Hn := Lib.hid hn
  clear h hn
  by_cases hx : callE x = 0
  · have Hx := Lib.hid hx
    go_enter Tryz.func16, Tryz.ntmps16
    go_wp2_with fail
    refine (callcheck_any x _).mono ?_
    rw [hx]
    rintro e w0 ⟨rfl, hb0⟩
    have HB0 := Lib.hid (Bx.two.below hb0)
    clear hb0 hx
    go_wp2_with fail
    go_loopw [18] (fun kv wr => ∃ k : Nat, kv = .int .i64 k ∧ k ≤ 5 ∧ (k ≠ 0 → polsE l = 0) ∧ Bx w [.cells (callArr (homeTo l x k)) 26, .cells (callArr ⟨0, 0, 0, 0, 0⟩) 26] wr) (fun kv _ => 5 - (intOf kv).toNat)
    case atStart => exact ⟨0, rfl, by omega, fun h => absurd rfl h, HB0.out⟩
    case round =>
      obtain ⟨k, rfl, hk, hp0, hbx⟩ := hrel
      have Hp0 := Lib.hid hp0
      have HB := Lib.hid hbx
      have hszr := hbx.size (i := 1) (by simp)
      clear hp0 hbx
      by_cases hlt : k < 5
      · go_wp2_with fail
        refine (cutsE_any v l k D _ (H.out.belowR HB.out.bel (fun _ _ _ ⟨u, h1, h2⟩ => ⟨u, h1, h2.below HB.out.bel⟩)) (fun h0 h1 h2 => Hn.out h0 _ h1 h2)).mono ?_
        rintro e w1 ⟨v1, rfl, ho1, hb1⟩
        have HB1 := Lib.hid (HB.out.below hb1)
        have Ho1 := Lib.hid ho1
        have hsz1 := hb1.size
        obtain ⟨a1, c1, rfl⟩ := ho1.slice
        clear ho1 hb1
        by_cases h0 : polsE l = 0
        · have H0 := Lib.hid h0
          have HE : Hid (cutsE l k = (cutsOf l k, 0)) := by
            show cutsE l k = _
            unfold cutsE
            rw [if_neg (by rw [h0]; simp), if_neg (by omega)]
          have hlen : (cutsOf l k).length * 8 ≤ 140737488355328 := by
            have h1 := Hn.out h0 k (by omega) (by omega)
            have := setL_len l k
            omega
          obtain ⟨T, hT⟩ := cuts_head ((polsE_iff l).1 h0) k
          have Ho2 : Hid (OwnSl w1 (w.heap.size + 2) 3 1 intR (.slice a1 (cutsOf l k).length c1) (0 :: T)) := by
            have := Ho1.out.base (base' := w.heap.size + 2) (by omega)
            rw [HE.out, hT] at this
            show OwnSl _ _ _ _ _ _ _
            rw [hT]
            exact this
          rw [HE.out]
          have Hr := Lib.hid (rising_cuts l k)
          obtain ⟨C, hC⟩ : ∃ C, C = cutsOf l k := ⟨_, rfl⟩
          rw [← hC] at Ho2 hlen Hr hT ⊢
          have hC0 : 0 < C.length := by rw [hT]; simp
          obtain ⟨g, rfl, hgb, hgl, _⟩ := Ho2.out.addr (by simp)
          have HT := Lib.hid hT
          have HC := Lib.hid hC
          clear h0 hC hT
          go_wp2_with fail
          refine (cloneI_any _ C (fun _ => True) w1 (by have := Ho2.out.sl (D := fun _ => True) (fun _ _ => trivial); rw [← HT.out] at this; exact this) hC0 hlen).mono ?_
          rintro e w2 ⟨v2, rfl, ho2, hb2⟩
          have HB2 := Lib.hid (HB1.out.below hb2)
          have Hown2 := Lib.hid (Ho2.out.below hb2)
          have Hcl := Lib.hid ho2
          have hsz2 := hb2.size
          obtain ⟨a2, c2, rfl⟩ := ho2.slice
          obtain ⟨g2, rfl, hg2b, hg2l, _⟩ := Hcl.out.addr hC0
          clear ho2 hb2
          go_wp2_with fail
          go_loopw [34] (fun iv wr => ∃ (i : Nat), iv = .int .i64 i ∧ i ≤ C.length ∧ (∀ y ∈ C.take i, y ≤ x.get k) ∧ Bx w [.cells (callArr (homeTo l x k)) 26, .cells (callArr ⟨0, 0, 0, 0, 0⟩) 26] wr ∧ OwnSl wr (w.heap.size + 2) 3 1 intR (.slice (some ⟨g, 0, none⟩) C.length c1) (best (x.get k) (C.take i) 0 :: T) ∧ OwnSl wr w1.heap.size 3 1 intR (.slice (some ⟨g2, 0, none⟩) C.length c2) C) (fun iv _ => C.length - (intOf iv).toNat)
          case atStart => exact ⟨0, rfl, by omega, by simp, HB2.out, Hown2.out, Hcl.out⟩
          case round =>
            obtain ⟨i, rfl, hi, hall, hbx, hown, hcl⟩ := hrel
            have HBi := Lib.hid hbx
            have Howni := Lib.hid hown
            have Hcli := Lib.hid hcl
            have Hall := Lib.hid hall
            have hc0 : wr.cell? ⟨w.heap.size, k, none⟩ = some (.int .i64 (x.get k)) := by rw [HBi.out.cells0, callArr_get _ k hlt, homeTo_get l x k hlt]
            have hf0 := HBi.out.free0 k
            obtain ⟨_, hge, _, hgl', cur, hcur⟩ := Howni.out.addr (by simp)
            injection hge with hge; injection hge with hge
            subst hge
            have hb0 : RdInts wr (fun _ => True) (.slice (some ⟨g, 0, none⟩) C.length c1) (best (x.get k) (C.take i) 0 :: T) := Howni.out.sl (fun _ _ => trivial)
            have hb1 := RdInts.cell hb0 (i := 0) (by simp)
            have hbf := not_frozen hcur 0
            have hfin : Hid (∀ m, Bx w [.cells (callArr ((homeTo l x k).set k m)) 26, .cells (callArr ⟨0, 0, 0, 0, 0⟩) 26] (wr.setCell ⟨w.heap.size, k, none⟩ (.int .i64 m))) := fun m => by
              have := HBi.out.set (i := 0) rfl k (.int .i64 m)
              rw [callArr_set _ k hlt] at this
              exact this
            clear hbx hown hcl hall hcur
            have hend : best (x.get k) (C.take i) 0 = homeCut l k (x.get k) → homeTo l x (k + 1) = (homeTo l x k).set k (best (x.get k) (C.take i) 0) := fun e => by rw [e]; rfl
            have Hend := Lib.hid hend
            clear hend
            by_cases hil : i < C.length
            · have hci := RdInts.cell (Hcli.out.sl (D := fun _ => True) (fun _ _ => trivial)) hil
              rw [Nat.zero_add] at hci
              have Hbt := Lib.hid (best_take (x.get k) C i hil 0)
              have Hbs := Lib.hid (fun h => best_stop (x.get k) C i Hr.out hil h 0)
              have Hta := Lib.hid (List.take_succ_eq_append_getElem hil)
              obtain ⟨n, hn⟩ : ∃ n, C[i] = n := ⟨_, rfl⟩
              rw [hn] at hci Hbt Hbs Hta
              clear hn
              by_cases hgt : x.get k < n
              · have hd : decide (x.get k < n) = true := decide_eq_true hgt
                have HH : Hid (best (x.get k) (C.take i) 0 = homeCut l k (x.get k)) := by
                  show _ = _
                  unfold homeCut
                  rw [← HC.out, Hbs.out hgt]
                have HE2 := Lib.hid (Hend.out HH.out)
                clear hgt
                go_wp2_with fail
                go_roundw
                case rel => exact ⟨k + 1, by go_num, by omega, fun _ => H0.out, by rw [HE2.out]; exact hfin.out _⟩
                case measure => simp [intOf]; omega
              · have hd : decide (x.get k < n) = false := decide_eq_false hgt
                have HB3 : Hid (best (x.get k) (C.take (i + 1)) 0 = n) := by show _ = _; rw [Hbt.out, if_pos (by omega)]
                have Hall2 : Hid (∀ y ∈ C.take (i + 1), y ≤ x.get k) := fun y hy => by
                  rw [Hta.out] at hy
                  rcases List.mem_append.1 hy with hy | hy
                  · exact Hall.out y hy
                  · simp at hy; rw [hy]; omega
                clear hgt
                go_wp2_with fail
                go_roundw
                case rel => exact ⟨i + 1, by go_num, by omega, Hall2.out, HBi.out.lift (B := w.heap.size + 2) (set_below (Below.refl _ _) hgb) (by simp), by rw [HB3.out]; exact Howni.out.head, Hcli.out.set (by show some g2 ≠ some g; intro e; injection e with e; omega)⟩
                case measure => simp [intOf]; omega
            · obtain rfl : i = C.length := by omega
              have HH : Hid (best (x.get k) (C.take C.length) 0 = homeCut l k (x.get k)) := by
                show _ = _
                unfold homeCut
                rw [List.take_length, ← HC.out]
              have HE2 : Hid (homeTo l x (k + 1) = (homeTo l x k).set k (best (x.get k) C 0)) := by have := Hend.out HH.out; rw [List.take_length] at this; exact this
              rw [List.take_length] at hb1
              go_wp2_with fail
              go_roundw
              case rel => exact ⟨k + 1, by go_num, by omega, fun _ => H0.out, by rw [HE2.out]; exact hfin.out _⟩
              case measure => simp [intOf]; omega
        · have hk0 : k = 0 := by
            rcases Nat.eq_zero_or_pos k with h | h
            · exact h
            · exact absurd (Hp0.out (by omega)) h0
          have HE : Hid (cutsE l k = ([], polsE l)) := by show cutsE l k = _; unfold cutsE; rw [if_pos h0]
          have HP : Hid (homeE l x = (⟨0, 0, 0, 0, 0⟩, polsE l)) := by show homeE l x = _; unfold homeE; rw [if_neg (by rw [Hx.out]; simp), if_pos h0]
          have hb0 : (polsE l != 0) = true := bne_iff_ne.2 h0
          have hc1 := HB1.out.cells1
          have hf1 := HB1.out.free1
          rw [HE.out]
          clear h0
          have HBf := Lib.hid (HB1.out.setCall1 (x := ⟨0, 0, 0, 0, 0⟩) (y := ⟨0, 0, 0, 0, 0⟩))
          have hcf := HBf.out.cells1
          go_wp2
          refine bodyPost_ret (v := .tuple #[callV ⟨0, 0, 0, 0, 0⟩, .int .i64 (polsE l)]) ?_ rfl ⟨by rw [HP.out], HBf.out.bel⟩
          rw [results_cell_tmp rfl]
          go_simp
      · obtain rfl : k = 5 := by omega
        have HP : Hid (homeE l x = (homeOf l x, 0)) := by
          show homeE l x = _
          unfold homeE
          rw [if_neg (by rw [Hx.out]; simp), if_neg (by rw [Hp0.out (by omega)]; simp)]
        rw [homeTo_5] at HB
        obtain ⟨y, hy⟩ : ∃ y, homeOf l x = y := ⟨_, rfl⟩
        rw [hy] at HB HP
        have hc0 := HB.out.cells0
        have hc1 := HB.out.cells1
        have hf1 := HB.out.free1
        have HBf := Lib.hid (HB.out.setCall1 (x := ⟨0, 0, 0, 0, 0⟩) (y := y))
        have hcf := HBf.out.cells1
        clear hy
        go_wp2
        refine bodyPost_ret (v := .tuple #[callV y, .int .i64 0]) ?_ rfl ⟨by rw [HP.out], HBf.out.bel⟩
        rw [results_cell_tmp rfl]
        go_simp
  · have HP : Hid (homeE l x = (⟨0, 0, 0, 0, 0⟩, callE x)) := by show homeE l x = _; unfold homeE; rw [if_pos hx]
    have hb0 : (callE x != 0) = true := bne_iff_ne.2 hx
    clear hx
    go_enter Tryz.func16, Tryz.ntmps16
    go_wp2_with fail
    refine (callcheck_any x _).mono ?_
    rintro e w0 ⟨rfl, hb00⟩
    have HB0 := Lib.hid (Bx.two.below hb00)
    have hc1 := HB0.out.cells1
    have hf1 := HB0.out.free1
    clear hb00
    have HBf := Lib.hid (HB0.out.setCall1 (x := ⟨0, 0, 0, 0, 0⟩) (y := ⟨0, 0, 0, 0, 0⟩))
    have hcf := HBf.out.cells1
    go_wp2
    refine bodyPost_ret (v := .tuple #[callV ⟨0, 0, 0, 0, 0⟩, .int .i64 (callE x)]) ?_ rfl ⟨by rw [HP.out], HBf.out.bel⟩
    rw [results_cell_tmp rfl]
    go_simp
end Go.Proofs.YtioeliocdbckbaaGreatDoor
namespace Go.Proofs.YtioeliocdbckbaaGreatDoor
open Go.RowKit
attribute [local go_sem] gives givesUpon

theorem take_eq_step {α : Type} {xs ys : List α} {k : Nat} (hx : k < xs.length) (hy : k < ys.length) (h : xs.take k = ys.take k) (e : xs[k] = ys[k]) : xs.take (k + 1) = ys.take (k + 1) := by
  rw [List.take_succ_eq_append_getElem hx, List.take_succ_eq_append_getElem hy, h, e]
theorem ne_of_get {α : Type} {xs ys : List α} {k : Nat} (hx : k < xs.length) (hy : k < ys.length) (e : xs[k] ≠ ys[k]) : xs ≠ ys := fun h => e (by subst h; rfl)

set_option maxRecDepth 100000 in
set_option maxHeartbeats 1000000 in
theorem eqints_any (v u : Value) (xs ys : List Int) (D : Nat → Prop) (w : World) (h : RdInts w D v xs) (h' : RdInts w D u ys) :
    Calls Tryz.prog 40 #[v, u] w fun e w' => e = .returned (.bool (decide (xs = ys))) ∧ Below w.heap.size w w' := by
  obtain ⟨a, c, rfl, hlc, hcm, hat⟩ := Sl.form h
  obtain ⟨a', c', rfl, hlc', hcm', hat'⟩ := Sl.form h'
  have H := Lib.hid h
  have H' := Lib.hid h'
  clear h h'
  by_cases hl : xs.length = ys.length
  · have b0 : ((xs.length : Int) != (ys.length : Int)) = false := bne_eq_false_iff_eq.2 (by omega)
    have hl' := Lib.hid hl
    have hl1 : xs.length ≤ ys.length := by omega
    have hl2 : ys.length ≤ xs.length := by omega
    clear hl
    go_enter Tryz.func40, Tryz.ntmps40
    go_wp2_with fail
    go_loopw [13] (fun i wr => ∃ k : Nat, k ≤ xs.length ∧ i = .int .i64 k ∧ xs.take k = ys.take k ∧ Below w.heap.size w wr) (fun i _ => xs.length - (intOf i).toNat)
    case atStart => exact ⟨0, by omega, rfl, rfl, Below.refl _ _⟩
    case round =>
      obtain ⟨k, hk, rfl, htk, hbw⟩ := hrel
      have Ht := Lib.hid htk
      have hsz := hbw.size
      clear htk
      by_cases hlt : k < xs.length
      · obtain ⟨b, o, rfl, hDb, hb⟩ := hat (by omega)
        obtain ⟨b', o', rfl, hDb', hb'⟩ := hat' (by omega)
        have hlt' : k < ys.length := by omega
        have hc : ∀ W, Cls w.heap.size wr W → W.cell? ⟨b, o + k, none⟩ = some (.int .i64 xs[k]) ∧ W.cell? ⟨b', o' + k, none⟩ = some (.int .i64 ys[k]) := fun W hW =>
          ⟨RdInts.cell (H.out.below (hbw.trans hW.2)) hlt, RdInts.cell (H'.out.below (hbw.trans hW.2)) hlt'⟩
        have Hc := Lib.hid hc
        clear hc
        go_wp2_with fail
        refine wp_region_exact w.heap.size hsz (by kernel_rfl) (by kernel_rfl) ?_
        repeat (refine monoE_step (fun K hK => ?_); apply Exists.intro; refine ⟨fun W hC R hR => ?_, ?_⟩; (obtain ⟨hc1, hc2⟩ := Hc.out W hC; go_simp; exact hR _ _ (Below.refl _ _) rfl); (go_simp; refine hK _ ?_; clear hK K))
        intro w2 hC2
        by_cases he : xs[k] = ys[k]
        · have Hn := Lib.hid (take_eq_step hlt hlt' Ht.out he)
          have d : (xs[k] != ys[k]) = false := bne_eq_false_iff_eq.2 he
          clear he
          simp only [d]
          go_wp2
          go_roundw
          case rel => exact ⟨k + 1, by omega, by go_num, Hn.out, hbw.trans hC2.2⟩
          case measure => simp [intOf]; omega
        · have Hn := Lib.hid (ne_of_get hlt hlt' he)
          have d : (xs[k] != ys[k]) = true := bne_iff_ne.2 he
          clear he
          simp only [d]
          go_wp2
          go_ret
          exact ⟨ret_bool (decide_eq_false Hn.out).symm, hbw.trans hC2.2⟩
      · obtain rfl : k = xs.length := by omega
        have Hn : Hid (xs = ys) := by
          have := Ht.out
          rw [List.take_length, hl'.out, List.take_length] at this
          exact this
        go_wp2
        go_ret
        exact ⟨ret_bool (decide_eq_true Hn.out).symm, hbw⟩
  · have b0 : ((xs.length : Int) != (ys.length : Int)) = true := bne_iff_ne.2 (by omega)
    have hn : decide (xs = ys) = false := decide_eq_false fun e => hl (by rw [e])
    rw [hn]
    clear hn hl
    go_enter Tryz.func40, Tryz.ntmps40
    go_wp2
    go_ret
    exact ⟨rfl, Below.refl _ _⟩
end Go.Proofs.YtioeliocdbckbaaGreatDoor
namespace Go.Proofs.YtioeliocdbckbaaGreatDoor
open Go.RowKit

theorem cut1 : cutsE [madeP] 0 = ([0, 3, 4], 0) := by decide +kernel
theorem cut2 : cutsE [madeP] 2 = ([0, 5], 0) := by decide +kernel
theorem cut3 : (pointsE [madeP]).2 = 0 := by decide +kernel
theorem cut4 : (pointsE [madeP]).1.length = 12 := by decide +kernel
theorem cut5 : (pointsE [madeP]).1[1]? = some ⟨0, 0, 5, 0, 0⟩ := by decide +kernel
theorem cut6 : homeE [madeP] ⟨9, 3, 7, 7, 7⟩ = (⟨4, 1, 5, 0, 0⟩, 0) := by decide +kernel
theorem cut7 (f : Int) : (cutVals [madeP] f).length * 8 ≤ 140737488355328 := by
  have h1 : ∀ c : TCond, (condCuts f c).length ≤ 2 := fun c => by unfold condCuts; split <;> (try split) <;> simp
  have := h1 ⟨0, 1, 3⟩
  have := h1 ⟨2, 3, 5⟩
  have := h1 ⟨1, 2, 0⟩
  simp only [cutVals, polCuts, ruleCuts, madeP, List.flatMap_cons, List.flatMap_nil, List.length_cons, List.length_append, List.length_nil]
  omega
/-- one policy, in a row of its own. -/
theorem cut_pol {W : World} {p : TPol} {v : Value} {b : Nat} (hr : RdRules W (fun _ => True) v p.rules) (hb : b = W.heap.size) : RdPols (W.alloc (.cells #[v, .int .i64 p.dflt] 24)) (fun _ => True) (.slice (some ⟨b, 0, none⟩) 1 1) [p] :=
  sl_block (xs := [p]) (rows := [[v, .int .i64 p.dflt]]) (RowsOf.cons RowsOf.nil ⟨_, rfl, hr.below (bel_alloc (Below.refl _ _) _)⟩ rfl) (blk_at hb) rfl trivial (by simp [maxLen])

set_option maxRecDepth 100000 in
set_option maxHeartbeats 8000000 in
theorem cut_walk (w : World) (hL : Laid w) : Calls Tryz.prog 17 #[] w fun e w' => e = .returned (.bool true) ∧ Below w.heap.size w w' := by
  have HL := Lib.hid hL
  clear hL
  have hm1 : madeP.rules.length = 2 := rfl
  go_enter Tryz.func17, Tryz.ntmps17
  go_wp2_with fail
  refine (made_any _ HL.out).mono ?_
  rintro e w1 ⟨v1, rfl, hr1, hb1⟩
  have Hb1 := Lib.hid hb1
  have Hr1 := Lib.hid (rules_true hr1)
  obtain ⟨a1, c1, rfl, _⟩ := Sl.form hr1
  rw [hm1] at Hr1
  have HP1 := Lib.hid (cut_pol (p := madeP) Hr1.out rfl)
  have HA1 := Lib.hid (bel_alloc (Below.refl w1.heap.size w1) (.cells #[.slice a1 2 c1, .int .i64 4] 24))
  have Hc1 := Lib.hid (bel_call Hb1.out HA1.out)
  clear hr1 hb1
  go_wp2_with fail
  refine (cutsE_any _ [madeP] 0 _ _ HP1.out (fun _ _ _ => cut7 0)).mono ?_
  rw [cut1]
  rintro e w2 ⟨q1, rfl, ho1, hb2⟩
  have Hb2 := Lib.hid (bel_call Hc1.out hb2)
  have R1 : Hid (RdInts w2 (fun _ => True) q1 [0, 3, 4]) := OwnSl.sl ho1 (D := fun _ => True) (fun _ _ => trivial)
  obtain ⟨u1, k1, rfl⟩ := ho1.slice
  clear ho1
  clear hb2
  simp only [List.length_cons, List.length_nil, Nat.zero_add, Nat.reduceAdd] at R1 ⊢
  go_wp2_with fail
  refine (made_any _ (HL.out.below Hb2.out)).mono ?_
  rintro e w3 ⟨v3, rfl, hr3, hb3⟩
  have Hb3 := Lib.hid (bel_call Hb2.out hb3)
  replace R1 := Lib.hid (R1.out.below hb3)
  have Hr3 := Lib.hid (rules_true hr3)
  obtain ⟨a3, c3, rfl, _⟩ := Sl.form hr3
  rw [hm1] at Hr3
  have HP3 := Lib.hid (cut_pol (p := madeP) Hr3.out rfl)
  have HA3 := Lib.hid (bel_alloc (Below.refl w3.heap.size w3) (.cells #[.slice a3 2 c3, .int .i64 4] 24))
  have Hc3 := Lib.hid (bel_call Hb3.out HA3.out)
  replace R1 := Lib.hid (R1.out.below HA3.out)
  clear hr3 hb3
  go_wp2_with fail
  refine (cutsE_any _ [madeP] 2 _ _ HP3.out (fun _ _ _ => cut7 2)).mono ?_
  rw [cut2]
  rintro e w4 ⟨q2, rfl, ho2, hb4⟩
  have Hb4 := Lib.hid (bel_call Hc3.out hb4)
  replace R1 := Lib.hid (R1.out.below hb4)
  have R2 : Hid (RdInts w4 (fun _ => True) q2 [0, 5]) := OwnSl.sl ho2 (D := fun _ => True) (fun _ _ => trivial)
  obtain ⟨u2, k2, rfl⟩ := ho2.slice
  clear ho2
  clear hb4
  simp only [List.length_cons, List.length_nil, Nat.zero_add, Nat.reduceAdd] at R2 ⊢
  go_wp2_with fail
  refine (made_any _ (HL.out.below Hb4.out)).mono ?_
  rintro e w5 ⟨v5, rfl, hr5, hb5⟩
  have Hb5 := Lib.hid (bel_call Hb4.out hb5)
  replace R1 := Lib.hid (R1.out.below hb5)
  replace R2 := Lib.hid (R2.out.below hb5)
  have Hr5 := Lib.hid (rules_true hr5)
  obtain ⟨a5, c5, rfl, _⟩ := Sl.form hr5
  rw [hm1] at Hr5
  have HP5 := Lib.hid (cut_pol (p := madeP) Hr5.out rfl)
  have HA5 := Lib.hid (bel_alloc (Below.refl w5.heap.size w5) (.cells #[.slice a5 2 c5, .int .i64 4] 24))
  have Hc5 := Lib.hid (bel_call Hb5.out HA5.out)
  replace R1 := Lib.hid (R1.out.below HA5.out)
  replace R2 := Lib.hid (R2.out.below HA5.out)
  clear hr5 hb5
  go_wp2_with fail
  have h4 := cut4
  have h5 := cut5
  obtain ⟨PT, hPT⟩ : ∃ P, (pointsE [madeP]).1 = P := ⟨_, rfl⟩
  rw [hPT] at h4 h5
  have H4 := Lib.hid h4
  have H5 := Lib.hid h5
  clear h4 h5
  refine (points_any _ [madeP] _ _ HP5.out (fun _ f _ _ => cut7 f)).mono ?_
  rw [cut3, hPT]
  rintro e w6 ⟨q3, rfl, ho3, hb6⟩
  have Hb6 := Lib.hid (bel_call Hc5.out hb6)
  replace R1 := Lib.hid (R1.out.below hb6)
  replace R2 := Lib.hid (R2.out.below hb6)
  have R3 : Hid (RdCalls w6 (fun _ => True) q3 PT) := OwnSl.sl ho3 (D := fun _ => True) (fun _ _ => trivial)
  obtain ⟨u3, k3, rfl⟩ := ho3.slice
  clear ho3
  rw [H4.out] at R3
  clear hb6
  clear hPT
  rw [H4.out]
  go_wp2_with fail
  refine (made_any _ (HL.out.below Hb6.out)).mono ?_
  rintro e w7 ⟨v7, rfl, hr7, hb7⟩
  have Hb7 := Lib.hid (bel_call Hb6.out hb7)
  replace R1 := Lib.hid (R1.out.below hb7)
  replace R2 := Lib.hid (R2.out.below hb7)
  replace R3 := Lib.hid (R3.out.below hb7)
  have Hr7 := Lib.hid (rules_true hr7)
  obtain ⟨a7, c7, rfl, _⟩ := Sl.form hr7
  rw [hm1] at Hr7
  have HP7 := Lib.hid (cut_pol (p := madeP) Hr7.out rfl)
  have HA7 := Lib.hid (bel_alloc (Below.refl w7.heap.size w7) (.cells #[.slice a7 2 c7, .int .i64 4] 24))
  have Hc7 := Lib.hid (bel_call Hb7.out HA7.out)
  replace R1 := Lib.hid (R1.out.below HA7.out)
  replace R2 := Lib.hid (R2.out.below HA7.out)
  replace R3 := Lib.hid (R3.out.below HA7.out)
  clear hr7 hb7
  go_wp2_with fail
  refine (home_any _ [madeP] ⟨9, 3, 7, 7, 7⟩ _ _ HP7.out (fun _ f _ _ => cut7 f)).mono ?_
  rw [cut6]
  rintro e w8 ⟨rfl, hb8⟩
  have Hb8 := Lib.hid (bel_call Hc7.out hb8)
  replace R1 := Lib.hid (R1.out.below hb8)
  replace R2 := Lib.hid (R2.out.below hb8)
  replace R3 := Lib.hid (R3.out.below hb8)
  clear hb8
  dsimp only
  obtain ⟨wx, hwx⟩ : ∃ wx, (w8.alloc (.cells #[.int .i64 4, .int .i64 1, .int .i64 5, .int .i64 0, .int .i64 0] 26)) = wx := ⟨_, rfl⟩
  have HX0 : Hid (Bx w8 [.cells #[.int .i64 4, .int .i64 1, .int .i64 5, .int .i64 0, .int .i64 0] 26] wx) := by show Bx _ _ _; rw [← hwx]; exact Bx.one
  obtain ⟨wy, hwy⟩ : ∃ wy, ((wx.setCell ⟨w8.heap.size, 3, none⟩ (.int .i64 0)).setCell ⟨w8.heap.size, 4, none⟩ (.int .i64 0)) = wy := ⟨_, rfl⟩
  have HX : Hid (Bx w8 [.cells #[.int .i64 4, .int .i64 1, .int .i64 5, .int .i64 0, .int .i64 0] 26] wy) := by show Bx _ _ _; rw [← hwy]; exact (HX0.out.set (i := 0) rfl 3 (.int .i64 0)).set (i := 0) rfl 4 (.int .i64 0)
  have hxc := HX0.out.cells0
  have hxf := HX0.out.free0
  have hxs : ∀ v, (wx.setCell ⟨w8.heap.size, 3, none⟩ v).cell? ⟨w8.heap.size, 4, none⟩ = some (.int .i64 0) := fun v => (HX0.out.set (i := 0) rfl 3 v).cells0 4
  have hxg : ∀ v, (wx.setCell ⟨w8.heap.size, 3, none⟩ v).frozen? ⟨w8.heap.size, 4, none⟩ = false := fun v => (HX0.out.set (i := 0) rfl 3 v).free0 4
  have hyc := HX.out.cells0
  have HbX := Lib.hid (bel_call Hb8.out HX.out.bel)
  replace R1 := Lib.hid (R1.out.below HX.out.bel)
  replace R2 := Lib.hid (R2.out.below HX.out.bel)
  replace R3 := Lib.hid (R3.out.below HX.out.bel)
  have HI := Lib.hid (Bx.one (w := wy) (o := .cells #[.int .i64 0, .int .i64 3, .int .i64 4] 3))
  have RI : Hid (RdInts (wy.alloc (.cells #[.int .i64 0, .int .i64 3, .int .i64 4] 3)) (fun _ => True) (.slice (some ⟨wy.heap.size, 0, none⟩) 3 3) [0, 3, 4]) := sl_block (xs := [0, 3, 4]) (rows := [[.int .i64 0], [.int .i64 3], [.int .i64 4]]) (RowsOf.cons (RowsOf.cons (RowsOf.cons RowsOf.nil rfl rfl) rfl rfl) rfl rfl) (heap_last _ _) rfl trivial (by simp [maxLen])
  go_wp2_with fail
  refine (eqints_any _ _ [0, 3, 4] [0, 3, 4] _ _ (R1.out.below HI.out.bel) RI.out).mono ?_
  rw [decide_eq_true rfl]
  rintro e w9 ⟨rfl, hb9⟩
  have HbI := Lib.hid (Below.trans HI.out.bel (hb9.mono HI.out.bel.size))
  have Hb9 := Lib.hid (bel_call HbX.out HbI.out)
  replace HX := Lib.hid (HX.out.below HbI.out)
  replace R2 := Lib.hid (R2.out.below HbI.out)
  replace R3 := Lib.hid (R3.out.below HbI.out)
  clear hb9 HI RI R1 HbI hwx hwy hxc hxf hxs hxg hyc HX0
  have HI := Lib.hid (Bx.one (w := w9) (o := .cells #[.int .i64 0, .int .i64 5] 3))
  have RI : Hid (RdInts (w9.alloc (.cells #[.int .i64 0, .int .i64 5] 3)) (fun _ => True) (.slice (some ⟨w9.heap.size, 0, none⟩) 2 2) [0, 5]) := sl_block (xs := [0, 5]) (rows := [[.int .i64 0], [.int .i64 5]]) (RowsOf.cons (RowsOf.cons RowsOf.nil rfl rfl) rfl rfl) (heap_last _ _) rfl trivial (by simp [maxLen])
  go_wp2_with fail
  refine (eqints_any _ _ [0, 5] [0, 5] _ _ (R2.out.below HI.out.bel) RI.out).mono ?_
  rw [decide_eq_true rfl]
  rintro e w10 ⟨rfl, hb10⟩
  have HbI := Lib.hid (Below.trans HI.out.bel (hb10.mono HI.out.bel.size))
  have Hb10 := Lib.hid (bel_call Hb9.out HbI.out)
  replace HX := Lib.hid (HX.out.below HbI.out)
  replace R3 := Lib.hid (R3.out.below HbI.out)
  clear hb10 HI RI R2 HbI
  obtain ⟨h1lt, hg⟩ := List.getElem?_eq_some_iff.1 H5.out
  obtain ⟨g, o, rfl, _⟩ := Sl.at_ R3.out (by omega)
  obtain ⟨x0, x1, x2, x3, x4⟩ := RdCalls.cells R3.out h1lt
  rw [hg] at x0 x1 x2 x3 x4
  clear hg
  have hqx := HX.out.cells0
  have he1 := calleq_self ⟨0, 0, 5, 0, 0⟩
  have he2 := calleq_self ⟨4, 1, 5, 0, 0⟩
  dsimp only at he1 he2 x0 x1 x2 x3 x4
  go_wp2
  go_ret
  exact ⟨rfl, Hb10.out⟩
end Go.Proofs.YtioeliocdbckbaaGreatDoor
namespace Go.Proofs.YtioeliocdbckbaaGreatDoor
open Go.RowKit Go.ChangeShapes Go.WideShapes Go.Deep
set_option maxRecDepth 100000

theorem bulk_one {H : Type} (d : DataW H) : 1 ≤ Rows.uptoBulk d := by
  cases d with
  | lit l => cases l <;> simp [Rows.uptoBulk]
  | nil => simp [Rows.uptoBulk]
  | ptr d => simp [Rows.uptoBulk]
  | slice elems spare => simp [Rows.uptoBulk]
  | agg parts => simp [Rows.uptoBulk]
  | iface t d => simp [Rows.uptoBulk]
  | map entries => simp [Rows.uptoBulk]
  | held h => simp [Rows.uptoBulk]
theorem bulk_part {H : Type} {d : DataW H} {l : List (DataW H)} (h : d ∈ l) : Rows.uptoBulk d ≤ Rows.uptoBulkAll l := by
  induction l with
  | nil => cases h
  | cons x r ih =>
    simp only [Rows.uptoBulkAll]
    cases List.mem_cons.1 h with
    | inl e => subst e; omega
    | inr e => have := ih e; omega
theorem bulk_sum {H α : Type} {wt : α → Nat} : ∀ (xs : List α) (ds : List (DataW H)), xs.length = ds.length → (∀ (i : Nat) (x : α), xs[i]? = some x → ∃ d, ds[i]? = some d ∧ wt x ≤ Rows.uptoBulk d) → (xs.map wt).sum ≤ Rows.uptoBulkAll ds
  | [], [], _, _ => by simp [Rows.uptoBulkAll]
  | [], _ :: _, h, _ => by cases h
  | _ :: _, [], h, _ => by cases h
  | x :: xs, d :: ds, h, hw => by
    have ih := bulk_sum xs ds (by simpa using h) (fun i y hy => by simpa using hw (i + 1) y (by simpa using hy))
    obtain ⟨d', hd, h1⟩ := hw 0 x rfl
    simp at hd
    subst hd
    simp only [List.map_cons, List.sum_cons, Rows.uptoBulkAll]
    omega
section
variable {H : Type} {enc : TypeId × Value → H} {P : Program} {w : World} {base : Nat} {spare : Nat → Bool} {held : Bool}
theorem sl_of_trodW {α : Type} {t e : TypeId} {sz fuel : Nat} {R : α → List Value → Prop} {wt : α → Nat} {cs : List Value} {x : DataW H × List MemPlace} (ht : P.underlying t = some (.slice e)) (hC : P.cellsOf e = sz) (hsz : 0 < sz)
    (hR : ∀ n cs x, cs.length = sz → DataW.trod enc P w base spare held n e cs = some x → ∃ a : α, R a cs ∧ wt a ≤ Rows.uptoBulk x.1) (h : DataW.trod enc P w base spare held fuel t cs = some x) :
    ∃ (v : Value) (xs : List α), cs = [v] ∧ Sl w (fun _ => True) sz R v xs ∧ (xs.map wt).sum + 1 ≤ Rows.uptoBulk x.1 := by
  rcases open_slice ht h with ⟨h0, hx0⟩ | ⟨a, len, cap, m, n, D, Pl, hcs, hb, hl, hm, hmm, hxx, hi⟩
  · exact ⟨_, [], h0, ⟨none, 0, rfl, by simp, by unfold maxLen; omega, fun _ => rfl, fun h => absurd h (by simp)⟩, by rw [hx0]; simp [Rows.uptoBulk]⟩
  · have hlm : len ≤ m := by rw [hmm]; split <;> omega
    have hel : ∀ i, i < len → ∃ a' : α, (∃ cs' : List Value, cs'.length = sz ∧ R a' cs' ∧ ∀ j, j < sz → w.cell? ((a.add (i * sz)).add j) = cs'[j]?) ∧ wt a' ≤ Rows.uptoBulk (D i) := fun i hlt => by
      obtain ⟨cs', hc, ht'⟩ := hi i (by omega)
      rw [hC] at hc
      obtain ⟨_, hlen, hcell⟩ := World.cells?_some hc
      obtain ⟨a', ha', hw⟩ := hR _ _ _ hlen ht'
      exact ⟨a', ⟨cs', hlen, ha', hcell⟩, hw⟩
    obtain ⟨xs, hxl, hx⟩ := list_of_forall len hel
    refine ⟨_, xs, hcs, ⟨some a, cap, by rw [hxl], by omega, hm, (fun h => by cases h), fun h0 => ?_⟩, ?_⟩
    · have h00 : xs[0]? = some xs[0] := List.getElem?_eq_getElem h0
      obtain ⟨⟨cs0, hl0, _, hc0⟩, _⟩ := hx 0 _ h00
      have hc00 := hc0 0 hsz
      rw [List.getElem?_eq_getElem (by omega)] at hc00
      have hspot := World.cell?_spot hc00
      simp [Addr.add] at hspot
      obtain ⟨b, o, s⟩ := a
      dsimp only at hspot
      subst hspot
      refine ⟨b, o, rfl, trivial, ?_, fun i y hy => ?_⟩
      · have := World.block_lt_of_cell? _ _ hc00
        simpa [Addr.add] using this
      · obtain ⟨⟨cs', hl', hr', hc'⟩, _⟩ := hx i y hy
        refine ⟨cs', hl', hr', fun j u hu => ?_⟩
        have hj : j < sz := by rw [← hl']; exact (List.getElem?_eq_some_iff.1 hu).1
        rw [← hu, ← hc' j hj, add_form]
    · have hs := bulk_sum (wt := wt) xs ((List.range len).map D) (by simp [hxl]) (fun i y hy => ⟨D i, by
        have hi' : i < len := by rw [← hxl]; exact (List.getElem?_eq_some_iff.1 hy).1
        simp [hi'], (hx i y hy).2⟩)
      rw [hxx]
      simp only [Rows.uptoBulk]
      omega
theorem trod_fieldW {e : TypeId} {fs : Array Field} {l : Array (TypeId × Nat)} {fuel : Nat} {cs : List Value} {x : DataW H × List MemPlace} (he : P.underlying e = some (.struct fs)) (hfs : fs.map (fun f => (f.type, f.offset)) = l)
    (h : DataW.trod enc P w base spare held fuel e cs = some x) {i : Nat} {ty : TypeId} {off : Nat} (hi : l[i]? = some (ty, off)) : ∃ n y, DataW.trod enc P w base spare held n ty ((cs.drop off).take (P.cellsOf ty)) = some y ∧ Rows.uptoBulk y.1 + 1 ≤ Rows.uptoBulk x.1 := by
  obtain ⟨f, hf, rfl, rfl⟩ := field_at hfs hi
  obtain ⟨xs, m, _, hx, _, hxl, hg⟩ := DataW.trod_struct he h
  have hlt : i < xs.length := by rw [hxl]; exact (Array.getElem?_eq_some_iff.1 hf).1
  have := hg i f hf
  rw [List.getElem?_eq_getElem hlt] at this
  refine ⟨_, _, this, ?_⟩
  rw [hx]
  have := bulk_part (List.mem_map.2 ⟨xs[i], List.getElem_mem hlt, rfl⟩ : xs[i].1 ∈ xs.map (·.1))
  simp only [Rows.uptoBulk]
  omega
end
section
variable {H : Type} {enc : TypeId × Value → H} {w : World} {base : Nat} {spare : Nat → Bool} {held : Bool}
theorem trod_ruleW {fuel : Nat} {cs : List Value} {x : DataW H × List MemPlace} (hl : cs.length = 2) (h : DataW.trod enc Tryz.prog w base spare held fuel 58 cs = some x) : ∃ a : TRule, ruleR w (fun _ => True) a cs ∧ a.conds.length ≤ Rows.uptoBulk x.1 := by
  have hfs : (Tryz.prog.underlying 58).map (fun d => match d with | .struct fs => fs.map (fun f => (f.type, f.offset)) | _ => #[]) = some #[(56, 0), (3, 1)] := by kernel_rfl
  obtain ⟨fs, he⟩ : ∃ fs, Tryz.prog.underlying 58 = some (.struct fs) := ⟨_, Tryz.underlying58⟩
  rw [he] at hfs
  simp only [Option.map_some, Option.some.injEq] at hfs
  obtain ⟨n1, e1⟩ := trod_field_int (i := 1) he hfs h rfl Tryz.underlying3 (by kernel_rfl)
  obtain ⟨n, y, hy, hb⟩ := trod_fieldW (i := 0) he hfs h rfl
  have hc : Tryz.prog.cellsOf 56 = 1 := by kernel_rfl
  rw [hc] at hy
  obtain ⟨v, xs, hcs, hsl, hw⟩ := sl_of_trodW (sz := 3) (wt := fun _ : TCond => 1) Tryz.underlying56 (by kernel_rfl) (by omega) (fun _ _ x hl hx => by obtain ⟨a, ha⟩ := trod_cond hl hx; exact ⟨a, ha, bulk_one _⟩) hy
  have hlen : (xs.map (fun _ : TCond => 1)).sum = xs.length := by
    clear hsl hw hcs
    induction xs with
    | nil => rfl
    | cons a l ih => simp only [List.map_cons, List.sum_cons, ih, List.length_cons]; omega
  match cs, hl with
  | [c0, c1], _ =>
    simp at e1 hcs
    exact ⟨⟨xs, n1⟩, ⟨v, by rw [hcs, e1], hsl⟩, by show xs.length ≤ _; omega⟩
theorem trod_polW {fuel : Nat} {cs : List Value} {x : DataW H × List MemPlace} (hl : cs.length = 2) (h : DataW.trod enc Tryz.prog w base spare held fuel 24 cs = some x) : ∃ a : TPol, polR w (fun _ => True) a cs ∧ (polConds a).length + 1 ≤ Rows.uptoBulk x.1 := by
  have hfs : (Tryz.prog.underlying 24).map (fun d => match d with | .struct fs => fs.map (fun f => (f.type, f.offset)) | _ => #[]) = some #[(22, 0), (3, 1)] := by kernel_rfl
  obtain ⟨fs, he⟩ : ∃ fs, Tryz.prog.underlying 24 = some (.struct fs) := ⟨_, Tryz.underlying24⟩
  rw [he] at hfs
  simp only [Option.map_some, Option.some.injEq] at hfs
  obtain ⟨n1, e1⟩ := trod_field_int (i := 1) he hfs h rfl Tryz.underlying3 (by kernel_rfl)
  obtain ⟨n, y, hy, hb⟩ := trod_fieldW (i := 0) he hfs h rfl
  have hc : Tryz.prog.cellsOf 22 = 1 := by kernel_rfl
  rw [hc] at hy
  obtain ⟨v, xs, hcs, hsl, hw⟩ := sl_of_trodW (sz := 2) (wt := fun r : TRule => r.conds.length) Tryz.underlying22 (by kernel_rfl) (by omega) (fun _ _ _ hl hx => trod_ruleW hl hx) hy
  match cs, hl with
  | [c0, c1], _ =>
    simp at e1 hcs
    exact ⟨⟨xs, n1⟩, ⟨v, by rw [hcs, e1], hsl⟩, by unfold polConds; rw [List.length_flatMap]; show (xs.map _).sum + 1 ≤ _; omega⟩
theorem open_polsW {r : Reach} {b0 : Nat} {v : Value} {d : DataW H} {ps : List MemPlace}
    (hv : Value.okWide Tryz.prog w r b0 34 v) (h : DataW.Trod enc Tryz.prog w base spare held 34 v d ps) : ∃ l, RdPols w (fun _ => True) v l ∧ (l.flatMap polConds).length + l.length ≤ Rows.uptoBulk d := by
  obtain ⟨a, len, cap, rfl⟩ := okWide_slice Tryz.underlying34 hv
  obtain ⟨fuel, hf⟩ := h
  obtain ⟨v', xs, hcs, hsl, hw⟩ := sl_of_trodW (sz := 2) (wt := fun p : TPol => (polConds p).length + 1) Tryz.underlying34 (by kernel_rfl) (by omega) (fun _ _ _ hl hx => trod_polW hl hx) hf
  simp [Value.cells] at hcs
  rw [hcs]
  refine ⟨xs, hsl, ?_⟩
  have hs : (xs.map fun p : TPol => (polConds p).length + 1).sum = (xs.map fun p : TPol => (polConds p).length).sum + xs.length := by
    clear hw hsl hcs hf
    induction xs with
    | nil => rfl
    | cons p xs ih => simp only [List.map_cons, List.sum_cons, ih, List.length_cons]; omega
  rw [List.length_flatMap]
  dsimp only at hw
  omega
end
/-- how many cuts a list of policies can have. -/
theorem vals_conds (l : List TPol) (f : Int) : (cutVals l f).length ≤ 1 + 2 * (l.flatMap polConds).length := by
  have h1 : ∀ c : TCond, (condCuts f c).length ≤ 2 := fun c => by unfold condCuts; split <;> (try split) <;> simp
  have h2 : ∀ cs : List TCond, (cs.flatMap (condCuts f)).length ≤ 2 * cs.length := fun cs => by
    induction cs with
    | nil => simp
    | cons c cs ih => simp only [List.flatMap_cons, List.length_append, List.length_cons]; have := h1 c; omega
  have h3 : ∀ rs : List TRule, (rs.flatMap (ruleCuts f)).length ≤ 2 * (rs.flatMap fun r => r.conds).length := fun rs => by
    induction rs with
    | nil => simp
    | cons r rs ih => simp only [List.flatMap_cons, List.length_append]; have h5 : (ruleCuts f r).length ≤ 2 * r.conds.length := h2 r.conds; omega
  have h4 : (l.flatMap (polCuts f)).length ≤ 2 * (l.flatMap polConds).length := by
    induction l with
    | nil => simp
    | cons p l ih => simp only [List.flatMap_cons, List.length_append]; have h5 : (polCuts f p).length ≤ 2 * (polConds p).length := h3 p.rules; omega
  unfold cutVals
  simp only [List.length_cons]
  omega
section
variable {H : Type} {enc : TypeId × Value → H}
theorem witness_rowU {C : Checked} {os : Os} {f : FuncId} {fn : Func} {s : OpenSpec} {conds : List PathCond} {apart : Bool} {laid : List (String × DataW Unit)} (modest : Bool) (w0 : World) (args : Array Value) (hos : w0.os = os)
    (hsh : (w0.forCall (fun _ _ => 0) ⟨#[], args, []⟩).Shaped C.prog)
    (hok : Input.okWideB C.prog (w0.forCall (fun _ _ => 0) ⟨#[], args, []⟩) f ⟨#[], args, []⟩ = true)
    (hrow : s.preRow enc C.prog fn conds apart laid (w0.forCall (fun _ _ => 0) ⟨#[], args, []⟩).memory args) :
    ∃ (w : World) (tape : Tape) (i : Input), w.os = os ∧ (w.forCall tape i).Shaped C.prog ∧ i.vars = [] ∧ Input.okWide C.prog (w.forCall tape i) .any w.heap.size f i ∧
      s.preRow enc C.prog fn conds apart laid (w.forCall tape i).memory i.args ∧ ({ modest := modest } : Assume).holds C.prog (lone (Frame.enter C.prog f i.args .normal) [] (w.forCall tape i)) :=
  ⟨w0, fun _ _ => 0, ⟨#[], args, []⟩, hos, hsh, (Input.okWide_of_okWideB (base := 0) hok).1, (Input.okWide_of_okWideB hok).2, hrow, by
    simp only [Assume.holds]
    exact ⟨by simp, by simp, fun _ => Modest.zero, by simp, by simp⟩⟩
end
end Go.Proofs.YtioeliocdbckbaaGreatDoor
