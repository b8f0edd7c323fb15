/- Texts laid one behind the other: Home, Shelf, Whole, Laid, ReadSpec, ReadLib, ReadMaps, RPolCheck, ReadSt. No condition beyond theirs. -/
import Derived.Test.YtioeliocdbckbaaDoorK3
import Derived.Shelf.Small.Bits
import Derived.Shelf.Small.Wraps
import Derived.Shelf.Utf8.RuneCount
import Derived.Shelf.Strconv.Itoa0
import Derived.Shelf.Strconv.Itoa1
import Derived.Shelf.LaysM
import Derived.Shelf.Strconv.Itoa2
import Derived.Shelf.Strconv.Itoa3
import Derived.Shelf.Strconv.Itoa4
import Derived.Shelf.Strconv.ParseIntEmpty
import Derived.Shelf.Strconv.Clone
import Derived.Shelf.Strconv.SyntaxError
import Derived.Shelf.LaysC
import Derived.Shelf.Strconv.ToError
import Derived.Shelf.Strconv.Lower
import Derived.Shelf.Strconv.ParseUint10
import Derived.Shelf.Strconv.ParseUint10Empty
import Derived.Shelf.Strconv.ParseUint10Any
import Derived.Shelf.Strconv.ParseInt10
import Derived.Shelf.Strconv.RangeError
import Derived.Shelf.Strconv.ToErrorRange
import Derived.Shelf.Strconv.ParseUintEmpty
import Derived.Shelf.Strconv.ParseUint10b64
import Derived.Shelf.Strconv.ParseUint10b32
import Derived.Shelf.Strconv.ParseUint10b16
import Derived.Shelf.Strconv.ParseUint10b8
import Derived.Shelf.Strconv.ParseUint10At
import Derived.Shelf.Strconv.ParseInt10At64
import Derived.Shelf.Strconv.ParseInt10At32
import Derived.Shelf.Strconv.ParseInt10At16
import Derived.Shelf.Strconv.ParseInt10At8
import Derived.Shelf.Strconv.ParseInt10All
import Derived.Shelf.Strconv.ParseIntPublic10
import Derived.Shelf.Strconv.ErrVarParseInt
import Derived.Shelf.Strings.Search1
import Derived.Shelf.Strings.Search2
import Derived.Shelf.Strings.Search3
import Derived.Shelf.Strings.Cut
import Derived.Shelf.Strings.Count
import Derived.Shelf.Strings.Shaped
import Derived.Shelf.Sort.Plain
import Derived.Shelf.Strings.Split
import Derived.Shelf.Strings.SplitShaped
import Derived.Shelf.Unicode.Decode
import Derived.Shelf.Strings.RuneCount
import Derived.Shelf.Strings.Explode
import Derived.Shelf.Unicode.DecodeSlow
import Derived.Shelf.Unicode.DecodeAny
import Derived.Shelf.Slices.Equal
import Derived.Ground.Names2Prog
import Derived.Shelf.Slices.Clone
import Derived.Shelf.Slices.CompactI
import Derived.Shelf.Slices.SearchI
import Derived.Shelf.Slices.Cells
import Derived.Shelf.Slices.In.SortNone
import Derived.Ground.SlgnProg
import Derived.Shelf.SlicesE.Clone
import Derived.Test.YtioeliocdbckbaaDoorProg
import Derived.Lib.ParseIntB
import Derived.Lib.ItoaMem
import Derived.Test.YtioeliocdbckbaaDoorK2
import Derived.Test.YtioeliocdbckbaaDoorK1
import Derived.Lib.SmallJoins
import Derived.Lib.QuietBelow
import Derived.KernelRfl
import Derived.Lib.Split
import Derived.Lib.SplitLaws
import Derived.Laws.ResultCell
namespace Go.Proofs.YtioeliocdbckbaaDoor
open Go.RowKit

/-- chapter 6's Home, errors too. -/
def homeE (l : List TPol) (x : TCall) : TCall × Int := if callE x ≠ 0 then (⟨0, 0, 0, 0, 0⟩, callE x) else if polsE l ≠ 0 then (⟨0, 0, 0, 0, 0⟩, polsE l) else (homeOf l x, 0)
def homeTo (l : List TPol) (x : TCall) : Nat → TCall
  | 0 => x
  | k + 1 => (homeTo l x k).set k (homeCut l k (x.get k))
theorem homeTo_5 (l : List TPol) (x : TCall) : homeTo l x 5 = homeOf l x := rfl
theorem homeTo_get (l : List TPol) (x : TCall) (k : Nat) (h : k < 5) : (homeTo l x k).get k = x.get k := by
  match k, h with
  | 0, _ => rfl
  | 1, _ => rfl
  | 2, _ => rfl
  | 3, _ => rfl
  | 4, _ => rfl
theorem cloneI_any (v : Value) (l : List Int) (D : Nat → Prop) (w : World) (h : RdInts w D v l) (hl : 0 < l.length) (hn : l.length * 8 ≤ 140737488355328) :
    Calls Tryd.prog 28 #[v] w fun e w' => ∃ v', e = .returned v' ∧ OwnSl w' w.heap.size 3 1 intR v' l ∧ Below w.heap.size w w' := by
  obtain ⟨a, c, rfl, hlc, hcm, hat⟩ := Sl.form h
  obtain ⟨b, o, rfl, _, _⟩ := hat hl
  refine (Tryd.slices_Clone_int b o l.length c l w (Nat.le_refl _) hn (fun j hj => ?_)).mono ?_
  · rw [RdInts.cell h hj, List.getD_eq_getElem?_getD, List.getElem?_eq_getElem hj]; rfl
  · rintro e w' ⟨v', rfl, ho, _, hb⟩
    rw [List.take_length] at ho
    exact ⟨v', rfl, OwnSl.of_ints ho, hb⟩
/-- a store at the head of a row of integers. -/
theorem OwnSl.head {w : World} {base : Nat} {e : TypeId} {n c b : Nat} {x m : Int} {l : List Int} (h : OwnSl w base e 1 intR (.slice (some ⟨b, 0, none⟩) n c) (x :: l)) : OwnSl (w.setCell ⟨b, 0, none⟩ (.int .i64 m)) base e 1 intR (.slice (some ⟨b, 0, none⟩) n c) (m :: l) := by
  obtain ⟨h1, h2⟩ := h.ints
  rcases h2 with ⟨h0, _⟩ | ⟨g, cap, cur, hv, hg, hh, hnc, hcm, hcs, htk⟩
  · cases h0
  · injection hv with ha hn hc
    injection ha with ha; injection ha with ha
    subst ha hn hc
    refine OwnSl.of_ints ⟨by simp, .inr ⟨b, c, cur.setIfInBounds 0 (.int .i64 m), by simp, hg, set_at hh, by simpa using hnc, hcm, by simp [hcs], ?_⟩⟩
    simp only [List.length_cons, Nat.mul_one, List.map_cons] at htk ⊢
    cases hcur : cur.toList with
    | nil => rw [hcur] at htk; simp at htk
    | cons y ys =>
      rw [hcur] at htk
      simp only [List.take_succ_cons, List.cons.injEq] at htk
      rw [Array.toList_setIfInBounds, hcur]
      simp only [List.set_cons_zero, List.take_succ_cons, htk.2]
theorem best_take (n : Int) (C : List Int) (k : Nat) (h : k < C.length) (b : Int) : best n (C.take (k + 1)) b = if C[k] ≤ n then C[k] else best n (C.take k) b := by
  have key : ∀ (l : List Int) (x b : Int), best n (l ++ [x]) b = if x ≤ n then x else best n l b := by
    intro l x
    induction l with
    | nil => intro b; rfl
    | cons y l ih => intro b; show (if y ≤ n then best n (l ++ [x]) y else best n (l ++ [x]) b) = _; rw [ih, ih]; show _ = if x ≤ n then x else (if y ≤ n then best n l y else best n l b); split <;> split <;> rfl
  rw [List.take_succ_eq_append_getElem h, key]
theorem best_stop (n : Int) (C : List Int) (k : Nat) (hr : Rising C) (h : k < C.length) (hgt : n < C[k]) (b : Int) : best n C b = best n (C.take k) b := by
  have key : ∀ j, k ≤ j → j ≤ C.length → best n (C.take j) b = best n (C.take k) b := by
    intro j hj
    induction hj with
    | refl => intro _; rfl
    | @step m hm ih =>
      intro hle
      have hm' : k ≤ m := hm
      have := rising_get hr h (show m < C.length by omega) hm'
      rw [best_take n C m (by omega), if_neg (by omega), ih (by omega)]
  have := key C.length (by omega) (Nat.le_refl _)
  rwa [List.take_length] at this
theorem cuts_head {l : List TPol} (h : ∀ p ∈ l, OkPol p) (f : Int) : ∃ T, cutsOf l f = 0 :: T := by
  have h0 := zero_cut l f
  have hr := rising_cuts l f
  cases hc : cutsOf l f with
  | nil => rw [hc] at h0; simp at h0
  | cons z T =>
    rw [hc] at h0 hr
    refine ⟨T, ?_⟩
    rcases List.mem_cons.1 h0 with e | e
    · rw [← e]
    · have h1 := (List.pairwise_cons.1 hr).1 _ e
      have h2 := (cuts_range h (f := f) (n := z) (by rw [hc]; exact List.mem_cons_self ..)).1
      omega
theorem setL_len (C : List TPol) (f : Int) : (cutsOf C f).length ≤ (cutVals C f).length := by
  unfold cutsOf
  refine Nat.le_trans (List.length_filter_le _ _) ?_
  have h3 : ∀ m : List Int, (setOf m).length ≤ m.length := fun m => by
    have h4 : ∀ (x : Int) (m : List Int), (insU x m).length ≤ m.length + 1 := fun x m => by
      induction m with
      | nil => simp [insU]
      | cons y m ih => unfold insU; split <;> (try split) <;> simp <;> omega
    induction m with
    | nil => simp [setOf]
    | cons x m ih => have := h4 x (setOf m); simp [setOf]; omega
  exact h3 _

set_option maxRecDepth 100000 in
set_option maxHeartbeats 8000000 in
theorem home_any (v : Value) (l : List TPol) (x : TCall) (D : Nat → Prop) (w : World) (h : RdPols w D v l) (hn : polsE l = 0 → ∀ f : Int, 0 ≤ f → f < 5 → (cutVals l f).length * 8 ≤ 140737488355328) :
    Calls Tryd.prog 9 #[v, callV x] w fun e w' => e = .returned (.tuple #[callV (homeE l x).1, .int .i64 (homeE l x).2]) ∧ Below w.heap.size w w' := by
  have H := Lib.hid h
  have Hn := Lib.hid hn
  clear h hn
  by_cases hx : callE x = 0
  · have Hx := Lib.hid hx
    go_enter Tryd.func9, Tryd.ntmps9
    go_wp2_with fail
    refine (callcheck_any x _).mono ?_
    rw [hx]
    rintro e w0 ⟨rfl, hb0⟩
    have HB0 := Lib.hid (Bx.two.below hb0)
    clear hb0 hx
    go_wp2_with fail
    go_loopw [18] (fun kv wr => ∃ k : Nat, kv = .int .i64 k ∧ k ≤ 5 ∧ (k ≠ 0 → polsE l = 0) ∧ Bx w [.cells (callArr (homeTo l x k)) 24, .cells (callArr ⟨0, 0, 0, 0, 0⟩) 24] wr) (fun kv _ => 5 - (intOf kv).toNat)
    case atStart => exact ⟨0, rfl, by omega, fun h => absurd rfl h, HB0.out⟩
    case round =>
      obtain ⟨k, rfl, hk, hp0, hbx⟩ := hrel
      have Hp0 := Lib.hid hp0
      have HB := Lib.hid hbx
      have hszr := hbx.size (i := 1) (by simp)
      clear hp0 hbx
      by_cases hlt : k < 5
      · go_wp2_with fail
        refine (cutsE_any v l k D _ (H.out.belowR HB.out.bel (fun _ _ _ ⟨u, h1, h2⟩ => ⟨u, h1, h2.below HB.out.bel⟩)) (fun h0 h1 h2 => Hn.out h0 _ h1 h2)).mono ?_
        rintro e w1 ⟨v1, rfl, ho1, hb1⟩
        have HB1 := Lib.hid (HB.out.below hb1)
        have Ho1 := Lib.hid ho1
        have hsz1 := hb1.size
        obtain ⟨a1, c1, rfl⟩ := ho1.slice
        clear ho1 hb1
        by_cases h0 : polsE l = 0
        · have H0 := Lib.hid h0
          have HE : Hid (cutsE l k = (cutsOf l k, 0)) := by
            show cutsE l k = _
            unfold cutsE
            rw [if_neg (by rw [h0]; simp), if_neg (by omega)]
          have hlen : (cutsOf l k).length * 8 ≤ 140737488355328 := by
            have h1 := Hn.out h0 k (by omega) (by omega)
            have := setL_len l k
            omega
          obtain ⟨T, hT⟩ := cuts_head ((polsE_iff l).1 h0) k
          have Ho2 : Hid (OwnSl w1 (w.heap.size + 2) 3 1 intR (.slice a1 (cutsOf l k).length c1) (0 :: T)) := by
            have := Ho1.out.base (base' := w.heap.size + 2) (by omega)
            rw [HE.out, hT] at this
            show OwnSl _ _ _ _ _ _ _
            rw [hT]
            exact this
          rw [HE.out]
          have Hr := Lib.hid (rising_cuts l k)
          obtain ⟨C, hC⟩ : ∃ C, C = cutsOf l k := ⟨_, rfl⟩
          rw [← hC] at Ho2 hlen Hr hT ⊢
          have hC0 : 0 < C.length := by rw [hT]; simp
          obtain ⟨g, rfl, hgb, hgl, _⟩ := Ho2.out.addr (by simp)
          have HT := Lib.hid hT
          have HC := Lib.hid hC
          clear h0 hC hT
          go_wp2_with fail
          refine (cloneI_any _ C (fun _ => True) w1 (by have := Ho2.out.sl (D := fun _ => True) (fun _ _ => trivial); rw [← HT.out] at this; exact this) hC0 hlen).mono ?_
          rintro e w2 ⟨v2, rfl, ho2, hb2⟩
          have HB2 := Lib.hid (HB1.out.below hb2)
          have Hown2 := Lib.hid (Ho2.out.below hb2)
          have Hcl := Lib.hid ho2
          have hsz2 := hb2.size
          obtain ⟨a2, c2, rfl⟩ := ho2.slice
          obtain ⟨g2, rfl, hg2b, hg2l, _⟩ := Hcl.out.addr hC0
          clear ho2 hb2
          go_wp2_with fail
          go_loopw [34] (fun iv wr => ∃ (i : Nat), iv = .int .i64 i ∧ i ≤ C.length ∧ (∀ y ∈ C.take i, y ≤ x.get k) ∧ Bx w [.cells (callArr (homeTo l x k)) 24, .cells (callArr ⟨0, 0, 0, 0, 0⟩) 24] wr ∧ OwnSl wr (w.heap.size + 2) 3 1 intR (.slice (some ⟨g, 0, none⟩) C.length c1) (best (x.get k) (C.take i) 0 :: T) ∧ OwnSl wr w1.heap.size 3 1 intR (.slice (some ⟨g2, 0, none⟩) C.length c2) C) (fun iv _ => C.length - (intOf iv).toNat)
          case atStart => exact ⟨0, rfl, by omega, by simp, HB2.out, Hown2.out, Hcl.out⟩
          case round =>
            obtain ⟨i, rfl, hi, hall, hbx, hown, hcl⟩ := hrel
            have HBi := Lib.hid hbx
            have Howni := Lib.hid hown
            have Hcli := Lib.hid hcl
            have Hall := Lib.hid hall
            have hc0 : wr.cell? ⟨w.heap.size, k, none⟩ = some (.int .i64 (x.get k)) := by rw [HBi.out.cells0, callArr_get _ k hlt, homeTo_get l x k hlt]
            have hf0 := HBi.out.free0 k
            obtain ⟨_, hge, _, hgl', cur, hcur⟩ := Howni.out.addr (by simp)
            injection hge with hge; injection hge with hge
            subst hge
            have hb0 : RdInts wr (fun _ => True) (.slice (some ⟨g, 0, none⟩) C.length c1) (best (x.get k) (C.take i) 0 :: T) := Howni.out.sl (fun _ _ => trivial)
            have hb1 := RdInts.cell hb0 (i := 0) (by simp)
            have hbf := not_frozen hcur 0
            have hfin : Hid (∀ m, Bx w [.cells (callArr ((homeTo l x k).set k m)) 24, .cells (callArr ⟨0, 0, 0, 0, 0⟩) 24] (wr.setCell ⟨w.heap.size, k, none⟩ (.int .i64 m))) := fun m => by
              have := HBi.out.set (i := 0) rfl k (.int .i64 m)
              rw [callArr_set _ k hlt] at this
              exact this
            clear hbx hown hcl hall hcur
            have hend : best (x.get k) (C.take i) 0 = homeCut l k (x.get k) → homeTo l x (k + 1) = (homeTo l x k).set k (best (x.get k) (C.take i) 0) := fun e => by rw [e]; rfl
            have Hend := Lib.hid hend
            clear hend
            by_cases hil : i < C.length
            · have hci := RdInts.cell (Hcli.out.sl (D := fun _ => True) (fun _ _ => trivial)) hil
              rw [Nat.zero_add] at hci
              have Hbt := Lib.hid (best_take (x.get k) C i hil 0)
              have Hbs := Lib.hid (fun h => best_stop (x.get k) C i Hr.out hil h 0)
              have Hta := Lib.hid (List.take_succ_eq_append_getElem hil)
              obtain ⟨n, hn⟩ : ∃ n, C[i] = n := ⟨_, rfl⟩
              rw [hn] at hci Hbt Hbs Hta
              clear hn
              by_cases hgt : x.get k < n
              · have hd : decide (x.get k < n) = true := decide_eq_true hgt
                have HH : Hid (best (x.get k) (C.take i) 0 = homeCut l k (x.get k)) := by
                  show _ = _
                  unfold homeCut
                  rw [← HC.out, Hbs.out hgt]
                have HE2 := Lib.hid (Hend.out HH.out)
                clear hgt
                go_wp2_with fail
                go_roundw
                case rel => exact ⟨k + 1, by go_num, by omega, fun _ => H0.out, by rw [HE2.out]; exact hfin.out _⟩
                case measure => simp [intOf]; omega
              · have hd : decide (x.get k < n) = false := decide_eq_false hgt
                have HB3 : Hid (best (x.get k) (C.take (i + 1)) 0 = n) := by show _ = _; rw [Hbt.out, if_pos (by omega)]
                have Hall2 : Hid (∀ y ∈ C.take (i + 1), y ≤ x.get k) := fun y hy => by
                  rw [Hta.out] at hy
                  rcases List.mem_append.1 hy with hy | hy
                  · exact Hall.out y hy
                  · simp at hy; rw [hy]; omega
                clear hgt
                go_wp2_with fail
                go_roundw
                case rel => exact ⟨i + 1, by go_num, by omega, Hall2.out, HBi.out.lift (B := w.heap.size + 2) (set_below (Below.refl _ _) hgb) (by simp), by rw [HB3.out]; exact Howni.out.head, Hcli.out.set (by show some g2 ≠ some g; intro e; injection e with e; omega)⟩
                case measure => simp [intOf]; omega
            · obtain rfl : i = C.length := by omega
              have HH : Hid (best (x.get k) (C.take C.length) 0 = homeCut l k (x.get k)) := by
                show _ = _
                unfold homeCut
                rw [List.take_length, ← HC.out]
              have HE2 : Hid (homeTo l x (k + 1) = (homeTo l x k).set k (best (x.get k) C 0)) := by have := Hend.out HH.out; rw [List.take_length] at this; exact this
              rw [List.take_length] at hb1
              go_wp2_with fail
              go_roundw
              case rel => exact ⟨k + 1, by go_num, by omega, fun _ => H0.out, by rw [HE2.out]; exact hfin.out _⟩
              case measure => simp [intOf]; omega
        · have hk0 : k = 0 := by
            rcases Nat.eq_zero_or_pos k with h | h
            · exact h
            · exact absurd (Hp0.out (by omega)) h0
          have HE : Hid (cutsE l k = ([], polsE l)) := by show cutsE l k = _; unfold cutsE; rw [if_pos h0]
          have HP : Hid (homeE l x = (⟨0, 0, 0, 0, 0⟩, polsE l)) := by show homeE l x = _; unfold homeE; rw [if_neg (by rw [Hx.out]; simp), if_pos h0]
          have hb0 : (polsE l != 0) = true := bne_iff_ne.2 h0
          have hc1 := HB1.out.cells1
          have hf1 := HB1.out.free1
          rw [HE.out]
          clear h0
          have HBf := Lib.hid (HB1.out.setCall1 (x := ⟨0, 0, 0, 0, 0⟩) (y := ⟨0, 0, 0, 0, 0⟩))
          have hcf := HBf.out.cells1
          go_wp2
          refine bodyPost_ret (v := .tuple #[callV ⟨0, 0, 0, 0, 0⟩, .int .i64 (polsE l)]) ?_ rfl ⟨by rw [HP.out], HBf.out.bel⟩
          rw [results_cell_tmp rfl]
          go_simp
      · obtain rfl : k = 5 := by omega
        have HP : Hid (homeE l x = (homeOf l x, 0)) := by
          show homeE l x = _
          unfold homeE
          rw [if_neg (by rw [Hx.out]; simp), if_neg (by rw [Hp0.out (by omega)]; simp)]
        rw [homeTo_5] at HB
        obtain ⟨y, hy⟩ : ∃ y, homeOf l x = y := ⟨_, rfl⟩
        rw [hy] at HB HP
        have hc0 := HB.out.cells0
        have hc1 := HB.out.cells1
        have hf1 := HB.out.free1
        have HBf := Lib.hid (HB.out.setCall1 (x := ⟨0, 0, 0, 0, 0⟩) (y := y))
        have hcf := HBf.out.cells1
        clear hy
        go_wp2
        refine bodyPost_ret (v := .tuple #[callV y, .int .i64 0]) ?_ rfl ⟨by rw [HP.out], HBf.out.bel⟩
        rw [results_cell_tmp rfl]
        go_simp
  · have HP : Hid (homeE l x = (⟨0, 0, 0, 0, 0⟩, callE x)) := by show homeE l x = _; unfold homeE; rw [if_pos hx]
    have hb0 : (callE x != 0) = true := bne_iff_ne.2 hx
    clear hx
    go_enter Tryd.func9, Tryd.ntmps9
    go_wp2_with fail
    refine (callcheck_any x _).mono ?_
    rintro e w0 ⟨rfl, hb00⟩
    have HB0 := Lib.hid (Bx.two.below hb00)
    have hc1 := HB0.out.cells1
    have hf1 := HB0.out.free1
    clear hb00
    have HBf := Lib.hid (HB0.out.setCall1 (x := ⟨0, 0, 0, 0, 0⟩) (y := ⟨0, 0, 0, 0, 0⟩))
    have hcf := HBf.out.cells1
    go_wp2
    refine bodyPost_ret (v := .tuple #[callV ⟨0, 0, 0, 0, 0⟩, .int .i64 (callE x)]) ?_ rfl ⟨by rw [HP.out], HBf.out.bel⟩
    rw [results_cell_tmp rfl]
    go_simp
end Go.Proofs.YtioeliocdbckbaaDoor
namespace Go.Proofs
open Go.Shelf
def Tryd.laysM173_ren : Go.Shelf.Ren := ⟨fun | 173 => 71 | 246 => 83 | 283 => 97 | 284 => 98 | 285 => 99 | 286 => 100 | 129 => 66 | 317 => 109 | 318 => 110 | 319 => 111 | 320 => 112 | 337 => 114 | 338 => 115 | n => n, fun | 2 => 2 | 3 => 3 | 9 => 9 | 4 => 4 | 171 => 138 | 0 => 0 | 53 => 107 | 37 => 140 | 5 => 5 | 173 => 141 | 212 => 152 | 51 => 105 | 20 => 20 | 213 => 153 | 46 => 83 | 232 => 162 | 233 => 163 | n => n, fun | 17 => 3 | 18 => 6 | 19 => 7 | n => n⟩
theorem Tryd.laysM173 : Go.Proofs.LaysM.n173 Tryd.prog Tryd.laysM173_ren := {
  mixed := by kernel_rfl
  f129 := Tryd.func66.trans (congrArg some (by kernel_rfl))
  f173 := Tryd.func71.trans (congrArg some (by kernel_rfl))
  f246 := Tryd.func83.trans (congrArg some (by kernel_rfl))
  f283 := Tryd.func97.trans (congrArg some (by kernel_rfl))
  f284 := Tryd.func98.trans (congrArg some (by kernel_rfl))
  f285 := Tryd.func99.trans (congrArg some (by kernel_rfl))
  f286 := Tryd.func100.trans (congrArg some (by kernel_rfl))
  f317 := Tryd.func109.trans (congrArg some (by kernel_rfl))
  f318 := Tryd.func110.trans (congrArg some (by kernel_rfl))
  f319 := Tryd.func111.trans (congrArg some (by kernel_rfl))
  f320 := Tryd.func112.trans (congrArg some (by kernel_rfl))
  f337 := Tryd.func114.trans (congrArg some (by kernel_rfl))
  f338 := Tryd.func115.trans (congrArg some (by kernel_rfl))
  t0 := Tryd.underlying0
  a0 := Tryd.isAgg0
  z0 := Tryd.sizeOf0
  v0 := Tryd.zeroValue0
  t2 := Tryd.underlying2
  a2 := Tryd.isAgg2
  z2 := Tryd.sizeOf2
  v2 := Tryd.zeroValue2
  t3 := Tryd.underlying3
  a3 := Tryd.isAgg3
  z3 := Tryd.sizeOf3
  v3 := Tryd.zeroValue3
  t4 := Tryd.underlying4
  a4 := Tryd.isAgg4
  z4 := Tryd.sizeOf4
  v4 := Tryd.zeroValue4
  t5 := Tryd.underlying5
  a5 := Tryd.isAgg5
  z5 := Tryd.sizeOf5
  v5 := Tryd.zeroValue5
  t9 := Tryd.underlying9
  a9 := Tryd.isAgg9
  z9 := Tryd.sizeOf9
  v9 := Tryd.zeroValue9
  t20 := Tryd.underlying20
  a20 := Tryd.isAgg20
  z20 := Tryd.sizeOf20
  v20 := Tryd.zeroValue20
  t37 := Tryd.underlying140
  a37 := Tryd.isAgg140
  z37 := Tryd.sizeOf140
  v37 := Tryd.zeroValue140
  t46 := Tryd.underlying83
  a46 := Tryd.isAgg83
  z46 := Tryd.sizeOf83
  v46 := Tryd.zeroValue83
  t51 := Tryd.underlying105
  a51 := Tryd.isAgg105
  z51 := Tryd.sizeOf105
  v51 := Tryd.zeroValue105
  t53 := Tryd.underlying107
  a53 := Tryd.isAgg107
  z53 := Tryd.sizeOf107
  v53 := Tryd.zeroValue107
  t171 := Tryd.underlying138
  a171 := Tryd.isAgg138
  z171 := Tryd.sizeOf138
  v171 := Tryd.zeroValue138
  t173 := Tryd.underlying141
  a173 := Tryd.isAgg141
  z173 := Tryd.sizeOf141
  v173 := Tryd.zeroValue141
  t212 := Tryd.underlying152
  a212 := Tryd.isAgg152
  z212 := Tryd.sizeOf152
  v212 := Tryd.zeroValue152
  t213 := Tryd.underlying153
  a213 := Tryd.isAgg153
  z213 := Tryd.sizeOf153
  t232 := Tryd.underlying162
  a232 := Tryd.isAgg162
  z232 := Tryd.sizeOf162
  v232 := Tryd.zeroValue162
  t233 := Tryd.underlying163
  a233 := Tryd.isAgg163
  z233 := Tryd.sizeOf163
  v233 := Tryd.zeroValue163
  g17 := by kernel_rfl
  g18 := by kernel_rfl
  g19 := by kernel_rfl
  i0 := by kernel_rfl
  i2 := by kernel_rfl
  i3 := by kernel_rfl
  i4 := by kernel_rfl
  i5 := by kernel_rfl
  i9 := by kernel_rfl
  i20 := by kernel_rfl
  i37 := by kernel_rfl
  i46 := by kernel_rfl
  i51 := by kernel_rfl
  i53 := by kernel_rfl
  i171 := by kernel_rfl
  i173 := by kernel_rfl
  i212 := by kernel_rfl
  i232 := by kernel_rfl
  i233 := by kernel_rfl
  m17 := by kernel_rfl
  m18 := by kernel_rfl
  m19 := by kernel_rfl }
open Go.RowKit Go.Sort Go.Lib in
theorem Tryd.strconv_FormatInt_10 (n : Int) (h0 : -9223372036854775808 ≤ n) (h1 : n ≤ 9223372036854775807) (w : World) (htab : Lib.TabIs Tryd.prog w "internal/strconv.uint64pow10" .u64 Lib.pow10Tab) :
    Calls Tryd.prog 71 #[.int .i64 n, .int .i64 10] w fun e w' => e = .returned (.string ⟨(Lib.itoa n).toArray⟩) ∧ ∃ k os, w' = grow (w.drewN k) os := Any.strconv_FormatInt_10 Tryd.laysM173 n h0 h1 w htab
def Tryd.laysC174_ren : Go.Shelf.Ren := ⟨fun | 174 => 70 | 247 => 81 | 245 => 82 | 287 => 92 | 279 => 93 | 280 => 94 | 281 => 95 | 282 => 96 | 321 => 104 | 322 => 105 | 316 => 106 | 171 => 108 | 205 => 107 | 243 => 113 | 246 => 83 | 283 => 97 | 284 => 98 | 285 => 99 | 286 => 100 | 129 => 66 | 317 => 109 | 318 => 110 | 319 => 111 | 320 => 112 | 337 => 114 | 338 => 115 | n => n, fun | 9 => 9 | 3 => 3 | 2 => 2 | 75 => 111 | 85 => 112 | 4 => 4 | 167 => 131 | 5 => 5 | 53 => 107 | 175 => 132 | 46 => 83 | 168 => 134 | 37 => 140 | 0 => 0 | 210 => 149 | 21 => 21 | 127 => 158 | 145 => 161 | 143 => 159 | 171 => 138 | 173 => 141 | 212 => 152 | 51 => 105 | 20 => 20 | 213 => 153 | 232 => 162 | 233 => 163 | 80 => 164 | n => n, fun | 15 => 1 | 16 => 2 | 17 => 3 | 18 => 6 | 19 => 7 | n => n⟩
theorem Tryd.laysC174 : Go.Proofs.LaysC.n174 Tryd.prog Tryd.laysC174_ren := {
  mixed := by kernel_rfl
  f129 := Tryd.func66.trans (congrArg some (by kernel_rfl))
  f171 := Tryd.func108.trans (congrArg some (by kernel_rfl))
  f174 := Tryd.func70.trans (congrArg some (by kernel_rfl))
  f205 := Tryd.func107.trans (congrArg some (by kernel_rfl))
  f243 := Tryd.func113.trans (congrArg some (by kernel_rfl))
  f245 := Tryd.func82.trans (congrArg some (by kernel_rfl))
  f246 := Tryd.func83.trans (congrArg some (by kernel_rfl))
  f247 := Tryd.func81.trans (congrArg some (by kernel_rfl))
  f279 := Tryd.func93.trans (congrArg some (by kernel_rfl))
  f280 := Tryd.func94.trans (congrArg some (by kernel_rfl))
  f281 := Tryd.func95.trans (congrArg some (by kernel_rfl))
  f282 := Tryd.func96.trans (congrArg some (by kernel_rfl))
  f283 := Tryd.func97.trans (congrArg some (by kernel_rfl))
  f284 := Tryd.func98.trans (congrArg some (by kernel_rfl))
  f285 := Tryd.func99.trans (congrArg some (by kernel_rfl))
  f286 := Tryd.func100.trans (congrArg some (by kernel_rfl))
  f287 := Tryd.func92.trans (congrArg some (by kernel_rfl))
  f316 := Tryd.func106.trans (congrArg some (by kernel_rfl))
  f317 := Tryd.func109.trans (congrArg some (by kernel_rfl))
  f318 := Tryd.func110.trans (congrArg some (by kernel_rfl))
  f319 := Tryd.func111.trans (congrArg some (by kernel_rfl))
  f320 := Tryd.func112.trans (congrArg some (by kernel_rfl))
  f321 := Tryd.func104.trans (congrArg some (by kernel_rfl))
  f322 := Tryd.func105.trans (congrArg some (by kernel_rfl))
  f337 := Tryd.func114.trans (congrArg some (by kernel_rfl))
  f338 := Tryd.func115.trans (congrArg some (by kernel_rfl))
  t0 := Tryd.underlying0
  a0 := Tryd.isAgg0
  z0 := Tryd.sizeOf0
  v0 := Tryd.zeroValue0
  t2 := Tryd.underlying2
  a2 := Tryd.isAgg2
  z2 := Tryd.sizeOf2
  v2 := Tryd.zeroValue2
  t3 := Tryd.underlying3
  a3 := Tryd.isAgg3
  z3 := Tryd.sizeOf3
  v3 := Tryd.zeroValue3
  t4 := Tryd.underlying4
  a4 := Tryd.isAgg4
  z4 := Tryd.sizeOf4
  v4 := Tryd.zeroValue4
  t5 := Tryd.underlying5
  a5 := Tryd.isAgg5
  z5 := Tryd.sizeOf5
  v5 := Tryd.zeroValue5
  t9 := Tryd.underlying9
  a9 := Tryd.isAgg9
  z9 := Tryd.sizeOf9
  v9 := Tryd.zeroValue9
  t20 := Tryd.underlying20
  a20 := Tryd.isAgg20
  z20 := Tryd.sizeOf20
  v20 := Tryd.zeroValue20
  t21 := Tryd.underlying21
  a21 := Tryd.isAgg21
  z21 := Tryd.sizeOf21
  v21 := Tryd.zeroValue21
  t37 := Tryd.underlying140
  a37 := Tryd.isAgg140
  z37 := Tryd.sizeOf140
  v37 := Tryd.zeroValue140
  t46 := Tryd.underlying83
  a46 := Tryd.isAgg83
  z46 := Tryd.sizeOf83
  v46 := Tryd.zeroValue83
  t51 := Tryd.underlying105
  a51 := Tryd.isAgg105
  z51 := Tryd.sizeOf105
  v51 := Tryd.zeroValue105
  t53 := Tryd.underlying107
  a53 := Tryd.isAgg107
  z53 := Tryd.sizeOf107
  v53 := Tryd.zeroValue107
  t75 := Tryd.underlying111
  a75 := Tryd.isAgg111
  z75 := Tryd.sizeOf111
  v75 := Tryd.zeroValue111
  t85 := Tryd.underlying112
  a85 := Tryd.isAgg112
  z85 := Tryd.sizeOf112
  v85 := Tryd.zeroValue112
  t127 := Tryd.underlying158
  a127 := Tryd.isAgg158
  z127 := Tryd.sizeOf158
  v127 := Tryd.zeroValue158
  t143 := Tryd.underlying159
  a143 := Tryd.isAgg159
  z143 := Tryd.sizeOf159
  v143 := Tryd.zeroValue159
  t145 := Tryd.underlying161
  a145 := Tryd.isAgg161
  z145 := Tryd.sizeOf161
  v145 := Tryd.zeroValue161
  t167 := Tryd.underlying131
  a167 := Tryd.isAgg131
  z167 := Tryd.sizeOf131
  v167 := Tryd.zeroValue131
  t168 := Tryd.underlying134
  a168 := Tryd.isAgg134
  z168 := Tryd.sizeOf134
  v168 := Tryd.zeroValue134
  t171 := Tryd.underlying138
  a171 := Tryd.isAgg138
  z171 := Tryd.sizeOf138
  v171 := Tryd.zeroValue138
  t173 := Tryd.underlying141
  a173 := Tryd.isAgg141
  z173 := Tryd.sizeOf141
  v173 := Tryd.zeroValue141
  t175 := Tryd.underlying132
  a175 := Tryd.isAgg132
  z175 := Tryd.sizeOf132
  v175 := Tryd.zeroValue132
  t210 := Tryd.underlying149
  a210 := Tryd.isAgg149
  z210 := Tryd.sizeOf149
  v210 := Tryd.zeroValue149
  t212 := Tryd.underlying152
  a212 := Tryd.isAgg152
  z212 := Tryd.sizeOf152
  v212 := Tryd.zeroValue152
  t213 := Tryd.underlying153
  a213 := Tryd.isAgg153
  z213 := Tryd.sizeOf153
  t232 := Tryd.underlying162
  a232 := Tryd.isAgg162
  z232 := Tryd.sizeOf162
  v232 := Tryd.zeroValue162
  t233 := Tryd.underlying163
  a233 := Tryd.isAgg163
  z233 := Tryd.sizeOf163
  v233 := Tryd.zeroValue163
  g15 := by kernel_rfl
  g16 := by kernel_rfl
  g17 := by kernel_rfl
  g18 := by kernel_rfl
  g19 := by kernel_rfl
  t80 := Tryd.underlying164
  a80 := Tryd.isAgg164
  z80 := Tryd.sizeOf164
  v80 := Tryd.zeroValue164
  i0 := by kernel_rfl
  i2 := by kernel_rfl
  i3 := by kernel_rfl
  i4 := by kernel_rfl
  i5 := by kernel_rfl
  i9 := by kernel_rfl
  i20 := by kernel_rfl
  i21 := by kernel_rfl
  i37 := by kernel_rfl
  i46 := by kernel_rfl
  i51 := by kernel_rfl
  i53 := by kernel_rfl
  i75 := by kernel_rfl
  i80 := by kernel_rfl
  i85 := by kernel_rfl
  i127 := by kernel_rfl
  i143 := by kernel_rfl
  i145 := by kernel_rfl
  i167 := by kernel_rfl
  i168 := by kernel_rfl
  i171 := by kernel_rfl
  i173 := by kernel_rfl
  i175 := by kernel_rfl
  i210 := by kernel_rfl
  i212 := by kernel_rfl
  i232 := by kernel_rfl
  i233 := by kernel_rfl
  m15 := by kernel_rfl
  m16 := by kernel_rfl
  m17 := by kernel_rfl
  m18 := by kernel_rfl
  m19 := by kernel_rfl
  c0 := by kernel_rfl
  c2 := by kernel_rfl
  c3 := by kernel_rfl
  c4 := by kernel_rfl
  c5 := by kernel_rfl
  c9 := by kernel_rfl
  c20 := by kernel_rfl
  c21 := by kernel_rfl
  c37 := by kernel_rfl
  c46 := by kernel_rfl
  c51 := by kernel_rfl
  c53 := by kernel_rfl
  c75 := by kernel_rfl
  c80 := by kernel_rfl
  c85 := by kernel_rfl
  c127 := by kernel_rfl
  c143 := by kernel_rfl
  c145 := by kernel_rfl
  c167 := by kernel_rfl
  c168 := by kernel_rfl
  c171 := by kernel_rfl
  c173 := by kernel_rfl
  c175 := by kernel_rfl
  c210 := by kernel_rfl
  c212 := by kernel_rfl
  c213 := by kernel_rfl
  c232 := by kernel_rfl
  c233 := by kernel_rfl }
open Go.RowKit in
theorem Tryd.strconv_ParseInt_10_at64_ok (s : ByteArray) (hmax : s.size ≤ 9223372036854775806) (v : Int) (h : Lib.parseIntB 64 s.data.toList = .ok v) (w : World) :
    Calls Tryd.prog 70 #[.string s, .int .i64 10, .int .i64 64] w fun e w' => e = .returned (.tuple #[.int .i64 v, .nilIface]) ∧ (w' = w ∨ ∃ t, w' = Lib.bytesWorld w 5 t) := Any.strconv_ParseInt_10_at64_ok Tryd.laysC174 s hmax v h w
open Go.RowKit in
theorem Tryd.strconv_ParseInt_10_at64_range (s : ByteArray) (hlim : s.size ≤ 281474976710656) (h : Lib.parseIntB 64 s.data.toList = .range) (ev : Value) (w : World) (hv : w.cell? ⟨2, 0, none⟩ = some ev) (hev : ev = .nilIface ∨ ∃ te pe, ev = .iface te pe) :
    Calls Tryd.prog 70 #[.string s, .int .i64 10, .int .i64 64] w fun e w' => ∃ N, e = .returned (.tuple #[.int .i64 (Lib.intSat 64 s.data.toList), .iface 134 (.pointer (some ⟨N, 0, none⟩))]) ∧ w.heap.size ≤ N ∧ w'.heap[N]? = some (.cells #[.string ⟨#[80, 97, 114, 115, 101, 73, 110, 116]⟩, .string s, ev] 149 (0, 0)) ∧ Below w.heap.size w w' := Any.strconv_ParseInt_10_at64_range Tryd.laysC174 s hlim h ev w hv hev
def Tryd.lays145_ren : Go.Shelf.Ren := ⟨fun | 145 => 53 | 220 => 68 | 219 => 77 | 217 => 85 | 225 => 86 | 224 => 87 | 267 => 88 | 266 => 101 | 314 => 102 | n => n, fun | 9 => 9 | 4 => 4 | 59 => 91 | 3 => 3 | 5 => 5 | 46 => 83 | 146 => 143 | 51 => 105 | n => n, fun | 1 => 0 | n => n⟩
theorem Tryd.lays145 : Go.Proofs.Lays.n145 Tryd.prog Tryd.lays145_ren := {
  mixed := by kernel_rfl
  f145 := Tryd.func53.trans (congrArg some (by kernel_rfl))
  f217 := Tryd.func85.trans (congrArg some (by kernel_rfl))
  f219 := Tryd.func77.trans (congrArg some (by kernel_rfl))
  f220 := Tryd.func68.trans (congrArg some (by kernel_rfl))
  f224 := Tryd.func87.trans (congrArg some (by kernel_rfl))
  f225 := Tryd.func86.trans (congrArg some (by kernel_rfl))
  f266 := Tryd.func101.trans (congrArg some (by kernel_rfl))
  f267 := Tryd.func88.trans (congrArg some (by kernel_rfl))
  f314 := Tryd.func102.trans (congrArg some (by kernel_rfl))
  t3 := Tryd.underlying3
  a3 := Tryd.isAgg3
  z3 := Tryd.sizeOf3
  v3 := Tryd.zeroValue3
  t4 := Tryd.underlying4
  a4 := Tryd.isAgg4
  z4 := Tryd.sizeOf4
  v4 := Tryd.zeroValue4
  t5 := Tryd.underlying5
  a5 := Tryd.isAgg5
  z5 := Tryd.sizeOf5
  v5 := Tryd.zeroValue5
  t9 := Tryd.underlying9
  a9 := Tryd.isAgg9
  z9 := Tryd.sizeOf9
  v9 := Tryd.zeroValue9
  t46 := Tryd.underlying83
  a46 := Tryd.isAgg83
  z46 := Tryd.sizeOf83
  v46 := Tryd.zeroValue83
  t51 := Tryd.underlying105
  a51 := Tryd.isAgg105
  z51 := Tryd.sizeOf105
  v51 := Tryd.zeroValue105
  t59 := Tryd.underlying91
  a59 := Tryd.isAgg91
  z59 := Tryd.sizeOf91
  v59 := Tryd.zeroValue91
  t146 := Tryd.underlying143
  a146 := Tryd.isAgg143
  z146 := Tryd.sizeOf143
  v146 := Tryd.zeroValue143
  g1 := by kernel_rfl }
open Go.RowKit Go.Lib in
theorem Tryd.strings_Cut (s sep : ByteArray) (m : Int) (w : World) (hs : s.size < 4294967281) (hm : w.cell? ⟨0, 0, none⟩ = some (.int .i64 m)) :
    Calls Tryd.prog 53 #[.string s, .string sep] w fun e w' => e = .returned (.tuple #[.string ⟨(Lib.cut s.data.toList sep.data.toList).1.toArray⟩, .string ⟨(Lib.cut s.data.toList sep.data.toList).2.1.toArray⟩, .bool (Lib.cut s.data.toList sep.data.toList).2.2]) ∧ ∃ n, w' = w.drewN n := Any.strings_Cut Tryd.lays145 s sep m w hs hm
def Tryd.lays146_ren : Go.Shelf.Ren := ⟨fun | 146 => 54 | 221 => 69 | 268 => 78 | 138 => 79 | 143 => 80 | 195 => 89 | 197 => 90 | 218 => 91 | 219 => 77 | 260 => 103 | 217 => 85 | 225 => 86 | 224 => 87 | 267 => 88 | 266 => 101 | 314 => 102 | n => n, fun | 9 => 9 | 31 => 93 | 3 => 3 | 4 => 4 | 0 => 0 | 105 => 129 | 21 => 21 | 5 => 5 | 46 => 83 | 119 => 154 | 139 => 157 | 138 => 156 | 146 => 143 | 51 => 105 | n => n, fun | 1 => 0 | 3 => 4 | 4 => 5 | n => n⟩
theorem Tryd.lays146 : Go.Proofs.Lays.n146 Tryd.prog Tryd.lays146_ren := {
  mixed := by kernel_rfl
  f138 := Tryd.func79.trans (congrArg some (by kernel_rfl))
  f143 := Tryd.func80.trans (congrArg some (by kernel_rfl))
  f146 := Tryd.func54.trans (congrArg some (by kernel_rfl))
  f195 := Tryd.func89.trans (congrArg some (by kernel_rfl))
  f197 := Tryd.func90.trans (congrArg some (by kernel_rfl))
  f217 := Tryd.func85.trans (congrArg some (by kernel_rfl))
  f218 := Tryd.func91.trans (congrArg some (by kernel_rfl))
  f219 := Tryd.func77.trans (congrArg some (by kernel_rfl))
  f221 := Tryd.func69.trans (congrArg some (by kernel_rfl))
  f224 := Tryd.func87.trans (congrArg some (by kernel_rfl))
  f225 := Tryd.func86.trans (congrArg some (by kernel_rfl))
  f260 := Tryd.func103.trans (congrArg some (by kernel_rfl))
  f266 := Tryd.func101.trans (congrArg some (by kernel_rfl))
  f267 := Tryd.func88.trans (congrArg some (by kernel_rfl))
  f268 := Tryd.func78.trans (congrArg some (by kernel_rfl))
  f314 := Tryd.func102.trans (congrArg some (by kernel_rfl))
  t0 := Tryd.underlying0
  a0 := Tryd.isAgg0
  z0 := Tryd.sizeOf0
  v0 := Tryd.zeroValue0
  t3 := Tryd.underlying3
  a3 := Tryd.isAgg3
  z3 := Tryd.sizeOf3
  v3 := Tryd.zeroValue3
  t4 := Tryd.underlying4
  a4 := Tryd.isAgg4
  z4 := Tryd.sizeOf4
  v4 := Tryd.zeroValue4
  t5 := Tryd.underlying5
  a5 := Tryd.isAgg5
  z5 := Tryd.sizeOf5
  v5 := Tryd.zeroValue5
  t9 := Tryd.underlying9
  a9 := Tryd.isAgg9
  z9 := Tryd.sizeOf9
  v9 := Tryd.zeroValue9
  t21 := Tryd.underlying21
  a21 := Tryd.isAgg21
  z21 := Tryd.sizeOf21
  v21 := Tryd.zeroValue21
  t31 := Tryd.underlying93
  a31 := Tryd.isAgg93
  z31 := Tryd.sizeOf93
  v31 := Tryd.zeroValue93
  t46 := Tryd.underlying83
  a46 := Tryd.isAgg83
  z46 := Tryd.sizeOf83
  v46 := Tryd.zeroValue83
  t51 := Tryd.underlying105
  a51 := Tryd.isAgg105
  z51 := Tryd.sizeOf105
  v51 := Tryd.zeroValue105
  t105 := Tryd.underlying129
  a105 := Tryd.isAgg129
  z105 := Tryd.sizeOf129
  v105 := Tryd.zeroValue129
  t119 := Tryd.underlying154
  a119 := Tryd.isAgg154
  z119 := Tryd.sizeOf154
  t138 := Tryd.underlying156
  a138 := Tryd.isAgg156
  z138 := Tryd.sizeOf156
  v138 := Tryd.zeroValue156
  t139 := Tryd.underlying157
  a139 := Tryd.isAgg157
  z139 := Tryd.sizeOf157
  v139 := Tryd.zeroValue157
  t146 := Tryd.underlying143
  a146 := Tryd.isAgg143
  z146 := Tryd.sizeOf143
  v146 := Tryd.zeroValue143
  g1 := by kernel_rfl
  g3 := by kernel_rfl
  g4 := by kernel_rfl }
open Go.RowKit Go.Lib in
theorem Tryd.strings_Split (s sep : ByteArray) (m : Int) (w : World) (hs : s.size < 4294967281) (hm : w.cell? ⟨0, 0, none⟩ = some (.int .i64 m)) (h1 : 1 ≤ sep.size) :
    Calls Tryd.prog 54 #[.string s, .string sep] w fun e w' =>
      e = .returned (.slice (some ⟨w.heap.size, 0, none⟩) (Lib.countB s sep + 1) (Lib.countB s sep + 1)) ∧ w' = w.alloc (.cells ((Lib.splitB sep 0 (Lib.countB s sep) s).map Value.string).toArray 9) := Any.strings_Split Tryd.lays146 (by kernel_rfl) s sep m w hs hm h1
end Go.Proofs
namespace Go.Proofs.YtioeliocdbckbaaDoor

/-- a whole number of a word, and is it one? -/
def wholeS (l : List UInt8) : Int × Bool := match Lib.parseIntB 64 l with
  | .ok v => (v, Lib.itoa v == l)
  | .range => (Lib.intSat 64 l, false)
  | _ => (0, false)
theorem parse_in {l : List UInt8} {v : Int} (h : Lib.parseIntB 64 l = .ok v) : -9223372036854775808 ≤ v ∧ v ≤ 9223372036854775807 := by
  unfold Lib.parseIntB at h
  split at h
  · cases h
  · rename_i c r
    dsimp only at h
    split at h
    · cases h
    · cases h
    · rename_i u _
      split at h
      · cases h
      · rename_i h1
        split at h
        · cases h
        · rename_i h2
          injection h with h
          subst h
          simp only [Nat.reducePow, Nat.reduceSub] at h1 h2
          split <;> rename_i hn <;> simp [hn] at h1 h2 <;> omega

/-! ### numerals -/
def valOf (acc : Nat) (l : List UInt8) : Nat := l.foldl (fun a c => a * 10 + (c.toNat - 48)) acc
theorem valOf_ge : ∀ (l : List UInt8) (acc : Nat), acc ≤ valOf acc l
  | [], _ => Nat.le_refl _
  | c :: r, acc => by
    have := valOf_ge r (acc * 10 + (c.toNat - 48))
    show acc ≤ valOf (acc * 10 + (c.toNat - 48)) r
    omega
theorem parse_val : ∀ (l : List UInt8) (acc : Nat), (∀ c ∈ l, 48 ≤ c.toNat ∧ c.toNat ≤ 57) → valOf acc l ≤ 65535 → Lib.parseUintM (2 ^ 64 - 1) acc l = .ok (valOf acc l)
  | [], _, _, _ => rfl
  | c :: r, acc, hd, hv => by
    have hc := hd c (List.mem_cons_self ..)
    have h1 : acc * 10 + (c.toNat - 48) ≤ 65535 := Nat.le_trans (valOf_ge r _) hv
    unfold Lib.parseUintM
    rw [if_pos hc, if_neg (by omega), if_neg (by omega)]
    exact parse_val r _ (fun x hx => hd x (List.mem_cons_of_mem _ hx)) hv
theorem digit_byte {d : Nat} (h : d < 10) : (UInt8.ofNat (48 + d)).toNat = 48 + d := by
  rw [UInt8.toNat_ofNat']; omega
theorem dec_digits : ∀ (n u : Nat), u ≤ n → (∀ c ∈ Lib.decDigits u, 48 ≤ c.toNat ∧ c.toNat ≤ 57) ∧ valOf 0 (Lib.decDigits u) = u ∧ Lib.decDigits u ≠ []
  | 0, u, h => by
    obtain rfl : u = 0 := by omega
    rw [Lib.decDigits_one (by omega)]
    refine ⟨fun c hc => ?_, by simp [valOf], by simp⟩
    simp only [List.mem_singleton] at hc
    subst hc
    rw [digit_byte (by omega)]; omega
  | n + 1, u, h => by
    by_cases hu : u < 10
    · rw [Lib.decDigits_one hu]
      refine ⟨fun c hc => ?_, ?_, by simp⟩
      · simp only [List.mem_singleton] at hc
        subst hc
        rw [digit_byte hu]; omega
      · simp only [valOf, List.foldl_cons, List.foldl_nil]
        rw [digit_byte hu]; omega
    · obtain ⟨h1, h2, h3⟩ := dec_digits n (u / 10) (by omega)
      rw [Lib.decDigits, dif_neg hu]
      refine ⟨fun c hc => ?_, ?_, by simp⟩
      · rcases List.mem_append.1 hc with hc | hc
        · exact h1 c hc
        · simp only [List.mem_singleton] at hc
          subst hc
          rw [digit_byte (by omega)]; omega
      · unfold valOf at h2 ⊢
        rw [List.foldl_append, h2]
        simp only [List.foldl_cons, List.foldl_nil]
        rw [digit_byte (by omega)]; omega
theorem itoa_digits {v : Int} (h0 : 0 ≤ v) : (∀ c ∈ Lib.itoa v, 48 ≤ c.toNat ∧ c.toNat ≤ 57) ∧ Lib.itoa v ≠ [] := by
  unfold Lib.itoa
  rw [if_neg (by omega)]
  have := dec_digits v.toNat v.toNat (Nat.le_refl _)
  exact ⟨this.1, this.2.2⟩
theorem parse_itoa {v : Int} (h0 : 0 ≤ v) (h1 : v ≤ 65535) : Lib.parseIntB 64 (Lib.itoa v) = .ok v := by
  obtain ⟨n, rfl⟩ := Int.eq_ofNat_of_zero_le h0
  rw [Lib.itoa_nonneg]
  obtain ⟨hd, hv, hne⟩ := dec_digits n n (Nat.le_refl _)
  have hp := parse_val (Lib.decDigits n) 0 hd (by rw [hv]; omega)
  rw [hv] at hp
  cases hl : Lib.decDigits n with
  | nil => exact absurd hl hne
  | cons c r =>
    rw [hl] at hd hp
    have hc := hd c (List.mem_cons_self ..)
    have hs : ¬ (c.toNat = 43 ∨ c.toNat = 45) := by omega
    have hn : ¬ c.toNat = 45 := by omega
    unfold Lib.parseIntB
    dsimp only
    rw [if_neg hs]
    have hu : Lib.parseUintB 64 (c :: r) = .ok n := by
      unfold Lib.parseUintB
      rw [if_neg (by simp)]
      exact hp
    rw [hu]
    simp only [hn, not_false_eq_true, true_and, false_and, if_false]
    rw [if_neg (by simp only [Nat.reducePow, Nat.reduceSub]; omega)]
theorem whole_itoa {v : Int} (h0 : 0 ≤ v) (h1 : v ≤ 65535) : wholeS (Lib.itoa v) = (v, true) := by
  unfold wholeS
  rw [parse_itoa h0 h1]
  simp
theorem whole_some {l : List UInt8} (h : (wholeS l).2 = true) : l = Lib.itoa (wholeS l).1 := by
  unfold wholeS at h ⊢
  split at h
  · exact (beq_iff_eq.1 h).symm
  · cases h
  · cases h
end Go.Proofs.YtioeliocdbckbaaDoor
namespace Go.Proofs.YtioeliocdbckbaaDoor
open Go.RowKit Go.Shelf
attribute [local go_sem] gives givesUpon

structure Laid (w : World) : Prop where
  ml : ∃ m : Int, w.cell? ⟨0, 0, none⟩ = some (.int .i64 m)
  pow : Lib.TabIs Tryd.prog w "internal/strconv.uint64pow10" .u64 Lib.pow10Tab
  syn : ∃ te pe, w.cell? ⟨1, 0, none⟩ = some (.iface te pe)
  rng : ∃ te pe, w.cell? ⟨2, 0, none⟩ = some (.iface te pe)
theorem Laid.below {w w' : World} (h : Laid w) (hb : Below w.heap.size w w') : Laid w' := by
  obtain ⟨⟨m, h1⟩, h2, ⟨te, pe, h3⟩, ⟨te', pe', h4⟩⟩ := h
  have st : ∀ (p : Addr) v, w.cell? p = some v → w'.cell? p = some v := fun p v hv => (hb.cell (World.block_lt_of_cell? _ _ hv)).trans hv
  exact ⟨⟨m, st _ _ h1⟩, Go.Joins.tab_stays (g := 3) (by kernel_rfl) h2 hb (Nat.le_refl _), ⟨te, pe, st _ _ h3⟩, ⟨te', pe', st _ _ h4⟩⟩

theorem below_world {w w' : World} {k : Nat} {os : Array Obj} (h : w' = Go.Sort.grow (w.drewN k) os) : Below w.heap.size w w' := by
  subst h
  exact ⟨rfl, rfl, rfl, by simp [Go.Sort.grow], fun i hi => by
    show ((w.drewN k).heap ++ os)[i]? = _
    rw [Array.getElem?_append_left (by show i < w.heap.size; omega)]
    rfl⟩

/-- strconv.ParseInt at what is no numeral. -/
theorem parse_bad (s : ByteArray) (hlim : s.size ≤ 281474976710656) (h : ∀ v, Lib.parseIntB 64 s.data.toList ≠ .ok v) (h' : Lib.parseIntB 64 s.data.toList ≠ .range) (ev : Value) (w : World) (hv : w.cell? ⟨1, 0, none⟩ = some ev) (hev : ev = .nilIface ∨ ∃ te pe, ev = .iface te pe) :
    Calls Tryd.prog 70 #[.string s, .int .i64 10, .int .i64 64] w fun e w' => ∃ t p, e = .returned (.tuple #[.int .i64 0, .iface t p]) ∧ Below w.heap.size w w' := by
  cases hp : Lib.parseIntB 64 s.data.toList
  · exact absurd hp (h _)
  · have c : Calls Tryd.prog 70 #[.string s, .int .i64 10, .int .i64 64] w _ := Any.strconv_ParseInt_10_at64_syntax Tryd.laysC174 s hlim hp ev w hv hev
    exact c.mono fun e w' ⟨N, h1, _, _, h4⟩ => ⟨_, _, h1, h4⟩
  · exact absurd hp h'
set_option maxHeartbeats 1000000 in
theorem whole_any (s : ByteArray) (w : World) (hL : Laid w) (hs : s.size ≤ 281474976710656) :
    Calls Tryd.prog 55 #[.string s] w fun e w' => e = .returned (.tuple #[.int .i64 (wholeS s.data.toList).1, .bool (wholeS s.data.toList).2]) ∧ Below w.heap.size w w' := by
  have HL := Lib.hid hL
  clear hL
  cases hp : Lib.parseIntB 64 s.data.toList
  · rename_i v
    have he : wholeS s.data.toList = (v, Lib.itoa v == s.data.toList) := by unfold wholeS; rw [hp]
    rw [he]
    have Hp := Lib.hid hp
    obtain ⟨h0, h1⟩ := parse_in hp
    clear hp he
    go_enter Tryd.func55, Tryd.ntmps55
    go_wp2_with fail
    refine (Tryd.strconv_ParseInt_10_at64_ok s (by omega) v Hp.out _).mono ?_
    rintro e w1 ⟨rfl, hw1⟩
    have hb1 : Below w.heap.size w w1 := by
      rcases hw1 with rfl | ⟨t, rfl⟩
      · exact Below.refl _ _
      · exact Go.Joins.below_bytesWorld _ _ _ _ (Nat.le_refl _)
    clear hw1
    go_wp2_with fail
    refine (Tryd.strconv_FormatInt_10 v h0 h1 w1 (HL.out.below hb1).pow).mono ?_
    rintro e w2 ⟨rfl, k, os, hw2⟩
    have hb2 := below_world hw2
    clear hw2
    go_wp2
    go_ret2
    exact ⟨by rw [← ByteArray.toList_eq]; rfl, bel_call hb1 hb2⟩
  · have he : wholeS s.data.toList = (0, false) := by unfold wholeS; rw [hp]
    rw [he]
    have h1 : Hid (∀ v, Lib.parseIntB 64 s.data.toList ≠ .ok v) := fun v => by rw [hp]; intro e; cases e
    have h2 : Hid (Lib.parseIntB 64 s.data.toList ≠ .range) := by show _ ≠ _; rw [hp]; intro e; cases e
    clear hp he
    obtain ⟨te, pe, hv⟩ := HL.out.syn
    have Hv := Lib.hid hv
    clear hv
    go_enter Tryd.func55, Tryd.ntmps55
    go_wp2_with fail
    refine (parse_bad s hs h1.out h2.out _ _ Hv.out (.inr ⟨te, pe, rfl⟩)).mono ?_
    rintro e w1 ⟨t1, p1, rfl, hb1⟩
    go_wp2
    go_ret2
    exact ⟨rfl, hb1⟩
  · have he : wholeS s.data.toList = (Lib.intSat 64 s.data.toList, false) := by unfold wholeS; rw [hp]
    rw [he]
    have Hp := Lib.hid hp
    clear hp he
    obtain ⟨te, pe, hv⟩ := HL.out.rng
    have Hv := Lib.hid hv
    clear hv
    go_enter Tryd.func55, Tryd.ntmps55
    go_wp2_with fail
    refine (Tryd.strconv_ParseInt_10_at64_range s hs Hp.out _ _ Hv.out (.inr ⟨te, pe, rfl⟩)).mono ?_
    rintro e w1 ⟨N, rfl, _, _, hb1⟩
    go_wp2
    go_ret2
    exact ⟨rfl, hb1⟩
end Go.Proofs.YtioeliocdbckbaaDoor
namespace Go.Proofs.YtioeliocdbckbaaDoor

def opOf (b : UInt8) : Int := if b = 61 then 1 else if b = 33 then 2 else if b = 60 then 3 else if b = 62 then 4 else 0
/-- the place of the first operation's sign; how long the word is: there is none. -/
def opAt : List UInt8 → Nat
  | [] => 0
  | b :: l => if opOf b = 0 then opAt l + 1 else 0
def verdictOf (l : List UInt8) : Option Int :=
  if l = [107, 105, 108, 108] then some 0 else if l = [116, 114, 97, 112] then some 1 else if l = [102, 97, 105, 108] then some 2 else if l = [108, 111, 103] then some 3 else if l = [97, 108, 108, 111, 119] then some 4 else none
def fieldOf (l : List UInt8) : Option Int :=
  if l = [110, 114] then some 0 else if l = [107, 105, 110, 100] then some 1 else if l = [97] then some 2 else if l = [98] then some 3 else if l = [99] then some 4 else none
def condOf (u : List UInt8) : Option TCond :=
  if opAt u = u.length then none else
  match fieldOf (u.take (opAt u)) with
  | none => none
  | some f => if (wholeS (u.drop (opAt u + 1))).2 then some ⟨f, opOf (u.getD (opAt u) 0), (wholeS (u.drop (opAt u + 1))).1⟩ else none
def condsOf : List (List UInt8) → Option (List TCond)
  | [] => some []
  | u :: r => match condOf u with
    | none => none
    | some c => (condsOf r).map (c :: ·)
def words (t : List UInt8) : List (List UInt8) := Lib.split t [32]
def pread : Nat → List UInt8 → Option TPol
  | 0, _ => none
  | n + 1, s => match verdictOf ((words (Lib.cut s [59]).1).headD []) with
    | none => none
    | some v =>
      if (Lib.cut s [59]).2.2 then
        match condsOf (words (Lib.cut s [59]).1).tail with
        | none => none
        | some cs => (pread n (Lib.cut s [59]).2.1).map fun p => ⟨⟨cs, v⟩ :: p.rules, p.dflt⟩
      else if 1 < (words (Lib.cut s [59]).1).length then none else some ⟨[], v⟩
/-- what is read, and the error. -/
def readP (s : List UInt8) : TPol × Int := match pread (s.length + 1) s with
  | none => (⟨[], 0⟩, 1)
  | some p => if polE p = 0 then (p, 0) else (⟨[], 0⟩, polE p)

def writtenL : List UInt8 := [107, 105, 108, 108, 32, 110, 114, 61, 51, 32, 97, 60, 53, 59, 108, 111, 103, 32, 107, 105, 110, 100, 33, 48, 59, 97, 108, 108, 111, 119]
def madeP : TPol := ⟨[⟨[⟨0, 1, 3⟩, ⟨2, 3, 5⟩], 0⟩, ⟨[⟨1, 2, 0⟩], 3⟩], 4⟩
theorem read_made : readP writtenL = (madeP, 0) := by decide +kernel

/-! ### laws for the loops -/
theorem opAt_le : ∀ u : List UInt8, opAt u ≤ u.length
  | [] => Nat.le_refl _
  | b :: l => by
    have := opAt_le l
    unfold opAt
    split <;> simp <;> omega
theorem opAt_spec : ∀ (u : List UInt8) (k : Nat), (∀ j, j < k → ∀ b, u[j]? = some b → opOf b = 0) → k ≤ u.length → (∀ b, u[k]? = some b → opOf b ≠ 0) → opAt u = k
  | [], k, _, hk, _ => by simp at hk; subst hk; rfl
  | b :: l, 0, _, _, h => by unfold opAt; rw [if_neg (h b rfl)]
  | b :: l, k + 1, h, hk, h' => by
    unfold opAt
    rw [if_pos (h 0 (by omega) b rfl), opAt_spec l k (fun j hj c hc => h (j + 1) (by omega) c (by simpa using hc)) (by simpa using hk) (fun c hc => h' c (by simpa using hc))]
theorem condsOf_drop {ws : List (List UInt8)} {j : Nat} (h : j < ws.length) : condsOf (ws.drop j) = match condOf ws[j] with
    | none => none
    | some c => (condsOf (ws.drop (j + 1))).map (c :: ·) := by
  rw [List.drop_eq_getElem_cons h]; rfl
theorem pread_step {n : Nat} {t : List UInt8} {u0 : List UInt8} {us : List (List UInt8)} (h : words (Lib.cut t [59]).1 = u0 :: us) : pread (n + 1) t = match verdictOf u0 with
    | none => none
    | some v =>
      if (Lib.cut t [59]).2.2 then
        match condsOf us with
        | none => none
        | some cs => (pread n (Lib.cut t [59]).2.1).map fun p => ⟨⟨cs, v⟩ :: p.rules, p.dflt⟩
      else if 1 < us.length + 1 then none else some ⟨[], v⟩ := by
  conv => lhs; unfold pread
  rw [h]; rfl
theorem readP_none {s : List UInt8} (h : pread (s.length + 1) s = none) : readP s = (⟨[], 0⟩, 1) := by unfold readP; rw [h]
theorem readP_some {s : List UInt8} {p : TPol} (h : pread (s.length + 1) s = some p) : readP s = if polE p = 0 then (p, 0) else (⟨[], 0⟩, polE p) := by unfold readP; rw [h]
end Go.Proofs.YtioeliocdbckbaaDoor
namespace Go.Proofs.YtioeliocdbckbaaDoor
open Go.RowKit

theorem splitB_words (t : ByteArray) : (Lib.splitB ⟨#[32]⟩ 0 (Lib.countB t ⟨#[32]⟩) t).map (·.data.toList) = words t.data.toList := by
  rw [Lib.splitB_data]; rfl
theorem splitB_sizes (sep : ByteArray) : ∀ (k : Nat) (t : ByteArray), ∀ u ∈ Lib.splitB sep 0 k t, u.size ≤ t.size
  | 0, t, u, h => by simp [Lib.splitB_zero] at h; subst h; exact Nat.le_refl _
  | k + 1, t, u, h => by
    unfold Lib.splitB at h
    split at h
    · simp at h; subst h; exact Nat.le_refl _
    · rcases List.mem_cons.1 h with h | h
      · subst h; simp [ByteArray.size_extract]; omega
      · have := splitB_sizes sep k _ u h
        simp [ByteArray.size_extract] at this; omega

theorem split_any (t : ByteArray) (w : World) (hL : Laid w) (hs : t.size < 4294967281) : Calls Tryd.prog 54 #[.string t, .string ⟨#[32]⟩] w fun e w' =>
    ∃ ws : List ByteArray, e = .returned (.slice (some ⟨w.heap.size, 0, none⟩) ws.length ws.length) ∧ w' = w.alloc (.cells (ws.map Value.string).toArray 9) ∧ ws.map (·.data.toList) = words t.data.toList ∧ 0 < ws.length ∧ ws.length ≤ t.size + 1 ∧ ∀ u ∈ ws, u.size ≤ t.size := by
  obtain ⟨m, hm⟩ := hL.ml
  refine (Tryd.strings_Split t ⟨#[32]⟩ m w hs hm (by decide)).mono ?_
  rintro e w1 ⟨rfl, rfl⟩
  have hl := Lib.splitB_all ⟨#[32]⟩ (by decide) 0 _ t rfl
  have hc := Lib.countB_le ⟨#[32]⟩ (by decide) _ t (Nat.le_refl _)
  exact ⟨_, by rw [hl], rfl, splitB_words t, by omega, by omega, splitB_sizes _ _ t⟩

theorem cut_any (t : ByteArray) (w : World) (hL : Laid w) (hs : t.size < 4294967281) : Calls Tryd.prog 53 #[.string t, .string ⟨#[59]⟩] w fun e w' =>
    ∃ (a r : ByteArray) (more : Bool), e = .returned (.tuple #[.string a, .string r, .bool more]) ∧ a.data.toList = (Lib.cut t.data.toList [59]).1 ∧ r.data.toList = (Lib.cut t.data.toList [59]).2.1 ∧ more = (Lib.cut t.data.toList [59]).2.2 ∧ a.size ≤ t.size ∧ (more = true → r.size < t.size) ∧ Below w.heap.size w w' := by
  obtain ⟨m, hm⟩ := hL.ml
  refine (Tryd.strings_Cut t ⟨#[59]⟩ m w hs hm).mono ?_
  rintro e w1 ⟨rfl, n, rfl⟩
  refine ⟨_, _, _, rfl, by simp, by simp, rfl, ?_, ?_, Go.Joins.below_draws _ _ _⟩
  · show ((Lib.cut t.data.toList [59]).1.toArray).size ≤ t.data.size
    unfold Lib.cut
    split
    · simp; omega
    · simp
  · intro h
    show ((Lib.cut t.data.toList [59]).2.1.toArray).size < t.data.size
    revert h
    show (Lib.cut t.data.toList [59]).2.2 = true → _
    unfold Lib.cut
    split
    · rename_i h0
      intro _
      have hne : t.data.toList ≠ [] := fun e => by rw [e] at h0; simp [Lib.index] at h0
      have : 0 < t.data.toList.length := List.length_pos_iff.2 hne
      simp at this ⊢
      omega
    · intro h; cases h
end Go.Proofs.YtioeliocdbckbaaDoor
namespace Go.Proofs.YtioeliocdbckbaaDoor
open Go.RowKit

@[reducible] def bs (l : List UInt8) : Value := .string ⟨l.toArray⟩
@[reducible] def vmap : Array MapEntry := #[⟨bs [107, 105, 108, 108], .int .i64 0, 0⟩, ⟨bs [116, 114, 97, 112], .int .i64 1, 1⟩, ⟨bs [102, 97, 105, 108], .int .i64 2, 2⟩, ⟨bs [108, 111, 103], .int .i64 3, 3⟩, ⟨bs [97, 108, 108, 111, 119], .int .i64 4, 4⟩]
@[reducible] def fmap : Array MapEntry := #[⟨bs [110, 114], .int .i64 0, 0⟩, ⟨bs [107, 105, 110, 100], .int .i64 1, 1⟩, ⟨bs [97], .int .i64 2, 2⟩, ⟨bs [98], .int .i64 3, 3⟩, ⟨bs [99], .int .i64 4, 4⟩]
@[reducible] def omap : Array MapEntry := #[⟨.int .u8 61, .int .i64 1, 0⟩, ⟨.int .u8 33, .int .i64 2, 1⟩, ⟨.int .u8 60, .int .i64 3, 2⟩, ⟨.int .u8 62, .int .i64 4, 3⟩]

theorem same_str (u : ByteArray) (l : List UInt8) : Instr.sameNow .string (.string u) (bs l) = some (decide (u.data.toList = l)) := by
  have : (u == (⟨l.toArray⟩ : ByteArray)) = decide (u.data.toList = l) := by
    rw [beq_toListBytes, ByteArray.toList_eq, ByteArray.toList_eq, Bool.eq_iff_iff]
    simp
  rw [← this]
  rfl
theorem same_u8 (n m : Int) : Instr.sameNow (.int .u8) (.int .u8 n) (.int .u8 m) = some (decide (n = m)) := by
  have : (n == m) = decide (n = m) := by rw [Bool.eq_iff_iff]; simp
  rw [← this]
  rfl
/-- a look-up among a list of keys. -/
theorem find_step {kd : TypeDesc} {k key v : Value} {born : Nat} {es : List MapEntry} {i : Nat} {b : Bool} (h : Instr.sameNow kd k key = some b) : Instr.findNow kd k (⟨key, v, born⟩ :: es) i = if b then some (some (i, v)) else Instr.findNow kd k es (i + 1) := by
  cases b <;> simp [Instr.findNow, h]
theorem find_v (u : ByteArray) : ∃ f, Instr.findNow .string (.string u) vmap.toList 0 = some f ∧ f.map (·.2) = (verdictOf u.data.toList).map fun n => Value.int .i64 n := by
  simp only [find_step (same_str _ _), verdictOf, decide_eq_true_eq]
  repeat (split; · exact ⟨_, rfl, rfl⟩)
  exact ⟨none, rfl, rfl⟩
theorem find_f (u : ByteArray) : ∃ f, Instr.findNow .string (.string u) fmap.toList 0 = some f ∧ f.map (·.2) = (fieldOf u.data.toList).map fun n => Value.int .i64 n := by
  simp only [find_step (same_str _ _), fieldOf, decide_eq_true_eq]
  repeat (split; · exact ⟨_, rfl, rfl⟩)
  exact ⟨none, rfl, rfl⟩
theorem find_o (b : UInt8) : ∃ f, Instr.findNow (.int .u8) (.int .u8 b.toNat) omap.toList 0 = some f ∧ (f.map (·.2)).getD (.int .i64 0) = Value.int .i64 (opOf b) := by
  have e : ∀ n : UInt8, ((b.toNat : Int) = (n.toNat : Int)) = (b = n) := fun n => by
    rw [eq_iff_iff]
    constructor
    · intro h; exact UInt8.toNat_inj.1 (by omega)
    · rintro rfl; rfl
  have e1 := e 61
  have e2 := e 33
  have e3 := e 60
  have e4 := e 62
  simp only [show ((61 : UInt8).toNat : Int) = 61 from rfl, show ((33 : UInt8).toNat : Int) = 33 from rfl, show ((60 : UInt8).toNat : Int) = 60 from rfl, show ((62 : UInt8).toNat : Int) = 62 from rfl] at e1 e2 e3 e4
  simp only [find_step (same_u8 _ _), opOf, decide_eq_true_eq, e1, e2, e3, e4]
  repeat (split; · exact ⟨_, rfl, rfl⟩)
  exact ⟨none, rfl, rfl⟩

/-- a slice without its first element: one form, be it empty or not. -/
theorem slice_tail (b n : Nat) : ∃ off : Nat, (0 < n → off = 1) ∧ ∀ W : World, (Instr.slice 93 (.slice (some ⟨b, 0, none⟩) (n + 1) (n + 1)) (some (.int .i64 1)) none none).run Tryd.prog W = .ok (.slice (some ⟨b, off, none⟩) n n) W := by
  by_cases h : n = 0
  · subst h
    exact ⟨0, fun h => by omega, fun W => by kernel_rfl⟩
  · refine ⟨1, fun _ => rfl, fun W => ?_⟩
    go_simp
    intro h'
    omega
end Go.Proofs.YtioeliocdbckbaaDoor
namespace Go.Proofs.YtioeliocdbckbaaDoor
open Go.RowKit
attribute [local go_sem] gives givesUpon

set_option maxHeartbeats 8000000 in
theorem rpolcheck_any (v : Value) (p : TPol) (D : Nat → Prop) (w : World) (h : RdRules w D v p.rules) : Calls Tryd.prog 29 #[polV v p.dflt] w fun e w' => e = .returned (.int .i64 (polE p)) ∧ Below w.heap.size w w' := by
  obtain ⟨rs, d⟩ := p
  dsimp only at h ⊢
  obtain ⟨a, c, rfl, hlc, hcm, hat⟩ := Sl.form h
  have H := Lib.hid h
  clear h
  by_cases h1 : 120 < rs.length
  · have he : polE ⟨rs, d⟩ = 2 := by unfold polE; rw [if_pos h1]
    have hz : 120 < (rs.length : Int) := by omega
    rw [he]; clear he h1 hat H
    go_enter Tryd.func29, Tryd.ntmps29
    go_wp2
    go_ret
    exact ⟨rfl, bel_alloc (Below.refl _ _) _⟩
  · have hz : ¬ 120 < (rs.length : Int) := by omega
    by_cases h2 : 0 ≤ d ∧ d ≤ 4
    · have hd := inB_yes h2.1 h2.2
      have He := Lib.hid (show polE ⟨rs, d⟩ = rulesGo rs by unfold polE; rw [if_neg h1, if_neg (by simp only; omega)])
      clear h1 h2
      go_enter Tryd.func29, Tryd.ntmps29
      go_wp2_with (go_at_call 31; refine (in_any _ _ _ _).mono ?_; rintro e w1 ⟨rfl, rfl⟩)
      go_loopw [18] (fun i wr => ∃ k : Nat, k ≤ rs.length ∧ i = .int .i64 k ∧ rulesGo rs = rulesGo (rs.drop k) ∧ Below w.heap.size w wr) (fun i _ => rs.length - (intOf i).toNat)
      case atStart => exact ⟨0, by omega, rfl, rfl, bel_alloc (Below.refl _ _) _⟩
      case round =>
        obtain ⟨k, hk, rfl, hgo, hbw⟩ := hrel
        have Hgo := Lib.hid hgo
        have hsz := hbw.size
        clear hgo hd
        by_cases hlt : k < rs.length
        · obtain ⟨b, o, rfl, hDb, hb⟩ := hat (by omega)
          obtain ⟨a', c', k0, k1, hr, hlc', hcm', hat'⟩ := RdRules.cells (RdRules.below H.out hbw) hlt
          have Hr := Lib.hid hr
          have bad : ∀ e : Int, ruleE rs[k] = e → e ≠ 0 → ∀ wz, Below w.heap.size w wz → Ending.returned (.int .i64 e) = .returned (.int .i64 (polE ⟨rs, d⟩)) ∧ Below w.heap.size w wz := fun e he h0 wz hz => by
            refine ⟨ret_int ?_, hz⟩
            rw [He.out, Hgo.out, rulesGo_drop rs k hlt, he, if_neg h0]
          have good : ruleE rs[k] = 0 → rulesGo rs = rulesGo (rs.drop (k + 1)) := fun he => by rw [Hgo.out, rulesGo_drop rs k hlt, if_pos he]
          have Hbad := Lib.hid bad
          have Hgood := Lib.hid good
          clear bad good hr
          generalize hX : rs[k] = X at *
          clear hX
          obtain ⟨cs, vd⟩ := X
          dsimp only at k0 k1 hlc' hat'
          have Hr' : Hid (RdConds wr D (.slice a' cs.length c') cs) := Hr
          clear Hr
          by_cases h3 : 10 < cs.length
          · have Hb := Lib.hid (Hbad.out 2 (by unfold ruleE; rw [if_pos h3]) (by decide))
            have hz3 : 10 < (cs.length : Int) := by omega
            clear Hbad Hgood hat' h3
            go_wp2
            go_ret
            exact Hb.out _ (bel_alloc hbw _)
          · have hz3 : ¬ 10 < (cs.length : Int) := by omega
            by_cases h4 : 0 ≤ vd ∧ vd ≤ 4
            · have hvd := inB_yes h4.1 h4.2
              have Hre := Lib.hid (show ruleE ⟨cs, vd⟩ = condsGo cs by unfold ruleE; rw [if_neg h3, if_neg (by simp only; omega)])
              clear h3 h4
              go_wp2_with (go_at_call 31; refine (in_any _ _ _ _).mono ?_; rintro e w1 ⟨rfl, rfl⟩)
              obtain ⟨wo, rfl⟩ : ∃ wo : World, wo = wr := ⟨_, rfl⟩
              go_loopw [35] (fun i wi => ∃ j : Nat, j ≤ cs.length ∧ i = .int .i64 j ∧ condsGo cs = condsGo (cs.drop j) ∧ Below w.heap.size w wi ∧ Below wo.heap.size wo wi) (fun i _ => cs.length - (intOf i).toNat)
              case atStart => exact ⟨0, by omega, rfl, rfl, bel_alloc hbw _, bel_alloc (Below.refl _ _) _⟩
              case round =>
                obtain ⟨j, hj, rfl, hgo, hbi, hbi'⟩ := hrel
                have Hgi := Lib.hid hgo
                have hszi := hbi.size
                clear hgo hvd
                by_cases hlj : j < cs.length
                · obtain ⟨b', o', rfl, hDb', hb'⟩ := hat' (by omega)
                  obtain ⟨c0, c1, c2⟩ := RdConds.cells (RdConds.below Hr'.out hbi') hlj
                  have badc : ∀ e : Int, condE cs[j] = e → e ≠ 0 → ruleE ⟨cs, vd⟩ = e := fun e he h0 => by rw [Hre.out, Hgi.out, condsGo_drop cs j hlj, he, if_neg h0]
                  have goodc : condE cs[j] = 0 → condsGo cs = condsGo (cs.drop (j + 1)) := fun he => by rw [Hgi.out, condsGo_drop cs j hlj, if_pos he]
                  have Hbadc := Lib.hid badc
                  have Hgoodc := Lib.hid goodc
                  clear badc goodc
                  generalize hY : cs[j] = Y at *
                  clear hY
                  obtain ⟨cf, co, cv⟩ := Y
                  dsimp only at c0 c1 c2
                  by_cases q1 : 0 ≤ cf ∧ cf ≤ 4
                  · have d1 := inB_yes q1.1 q1.2
                    by_cases q2 : 1 ≤ co ∧ co ≤ 4
                    · have d2 := inB_yes q2.1 q2.2
                      have hcl : ∀ W, Cls (wr.heap.size + 1) (wr.alloc (.cells #[.int .i64 cf, .int .i64 co, .int .i64 cv] 67)) W → ∀ j : Nat, W.cell? ⟨wr.heap.size, j, none⟩ = (#[Value.int .i64 cf, .int .i64 co, .int .i64 cv] : Array Value)[j]? := fun W hW j => box_cells hW.2 j
                      have Hcl := Lib.hid hcl
                      clear hcl
                      by_cases q3 : 0 ≤ cv ∧ cv ≤ mostOf cf
                      · have d3 := inB_yes q3.1 q3.2
                        have Hg := Lib.hid (Hgoodc.out (by unfold condE; rw [if_neg (by simp only; omega), if_neg (by simp only; omega), if_neg (by simp only; omega)]))
                        clear q1 q2 q3
                        go_wp2_with (go_at_call 31; refine (in_any _ _ _ _).mono ?_; rintro e w1 ⟨rfl, rfl⟩)
                        refine wp_region_exact (wr.heap.size + 1) (by simp) (by kernel_rfl) (by kernel_rfl) ?_
                        repeat (refine monoE_step (fun K hK => ?_); apply Exists.intro; refine ⟨fun W hC R hR => ?_, ?_⟩; (first
                          | (have hcell := Hcl.out W hC; go_simp; refine hR _ _ (Below.refl _ _) rfl)
                          | (go_simp; go_at_call 32; refine (mostof_any _ _).mono ?_; rintro e w1 ⟨rfl, hb1⟩; exact ⟨_, rfl, hR _ _ hb1 rfl⟩)
                          | (go_simp; go_at_call 31; refine (in_any _ _ _ _).mono ?_; rintro e w1 ⟨rfl, rfl⟩; exact ⟨_, rfl, hR _ _ (Below.refl _ _) rfl⟩)); (go_simp; refine hK _ ?_; clear hK K))
                        intro w2 hC2
                        go_wp2
                        go_roundw
                        case rel => exact ⟨j + 1, by omega, by go_num, Hg.out, hbi.trans ((bel_box hC2.2).mono hszi), hbi'.trans ((bel_box hC2.2).mono hbi'.size)⟩
                        case measure => simp [intOf]; omega
                      · have d3 := inB_no q3
                        have Hb := Lib.hid (Hbad.out 3 (Hbadc.out 3 (by unfold condE; rw [if_neg (by simp only; omega), if_neg (by simp only; omega), if_pos (by simp only; omega)]) (by decide)) (by decide))
                        clear q1 q2 q3
                        go_wp2_with (go_at_call 31; refine (in_any _ _ _ _).mono ?_; rintro e w1 ⟨rfl, rfl⟩)
                        refine wp_region_exact (wr.heap.size + 1) (by simp) (by kernel_rfl) (by kernel_rfl) ?_
                        repeat (refine monoE_step (fun K hK => ?_); apply Exists.intro; refine ⟨fun W hC R hR => ?_, ?_⟩; (first
                          | (have hcell := Hcl.out W hC; go_simp; refine hR _ _ (Below.refl _ _) rfl)
                          | (go_simp; go_at_call 32; refine (mostof_any _ _).mono ?_; rintro e w1 ⟨rfl, hb1⟩; exact ⟨_, rfl, hR _ _ hb1 rfl⟩)
                          | (go_simp; go_at_call 31; refine (in_any _ _ _ _).mono ?_; rintro e w1 ⟨rfl, rfl⟩; exact ⟨_, rfl, hR _ _ (Below.refl _ _) rfl⟩)); (go_simp; refine hK _ ?_; clear hK K))
                        intro w2 hC2
                        go_wp2
                        go_ret
                        exact Hb.out _ (hbi.trans ((bel_box hC2.2).mono hszi))
                    · have d2 := inB_no q2
                      have Hb := Lib.hid (Hbad.out 4 (Hbadc.out 4 (by unfold condE; rw [if_neg (by simp only; omega), if_pos (by simp only; omega)]) (by decide)) (by decide))
                      clear q1 q2
                      go_wp2_with (go_at_call 31; refine (in_any _ _ _ _).mono ?_; rintro e w1 ⟨rfl, rfl⟩)
                      go_ret
                      exact Hb.out _ (bel_alloc hbi _)
                  · have d1 := inB_no q1
                    have Hb := Lib.hid (Hbad.out 5 (Hbadc.out 5 (by unfold condE; rw [if_pos (by simp only; omega)]) (by decide)) (by decide))
                    clear q1
                    go_wp2_with (go_at_call 31; refine (in_any _ _ _ _).mono ?_; rintro e w1 ⟨rfl, rfl⟩)
                    go_ret
                    exact Hb.out _ (bel_alloc hbi _)
                · obtain rfl : j = cs.length := by omega
                  have Hg := Lib.hid (Hgood.out (by rw [Hre.out, Hgi.out, List.drop_length]; rfl))
                  go_wp2
                  go_roundw
                  case rel => exact ⟨k + 1, by omega, by go_num, Hg.out, hbi⟩
                  case measure => simp [intOf]; omega
            · have hvd := inB_no h4
              have Hb := Lib.hid (Hbad.out 3 (by unfold ruleE; rw [if_neg h3, if_pos (by simp only; omega)]) (by decide))
              clear Hbad Hgood hat' h3 h4
              go_wp2_with (go_at_call 31; refine (in_any _ _ _ _).mono ?_; rintro e w1 ⟨rfl, rfl⟩)
              go_ret
              exact Hb.out _ (bel_alloc hbw _)
        · obtain rfl : k = rs.length := by omega
          go_wp2
          go_ret
          exact ⟨ret_int (by rw [He.out, Hgo.out, List.drop_length]; rfl), hbw⟩
    · have hd := inB_no h2
      have he : polE ⟨rs, d⟩ = 3 := by unfold polE; rw [if_neg h1, if_pos (by simp only; omega)]
      rw [he]; clear he hat H h1 h2
      go_enter Tryd.func29, Tryd.ntmps29
      go_wp2_with (go_at_call 31; refine (in_any _ _ _ _).mono ?_; rintro e w1 ⟨rfl, rfl⟩)
      go_ret
      exact ⟨rfl, bel_alloc (Below.refl _ _) _⟩
end Go.Proofs.YtioeliocdbckbaaDoor
namespace Go.Proofs.YtioeliocdbckbaaDoor
open Go.RowKit
open Go.MapKept (IsKey)

set_option maxHeartbeats 1000000 in
theorem bad_any (e : Int) (w : World) : Calls Tryd.prog 52 #[.int .i64 e] w fun en w' => en = .returned (.tuple #[polV (.slice none 0 0) 0, .int .i64 e]) ∧ Below w.heap.size w w' := by
  go_enter Tryd.func52, Tryd.ntmps52
  go_wp2
  refine bodyPost_ret (v := .tuple #[polV (.slice none 0 0) 0, .int .i64 e]) ?_ rfl ⟨rfl, bel_alloc (Below.refl _ _) _⟩
  rw [results_cell_tmp rfl]
  go_simp

/-- blocks of the call's own behind its five, but that of one slice. -/
def But (B : Nat) (pv : Value) (b : Nat) : Prop := B + 5 ≤ b ∧ pv.ownBlock ≠ some b
/-- the world as the loop of rules has it. -/
structure RdState (w wr : World) (rs : List TRule) (pv : Value) : Prop where
  bel : Below w.heap.size w wr
  sz : w.heap.size + 5 ≤ wr.heap.size
  res : wr.heap[w.heap.size]? = some (.cells #[.slice none 0 0, .int .i64 0] 44)
  vm : wr.heap[w.heap.size + 1]? = some (.map vmap 5)
  fm : wr.heap[w.heap.size + 2]? = some (.map fmap 5)
  om : wr.heap[w.heap.size + 3]? = some (.map omap 4)
  pc : wr.heap[w.heap.size + 4]? = some (.cells #[pv, .int .i64 0] 44)
  own : OwnSl wr (w.heap.size + 5) 65 2 (ruleR wr (But w.heap.size pv)) pv rs
theorem RdState.below {w wr w1 : World} {rs : List TRule} {pv : Value} (h : RdState w wr rs pv) (hb : Below wr.heap.size wr w1) : RdState w w1 rs pv where
  bel := bel_call h.bel hb
  sz := Nat.le_trans h.sz hb.size
  res := blk_below h.res hb
  vm := blk_below h.vm hb
  fm := blk_below h.fm hb
  om := blk_below h.om hb
  pc := blk_below h.pc hb
  own := (h.own.below hb).monoR fun _ _ _ ⟨v, h1, h2⟩ => ⟨v, h1, h2.below hb⟩
theorem RdState.rules {w wr : World} {rs : List TRule} {pv : Value} (h : RdState w wr rs pv) : RdRules wr (fun b => w.heap.size + 5 ≤ b) pv rs :=
  (h.own.monoR fun _ _ _ ⟨v, h1, h2⟩ => ⟨v, h1, h2.keep (fun _ hb _ => hb.1) (fun _ _ _ => rfl) (Nat.le_refl _)⟩).sl fun _ h => h
theorem rdState0 (w : World) : RdState w (((((w.alloc (.cells #[.slice none 0 0, .int .i64 0] 44)).alloc (.map vmap 5)).alloc (.map fmap 5)).alloc (.map omap 4)).alloc (.cells #[.slice none 0 0, .int .i64 0] 44)) [] (.slice none 0 0) where
  bel := bel_alloc (bel_alloc (bel_alloc (bel_alloc (bel_alloc (Below.refl _ _) _) _) _) _) _
  sz := by simp
  res := blk_old (blk_old (blk_old (blk_old (blk_at rfl))))
  vm := blk_old (blk_old (blk_old (blk_at (by simp))))
  fm := blk_old (blk_old (blk_at (by simp)))
  om := blk_old (blk_at (by simp))
  pc := blk_at (by simp)
  own := OwnSl.nil

theorem infoCond : (Tryd.prog.info? 67).map (fun i => (i.zero, i.size, i.bytes)) = some (some (.agg #[.int .i64 0, .int .i64 0, .int .i64 0]), 3, 24) := by kernel_rfl
theorem infoRule : (Tryd.prog.info? 65).map (fun i => (i.zero, i.size, i.bytes)) = some (some (.agg #[.slice none 0 0, .int .i64 0]), 2, 32) := by kernel_rfl
theorem rd_step {w w2 wr w4 : World} {rs : List TRule} {pv : Value} {cs : List TCond} {cv : Value} {vd : Int} {gg cap : Nat} {rows : List (List Value)} {O : Obj} (hst : RdState w w2 rs pv) (hbw : Below w2.heap.size w2 wr)
    (hown : OwnSl wr (w2.heap.size + 1) 67 3 condR cv cs) (hgrow : (wr.alloc O).grownBy w4 pv.ownBlock)
    (hown4 : w4.ownsRow (w.heap.size + 5) 65 2 (.slice (some ⟨gg, 0, none⟩) (rs.length + 1) cap) (rs.length + 1) (rows.flatten ++ [cv, .int .i64 vd]))
    (hro : RowsOf 2 (ruleR wr (But w.heap.size pv)) rs rows) (hat : pv.ownBlock = some gg ∨ gg = wr.heap.size + 1) :
    RdState w (w4.setCell ⟨w.heap.size + 4, 0, none⟩ (.slice (some ⟨gg, 0, none⟩) (rs.length + 1) cap)) (rs ++ [⟨cs, vd⟩]) (.slice (some ⟨gg, 0, none⟩) (rs.length + 1) cap) := by
  have h1 := hst.below hbw
  have hsz2 := hst.sz
  have hsw := hbw.size
  have hpo : ∀ g, pv.ownBlock = some g → w.heap.size + 5 ≤ g ∧ g < w2.heap.size := fun g hg => by
    obtain ⟨rows', _, hr'⟩ := hst.own
    exact hr'.lt g hg
  have hal : (wr.alloc O).heap.size = wr.heap.size + 1 := by simp
  have hg4 := hgrow.size
  -- a block that is neither the box nor the rules' row stays
  have keep : ∀ b, b < wr.heap.size → b ≠ w.heap.size + 4 → pv.ownBlock ≠ some b → (w4.setCell ⟨w.heap.size + 4, 0, none⟩ (.slice (some ⟨gg, 0, none⟩) (rs.length + 1) cap)).heap[b]? = wr.heap[b]? := fun b hb hn ho => by
    rw [set_other (by exact hn), hgrow.block b (by omega) (fun e => ho e.symm)]
    show (wr.heap.push O)[b]? = _
    rw [Array.getElem?_push, if_neg (by omega)]
  have small : ∀ b, b < w.heap.size + 4 → (w4.setCell ⟨w.heap.size + 4, 0, none⟩ (.slice (some ⟨gg, 0, none⟩) (rs.length + 1) cap)).heap[b]? = wr.heap[b]? := fun b hb =>
    keep b (by omega) (by omega) (fun e => by have := (hpo b e).1; omega)
  have hss : wr.heap.size ≤ (w4.setCell ⟨w.heap.size + 4, 0, none⟩ (.slice (some ⟨gg, 0, none⟩) (rs.length + 1) cap)).heap.size := by rw [set_size]; omega
  exact {
    bel := by
      refine set_below ?_ (by show w.heap.size ≤ w.heap.size + 4; omega)
      exact h1.bel.trans ⟨hgrow.os, hgrow.tape, hgrow.output, by omega, fun i hi => by
        rw [hgrow.block i (by omega) (fun e => by have := (hpo i e.symm).1; omega)]
        show (wr.heap.push O)[i]? = _
        rw [Array.getElem?_push, if_neg (by omega)]⟩
    sz := by omega
    res := (small _ (by omega)).trans h1.res
    vm := (small _ (by omega)).trans h1.vm
    fm := (small _ (by omega)).trans h1.fm
    om := (small _ (by omega)).trans h1.om
    pc := by
      have : w4.heap[w.heap.size + 4]? = some (.cells #[pv, .int .i64 0] 44) := by
        rw [hgrow.block _ (by omega) (fun e => by have := (hpo _ e.symm).1; omega)]
        show (wr.heap.push O)[w.heap.size + 4]? = _
        rw [Array.getElem?_push, if_neg (by omega)]
        exact h1.pc
      exact set_at this
    own := by
      refine ⟨rows ++ [[cv, .int .i64 vd]], (hro.mono fun x _ c hx => ?_).app (RowsOf.cons (sz := 2) (x := (⟨cs, vd⟩ : TRule)) (r := [cv, .int .i64 vd]) RowsOf.nil ?_ rfl), ?_⟩
      · obtain ⟨v, e1, e2⟩ := hx
        exact ⟨v, e1, e2.keep (fun b hb hlt => ⟨hb.1, fun e => by
          have e' : gg = b := by simpa [Value.ownBlock] using e
          rcases hat with h | h
          · exact hb.2 (by rw [h, e'])
          · omega⟩) (fun b hb hlt => keep b hlt (by have := hb.1; omega) hb.2) hss⟩
      · refine ⟨cv, rfl, ?_⟩
        have hs : RdConds wr (fun b => w2.heap.size + 1 ≤ b) cv cs := hown.sl fun _ h => h
        exact hs.keep (fun b hb hlt => ⟨by have : w2.heap.size + 1 ≤ b := hb; omega, fun e => by
          have e' : gg = b := by simpa [Value.ownBlock] using e
          have hb' : w2.heap.size + 1 ≤ b := hb
          rcases hat with h | h
          · have := (hpo gg h).2; omega
          · omega⟩) (fun b hb hlt => keep b hlt (by have : w2.heap.size + 1 ≤ b := hb; omega) (fun e => by have : w2.heap.size + 1 ≤ b := hb; have := (hpo b e).2; omega)) hss
      · have := ownsRow_keep1 (w' := w4.setCell ⟨w.heap.size + 4, 0, none⟩ (.slice (some ⟨gg, 0, none⟩) (rs.length + 1) cap)) hown4 (fun b hb _ _ => set_other (by show b ≠ w.heap.size + 4; omega))
        simpa using this }
end Go.Proofs.YtioeliocdbckbaaDoor
