/- Texts laid one behind the other: Filed, DSame, ConcatRec. No condition beyond theirs. -/
import Derived.Test.YthkgjohhbdipcaaDoorK13
import Derived.Test.YthkgjohhbdipcaaDoorK12
import Derived.Test.YthkgjohhbdipcaaDoorK10
import Derived.Test.YthkgjohhbdipcaaDoorK3
import Derived.Test.YthkgjohhbdipcaaDoorProg
import Derived.KernelRfl
import Derived.Deep.LoopGhost
set_option linter.all false
namespace Go.Proofs.YthkgjohhbdipcaaDoor
open Go.RowKit

theorem fl1 : putE zeroDisk ⟨4, 2, 0, ⟨[], 0⟩⟩ = (⟨[], [115, 104, 117, 116, 32, 50, 10]⟩, 0) := by decide +kernel
theorem fl2 : syncE ⟨[], [115, 104, 117, 116, 32, 50, 10]⟩ = (⟨[115, 104, 117, 116, 32, 50, 10], []⟩, 0) := by decide +kernel
theorem fl3 : putE ⟨[115, 104, 117, 116, 32, 50, 10], []⟩ ⟨4, 3, 0, ⟨[], 0⟩⟩ = (⟨[115, 104, 117, 116, 32, 50, 10], [115, 104, 117, 116, 32, 51, 10]⟩, 0) := by decide +kernel
theorem fl4 : crashE ⟨[115, 104, 117, 116, 32, 50, 10], [115, 104, 117, 116, 32, 51, 10]⟩ 4 = (⟨[115, 104, 117, 116, 32, 50, 10], [115, 104, 117, 116]⟩, 0) := by decide +kernel
theorem fl5 : recoverE ⟨[115, 104, 117, 116, 32, 50, 10], [115, 104, 117, 116]⟩ = (⟨[115, 104, 117, 116, 32, 50, 10], []⟩, [⟨4, 2, 0, ⟨[], 0⟩⟩], 0) := by decide +kernel
set_option maxRecDepth 100000 in
set_option maxHeartbeats 16000000 in
theorem filed_walk (w : World) (hL : Laid w) : Calls Tryd.prog 15 #[] w fun e w' => e = .returned (.bool true) ∧ Below w.heap.size w w' := by
  have HL := Lib.hid hL
  clear hL
  go_enter Tryd.func15, Tryd.ntmps15
  go_wp2_with fail
  refine (dput_any (.slice none 0 0) (.slice none 0 0) (.slice none 0 0) zeroDisk ⟨4, 2, 0, ⟨[], 0⟩⟩ (fun _ => True) (fun _ => True) _ (nil_disk _ _) (nil_rulesP _ _) HL.out).mono ?_
  rw [fl1]
  rintro e w1 ⟨u1, v1, rfl, hr1, hb1⟩
  obtain ⟨a1, c1, rfl⟩ := form_n (n := 0) hr1.1 rfl
  obtain ⟨b1, d1, rfl⟩ := form_n (n := 7) hr1.2 rfl
  have HD1 := Lib.hid (DBox.new hb1 hr1)
  clear hr1 hb1
  have hq := HD1.out.cells
  dsimp only
  go_wp2_with fail
  clear hq
  refine (dsync_any _ _ ⟨[], [115, 104, 117, 116, 32, 50, 10]⟩ _ _ HD1.out.rd (HL.out.below HD1.out.bel)).mono ?_
  rw [fl2]
  rintro e w2 ⟨u2, v2, rfl, hr2, hb2⟩
  obtain ⟨a2, c2, rfl⟩ := form_n (n := 7) hr2.1 rfl
  obtain ⟨b2, d2, rfl⟩ := form_n (n := 0) hr2.2 rfl
  have hqo := cells_of (blk_below HD1.out.box hb2)
  have hfo := not_frozen (blk_below HD1.out.box hb2)
  have HD2 := Lib.hid (HD1.out.put hb2 hr2)
  have hq := HD2.out.cells
  clear hr2 hb2
  dsimp only
  go_wp2_with fail
  clear hq hqo hfo
  refine (dput_any _ _ (.slice none 0 0) ⟨[115, 104, 117, 116, 32, 50, 10], []⟩ ⟨4, 3, 0, ⟨[], 0⟩⟩ _ (fun _ => True) _ HD2.out.rd (nil_rulesP _ _) (HL.out.below HD2.out.bel)).mono ?_
  rw [fl3]
  rintro e w3 ⟨u3, v3, rfl, hr3, hb3⟩
  obtain ⟨a3, c3, rfl⟩ := form_n (n := 7) hr3.1 rfl
  obtain ⟨b3, d3, rfl⟩ := form_n (n := 7) hr3.2 rfl
  have hqo := cells_of (blk_below HD2.out.box hb3)
  have hfo := not_frozen (blk_below HD2.out.box hb3)
  have HD3 := Lib.hid (HD2.out.put hb3 hr3)
  have hq := HD3.out.cells
  clear hr3 hb3
  dsimp only
  go_wp2_with fail
  clear hq hqo hfo
  refine (dcrash_any _ _ ⟨[115, 104, 117, 116, 32, 50, 10], [115, 104, 117, 116, 32, 51, 10]⟩ 4 _ _ HD3.out.rd (HL.out.below HD3.out.bel)).mono ?_
  rw [fl4]
  rintro e w4 ⟨u4, v4, rfl, hr4, hb4⟩
  obtain ⟨a4, c4, rfl⟩ := form_n (n := 7) hr4.1 rfl
  obtain ⟨b4, d4, rfl⟩ := form_n (n := 4) hr4.2 rfl
  have hqo := cells_of (blk_below HD3.out.box hb4)
  have hfo := not_frozen (blk_below HD3.out.box hb4)
  have HD4 := Lib.hid (HD3.out.put hb4 hr4)
  have hq := HD4.out.cells
  clear hr4 hb4
  dsimp only
  go_wp2_with fail
  clear hq hqo hfo
  refine (drecover_any _ _ ⟨[115, 104, 117, 116, 32, 50, 10], [115, 104, 117, 116]⟩ _ _ HD4.out.rd (HL.out.below HD4.out.bel)).mono ?_
  rw [fl5]
  rintro e w5 ⟨u5, v5, vl, rfl, hr5, hl5, hb5⟩
  obtain ⟨a5, c5, rfl⟩ := form_n (n := 7) hr5.1 rfl
  obtain ⟨b5, d5, rfl⟩ := form_n (n := 0) hr5.2 rfl
  have hqo := cells_of (blk_below HD4.out.box hb5)
  have hfo := not_frozen (blk_below HD4.out.box hb5)
  have HD5 := Lib.hid (HD4.out.put hb5 hr5)
  have hq := HD5.out.cells
  obtain ⟨al, cl, rfl, _⟩ := Sl.form hl5
  have hlen : ([⟨4, 2, 0, ⟨[], 0⟩⟩] : List TRec).length = 1 := rfl
  obtain ⟨bl, ol, rfl, hbl, _⟩ := Sl.at_ hl5 (by decide)
  have HW5 := Lib.hid hb5
  have hbx4 : w4.heap.size + 0 = w4.heap.size := rfl
  have hcl := (RdRecs.cells hl5 (i := 0) (by decide))
  obtain ⟨ax, cx, _, hk1, _, _, _, _⟩ := hcl
  have hbx : w4.heap.size ≤ w4.heap.size := Nat.le_refl _
  have Hne : Hid (bl ≠ w1.heap.size) := by
    have h1 : _ ≤ bl := hbl
    have h2 := (Array.getElem?_eq_some_iff.1 HD4.out.box).1
    show bl ≠ _
    omega
  have hk2 : (((w5.setCell ⟨w1.heap.size, 0, none⟩ (.slice a5 7 c5)).setCell ⟨w1.heap.size, 1, none⟩ (.slice b5 0 d5))).cell? ⟨bl, ol + 0 * 5 + 1, none⟩ = some (.int .i64 2) := by
    rw [World.cell?_of_block (w := w5)]
    · exact hk1
    · show _ = _
      rw [set_other (by exact Hne.out), set_other (by exact Hne.out)]
  rw [Nat.zero_mul, Nat.add_zero] at hk2
  have hcv := bytes_string HD5.out.rd.1
  have hcmp : ((⟨([115, 104, 117, 116, 32, 50, 10]).toArray⟩ : ByteArray).toList == [115, 104, 117, 116, 32, 50, 10]) = true := by rw [ByteArray.toList_eq]; rfl
  have HBf := Lib.hid HD5.out.bel
  clear hr5 hb5 hl5 hk1 hbl hbx hbx4
  dsimp only
  go_wp2
  go_ret
  exact ⟨rfl, HBf.out⟩
end Go.Proofs.YthkgjohhbdipcaaDoor
namespace Go.Proofs.YthkgjohhbdipcaaDoor
open Go.RowKit

set_option maxRecDepth 100000 in
set_option maxHeartbeats 4000000 in
theorem dsame_any (u v u' v' : Value) (x y : TDisk) (w : World) (h : RdDisk w (fun _ => True) u v x) (h' : RdDisk w (fun _ => True) u' v' y) :
    Calls Tryd.prog 24 #[diskV u v, diskV u' v'] w fun e w' => e = .returned (.bool (decide (x = y))) ∧ Below w.heap.size w w' := by
  have H := Lib.hid h
  have H' := Lib.hid h'
  obtain ⟨a1, c1, rfl, _⟩ := Sl.form h.1
  obtain ⟨a2, c2, rfl, _⟩ := Sl.form h.2
  obtain ⟨b1, d1, rfl, _⟩ := Sl.form h'.1
  obtain ⟨b2, d2, rfl, _⟩ := Sl.form h'.2
  clear h h'
  obtain ⟨xs, xw⟩ := x
  obtain ⟨ys, yw⟩ := y
  dsimp only at H H' ⊢
  obtain ⟨q, hq⟩ : ∃ q, decide ((⟨xs, xw⟩ : TDisk) = ⟨ys, yw⟩) = q := ⟨_, rfl⟩
  have HD : Hid (q = (decide (xs = ys) && decide (xw = yw))) := by show _ = _; rw [← hq]; simp
  rw [hq]
  clear hq
  have HB := Lib.hid (Bx.two (w := w) (o := .cells #[.slice a1 xs.length c1, .slice a2 xw.length c2] 43) (o' := .cells #[.slice b1 ys.length d1, .slice b2 yw.length d2] 43))
  go_enter Tryd.func24, Tryd.ntmps24
  go_wp2_with fail
  refine (eqbytes_any _ _ xs ys _ _ (RdBytes.below H.out.1 HB.out.bel) (RdBytes.below H'.out.1 HB.out.bel)).mono ?_
  rintro e w1 ⟨rfl, hb1⟩
  have HB1 := Lib.hid (HB.out.below hb1)
  clear hb1
  by_cases hs : xs = ys
  · have d1 : decide (xs = ys) = true := decide_eq_true hs
    have HD' : Hid (q = decide (xw = yw)) := by show _ = _; rw [HD.out, d1]; simp
    rw [d1]
    clear hs HD d1
    have hq0 := HB1.out.cells0
    have hq1 := HB1.out.cells1
    go_wp2_with fail
    refine (eqbytes_any _ _ xw yw _ _ (RdBytes.below H.out.2 HB1.out.bel) (RdBytes.below H'.out.2 HB1.out.bel)).mono ?_
    rintro e w2 ⟨rfl, hb2⟩
    have HBf := Lib.hid (HB1.out.below hb2).bel
    clear hq0 hq1 hb2
    go_wp2
    go_ret
    exact ⟨by rw [HD'.out]; rfl, HBf.out⟩
  · have d1 : decide (xs = ys) = false := decide_eq_false hs
    have HD' : Hid (q = false) := by show _ = _; rw [HD.out, d1]; simp
    have HBf := Lib.hid HB1.out.bel
    rw [d1]
    clear hs HD d1
    go_wp2
    go_ret
    exact ⟨by rw [HD'.out]; rfl, HBf.out⟩
end Go.Proofs.YthkgjohhbdipcaaDoor
namespace Go.Proofs.YthkgjohhbdipcaaDoor
open Go.RowKit

theorem infocRec : (Tryd.prog.info? 34).map (fun i => (i.zero, i.size, i.bytes)) = some (some (.agg #[.int .i64 0, .int .i64 0, .int .i64 0, .slice none 0 0, .int .i64 0]), 5, 56) := by kernel_rfl

set_option maxHeartbeats 1000000 in
theorem growRec_nil {α : Type} (R : α → List Value → Prop) (n : Nat) (w : World) (hn : n * 56 ≤ 140737488355328) : Calls Tryd.prog 51 #[.slice none 0 0, .int .i64 n] w fun e w' => ∃ v, e = .returned v ∧ OwnSl w' w.heap.size 34 5 R v ([] : List α) ∧ Below w.heap.size w w' := by
  by_cases h0 : n = 0
  · subst h0
    go_enter Tryd.func51, Tryd.ntmps51
    go_wp2
    go_ret
    exact ⟨_, rfl, OwnSl.nil, Below.refl _ _⟩
  · obtain ⟨i0, hi, hz0, hz1, hz2⟩ := info_parts infocRec
    have hrun := fun (W : World) (ty : TypeId) => Lib.run_append_nil_zeros (P := Tryd.prog) W 40 3 ty 34 i0 (.agg #[.int .i64 0, .int .i64 0, .int .i64 0, .slice none 0 0, .int .i64 0]) .i64 .i64 Tryd.underlying40 Tryd.underlying3 hi hz0 n (by omega) (by rw [hz1]; omega) (by omega) (by rw [hz2]; omega)
    have hgc : ∀ W : World, grownCap W n 0 34 ≤ maxLen := fun W => grownCap_le_maxLen W n 0 34 (by unfold maxLen; omega)
    have h1 : 0 < (n : Int) := by omega
    have h2 : (n : Int) ≤ 9223372036854775807 := by omega
    have Hrun := Lib.hid hrun
    have Hz := Lib.hid hz1
    clear hrun hi hz0 hz1 hz2 h0 hn
    go_enter Tryd.func51, Tryd.ntmps51
    go_wp2_with (at_builtin; refine Lib.wpList_append_run _ rfl _ _ _ _ rfl _ _ rfl rfl _ _ (Hrun.out _ _) ?_)
    go_ret
    refine ⟨_, rfl, ⟨[], RowsOf.nil, by simp, .inr ⟨w.heap.size, grownCap w n 0 34, _, rfl, Nat.le_refl _, blk_at rfl, by simp, hgc w, ?_, by simp⟩⟩, (bel_alloc (Below.refl _ _) _).drew⟩
    have hge := grownCap_ge w n 0 34
    simp [size_zeroCells]
    omega

/-- a slice of slices. -/
def rowsRRec {α : Type} (R : α → List Value → Prop) (w : World) (D : Nat → Prop) (l : List α) (cs : List Value) : Prop := ∃ u, cs = [u] ∧ Sl w D 5 R u l
set_option maxRecDepth 100000 in
set_option maxHeartbeats 2000000 in
theorem concatRec_any {α : Type} (R : α → List Value → Prop) (h1R : ∀ (y : α) (cs : List Value), R y cs → ∀ c ∈ cs, c.oneCell' = true) (v : Value) (ls : List (List α)) (D : Nat → Prop) (w : World) (h : Sl w D 1 (rowsRRec R w D) v ls) (hn : lenTo ls ls.length * 56 ≤ 140737488355328) :
    Calls Tryd.prog 23 #[v] w fun e w' => ∃ v', e = .returned v' ∧ OwnSl w' w.heap.size 34 5 R v' ls.flatten ∧ Below w.heap.size w w' := by
  obtain ⟨a, c, rfl, hlc, hcm, hat⟩ := Sl.form h
  obtain ⟨i0, hi, hz0, hz1, hz2⟩ := info_parts infocRec
  have H := Lib.hid h
  clear h
  have hrow : ∀ k (hk : k < ls.length) b o, a = some ⟨b, o, none⟩ → ∃ (u : Value) (cu : Option Addr × Nat), u = Value.slice cu.1 ls[k].length cu.2 ∧ Sl w D 5 R u ls[k] ∧ ∀ wr, Below w.heap.size w wr → wr.cell? ⟨b, o + k, none⟩ = some u := fun k hk b o e => by
    subst e
    obtain ⟨cs, hcs, ⟨u, hu, hs⟩, hcell⟩ := Sl.get H.out hk
    obtain ⟨a', c', hv, _⟩ := Sl.form hs
    refine ⟨u, (a', c'), hv, hs, fun wr hb => ?_⟩
    subst hu
    have hc := hcell 0 u rfl
    rw [Nat.mul_one] at hc
    exact (hb.cell (p := ⟨b, o + k, none⟩) (World.block_lt_of_cell? _ _ hc)).trans hc
  have Hrow := Lib.hid hrow
  have Hn := Lib.hid hn
  have hn' : lenTo ls ls.length ≤ 140737488355328 := by omega
  clear hrow hn
  go_enter Tryd.func23, Tryd.ntmps23
  go_wp2_with fail
  go_loop [3, 11] (fun s i => ∃ k : Nat, k ≤ ls.length ∧ i = .int .i64 k ∧ s = .int .i64 (lenTo ls k)) (fun _ i => ls.length - (intOf i).toNat)
  case atStart => exact ⟨0, by omega, rfl, rfl⟩
  case round =>
    obtain ⟨k, hk, rfl, rfl⟩ := hrel
    by_cases hlt : k < ls.length
    · obtain ⟨b, o, rfl, hDb, hb⟩ := hat (by omega)
      obtain ⟨u, ⟨a', c'⟩, rfl, hs, hc⟩ := Hrow.out k hlt b o rfl
      have hcw := hc w (Below.refl _ _)
      have hle := lenTo_le ls (k + 1) (by omega)
      have Hs := Lib.hid (lenTo_succ ls k hlt)
      have hle' : lenTo ls k + ls[k].length ≤ 140737488355328 := by have := Hs.out; omega
      clear hs hc
      go_wp2
      go_round
      case rel => exact ⟨k + 1, by omega, by go_num, by rw [Hs.out]; go_num⟩
      case measure => simp [intOf]; omega
    · obtain rfl : k = ls.length := by omega
      go_wp2_with fail
      refine (growRec_nil R (lenTo ls ls.length) _ Hn.out).mono ?_
      rintro e w1 ⟨vg, rfl, hown, hb1⟩
      go_wp2_with fail
      go_loopw [6, 27] (fun s i wr => ∃ (k : Nat) (vs : Value), k ≤ ls.length ∧ i = .int .i64 k ∧ vs = s ∧ OwnSl wr w.heap.size 34 5 R vs (ls.take k).flatten ∧ Below w.heap.size w wr) (fun _ i _ => ls.length - (intOf i).toNat)
      case atStart => exact ⟨0, vg, by omega, rfl, rfl, by simpa using hown, hb1⟩
      case round =>
        obtain ⟨k, vs, hk, rfl, rfl, hown, hbw⟩ := hrel
        have Hown := Lib.hid hown
        have hsz := hbw.size
        clear hown
        by_cases hlt : k < ls.length
        · obtain ⟨b, o, rfl, hDb, hb⟩ := hat (by omega)
          obtain ⟨u, ⟨a', c'⟩, rfl, hs, hc⟩ := Hrow.out k hlt b o rfl
          have hcw := hc wr hbw
          have hle := lenTo_le ls (k + 1) (by omega)
          have Hl := Lib.hid (lenTo_succ ls k hlt)
          have hs' : Sl wr D 5 R (.slice a' ls[k].length c') ls[k] := Sl.mono hs (fun _ h _ => h) (fun b _ hlt => hbw.block b hlt) hbw.size (fun _ _ _ h => h)
          have Hs' := Lib.hid hs'
          have Hs := Lib.hid (flat_take_succ ls k hlt)
          clear hs hc hs'
          go_wp2_with (at_builtin; refine wpList_app rfl _ _ 40 rfl w.heap.size 34 i0 _ 5 56 Tryd.underlying40 hi hz0 hz1 hz2 rfl (by decide) _ _ rfl Hown.out _ _ rfl Hs'.out (fun y _ cs h => h1R y cs h) (by have := Hl.out; unfold lenTo at *; unfold maxLen; omega) (by have := Hn.out; have := Hl.out; unfold lenTo at *; omega) hsz ?_; intro v' w2 hown' hg)
          go_roundw
          case rel => exact ⟨k + 1, v', by omega, by go_num, rfl, by rw [← flat_take_succ ls k hlt]; exact hown', Hown.out.grown hbw hg hsz (Nat.le_refl _)⟩
          case measure => simp [intOf]; omega
        · obtain rfl : k = ls.length := by omega
          have Hf : Hid (OwnSl wr w.heap.size 34 5 R vs ls.flatten) := by have := Hown.out; rwa [List.take_length] at this
          go_wp2
          go_ret
          exact ⟨_, rfl, Hf.out, hbw⟩
end Go.Proofs.YthkgjohhbdipcaaDoor
