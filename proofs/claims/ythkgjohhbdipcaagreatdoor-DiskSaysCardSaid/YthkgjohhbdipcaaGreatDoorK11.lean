/- Texts laid one behind the other: NSame, SplitAfter, Lines, RLines, DiskRd, RDCheck, DCheck, ConcatByte, CloneByte, RelV, AppR. No condition beyond theirs. -/
import Derived.Test.YthkgjohhbdipcaaGreatDoorK5
import Derived.Test.YthkgjohhbdipcaaGreatDoorK6
import Derived.Test.YthkgjohhbdipcaaGreatDoorK10
import Derived.Test.YthkgjohhbdipcaaGreatDoorK3
import Derived.Test.YthkgjohhbdipcaaGreatDoorK7
import Derived.Test.YthkgjohhbdipcaaGreatDoorK9
import Derived.Test.YthkgjohhbdipcaaGreatDoorK8
import Derived.Test.YthkgjohhbdipcaaGreatDoorProg
import Derived.KernelRfl
import Derived.Deep.LoopGhost
import Derived.Test.YthkgjohhbdipcaaGreatDoorK2
set_option linter.all false
namespace Go.Proofs.YthkgjohhbdipcaaGreatDoor
open Go.RowKit

theorem cell_allocN {w : World} {ad : Addr} {v : Value} (O : Obj) (h : w.cell? ad = some v) : (w.alloc O).cell? ad = some v := by
  obtain ⟨b, i, s⟩ := ad
  have hlt : b < w.heap.size := World.block_lt_of_cell? _ _ h
  exact (World.cell?_of_block (w := w) (Below.heap_alloc w O b hlt)).trans h
set_option maxRecDepth 100000 in
set_option maxHeartbeats 4000000 in
theorem nsame_any (a b : TRec) (u v : Value) (w : World) (h1 : RdRules w (fun _ => True) u a.p.rules) (h2 : RdRules w (fun _ => True) v b.p.rules) :
    Calls Tryz.prog 30 #[recV a u, recV b v] w fun e w' => e = .returned (.bool (decide (a = b))) ∧ Below w.heap.size w w' := by
  have H1 := Lib.hid h1
  have H2 := Lib.hid h2
  obtain ⟨au, cu, rfl, _⟩ := Sl.form h1
  obtain ⟨av, cv, rfl, _⟩ := Sl.form h2
  clear h1 h2
  obtain ⟨k, c, f, p⟩ := a
  obtain ⟨k', c', f', p'⟩ := b
  dsimp only at H1 H2 ⊢
  have HB := Lib.hid (Bx.two (w := w) (o := .cells #[.int .i64 k, .int .i64 c, .int .i64 f, .slice au p.rules.length cu, .int .i64 p.dflt] 56) (o' := .cells #[.int .i64 k', .int .i64 c', .int .i64 f', .slice av p'.rules.length cv, .int .i64 p'.dflt] 56))
  obtain ⟨q, hq⟩ : ∃ q, decide ((⟨k, c, f, p⟩ : TRec) = ⟨k', c', f', p'⟩) = q := ⟨_, rfl⟩
  have HD : Hid (q = (decide (k = k') && decide (c = c') && decide (f = f') && decide (p = p'))) := by show _ = _; rw [← hq]; simp [Bool.and_assoc]
  rw [hq]
  clear hq
  have HBL := Lib.hid HB.out.bel
  by_cases hk : k = k'
  · by_cases hc : c = c'
    · by_cases hf : f = f'
      · subst hk hc hf
        have HD' : Hid (q = decide (p = p')) := by show _ = _; rw [HD.out]; simp
        clear HD
        go_enter Tryz.func30, Tryz.ntmps30
        go_wp2_with fail
        refine (same_any _ _ p p' (fun _ => True) _ (RdRules.below H1.out HB.out.bel) (RdRules.below H2.out HB.out.bel)).mono ?_
        rintro e w2 ⟨rfl, hb2⟩
        have HB2 := Lib.hid (HB.out.below hb2)
        clear hb2
        go_wp2
        go_ret
        exact ⟨by rw [HD'.out]; rfl, HB2.out.bel⟩
      · subst hk hc
        have d : (f == f') = false := beq_eq_false_iff_ne.2 hf
        have HD' : Hid (q = false) := by show _ = _; rw [HD.out]; simp [hf]
        clear HD hf
        go_enter Tryz.func30, Tryz.ntmps30
        go_wp2
        go_ret
        exact ⟨by rw [HD'.out]; rfl, HBL.out⟩
    · subst hk
      have d : (c == c') = false := beq_eq_false_iff_ne.2 hc
      have HD' : Hid (q = false) := by show _ = _; rw [HD.out]; simp [hc]
      clear HD hc
      go_enter Tryz.func30, Tryz.ntmps30
      go_wp2
      go_ret
      exact ⟨by rw [HD'.out]; rfl, HBL.out⟩
  · have d : (k == k') = false := beq_eq_false_iff_ne.2 hk
    have HD' : Hid (q = false) := by show _ = _; rw [HD.out]; simp [hk]
    clear HD hk
    go_enter Tryz.func30, Tryz.ntmps30
    go_wp2
    go_ret
    exact ⟨by rw [HD'.out]; rfl, HBL.out⟩
set_option maxRecDepth 100000 in
set_option maxHeartbeats 4000000 in
theorem rnsame_any (a b : TRec) (u v : Value) (w : World) (h1 : RdRules w (fun _ => True) u a.p.rules) (h2 : RdRules w (fun _ => True) v b.p.rules) :
    Calls Tryz.prog 31 #[recV a u, recV b v] w fun e w' => e = .returned (.bool (decide (a = b))) ∧ Below w.heap.size w w' := by
  have H1 := Lib.hid h1
  have H2 := Lib.hid h2
  obtain ⟨au, cu, rfl, _⟩ := Sl.form h1
  obtain ⟨av, cv, rfl, _⟩ := Sl.form h2
  clear h1 h2
  obtain ⟨k, c, f, p⟩ := a
  obtain ⟨k', c', f', p'⟩ := b
  dsimp only at H1 H2 ⊢
  have HB := Lib.hid (Bx.two (w := w) (o := .cells #[.int .i64 k, .int .i64 c, .int .i64 f, .slice au p.rules.length cu, .int .i64 p.dflt] 56) (o' := .cells #[.int .i64 k', .int .i64 c', .int .i64 f', .slice av p'.rules.length cv, .int .i64 p'.dflt] 56))
  obtain ⟨q, hq⟩ : ∃ q, decide ((⟨k, c, f, p⟩ : TRec) = ⟨k', c', f', p'⟩) = q := ⟨_, rfl⟩
  have HD : Hid (q = (decide (k = k') && decide (c = c') && decide (f = f') && decide (p = p'))) := by show _ = _; rw [← hq]; simp [Bool.and_assoc]
  rw [hq]
  clear hq
  have HBL := Lib.hid HB.out.bel
  by_cases hk : k = k'
  · by_cases hc : c = c'
    · by_cases hf : f = f'
      · subst hk hc hf
        have HD' : Hid (q = decide (p = p')) := by show _ = _; rw [HD.out]; simp
        clear HD
        go_enter Tryz.func31, Tryz.ntmps31
        go_wp2_with fail
        refine (rsame_any _ _ p p' (fun _ => True) _ (RdRules.below H1.out HB.out.bel) (RdRules.below H2.out HB.out.bel)).mono ?_
        rintro e w2 ⟨rfl, hb2⟩
        have HB2 := Lib.hid (HB.out.below hb2)
        clear hb2
        go_wp2
        go_ret
        exact ⟨by rw [HD'.out]; rfl, HB2.out.bel⟩
      · subst hk hc
        have d : (f == f') = false := beq_eq_false_iff_ne.2 hf
        have HD' : Hid (q = false) := by show _ = _; rw [HD.out]; simp [hf]
        clear HD hf
        go_enter Tryz.func31, Tryz.ntmps31
        go_wp2
        go_ret
        exact ⟨by rw [HD'.out]; rfl, HBL.out⟩
    · subst hk
      have d : (c == c') = false := beq_eq_false_iff_ne.2 hc
      have HD' : Hid (q = false) := by show _ = _; rw [HD.out]; simp [hc]
      clear HD hc
      go_enter Tryz.func31, Tryz.ntmps31
      go_wp2
      go_ret
      exact ⟨by rw [HD'.out]; rfl, HBL.out⟩
  · have d : (k == k') = false := beq_eq_false_iff_ne.2 hk
    have HD' : Hid (q = false) := by show _ = _; rw [HD.out]; simp [hk]
    clear HD hk
    go_enter Tryz.func31, Tryz.ntmps31
    go_wp2
    go_ret
    exact ⟨by rw [HD'.out]; rfl, HBL.out⟩
set_option maxRecDepth 100000 in
set_option maxHeartbeats 4000000 in
theorem reqrecs_any (v u : Value) (xs ys : List TRec) (w : World) (h : RdRecs w (fun _ => True) v xs) (h' : RdRecs w (fun _ => True) u ys) :
    Calls Tryz.prog 45 #[v, u, .func (.func 31) #[] #[]] w fun e w' => e = .returned (.bool (decide (xs = ys))) ∧ Below w.heap.size w w' := by
  have H := Lib.hid h
  have H' := Lib.hid h'
  obtain ⟨a, c, rfl, hlc, hcm, hat⟩ := Sl.form h
  obtain ⟨a', c', rfl, hlc', hcm', hat'⟩ := Sl.form h'
  clear h h'
  by_cases hl : xs.length = ys.length
  · have Hl := Lib.hid hl
    have hln : ((xs.length : Int) != (ys.length : Int)) = false := by rw [hl]; simp
    clear hl
    go_enter Tryz.func45, Tryz.ntmps45
    go_wp2_with fail
    go_loopw [17] (fun i wr => ∃ k : Nat, k ≤ xs.length ∧ i = .int .i64 k ∧ xs.take k = ys.take k ∧ Below w.heap.size w wr) (fun i _ => xs.length - (intOf i).toNat)
    case atStart => exact ⟨0, by omega, rfl, rfl, Below.refl _ _⟩
    case round =>
      obtain ⟨k, hk, rfl, htk, hbw⟩ := hrel
      have Ht := Lib.hid htk
      have Hb := Lib.hid hbw
      clear htk hbw
      by_cases hlt : k < xs.length
      · obtain ⟨b, o, rfl, _, _⟩ := hat (by omega)
        obtain ⟨b', o', rfl, _, _⟩ := hat' (by rw [← Hl.out]; omega)
        have hlt' : k < ys.length := by rw [← Hl.out]; exact hlt
        obtain ⟨a1, c1, x0, x1, x2, x3, x4, hp1⟩ := RdRecs.cells (H.out.below Hb.out) hlt
        obtain ⟨b1, d1, y0, y1, y2, y3, y4, hp2⟩ := RdRecs.cells (H'.out.below Hb.out) hlt'
        have Hp1 := Lib.hid hp1
        have Hp2 := Lib.hid hp2
        have HC := Lib.hid (Bx.two (w := wr) (o := .cells #[.int .i64 xs[k].kind, .int .i64 xs[k].cell, .int .i64 xs[k].from_, .slice a1 xs[k].p.rules.length c1, .int .i64 xs[k].p.dflt] 56) (o' := .cells #[.int .i64 ys[k].kind, .int .i64 ys[k].cell, .int .i64 ys[k].from_, .slice b1 ys[k].p.rules.length d1, .int .i64 ys[k].p.dflt] 56))
        have q0 : ∀ O, (wr.alloc O).cell? ⟨b', o' + k * 5, none⟩ = _ := fun O => (cell_allocN O y0)
        have q1 : ∀ O, (wr.alloc O).cell? ⟨b', o' + k * 5 + 1, none⟩ = _ := fun O => (cell_allocN O y1)
        have q2 : ∀ O, (wr.alloc O).cell? ⟨b', o' + k * 5 + 2, none⟩ = _ := fun O => (cell_allocN O y2)
        have q3 : ∀ O, (wr.alloc O).cell? ⟨b', o' + k * 5 + 3, none⟩ = _ := fun O => (cell_allocN O y3)
        have q4 : ∀ O, (wr.alloc O).cell? ⟨b', o' + k * 5 + 4, none⟩ = _ := fun O => (cell_allocN O y4)
        clear hp1 hp2
        go_wp2_with fail
        refine (rnsame_any xs[k] ys[k] _ _ _ (RdRules.below Hp1.out HC.out.bel) (RdRules.below Hp2.out HC.out.bel)).mono ?_
        rintro e w1 ⟨rfl, hb1⟩
        have Hb1 := Lib.hid (bel_call (bel_call Hb.out HC.out.bel) hb1)
        clear hb1 x0 x1 x2 x3 x4 y0 y1 y2 y3 y4 q0 q1 q2 q3 q4 HC
        by_cases he : xs[k] = ys[k]
        · have Hn := Lib.hid (take_eq_stepS hlt hlt' Ht.out he)
          have d : decide (xs[k] = ys[k]) = true := decide_eq_true he
          clear he
          rw [d]
          go_wp2
          go_roundw
          case rel => first | exact ⟨k + 1, by omega, by go_num, Hn.out, Hb1.out⟩ | ((repeat apply Exists.intro); exact ⟨⟨k + 1, by omega, by go_num, Hn.out, Hb1.out⟩, rfl⟩)
          case measure => simp [intOf]; omega
        · have Hn := Lib.hid (ne_of_getS hlt hlt' he)
          have d : decide (xs[k] = ys[k]) = false := decide_eq_false he
          clear he
          rw [d]
          go_wp2
          go_ret
          exact ⟨by rw [decide_eq_false Hn.out]; rfl, Hb1.out⟩
      · obtain rfl : k = xs.length := by omega
        have Hn : Hid (xs = ys) := by
          have := Ht.out
          rw [List.take_length, Hl.out, List.take_length] at this
          exact this
        go_wp2
        go_ret
        exact ⟨by rw [decide_eq_true Hn.out]; rfl, Hb.out⟩
  · have hn : xs ≠ ys := fun e => hl (by rw [e])
    have hl' : ((xs.length : Int) != (ys.length : Int)) = true := bne_iff_ne.2 (by omega)
    have HD := Lib.hid (decide_eq_false hn)
    clear hn
    go_enter Tryz.func45, Tryz.ntmps45
    go_wp2
    go_ret
    exact ⟨by rw [HD.out]; rfl, Below.refl _ _⟩
end Go.Proofs.YthkgjohhbdipcaaGreatDoor
namespace Go.Proofs.YthkgjohhbdipcaaGreatDoor
open Go.RowKit

/-- the parts of a text, each with its newline. -/
def after (s : List UInt8) : List (List UInt8) := Lib.splitK [10] 1 (Lib.count s [10]) s
theorem after_none {l : List UInt8} (h : 10 ∉ l) : after l = [l] := by
  unfold after
  rw [Lib.count_one, List.count_eq_zero.2 h]
  rfl
theorem after_app {a l : List UInt8} (h : 10 ∉ a) : after (a ++ 10 :: l) = (a ++ [10]) :: after l := by
  unfold after
  rw [Lib.count_one, List.count_append, List.count_eq_zero.2 h, List.count_cons_self, Nat.zero_add, Lib.count_one]
  conv => lhs; unfold Lib.splitK
  rw [idx_app h, if_neg (by rw [beq_iff_eq]; omega)]
  have e : a ++ 10 :: l = (a ++ [10]) ++ l := by simp
  have e1 : (a ++ 10 :: l).take ((a.length : Int).toNat + 1) = a ++ [10] := by rw [e]; exact List.take_left' (by simp)
  have e2 : (a ++ 10 :: l).drop ((a.length : Int).toNat + [(10 : UInt8)].length) = l := by rw [e]; exact List.drop_left' (by simp)
  rw [e1, e2]
theorem after_len (l : List UInt8) : (after l).length ≤ l.length + 1 := by
  unfold after
  have h := Lib.splitB_length_le ⟨#[10]⟩ 1 (Lib.count l [10]) ⟨l.toArray⟩
  have h2 := congrArg List.length (Lib.splitB_data ⟨#[10]⟩ 1 (Lib.count l [10]) ⟨l.toArray⟩)
  rw [List.length_map] at h2
  have h3 : Lib.count l [10] ≤ l.length := by rw [Lib.count_one]; exact List.count_le_length
  have h4 : (Lib.splitK [10] 1 (Lib.count l [10]) l).length = (Lib.splitB ⟨#[10]⟩ 1 (Lib.count l [10]) ⟨l.toArray⟩).length := h2.symm
  omega
theorem after_ne (l : List UInt8) : after l ≠ [] := by
  rcases cut_cases l 10 with ⟨h, _⟩ | ⟨a, r, rfl, h, _⟩
  · rw [after_none h]; simp
  · rw [after_app h]; simp
set_option maxHeartbeats 1000000 in
theorem splitafter_any (S : List UInt8) (w : World) (hL : Laid w) (hs : S.length < 4294967281) : Calls Tryz.prog 123 #[.string (bsL S), .string ⟨#[10]⟩] w fun e w' =>
    ∃ (cap : Nat) (cs : Array Value), e = .returned (.slice (some ⟨w.heap.size, 0, none⟩) (after S).length cap) ∧ (after S).length ≤ cap ∧ w' = w.alloc (.cells cs 9) ∧ ∀ k (h : k < (after S).length), cs[k]? = some (.string (bsL (after S)[k])) := by
  obtain ⟨m, hm⟩ := hL.ml
  have hsz : (bsL S).size = S.length := by simp [bsL, ByteArray.size]
  have hcl := Lib.countB_le ⟨#[10]⟩ (by decide) _ (bsL S) (Nat.le_refl _)
  have hN : ((Lib.countB (bsL S) ⟨#[10]⟩ + 1 : Nat) : Int) = min (if (-1 : Int) < 0 then (Lib.countB (bsL S) ⟨#[10]⟩ : Int) + 1 else -1) (((bsL S).size : Int) + 1) := by
    rw [if_pos (by decide)]
    omega
  have hd : (Lib.splitB ⟨#[10]⟩ 1 (Lib.countB (bsL S) ⟨#[10]⟩ + 1 - 1) (bsL S)) = (after S).map bsL := by
    rw [← map_bsL (Lib.splitB ⟨#[10]⟩ 1 (Lib.countB (bsL S) ⟨#[10]⟩ + 1 - 1) (bsL S)), Lib.splitB_data]
    rfl
  have hl := Lib.splitB_length_le ⟨#[10]⟩ 1 (Lib.countB (bsL S) ⟨#[10]⟩ + 1 - 1) (bsL S)
  rw [hd, List.length_map] at hl
  have Hd := Lib.hid hd
  have Hl := Lib.hid hl
  have HN := Lib.hid hN
  have Hm := Lib.hid hm
  clear hd hl hN hcl hm
  go_enter Tryz.func123, Tryz.ntmps123
  go_wp2_with fail
  refine (Tryz.strings_genSplit (bsL S) ⟨#[10]⟩ 1 (-1) (Lib.countB (bsL S) ⟨#[10]⟩ + 1) m w (by omega) Hm.out (by decide) (by decide) (by decide) (by decide) HN.out).mono ?_
  rw [Hd.out, List.length_map]
  rintro e w1 ⟨rfl, rfl⟩
  go_wp2
  go_ret
  exact ⟨_, _, rfl, by have := Hl.out; omega, rfl, fun k h => by
    rw [cellsOf_get (by simpa using h)]
    simp⟩
theorem suffix_mem {s : List UInt8} (h : Lib.hasSuffix s [10] = true) : 10 ∈ s := by
  unfold Lib.hasSuffix at h
  exact (List.isSuffixOf_iff_suffix.1 h).subset (by simp)
theorem suffix_app (a : List UInt8) : Lib.hasSuffix (a ++ [10]) [10] = true := by
  unfold Lib.hasSuffix
  exact List.isSuffixOf_iff_suffix.2 (List.suffix_append a [10])
theorem suffix_no (T : List UInt8) (w : World) (hs : T.length ≤ 9223372036854775807) (h : 10 ∉ T) : Calls Tryz.prog 124 #[.string (bsL T), .string ⟨#[10]⟩] w fun e w' => e = .returned (.bool false) ∧ Below w.heap.size w w' := by
  refine (Tryz.strings_HasSuffix (bsL T) ⟨#[10]⟩ w (by simp [bsL, ByteArray.size]; omega)).mono ?_
  rintro e w1 ⟨rfl, rfl⟩
  have e1 : Lib.hasSuffix (bsL T).data.toList (⟨#[10]⟩ : ByteArray).data.toList = false := by
    cases hx : Lib.hasSuffix (bsL T).data.toList (⟨#[10]⟩ : ByteArray).data.toList with
    | false => rfl
    | true => exact absurd (suffix_mem hx) h
  rw [e1]
  exact ⟨rfl, Below.refl _ _⟩
theorem suffix_yes (a : List UInt8) (w : World) (hs : a.length ≤ 60000) : Calls Tryz.prog 124 #[.string (bsL (a ++ [10])), .string ⟨#[10]⟩] w fun e w' => e = .returned (.bool true) ∧ Below w.heap.size w w' := by
  refine (Tryz.strings_HasSuffix (bsL (a ++ [10])) ⟨#[10]⟩ w (by simp [bsL, ByteArray.size]; omega)).mono ?_
  rintro e w1 ⟨rfl, rfl⟩
  have e1 : Lib.hasSuffix (bsL (a ++ [10])).data.toList (⟨#[10]⟩ : ByteArray).data.toList = true := suffix_app a
  rw [e1]
  exact ⟨rfl, Below.refl _ _⟩
end Go.Proofs.YthkgjohhbdipcaaGreatDoor
namespace Go.Proofs.YthkgjohhbdipcaaGreatDoor
open Go.RowKit

theorem infoRecL : (Tryz.prog.info? 56).map (fun i => (i.zero, i.size, i.bytes)) = some (some (.agg #[.int .i64 0, .int .i64 0, .int .i64 0, .slice none 0 0, .int .i64 0]), 5, 56) := by kernel_rfl
def strLen : Value → Nat
  | .string b => b.size
  | _ => 0
/-- a row of records of the call's own; what they lead to lies elsewhere. -/
def OwnRecs (W : World) (B : Nat) (v : Value) (l : List TRec) : Prop := OwnSl W B 56 5 (recR W (fun b => B ≤ b ∧ v.ownBlock ≠ some b)) v l
theorem OwnRecs.nil {W : World} {B : Nat} : OwnRecs W B (.slice none 0 0) [] := OwnSl.nil
theorem OwnRecs.below {W W' : World} {B : Nat} {v : Value} {l : List TRec} (h : OwnRecs W B v l) (hb : Below W.heap.size W W') : OwnRecs W' B v l :=
  (OwnSl.below h hb).monoR fun _ _ _ hr => hr.keep (fun _ hx _ => hx) (fun x _ hl => hb.block x hl) hb.size
theorem OwnRecs.read {W : World} {B : Nat} {v : Value} {l : List TRec} (h : OwnRecs W B v l) : RdRecs W (fun b => B ≤ b) v l :=
  OwnSl.sl (OwnSl.monoR h fun _ _ _ hr => hr.keep (fun _ hx _ => hx.1) (fun _ _ _ => rfl) (Nat.le_refl _)) (fun _ hb => hb)
theorem OwnRecs.app {W W' : World} {B : Nat} {v v' : Value} {l : List TRec} (h : OwnSl W' B 56 5 (recR W (fun b => B ≤ b ∧ v.ownBlock ≠ some b)) v' l) (hg : W.grownBy W' v.ownBlock) (hat : v'.ownBlock = v.ownBlock ∨ v'.ownBlock = some W.heap.size) : OwnRecs W' B v' l :=
  h.monoR fun _ _ _ hr => hr.keep (fun x hx hl => ⟨hx.1, fun e => by
    rcases hat with h9 | h9
    · exact hx.2 (h9.symm.trans e)
    · rw [h9] at e; injection e with e; omega⟩) (fun x hx hl => hg.block x hl (fun e => hx.2 e.symm)) hg.size
theorem OwnRecs.lt {W : World} {B : Nat} {v : Value} {l : List TRec} (h : OwnRecs W B v l) : ∀ g, v.ownBlock = some g → g < W.heap.size := fun g hg => by
  obtain ⟨o, h1, _⟩ := OwnSl.typed h g hg
  exact (Array.getElem?_eq_some_iff.1 h1).1
set_option maxRecDepth 100000 in
set_option maxHeartbeats 16000000 in
theorem lines_any (S : List UInt8) (most : Nat) (w : World) (hL : Laid w) (hs : S.length ≤ 60000) (hm : most ≤ 40) :
    Calls Tryz.prog 82 #[.string (bsL S), .int .i64 most] w fun e w' => ∃ v, e = .returned (.tuple #[v, .int .i64 ((linesOf S most).2.1 : Nat), .int .i64 (linesOf S most).2.2]) ∧ OwnRecs w' w.heap.size v (linesOf S most).1 ∧ Below w.heap.size w w' := by
  have HL := Lib.hid hL
  have hsz : (bsL S).size = S.length := by simp [bsL, ByteArray.size]
  obtain ⟨i0, hi, hz0, hz1, hz2⟩ := info_parts infoRecL
  have Hi := Lib.hid hi
  clear hL hi
  go_enter Tryz.func82, Tryz.ntmps82
  go_wp2_with fail
  clear hsz
  go_loopw [0, 7] (fun sv lv wr => ∃ (T : List UInt8) (rs : List TRec), sv = .string (bsL T) ∧ T.length ≤ S.length ∧ rs.length ≤ most ∧ linesOf S most = (rs ++ (linesOf T (most - rs.length)).1, (S.length - T.length) + (linesOf T (most - rs.length)).2.1, (linesOf T (most - rs.length)).2.2) ∧ OwnRecs wr w.heap.size lv rs ∧ Below w.heap.size w wr) (fun sv _ _ => strLen sv)
  case atStart => exact ⟨S, [], rfl, Nat.le_refl _, Nat.zero_le _, by simp, OwnRecs.nil, Below.refl _ _⟩
  case round =>
    obtain ⟨T, rs, rfl, hT, hrs, hspec, hown, hbel⟩ := hrel
    have HS := Lib.hid hspec
    have Ho := Lib.hid hown
    have Hb := Lib.hid hbel
    have hszr := hbel.size
    obtain ⟨al, cl, rfl⟩ := OwnSl.slice hown
    clear hspec hown hbel
    by_cases h0 : T = []
    · subst h0
      have HF : Hid (linesOf S most = (rs, S.length, 0)) := by show _ = _; rw [HS.out, lines_nil]; simp
      have hs1 : (bsL []).toList = [] := by rw [ByteArray.toList_eq]; rfl
      clear HS
      go_wp2
      (try simp only [Exit.inBlock, Exit.then])
      refine bodyPost_ret (v := .tuple #[.slice al rs.length cl, .int .i64 S.length, .int .i64 0]) ?_ rfl (by rw [HF.out]; exact ⟨_, rfl, Ho.out, Hb.out⟩)
      simp [results, Tryz.results82, go_sem]
      try omega
    · obtain ⟨hca, hcb⟩ := cut_len T 10
      rcases cut_cases T 10 with ⟨hno, hc⟩ | ⟨a, t, hTe, ha, hc⟩
      · have HF : Hid (linesOf S most = (rs, S.length - T.length, 8)) := by show _ = _; rw [HS.out, lines_torn hno h0]; simp
        have Hc := Lib.hid hc
        have Hne : Hid (T ≠ []) := h0
        have hsz : (bsL T).size = T.length := by simp [bsL, ByteArray.size]
        have hs1 : (bsL T).toList = T := by rw [ByteArray.toList_eq]; rfl
        have hsub : IntKind.i64.wrap ((S.length : Int) - (T.length : Int)) = ((S.length - T.length : Nat) : Int) := by rw [show ((S.length - T.length : Nat) : Int) = (S.length : Int) - (T.length : Int) by omega]; exact IntWalk.i64_in _ (by omega)
        have hb1 : (T == []) = false := by cases T with
          | nil => exact absurd rfl h0
          | cons _ _ => rfl
        clear HS hno hc h0 hca hcb
        go_wp2_with fail
        refine (cutc_any 10 T _ (HL.out.below Hb.out) (by omega)).mono ?_
        rw [Hc.out]
        rintro e w1 ⟨rfl, hb2⟩
        have Ho1 := Lib.hid (OwnRecs.below Ho.out hb2)
        have Hb1 := Lib.hid (bel_call Hb.out hb2)
        clear hb2
        dsimp only
        go_wp2
        (try simp only [Exit.inBlock, Exit.then])
        refine bodyPost_ret (v := .tuple #[.slice al rs.length cl, .int .i64 ((S.length - T.length : Nat) : Int), .int .i64 8]) ?_ rfl (by rw [HF.out]; exact ⟨_, rfl, Ho1.out, Hb1.out⟩)
        simp [results, Tryz.results82, go_sem]
        try omega
      · subst hTe
        have Hc := Lib.hid hc
        have HLC := Lib.hid (lines_cons ha (most - rs.length) (t := t))
        have hlt : a.length + t.length + 1 ≤ S.length := by simp at hT; omega
        clear hT
        have hal : a.length ≤ 60000 := by omega
        have hTl : (a ++ 10 :: t).length = a.length + t.length + 1 := by simp; omega
        obtain ⟨TT, hTT⟩ : ∃ TT, a ++ 10 :: t = TT := ⟨_, rfl⟩
        have HTT := Lib.hid hTT
        rw [hTT] at HS Hc HLC hTl h0 ⊢
        have hsz : (bsL TT).size = TT.length := by simp [bsL, ByteArray.size]
        have hs1 : (bsL TT).toList = TT := by rw [ByteArray.toList_eq]; rfl
        have hsub : IntKind.i64.wrap ((S.length : Int) - (TT.length : Int)) = ((S.length - TT.length : Nat) : Int) := by rw [show ((S.length - TT.length : Nat) : Int) = (S.length : Int) - (TT.length : Int) by omega]; exact IntWalk.i64_in _ (by omega)
        have hb1 : (TT == []) = false := by cases TT with
          | nil => exact absurd rfl h0
          | cons _ _ => rfl
        have hTn : TT ≠ [] := h0
        have hTl2 : TT.length ≤ S.length := by omega
        have HTl := Lib.hid hTl
        clear hTl
        clear hc h0 hca hcb ha hTT
        go_wp2_with fail
        refine (cutc_any 10 TT _ (HL.out.below Hb.out) (by omega)).mono ?_
        rw [Hc.out]
        rintro e w1 ⟨rfl, hb2⟩
        have Ho1 := Lib.hid (OwnRecs.below Ho.out hb2)
        have Hb1 := Lib.hid (bel_call Hb.out hb2)
        clear hb2 Ho Hb
        dsimp only
        go_wp2_with fail
        refine (nparse_any a _ (HL.out.below Hb1.out)).mono ?_
        obtain ⟨⟨x, xe⟩, hx⟩ : ∃ E, readRec a = E := ⟨_, rfl⟩
        have Hx := Lib.hid hx
        rw [nreadE_short hal, hx]
        rintro e w2 ⟨ux, rfl, hrx, hb3⟩
        dsimp only at hrx
        obtain ⟨ax, cx, rfl, _⟩ := Sl.form hrx
        dsimp only
        have HA := Lib.hid (bel_alloc (Below.refl w2.heap.size w2) (.cells #[.int .i64 x.kind, .int .i64 x.cell, .int .i64 x.from_, .slice ax x.p.rules.length cx, .int .i64 x.p.dflt] 56))
        have Ho2 := Lib.hid (OwnRecs.below (OwnRecs.below Ho1.out hb3) HA.out)
        have Hb2 := Lib.hid (bel_call (bel_call Hb1.out hb3) HA.out)
        have Hx2 := Lib.hid (heap_last w2 (.cells #[.int .i64 x.kind, .int .i64 x.cell, .int .i64 x.from_, .slice ax x.p.rules.length cx, .int .i64 x.p.dflt] 56))
        have Hrx := Lib.hid (RdRules.below hrx HA.out)
        have Hown1 : Hid (∀ g, (Value.slice al rs.length cl).ownBlock = some g → g < w1.heap.size) := OwnRecs.lt Ho1.out
        have Hw1 : Hid (w.heap.size ≤ w1.heap.size) := Hb1.out.size
        clear hx hrx hb3 Ho1 Hb1
        by_cases hxe : xe = 0
        · subst hxe
          by_cases hmo : rs.length = most
          · have HF : Hid (linesOf S most = (rs, S.length - TT.length, 2)) := by show _ = _; rw [HS.out, HLC.out, Hx.out, if_neg (by simp), if_pos (by omega)]; simp
            have hmo' : ((rs.length : Int) == (most : Int)) = true := beq_iff_eq.2 (by omega)
            clear hmo HS HLC
            go_wp2
            (try simp only [Exit.inBlock, Exit.then])
            refine bodyPost_ret (v := .tuple #[.slice al rs.length cl, .int .i64 ((S.length - TT.length : Nat) : Int), .int .i64 2]) ?_ rfl (by rw [HF.out]; exact ⟨_, rfl, Ho2.out, Hb2.out⟩)
            simp [results, Tryz.results82, go_sem]
            try omega
          · have hmo' : ((rs.length : Int) == (most : Int)) = false := beq_eq_false_iff_ne.2 (by omega)
            have HF : Hid (linesOf S most = ((rs ++ [x]) ++ (linesOf t (most - (rs ++ [x]).length)).1, (S.length - t.length) + (linesOf t (most - (rs ++ [x]).length)).2.1, (linesOf t (most - (rs ++ [x]).length)).2.2)) := by
              show _ = _
              have e1 : most - rs.length - 1 = most - (rs ++ [x]).length := by simp; omega
              rw [HS.out, HLC.out, Hx.out, if_neg (by simp), if_neg (by omega), e1]
              refine Prod.ext (by simp) (Prod.ext ?_ rfl)
              dsimp only
              have := HTl.out
              clear hsub Hown1
              omega
            have hrs40 : rs.length ≤ 40 := by omega
            have hrsl : (rs ++ [x]).length ≤ most := by simp; omega
            clear hmo HS HLC
            have hqx := cells_of Hx2.out
            have HA3 := Lib.hid (bel_alloc (Below.refl (w2.alloc (.cells #[.int .i64 x.kind, .int .i64 x.cell, .int .i64 x.from_, .slice ax x.p.rules.length cx, .int .i64 x.p.dflt] 56)).heap.size (w2.alloc (.cells #[.int .i64 x.kind, .int .i64 x.cell, .int .i64 x.from_, .slice ax x.p.rules.length cx, .int .i64 x.p.dflt] 56))) (.cells #[.int .i64 x.kind, .int .i64 x.cell, .int .i64 x.from_, .slice ax x.p.rules.length cx, .int .i64 x.p.dflt] 56))
            have Ho3 := Lib.hid (OwnRecs.below Ho2.out HA3.out)
            have Hb3 := Lib.hid (bel_call Hb2.out HA3.out)
            have HR1 : Hid (Sl ((w2.alloc (.cells #[.int .i64 x.kind, .int .i64 x.cell, .int .i64 x.from_, .slice ax x.p.rules.length cx, .int .i64 x.p.dflt] 56)).alloc (.cells #[.int .i64 x.kind, .int .i64 x.cell, .int .i64 x.from_, .slice ax x.p.rules.length cx, .int .i64 x.p.dflt] 56)) (fun _ => True) 5 (recR ((w2.alloc (.cells #[.int .i64 x.kind, .int .i64 x.cell, .int .i64 x.from_, .slice ax x.p.rules.length cx, .int .i64 x.p.dflt] 56)).alloc (.cells #[.int .i64 x.kind, .int .i64 x.cell, .int .i64 x.from_, .slice ax x.p.rules.length cx, .int .i64 x.p.dflt] 56)) (fun b => w.heap.size ≤ b ∧ (Value.slice al rs.length cl).ownBlock ≠ some b)) (.slice (some ⟨w2.heap.size + 1, 0, none⟩) 1 1) [x]) :=
              sl_block (sz := 5) (xs := [x]) (rows := [[.int .i64 x.kind, .int .i64 x.cell, .int .i64 x.from_, .slice ax x.p.rules.length cx, .int .i64 x.p.dflt]]) (RowsOf.cons RowsOf.nil ⟨_, rfl, Hrx.out.keep (fun b hb _ => by
                have h1 : w1.heap.size ≤ b := hb
                exact ⟨by have := Hw1.out; omega, fun e => by have := Hown1.out b e; omega⟩) (fun b _ hl => HA3.out.block b hl) HA3.out.size⟩ rfl) (blk_at (by simp)) rfl trivial (by simp [maxLen])
            go_wp2_with (at_builtin; (
              refine wpList_app2 rfl _ _ 68 rfl w.heap.size 56 i0 _ 5 56 Tryz.underlying68 Hi.out hz0 hz1 hz2 rfl (by decide) _ _ rfl Ho3.out _ _ rfl HR1.out (fun y _ cs h => recR_one y cs h) (by show _ + 1 ≤ maxLen; unfold maxLen; omega) (by show (_ + 1) * 56 ≤ _; omega) Hb3.out.size ?_
              intro v8 w8 hown8 hg8 hat8
              have Ho8 := Lib.hid (OwnRecs.app hown8 hg8 hat8)
              have Hb8 := Lib.hid (OwnSl.grown Ho3.out Hb3.out hg8 Hb3.out.size (Nat.le_refl _))
              clear hown8 hg8 hat8))
            go_roundw
            case rel => first | exact ⟨t, rs ++ [x], rfl, by have := HTl.out; omega, hrsl, HF.out, Ho8.out, Hb8.out⟩ | ((repeat apply Exists.intro); exact ⟨⟨t, rs ++ [x], rfl, by have := HTl.out; omega, hrsl, HF.out, Ho8.out, Hb8.out⟩, rfl⟩)
            case measure => simp [strLen, bsL, ByteArray.size]; have := HTl.out; omega
        · have hne : (xe != 0) = true := bne_iff_ne.2 hxe
          have HF : Hid (linesOf S most = (rs, S.length - TT.length, xe)) := by show _ = _; rw [HS.out, HLC.out, Hx.out, if_pos hxe]; simp
          clear hxe HS HLC
          go_wp2
          (try simp only [Exit.inBlock, Exit.then])
          refine bodyPost_ret (v := .tuple #[.slice al rs.length cl, .int .i64 ((S.length - TT.length : Nat) : Int), .int .i64 xe]) ?_ rfl (by rw [HF.out]; exact ⟨_, rfl, Ho2.out, Hb2.out⟩)
          simp [results, Tryz.results82, go_sem]
          try omega
end Go.Proofs.YthkgjohhbdipcaaGreatDoor
namespace Go.Proofs.YthkgjohhbdipcaaGreatDoor
open Go.RowKit

theorem recs_up {w1 W : World} {n : Nat} {v : Value} {l : List TRec} (h : RdRecs W (fun b => w1.heap.size ≤ b) v l) (hn : n < w1.heap.size) : RdRecs W (fun b => n ≤ b) v l :=
  h.keep (fun b hb _ => by have h1 : w1.heap.size ≤ b := hb; show n ≤ b; omega) (fun _ _ _ => rfl) (Nat.le_refl _)
theorem bel_two {w w1 W : World} (h : Below w.heap.size w w1) (h' : Below w1.heap.size w1 W) : Below w.heap.size w W := bel_call h h'
theorem bs_cut (a : List UInt8) : (bsL (a ++ [10])).extract 0 a.length = bsL a := by
  have h := Lib.extract_from_zero (bsL (a ++ [10])) a.length
  have e : ∀ x : ByteArray, bsL x.data.toList = x := fun x => by cases x; simp [bsL]
  rw [← e ((bsL (a ++ [10])).extract 0 a.length), h]
  congr 1
  show (a ++ [10]).take a.length = a
  simp
theorem drop_at {α : Type} {l m : List α} {i : Nat} {x : α} {y : List α} (h : l.drop i = m) (hm : m = x :: y) : i < l.length ∧ l[i]? = some x ∧ l.drop (i + 1) = y := by
  subst hm
  have hi : i < l.length := by
    rcases Nat.lt_or_ge i l.length with h1 | h1
    · exact h1
    · rw [List.drop_of_length_le h1] at h; cases h
  rw [List.drop_eq_getElem_cons hi] at h
  injection h with h1 h2
  exact ⟨hi, by rw [List.getElem?_eq_getElem hi, h1], h2⟩
theorem getElem_of {α : Type} {l : List α} {i : Nat} {x : α} (h : l[i]? = some x) (hi : i < l.length) : l[i] = x := by
  rw [List.getElem?_eq_getElem hi] at h
  injection h
set_option maxRecDepth 100000 in
set_option maxHeartbeats 16000000 in
theorem rlines_any (S : List UInt8) (most : Nat) (w : World) (hL : Laid w) (hs : S.length ≤ 60000) (hm : most ≤ 40) :
    Calls Tryz.prog 83 #[.string (bsL S), .int .i64 most] w fun e w' => ∃ v, e = .returned (.tuple #[v, .int .i64 ((linesOf S most).2.1 : Nat), .int .i64 (linesOf S most).2.2]) ∧ RdRecs w' (fun b => w.heap.size ≤ b) v (linesOf S most).1 ∧ Below w.heap.size w w' := by
  have HL := Lib.hid hL
  obtain ⟨i0, hi, hz0, hz1, hz2⟩ := info_parts infoRecL
  have Hi := Lib.hid hi
  have hal := after_len S
  have HalS : Hid ((after S).length ≤ 60001) := by show _ ≤ _; omega
  clear hL hi hal
  go_enter Tryz.func83, Tryz.ntmps83
  go_wp2_with fail
  refine (splitafter_any S w HL.out (by omega)).mono ?_
  rintro e w1' ⟨cap, cs, rfl, hcap, hw1, hcs⟩
  have Hpb : Hid (w1'.heap[w.heap.size]? = some (.cells cs 9)) := by show _ = _; rw [hw1]; exact heap_last _ _
  have Hb1 : Hid (Below w.heap.size w w1') := by show Below _ _ _; rw [hw1]; exact bel_alloc (Below.refl _ _) _
  have Hcs := Lib.hid hcs
  have Hcap := Lib.hid hcap
  clear hw1 hcs hcap
  obtain ⟨w1, rfl⟩ : ∃ w1 : World, w1 = w1' := ⟨_, rfl⟩
  have Hpl : Hid (w.heap.size < w1.heap.size) := (Array.getElem?_eq_some_iff.1 Hpb.out).1
  obtain ⟨na, hna⟩ : ∃ na, (after S).length = na := ⟨_, rfl⟩
  have Hna := Lib.hid hna
  rw [hna] at HalS Hcap ⊢
  have hna6 := HalS.out
  clear hna
  go_wp2_with fail
  go_loopw [7, 8, 16] (fun lv nv iv wr => ∃ (i : Nat) (T : List UInt8) (rs : List TRec), iv = .int .i64 i ∧ nv = .int .i64 ((S.length - T.length : Nat) : Int) ∧ (after S).drop i = after T ∧ T.length ≤ S.length ∧ rs.length ≤ most ∧ linesOf S most = (rs ++ (linesOf T (most - rs.length)).1, (S.length - T.length) + (linesOf T (most - rs.length)).2.1, (linesOf T (most - rs.length)).2.2) ∧ OwnRecs wr w1.heap.size lv rs ∧ Below w1.heap.size w1 wr) (fun _ _ iv _ => na - (intOf iv).toNat)
  case atStart => first | exact ⟨0, S, [], rfl, by simp, rfl, Nat.le_refl _, Nat.zero_le _, by simp, OwnRecs.nil, Below.refl _ _⟩ | ((repeat apply Exists.intro); exact ⟨⟨0, S, [], rfl, by simp, rfl, Nat.le_refl _, Nat.zero_le _, by simp, OwnRecs.nil, Below.refl _ _⟩, rfl⟩)
  case round =>
    obtain ⟨i, T, rs, rfl, rfl, hdrop, hT, hrs, hspec, hown, hbel⟩ := hrel
    have HS := Lib.hid hspec
    have Ho := Lib.hid hown
    have Hb := Lib.hid hbel
    have Hd := Lib.hid hdrop
    have hszr := hbel.size
    have hblr := blk_below Hpb.out hbel
    have hcpr := cells_of hblr
    obtain ⟨al, cl, rfl⟩ := OwnSl.slice hown
    clear hspec hown hbel hdrop hblr
    have hn0 : (0 : Int) ≤ ((S.length - T.length : Nat) : Int) ∧ ((S.length - T.length : Nat) : Int) ≤ 60000 := by omega
    obtain ⟨nn, hnn⟩ : ∃ nn : Int, ((S.length - T.length : Nat) : Int) = nn := ⟨_, rfl⟩
    have Hnn := Lib.hid hnn
    rw [hnn] at hn0 ⊢
    clear hnn
    by_cases h0 : T = []
    · subst h0
      have HF : Hid (linesOf S most = (rs, S.length, 0)) := by show _ = _; rw [HS.out, lines_nil]; simp
      obtain ⟨hil, hpt, _⟩ := drop_at Hd.out (after_none (l := []) (by simp))
      have hpc := Hcs.out i hil
      rw [getElem_of hpt hil] at hpc
      rw [Hna.out] at hil
      have hs1 : (bsL []).toList = [] := by rw [ByteArray.toList_eq]; rfl
      have hcpi := (hcpr i).trans hpc
      clear HS hpt hpc hcpr
      go_wp2
      (try simp only [Exit.inBlock, Exit.then])
      refine bodyPost_ret (v := .tuple #[.slice al rs.length cl, .int .i64 S.length, .int .i64 0]) ?_ rfl (by rw [HF.out]; exact ⟨_, rfl, recs_up (OwnRecs.read Ho.out) Hpl.out, bel_two Hb1.out Hb.out⟩)
      have e1 : nn = (S.length : Int) := by have := Hnn.out; simp at this; omega
      simp [results, Tryz.results83, go_sem, e1]
    · rcases cut_cases T 10 with ⟨hno, _⟩ | ⟨a, t, hTe, ha, _⟩
      · have HF : Hid (linesOf S most = (rs, S.length - T.length, 8)) := by show _ = _; rw [HS.out, lines_torn hno h0]; simp
        obtain ⟨hil, hpt, _⟩ := drop_at Hd.out (after_none hno)
        have hpc := Hcs.out i hil
        rw [getElem_of hpt hil] at hpc
        rw [Hna.out] at hil
        have hcpi := (hcpr i).trans hpc
        have hs1 : (bsL T).toList = T := by rw [ByteArray.toList_eq]; rfl
        have hb1 : (T == []) = false := by cases T with
          | nil => exact absurd rfl h0
          | cons _ _ => rfl
        have Hno := Lib.hid hno
        have Hne : Hid (T ≠ []) := h0
        clear HS hpt hpc hcpr hno h0
        go_wp2_with fail
        refine (suffix_no T _ (by have := hT; omega) Hno.out).mono ?_
        rintro e w2 ⟨rfl, hb2⟩
        have Ho1 := Lib.hid (OwnRecs.below Ho.out hb2)
        have Hb2 := Lib.hid (bel_call Hb.out hb2)
        clear hb2
        go_wp2
        (try simp only [Exit.inBlock, Exit.then])
        refine bodyPost_ret (v := .tuple #[.slice al rs.length cl, .int .i64 ((S.length - T.length : Nat) : Int), .int .i64 8]) ?_ rfl (by rw [HF.out]; exact ⟨_, rfl, recs_up (OwnRecs.read Ho1.out) Hpl.out, bel_two Hb1.out Hb2.out⟩)
        have e1 := Hnn.out
        simp [results, Tryz.results83, go_sem, e1]
      · subst hTe
        have HLC := Lib.hid (lines_cons ha (most - rs.length) (t := t))
        have hlt : a.length + t.length + 1 ≤ S.length := by simp at hT; omega
        have hal : a.length ≤ 60000 := by omega
        have hTl : (a ++ 10 :: t).length = a.length + t.length + 1 := by simp; omega
        obtain ⟨hil, hpt, hnext⟩ := drop_at Hd.out (after_app ha)
        have hpc := Hcs.out i hil
        rw [getElem_of hpt hil] at hpc
        rw [Hna.out] at hil
        have hcpi := (hcpr i).trans hpc
        have Hnext := Lib.hid hnext
        have HTl := Lib.hid hTl
        have Hlt := Lib.hid hlt
        have hnew : IntKind.i64.wrap (nn + ((a.length : Int) + 1)) = ((S.length - t.length : Nat) : Int) := by
          have h1 := Hnn.out
          rw [hTl] at h1
          rw [show nn + ((a.length : Int) + 1) = ((S.length - t.length : Nat) : Int) by omega]
          exact IntWalk.i64_in _ (by omega)
        clear hpt hpc hcpr h0 hnext hT hTl
        obtain ⟨PA, hPA⟩ : ∃ PA, a ++ [10] = PA := ⟨_, rfl⟩
        have hPl : PA.length = a.length + 1 := by rw [← hPA]; simp
        rw [hPA] at hcpi
        have hs1 : (bsL PA).toList = PA := by rw [ByteArray.toList_eq]; rfl
        have hps : (bsL PA).size = a.length + 1 := by simp [bsL, ByteArray.size]; omega
        have hb1 : (PA == []) = false := by rw [← hPA]; cases a <;> rfl
        have hwl : IntKind.i64.wrap ((a.length : Int) + 1 - 1) = (a.length : Int) := by rw [show (a.length : Int) + 1 - 1 = (a.length : Int) by omega]; exact IntWalk.i64_in _ (by omega)
        have hcut : (bsL PA).extract 0 a.length = bsL a := by rw [← hPA]; exact bs_cut a
        have HPA := Lib.hid hPA
        have HPl := Lib.hid hPl
        have hPn : PA ≠ [] := by rw [← hPA]; simp
        clear hPA hPl hlt ha
        go_wp2_with fail
        refine (suffix_yes a _ (by omega)).mono ?_ |> (fun h => by rw [HPA.out] at h; exact h)
        rintro e w9 ⟨rfl, hb9⟩
        have Ho0 := Lib.hid (OwnRecs.below Ho.out hb9)
        have Hb0 := Lib.hid (bel_call Hb.out hb9)
        clear hb9 Ho Hb
        go_wp2_with fail
        refine (rrecread_any a _ ((HL.out.below Hb1.out).below Hb0.out) (by omega)).mono ?_
        obtain ⟨⟨x, xe⟩, hx⟩ : ∃ E, readRec a = E := ⟨_, rfl⟩
        have Hx := Lib.hid hx
        rw [hx]
        rintro e w2 ⟨ux, rfl, hrx, hb3⟩
        dsimp only at hrx
        obtain ⟨ax, cx, rfl, _⟩ := Sl.form hrx
        dsimp only
        have HA := Lib.hid (bel_alloc (Below.refl w2.heap.size w2) (.cells #[.int .i64 x.kind, .int .i64 x.cell, .int .i64 x.from_, .slice ax x.p.rules.length cx, .int .i64 x.p.dflt] 56))
        have Ho2 := Lib.hid (OwnRecs.below (OwnRecs.below Ho0.out hb3) HA.out)
        have Hb2 := Lib.hid (bel_call (bel_call Hb0.out hb3) HA.out)
        have Hx2 := Lib.hid (heap_last w2 (.cells #[.int .i64 x.kind, .int .i64 x.cell, .int .i64 x.from_, .slice ax x.p.rules.length cx, .int .i64 x.p.dflt] 56))
        have Hrx := Lib.hid (RdRules.below hrx HA.out)
        have Hown1 : Hid (∀ g, (Value.slice al rs.length cl).ownBlock = some g → g < w9.heap.size) := OwnRecs.lt Ho0.out
        have Hw1 : Hid (w1.heap.size ≤ w9.heap.size) := Hb0.out.size
        clear hx hrx hb3 Ho0 Hb0
        by_cases hxe : xe = 0
        · subst hxe
          by_cases hmo : most ≤ rs.length
          · have HF : Hid (linesOf S most = (rs, S.length - (a ++ 10 :: t).length, 2)) := by show _ = _; rw [HS.out, HLC.out, Hx.out, if_neg (by simp), if_pos (by omega)]; simp
            have hmo' : (most : Int) ≤ (rs.length : Int) := by omega
            clear hmo HS HLC
            go_wp2
            (try simp only [Exit.inBlock, Exit.then])
            refine bodyPost_ret (v := .tuple #[.slice al rs.length cl, .int .i64 ((S.length - (a ++ 10 :: t).length : Nat) : Int), .int .i64 2]) ?_ rfl (by rw [HF.out]; exact ⟨_, rfl, recs_up (OwnRecs.read Ho2.out) Hpl.out, bel_two Hb1.out Hb2.out⟩)
            have e1 := Hnn.out
            simp only [e1]
            simp [results, Tryz.results83, go_sem]
          · have hmo' : ¬ (most : Int) ≤ (rs.length : Int) := by omega
            have HF : Hid (linesOf S most = ((rs ++ [x]) ++ (linesOf t (most - (rs ++ [x]).length)).1, (S.length - t.length) + (linesOf t (most - (rs ++ [x]).length)).2.1, (linesOf t (most - (rs ++ [x]).length)).2.2)) := by
              show _ = _
              have e1 : most - rs.length - 1 = most - (rs ++ [x]).length := by simp; omega
              rw [HS.out, HLC.out, Hx.out, if_neg (by simp), if_neg (by omega), e1]
              refine Prod.ext (by simp) (Prod.ext ?_ rfl)
              dsimp only
              have := HTl.out
              have := Hlt.out
              clear hnew hwl Hown1 hcpi
              omega
            have hrs40 : rs.length ≤ 40 := by omega
            have hrsl : (rs ++ [x]).length ≤ most := by simp; omega
            clear hmo HS HLC
            have hqx := cells_of Hx2.out
            have HA3 := Lib.hid (bel_alloc (Below.refl (w2.alloc (.cells #[.int .i64 x.kind, .int .i64 x.cell, .int .i64 x.from_, .slice ax x.p.rules.length cx, .int .i64 x.p.dflt] 56)).heap.size (w2.alloc (.cells #[.int .i64 x.kind, .int .i64 x.cell, .int .i64 x.from_, .slice ax x.p.rules.length cx, .int .i64 x.p.dflt] 56))) (.cells #[.int .i64 x.kind, .int .i64 x.cell, .int .i64 x.from_, .slice ax x.p.rules.length cx, .int .i64 x.p.dflt] 56))
            have Ho3 := Lib.hid (OwnRecs.below Ho2.out HA3.out)
            have Hb3 := Lib.hid (bel_call Hb2.out HA3.out)
            have HR1 : Hid (Sl ((w2.alloc (.cells #[.int .i64 x.kind, .int .i64 x.cell, .int .i64 x.from_, .slice ax x.p.rules.length cx, .int .i64 x.p.dflt] 56)).alloc (.cells #[.int .i64 x.kind, .int .i64 x.cell, .int .i64 x.from_, .slice ax x.p.rules.length cx, .int .i64 x.p.dflt] 56)) (fun _ => True) 5 (recR ((w2.alloc (.cells #[.int .i64 x.kind, .int .i64 x.cell, .int .i64 x.from_, .slice ax x.p.rules.length cx, .int .i64 x.p.dflt] 56)).alloc (.cells #[.int .i64 x.kind, .int .i64 x.cell, .int .i64 x.from_, .slice ax x.p.rules.length cx, .int .i64 x.p.dflt] 56)) (fun b => w1.heap.size ≤ b ∧ (Value.slice al rs.length cl).ownBlock ≠ some b)) (.slice (some ⟨w2.heap.size + 1, 0, none⟩) 1 1) [x]) :=
              sl_block (sz := 5) (xs := [x]) (rows := [[.int .i64 x.kind, .int .i64 x.cell, .int .i64 x.from_, .slice ax x.p.rules.length cx, .int .i64 x.p.dflt]]) (RowsOf.cons RowsOf.nil ⟨_, rfl, Hrx.out.keep (fun b hb _ => by
                have h1 : w9.heap.size ≤ b := hb
                exact ⟨by have := Hw1.out; omega, fun e => by have := Hown1.out b e; omega⟩) (fun b _ hl => HA3.out.block b hl) HA3.out.size⟩ rfl) (blk_at (by simp)) rfl trivial (by simp [maxLen])
            go_wp2_with (at_builtin; (
              refine wpList_app2 rfl _ _ 68 rfl w1.heap.size 56 i0 _ 5 56 Tryz.underlying68 Hi.out hz0 hz1 hz2 rfl (by decide) _ _ rfl Ho3.out _ _ rfl HR1.out (fun y _ cs h => recR_one y cs h) (by show _ + 1 ≤ maxLen; unfold maxLen; omega) (by show (_ + 1) * 56 ≤ _; omega) Hb3.out.size ?_
              intro v8 w8 hown8 hg8 hat8
              have Ho8 := Lib.hid (OwnRecs.app hown8 hg8 hat8)
              have Hb8 := Lib.hid (OwnSl.grown Ho3.out Hb3.out hg8 Hb3.out.size (Nat.le_refl _))
              clear hown8 hg8 hat8))
            go_roundw
            case rel => first | exact ⟨i + 1, t, rs ++ [x], by go_num, rfl, Hnext.out, by have := Hlt.out; omega, hrsl, HF.out, Ho8.out, Hb8.out⟩ | ((repeat apply Exists.intro); exact ⟨⟨i + 1, t, rs ++ [x], by go_num, rfl, Hnext.out, by have := Hlt.out; omega, hrsl, HF.out, Ho8.out, Hb8.out⟩, rfl⟩)
            case measure => simp [intOf]; omega
        · have hne : (xe != 0) = true := bne_iff_ne.2 hxe
          have hne2 : (xe == 0) = false := beq_eq_false_iff_ne.2 hxe
          have HF : Hid (linesOf S most = (rs, S.length - (a ++ 10 :: t).length, xe)) := by show _ = _; rw [HS.out, HLC.out, Hx.out, if_pos hxe]; simp
          clear hxe HS HLC
          go_wp2
          (try simp only [Exit.inBlock, Exit.then])
          refine bodyPost_ret (v := .tuple #[.slice al rs.length cl, .int .i64 ((S.length - (a ++ 10 :: t).length : Nat) : Int), .int .i64 xe]) ?_ rfl (by rw [HF.out]; exact ⟨_, rfl, recs_up (OwnRecs.read Ho2.out) Hpl.out, bel_two Hb1.out Hb2.out⟩)
          have e1 := Hnn.out
          simp only [e1]
          simp [results, Tryz.results83, go_sem]
end Go.Proofs.YthkgjohhbdipcaaGreatDoor
namespace Go.Proofs.YthkgjohhbdipcaaGreatDoor
open Go.RowKit

/-- a disk as a value. -/
@[reducible] def diskV (u v : Value) : Value := .agg #[u, v]
def RdDisk (w : World) (D : Nat → Prop) (u v : Value) (d : TDisk) : Prop := RdBytes w D u d.safe ∧ RdBytes w D v d.wait
theorem RdDisk.keep {w w' : World} {D D' : Nat → Prop} {u v : Value} {d : TDisk} (h : RdDisk w D u v d) (hD : ∀ b, D b → b < w.heap.size → D' b)
    (hw : ∀ b, D b → b < w.heap.size → w'.heap[b]? = w.heap[b]?) (hs : w.heap.size ≤ w'.heap.size) : RdDisk w' D' u v d := ⟨RdBytes.keep h.1 hD hw hs, RdBytes.keep h.2 hD hw hs⟩
theorem RdDisk.below {w w' : World} {D : Nat → Prop} {u v : Value} {d : TDisk} (h : RdDisk w D u v d) (hb : Below w.heap.size w w') : RdDisk w' D u v d := ⟨RdBytes.below h.1 hb, RdBytes.below h.2 hb⟩
theorem RdDisk.true {w : World} {D : Nat → Prop} {u v : Value} {d : TDisk} (h : RdDisk w D u v d) : RdDisk w (fun _ => True) u v d := ⟨RdBytes.true h.1, RdBytes.true h.2⟩
theorem RdDisk.lt {w : World} {D : Nat → Prop} {u v : Value} {d : TDisk} (h : RdDisk w D u v d) : RdDisk w (fun b => b < w.heap.size) u v d := ⟨RdBytes.lt h.1, RdBytes.lt h.2⟩
theorem nil_disk (w : World) (D : Nat → Prop) : RdDisk w D (.slice none 0 0) (.slice none 0 0) zeroDisk := ⟨nil_bytes w D, nil_bytes w D⟩
end Go.Proofs.YthkgjohhbdipcaaGreatDoor
namespace Go.Proofs.YthkgjohhbdipcaaGreatDoor
open Go.RowKit

set_option maxRecDepth 100000 in
set_option maxHeartbeats 4000000 in
theorem rdcheck_any (u v : Value) (d : TDisk) (D : Nat → Prop) (w : World) (h : RdDisk w D u v d) (hL : Laid w) :
    Calls Tryz.prog 37 #[diskV u v] w fun e w' => e = .returned (.int .i64 (diskE d)) ∧ Below w.heap.size w w' := by
  have HL := Lib.hid hL
  have H1 := Lib.hid h.1
  obtain ⟨a1, c1, rfl, hc1, _⟩ := Sl.form h.1
  obtain ⟨a2, c2, rfl, hc2, _⟩ := Sl.form h.2
  have hm1 : d.safe.length ≤ 9223372036854775807 := by omega
  have hm2 : d.wait.length ≤ 9223372036854775807 := by omega
  clear h hL hc1 hc2
  have HB := Lib.hid (Bx.one (w := w) (o := .cells #[.slice a1 d.safe.length c1, .slice a2 d.wait.length c2] 25))
  have hcv : (convert 23 9 (.slice a1 d.safe.length c1)).run Tryz.prog (w.alloc (.cells #[.slice a1 d.safe.length c1, .slice a2 d.wait.length c2] 25)) = .ok (.string (bsL d.safe)) (w.alloc (.cells #[.slice a1 d.safe.length c1, .slice a2 d.wait.length c2] 25)) := bytes_string (RdBytes.below H1.out HB.out.bel)
  by_cases h1 : 60000 < d.safe.length
  · have HE : Hid (diskE d = 2) := if_pos (by omega)
    have h1' : (60000 : Int) < (d.safe.length : Int) := by omega
    have HBL := Lib.hid HB.out.bel
    clear hcv
    go_enter Tryz.func37, Tryz.ntmps37
    go_wp2
    go_ret
    exact ⟨by rw [HE.out]; rfl, HBL.out⟩
  · have h1' : ¬ (60000 : Int) < (d.safe.length : Int) := by omega
    have hsub : IntKind.i64.wrap (60000 - (d.safe.length : Int)) = 60000 - (d.safe.length : Int) := IntWalk.i64_in _ (by omega)
    by_cases h2 : 60000 < d.safe.length + d.wait.length
    · have HE : Hid (diskE d = 2) := if_pos h2
      have h2' : 60000 - (d.safe.length : Int) < (d.wait.length : Int) := by omega
      have HBL := Lib.hid HB.out.bel
      clear hcv
      go_enter Tryz.func37, Tryz.ntmps37
      go_wp2
      go_ret
      exact ⟨by rw [HE.out]; rfl, HBL.out⟩
    · have HE : Hid (diskE d = (linesOf d.safe 40).2.2) := if_neg h2
      have h2' : ¬ 60000 - (d.safe.length : Int) < (d.wait.length : Int) := by omega
      have Hs : Hid (d.safe.length ≤ 60000) := by show _ ≤ _; omega
      go_enter Tryz.func37, Tryz.ntmps37
      go_wp2_with fail
      clear hcv
      refine (rlines_any d.safe 40 _ (HL.out.below HB.out.bel) Hs.out (by decide)).mono ?_
      rintro e w1 ⟨v1, rfl, _, hb1⟩
      have HBf := Lib.hid (HB.out.below hb1).bel
      clear hb1
      go_wp2
      go_ret
      exact ⟨by rw [HE.out]; rfl, HBf.out⟩
end Go.Proofs.YthkgjohhbdipcaaGreatDoor
namespace Go.Proofs.YthkgjohhbdipcaaGreatDoor
open Go.RowKit

set_option maxRecDepth 100000 in
set_option maxHeartbeats 4000000 in
theorem dcheck_any (u v : Value) (d : TDisk) (D : Nat → Prop) (w : World) (h : RdDisk w D u v d) (hL : Laid w) :
    Calls Tryz.prog 39 #[diskV u v] w fun e w' => e = .returned (.int .i64 (diskE d)) ∧ Below w.heap.size w w' := by
  have HL := Lib.hid hL
  have H1 := Lib.hid h.1
  obtain ⟨a1, c1, rfl, hc1, _⟩ := Sl.form h.1
  obtain ⟨a2, c2, rfl, hc2, _⟩ := Sl.form h.2
  have hm1 : d.safe.length ≤ 9223372036854775807 := by omega
  have hm2 : d.wait.length ≤ 9223372036854775807 := by omega
  clear h hL hc1 hc2
  have HB := Lib.hid (Bx.one (w := w) (o := .cells #[.slice a1 d.safe.length c1, .slice a2 d.wait.length c2] 25))
  have hcv : (convert 23 9 (.slice a1 d.safe.length c1)).run Tryz.prog (w.alloc (.cells #[.slice a1 d.safe.length c1, .slice a2 d.wait.length c2] 25)) = .ok (.string (bsL d.safe)) (w.alloc (.cells #[.slice a1 d.safe.length c1, .slice a2 d.wait.length c2] 25)) := bytes_string (RdBytes.below H1.out HB.out.bel)
  by_cases h1 : 60000 < d.safe.length
  · have HE : Hid (diskE d = 2) := if_pos (by omega)
    have h1' : (60000 : Int) < (d.safe.length : Int) := by omega
    have HBL := Lib.hid HB.out.bel
    clear hcv
    go_enter Tryz.func39, Tryz.ntmps39
    go_wp2
    go_ret
    exact ⟨by rw [HE.out]; rfl, HBL.out⟩
  · have h1' : ¬ (60000 : Int) < (d.safe.length : Int) := by omega
    have hsub : IntKind.i64.wrap (60000 - (d.safe.length : Int)) = 60000 - (d.safe.length : Int) := IntWalk.i64_in _ (by omega)
    by_cases h2 : 60000 < d.safe.length + d.wait.length
    · have HE : Hid (diskE d = 2) := if_pos h2
      have h2' : 60000 - (d.safe.length : Int) < (d.wait.length : Int) := by omega
      have HBL := Lib.hid HB.out.bel
      clear hcv
      go_enter Tryz.func39, Tryz.ntmps39
      go_wp2
      go_ret
      exact ⟨by rw [HE.out]; rfl, HBL.out⟩
    · have HE : Hid (diskE d = (linesOf d.safe 40).2.2) := if_neg h2
      have h2' : ¬ 60000 - (d.safe.length : Int) < (d.wait.length : Int) := by omega
      have Hs : Hid (d.safe.length ≤ 60000) := by show _ ≤ _; omega
      go_enter Tryz.func39, Tryz.ntmps39
      go_wp2_with fail
      clear hcv
      refine (lines_any d.safe 40 _ (HL.out.below HB.out.bel) Hs.out (by decide)).mono ?_
      rintro e w1 ⟨v1, rfl, _, hb1⟩
      have HBf := Lib.hid (HB.out.below hb1).bel
      clear hb1
      go_wp2
      go_ret
      exact ⟨by rw [HE.out]; rfl, HBf.out⟩
end Go.Proofs.YthkgjohhbdipcaaGreatDoor
namespace Go.Proofs.YthkgjohhbdipcaaGreatDoor
open Go.RowKit

theorem infoByte : (Tryz.prog.info? 5).map (fun i => (i.zero, i.size, i.bytes)) = some (some (.int .u8 0), 1, 1) := by kernel_rfl

set_option maxHeartbeats 1000000 in
theorem growByte_nil (n : Nat) (w : World) (hn : n * 1 ≤ 140737488355328) : Calls Tryz.prog 122 #[.slice none 0 0, .int .i64 n] w fun e w' => ∃ v, e = .returned v ∧ OwnSl w' w.heap.size 5 1 byteR v ([] : List UInt8) ∧ Below w.heap.size w w' := by
  by_cases h0 : n = 0
  · subst h0
    go_enter Tryz.func122, Tryz.ntmps122
    go_wp2
    go_ret
    exact ⟨_, rfl, OwnSl.nil, Below.refl _ _⟩
  · obtain ⟨i0, hi, hz0, hz1, hz2⟩ := info_parts infoByte
    have hrun := fun (W : World) (ty : TypeId) => Lib.run_append_nil_zeros (P := Tryz.prog) W 23 3 ty 5 i0 (.int .u8 0) .i64 .i64 Tryz.underlying23 Tryz.underlying3 hi hz0 n (by omega) (by rw [hz1]; omega) (by omega) (by rw [hz2]; omega)
    have hgc : ∀ W : World, grownCap W n 0 5 ≤ maxLen := fun W => grownCap_le_maxLen W n 0 5 (by unfold maxLen; omega)
    have h1 : 0 < (n : Int) := by omega
    have h2 : (n : Int) ≤ 9223372036854775807 := by omega
    have Hrun := Lib.hid hrun
    have Hz := Lib.hid hz1
    clear hrun hi hz0 hz1 hz2 h0 hn
    go_enter Tryz.func122, Tryz.ntmps122
    go_wp2_with (at_builtin; refine Lib.wpList_append_run _ rfl _ _ _ _ rfl _ _ rfl rfl _ _ (Hrun.out _ _) ?_)
    go_ret
    refine ⟨_, rfl, ⟨[], RowsOf.nil, by simp, .inr ⟨w.heap.size, grownCap w n 0 5, _, rfl, Nat.le_refl _, blk_at rfl, by simp, hgc w, ?_, by simp⟩⟩, (bel_alloc (Below.refl _ _) _).drew⟩
    have hge := grownCap_ge w n 0 5
    simp [size_zeroCells]
    omega

theorem oneByte (y : UInt8) (cs : List Value) (h : byteR y cs) : ∀ c ∈ cs, c.oneCell' = true := by
  unfold byteR at h; subst h; simp [Value.oneCell']
/-- a slice of slices. -/
def rowsRByte (w : World) (D : Nat → Prop) (l : List UInt8) (cs : List Value) : Prop := ∃ u, cs = [u] ∧ Sl w D 1 byteR u l
set_option maxRecDepth 100000 in
set_option maxHeartbeats 2000000 in
theorem concatByte_any (v : Value) (ls : List (List UInt8)) (D : Nat → Prop) (w : World) (h : Sl w D 1 (rowsRByte w D) v ls) (hn : lenTo ls ls.length * 1 ≤ 140737488355328) :
    Calls Tryz.prog 81 #[v] w fun e w' => ∃ v', e = .returned v' ∧ OwnSl w' w.heap.size 5 1 byteR v' ls.flatten ∧ Below w.heap.size w w' := by
  obtain ⟨a, c, rfl, hlc, hcm, hat⟩ := Sl.form h
  obtain ⟨i0, hi, hz0, hz1, hz2⟩ := info_parts infoByte
  have H := Lib.hid h
  clear h
  have hrow : ∀ k (hk : k < ls.length) b o, a = some ⟨b, o, none⟩ → ∃ (u : Value) (cu : Option Addr × Nat), u = Value.slice cu.1 ls[k].length cu.2 ∧ Sl w D 1 byteR u ls[k] ∧ ∀ wr, Below w.heap.size w wr → wr.cell? ⟨b, o + k, none⟩ = some u := fun k hk b o e => by
    subst e
    obtain ⟨cs, hcs, ⟨u, hu, hs⟩, hcell⟩ := Sl.get H.out hk
    obtain ⟨a', c', hv, _⟩ := Sl.form hs
    refine ⟨u, (a', c'), hv, hs, fun wr hb => ?_⟩
    subst hu
    have hc := hcell 0 u rfl
    rw [Nat.mul_one] at hc
    exact (hb.cell (p := ⟨b, o + k, none⟩) (World.block_lt_of_cell? _ _ hc)).trans hc
  have Hrow := Lib.hid hrow
  have Hn := Lib.hid hn
  have hn' : lenTo ls ls.length ≤ 140737488355328 := by omega
  clear hrow hn
  go_enter Tryz.func81, Tryz.ntmps81
  go_wp2_with fail
  go_loop [3, 11] (fun s i => ∃ k : Nat, k ≤ ls.length ∧ i = .int .i64 k ∧ s = .int .i64 (lenTo ls k)) (fun _ i => ls.length - (intOf i).toNat)
  case atStart => exact ⟨0, by omega, rfl, rfl⟩
  case round =>
    obtain ⟨k, hk, rfl, rfl⟩ := hrel
    by_cases hlt : k < ls.length
    · obtain ⟨b, o, rfl, hDb, hb⟩ := hat (by omega)
      obtain ⟨u, ⟨a', c'⟩, rfl, hs, hc⟩ := Hrow.out k hlt b o rfl
      have hcw := hc w (Below.refl _ _)
      have hle := lenTo_le ls (k + 1) (by omega)
      have Hs := Lib.hid (lenTo_succ ls k hlt)
      have hle' : lenTo ls k + ls[k].length ≤ 140737488355328 := by have := Hs.out; omega
      clear hs hc
      go_wp2
      go_round
      case rel => exact ⟨k + 1, by omega, by go_num, by rw [Hs.out]; go_num⟩
      case measure => simp [intOf]; omega
    · obtain rfl : k = ls.length := by omega
      go_wp2_with fail
      refine (growByte_nil (lenTo ls ls.length) _ Hn.out).mono ?_
      rintro e w1 ⟨vg, rfl, hown, hb1⟩
      go_wp2_with fail
      go_loopw [6, 27] (fun s i wr => ∃ (k : Nat) (vs : Value), k ≤ ls.length ∧ i = .int .i64 k ∧ vs = s ∧ OwnSl wr w.heap.size 5 1 byteR vs (ls.take k).flatten ∧ Below w.heap.size w wr) (fun _ i _ => ls.length - (intOf i).toNat)
      case atStart => exact ⟨0, vg, by omega, rfl, rfl, by simpa using hown, hb1⟩
      case round =>
        obtain ⟨k, vs, hk, rfl, rfl, hown, hbw⟩ := hrel
        have Hown := Lib.hid hown
        have hsz := hbw.size
        clear hown
        by_cases hlt : k < ls.length
        · obtain ⟨b, o, rfl, hDb, hb⟩ := hat (by omega)
          obtain ⟨u, ⟨a', c'⟩, rfl, hs, hc⟩ := Hrow.out k hlt b o rfl
          have hcw := hc wr hbw
          have hle := lenTo_le ls (k + 1) (by omega)
          have Hl := Lib.hid (lenTo_succ ls k hlt)
          have hs' : Sl wr D 1 byteR (.slice a' ls[k].length c') ls[k] := Sl.mono hs (fun _ h _ => h) (fun b _ hlt => hbw.block b hlt) hbw.size (fun _ _ _ h => h)
          have Hs' := Lib.hid hs'
          have Hs := Lib.hid (flat_take_succ ls k hlt)
          clear hs hc hs'
          go_wp2_with (at_builtin; refine wpList_app rfl _ _ 23 rfl w.heap.size 5 i0 _ 1 1 Tryz.underlying23 hi hz0 hz1 hz2 rfl (by decide) _ _ rfl Hown.out _ _ rfl Hs'.out (fun y _ cs h => oneByte y cs h) (by have := Hl.out; unfold lenTo at *; unfold maxLen; omega) (by have := Hn.out; have := Hl.out; unfold lenTo at *; omega) hsz ?_; intro v' w2 hown' hg)
          go_roundw
          case rel => exact ⟨k + 1, v', by omega, by go_num, rfl, by rw [← flat_take_succ ls k hlt]; exact hown', Hown.out.grown hbw hg hsz (Nat.le_refl _)⟩
          case measure => simp [intOf]; omega
        · obtain rfl : k = ls.length := by omega
          have Hf : Hid (OwnSl wr w.heap.size 5 1 byteR vs ls.flatten) := by have := Hown.out; rwa [List.take_length] at this
          go_wp2
          go_ret
          exact ⟨_, rfl, Hf.out, hbw⟩
end Go.Proofs.YthkgjohhbdipcaaGreatDoor
namespace Go.Proofs.YthkgjohhbdipcaaGreatDoor
open Go.RowKit

set_option maxRecDepth 100000 in
set_option maxHeartbeats 1000000 in
theorem cloneByte_any {α : Type} (R : α → List Value → Prop) (h1R : ∀ (y : α) (cs : List Value), R y cs → ∀ c ∈ cs, c.oneCell' = true) (v : Value) (xs : List α) (D : Nat → Prop) (w : World) (h : Sl w D 1 R v xs) (hn : xs.length * 1 ≤ 140737488355328) :
    Calls Tryz.prog 80 #[v] w fun e w' => ∃ v', e = .returned v' ∧ OwnSl w' w.heap.size 5 1 R v' xs ∧ Below w.heap.size w w' := by
  obtain ⟨i0, hi, hz0, hz1, hz2⟩ := info_parts infoByte
  have H := Lib.hid h
  obtain ⟨a, c, rfl, hlc, hcm, hnil, hat⟩ := h
  have Hi := Lib.hid hi
  clear hi
  cases a with
  | none =>
    have hc := hnil rfl
    subst hc
    have hx : xs = [] := List.length_eq_zero_iff.1 (by omega)
    subst hx
    have hq := fun (a : Option Addr) (n c : Nat) (W : World) => Lib.run_eql_slice_nil (P := Tryz.prog) W 23 5 a n c 0 0 Tryz.underlying23
    go_enter Tryz.func80, Tryz.ntmps80
    go_wp2
    go_ret
    exact ⟨_, rfl, OwnSl.nil, Below.refl _ _⟩
  | some ad =>
    have H2 := Lib.hid (H.out.belowR (bel_alloc (Below.refl _ w) (.cells #[] 5)) (fun _ _ _ h => h))
    have Hown : Hid (OwnSl (w.alloc (.cells #[] 5)) w.heap.size 5 1 R (.slice (some ⟨w.heap.size, 0, none⟩) 0 0) ([] : List α)) :=
      ⟨[], RowsOf.nil, by simp, .inr ⟨w.heap.size, 0, #[], rfl, Nat.le_refl _, heap_last _ _, by simp, by simp, by simp, by simp⟩⟩
    clear hat hnil
    have hq := fun (a : Option Addr) (n c : Nat) (W : World) => Lib.run_eql_slice_nil (P := Tryz.prog) W 23 5 a n c 0 0 Tryz.underlying23
    go_enter Tryz.func80, Tryz.ntmps80
    go_wp2_with (at_builtin; refine wpList_app rfl _ _ 23 rfl w.heap.size 5 i0 _ 1 1 Tryz.underlying23 Hi.out hz0 hz1 hz2 rfl (by decide) _ _ rfl Hown.out _ _ rfl H2.out (fun y _ cs h => h1R y cs h) (by show 0 + _ ≤ maxLen; unfold maxLen; omega) (by show (0 + _) * 1 ≤ _; omega) (by simp) ?_; intro v' w3 hown' hg)
    go_ret
    exact ⟨_, rfl, hown', Hown.out.grown (bel_alloc (Below.refl _ _) _) hg (by simp) (Nat.le_refl _)⟩
end Go.Proofs.YthkgjohhbdipcaaGreatDoor
namespace Go.Proofs.YthkgjohhbdipcaaGreatDoor.RV
open Go.RowKit

section
variable (P : Program) (ops : Array Oper) (Inv : (Nat → Bool) → (Nat → Value) → World → Prop) (T : Nat → (Nat → Value) → World → World → Prop) (F : Nat → (Nat → Bool) → (Nat → Value) → World → Prop) (bs : List (List Nat)) (Q : Act → World → Prop) (n : Nat)
def relOb (i : Nat) (o : Oper) (av : (Nat → Value) → Act) (E : (Nat → Value) → Value → Prop) : Prop :=
  ∀ (done : Nat → Bool) (vf : Nat → Value) (w : World), Inv done vf w → done i = false → (∀ k ∈ (prune o).after.toList.map (fun e => e.on), done k = true) → (∀ k : Nat, i ∈ bs.getD k [] → done k = false) → (∀ k, done k = true → F k done vf w) →
    ∀ R : Value → World → Prop, (∀ (v : Value) (w' : World), Inv (updDone done i) (updVal vf i v) w' → T i vf w w' → E vf v → F i (updDone done i) (updVal vf i v) w' → R v w') → if Region.wanted o (yielded ops (av vf).tmps) then gives P o (av vf) w R else R undef w
def relWalk : List Oper → Nat → ((Nat → Value) → Act) → Prop
  | [], _, av => ∀ (done : Nat → Bool) (vf : Nat → Value) (w : World), (∀ k, k < n → done k = true) → Inv done vf w → (∀ k, k < n → F k done vf w) → Q (av vf) w
  | o :: l, i, av => (∃ X : (Nat → Value) → Value, Proper bs i X ∧ relOb P ops Inv T F bs i o av (fun vf v => v = X vf) ∧ relWalk l (i + 1) (fun vf => (av vf).put o.dst (X vf))) ∨
      (relOb P ops Inv T F bs i o av (fun _ _ => True) ∧ relWalk l (i + 1) (fun vf => (av vf).put o.dst (vf i)))
end
section
variable {P : Program} {ops : Array Oper} {Inv : (Nat → Bool) → (Nat → Value) → World → Prop} {T : Nat → (Nat → Value) → World → World → Prop} {F : Nat → (Nat → Bool) → (Nat → Value) → World → Prop} {bs : List (List Nat)} {Q : Act → World → Prop} {n : Nat} {o : Oper} {l : List Oper} {i : Nat} {av : (Nat → Value) → Act}
/-- an operation whose value is told. -/
theorem rel_ex (h : ∀ K : ((Nat → Value) → Act) → Prop, (∀ a', relWalk P ops Inv T F bs Q n l (i + 1) a' → K a') → ∃ X : (Nat → Value) → Value, relOb P ops Inv T F bs i o av (fun vf v => v = X vf) ∧ Proper bs i X ∧ K (fun vf => (av vf).put o.dst (X vf))) : relWalk P ops Inv T F bs Q n (o :: l) i av := by
  obtain ⟨X, h1, h2, h3⟩ := h _ (fun _ h => h)
  exact .inl ⟨X, h2, h1, h3⟩
/-- an operation whose value meets a fact. -/
theorem rel_pr (h : ∀ K : ((Nat → Value) → Act) → Prop, (∀ a', relWalk P ops Inv T F bs Q n l (i + 1) a' → K a') → relOb P ops Inv T F bs i o av (fun _ _ => True) ∧ K (fun vf => (av vf).put o.dst (vf i))) : relWalk P ops Inv T F bs Q n (o :: l) i av := by
  exact .inr (h _ (fun _ h => h))
end
section
variable {P : Program} {ops : Array Oper} {Inv : (Nat → Bool) → (Nat → Value) → World → Prop} {T : Nat → (Nat → Value) → World → World → Prop} {F : Nat → (Nat → Bool) → (Nat → Value) → World → Prop} {bs : List (List Nat)} {Q : Act → World → Prop} {n : Nat}
theorem rel_ext : ∀ (l : List Oper) (i : Nat) (av : (Nat → Value) → Act), relWalk P ops Inv T F bs Q n l i av → ∃ Xs : Nat → Option ((Nat → Value) → Value),
    (∀ k X, Xs k = some X → Proper bs k X) ∧ (∀ j o, l[j]? = some o → relOb P ops Inv T F bs (i + j) o (fun vf => lexAct (valsOf Xs vf) (l.take j) i (av vf)) (exOf (Xs (i + j)))) ∧
    (∀ (done : Nat → Bool) (vf : Nat → Value) (w : World), (∀ k, k < n → done k = true) → Inv done vf w → (∀ k, k < n → F k done vf w) → Q (lexAct (valsOf Xs vf) l i (av vf)) w)
  | [], i, av, h => ⟨fun _ => none, (fun _ _ h => by cases h), (fun j o hj => by simp at hj), h⟩
  | o :: l, i, av, h => by
    have main : ∀ (X0 : Option ((Nat → Value) → Value)), (∀ X, X0 = some X → Proper bs i X) → relOb P ops Inv T F bs i o av (exOf X0) →
        (∃ Xs : Nat → Option ((Nat → Value) → Value), (∀ k X, Xs k = some X → Proper bs k X) ∧ (∀ j o', l[j]? = some o' → relOb P ops Inv T F bs (i + 1 + j) o' (fun vf => lexAct (valsOf Xs vf) (l.take j) (i + 1) ((av vf).put o.dst (valOr X0 vf i))) (exOf (Xs (i + 1 + j)))) ∧
          (∀ (done : Nat → Bool) (vf : Nat → Value) (w : World), (∀ k, k < n → done k = true) → Inv done vf w → (∀ k, k < n → F k done vf w) → Q (lexAct (valsOf Xs vf) l (i + 1) ((av vf).put o.dst (valOr X0 vf i))) w)) →
        ∃ Xs : Nat → Option ((Nat → Value) → Value), (∀ k X, Xs k = some X → Proper bs k X) ∧ (∀ j o', (o :: l)[j]? = some o' → relOb P ops Inv T F bs (i + j) o' (fun vf => lexAct (valsOf Xs vf) ((o :: l).take j) i (av vf)) (exOf (Xs (i + j)))) ∧
          (∀ (done : Nat → Bool) (vf : Nat → Value) (w : World), (∀ k, k < n → done k = true) → Inv done vf w → (∀ k, k < n → F k done vf w) → Q (lexAct (valsOf Xs vf) (o :: l) i (av vf)) w) := by
      rintro X0 hp0 hob ⟨Xs, hp, hobs, hend⟩
      let Ys : Nat → Option ((Nat → Value) → Value) := fun k => if k = i then X0 else Xs k
      have yi : Ys i = X0 := if_pos rfl
      have yk : ∀ k, i + 1 ≤ k → Ys k = Xs k := fun k hk => if_neg (by omega)
      have hv : ∀ vf, valsOf Ys vf i = (valOr X0 vf i) := fun vf => by unfold valsOf; rw [yi]
      have hc : ∀ (m : List Oper) (vf : Nat → Value) (a : Act), lexAct (valsOf Ys vf) m (i + 1) a = lexAct (valsOf Xs vf) m (i + 1) a := fun m vf a => lexAct_congr m (i + 1) a fun k hk => by unfold valsOf; rw [yk k hk]
      refine ⟨Ys, fun k X hk => ?_, fun j o' hj => ?_, fun done vf w hd hI hF => ?_⟩
      · by_cases e : k = i
        · subst e; rw [yi] at hk; exact hp0 X hk
        · have : Ys k = Xs k := if_neg e
          rw [this] at hk; exact hp k X hk
      · cases j with
        | zero =>
          simp only [List.getElem?_cons_zero, Option.some.injEq] at hj
          subst hj
          rw [Nat.add_zero, yi]
          exact hob
        | succ j =>
          have := hobs j o' (by simpa using hj)
          rw [show i + (j + 1) = i + 1 + j by omega, yk _ (by omega)]
          refine (congrArg (fun a => relOb P ops Inv T F bs (i + 1 + j) o' a (exOf (Xs (i + 1 + j)))) ?_).mp this
          funext vf
          simp only [List.take_succ_cons, lexAct, hv]
          exact (hc _ _ _).symm
      · simp only [lexAct, hv]
        rw [hc]
        exact hend done vf w hd hI hF
    rcases h with ⟨X, hp, hob, hw⟩ | ⟨hob, hw⟩
    · exact main (some X) (fun Y e => by injection e with e; subst e; exact hp) (fun done vf w h1 h2 h3 h4 h5 R hR => hob done vf w h1 h2 h3 h4 h5 R fun v w' a b c d => hR v w' a b (fun Y e => by injection e with e; subst e; exact c) d) (rel_ext l (i + 1) _ hw)
    · exact main none (fun Y e => by cases e) (fun done vf w h1 h2 h3 h4 h5 R hR => hob done vf w h1 h2 h3 h4 h5 R fun v w' a b _ d => hR v w' a b (fun Y e => by cases e) d) (rel_ext l (i + 1) _ hw)
end

/-- What holds when the operations that are listed have been done. -/
structure RelInv (l : List Oper) (Xs : Nat → Option ((Nat → Value) → Value)) (Inv : (Nat → Bool) → (Nat → Value) → World → Prop) (F : Nat → (Nat → Bool) → (Nat → Value) → World → Prop) (a : Act) (vf : Nat → Value) (listed : Array Bool) (a' : Act) (w' : World) : Prop where
  cls : Inv (fun k => listed[k]? == some true) vf w'
  down : ∀ (j : Nat) (o : Oper), l[j]? = some o → listed[j]? = some true → ∀ e ∈ o.after, listed[e.on]? = some true
  lsize : listed.size = l.length
  defers : a'.defers = a.defers
  size : a'.tmps.size = a.tmps.size
  vals : ∀ j, listed[j]? = some true → vf j = valsOf Xs vf j
  facts : ∀ j, listed[j]? = some true → F j (fun k => listed[k]? == some true) vf w'
  slots : ∀ (j : Nat) (o : Oper), l[j]? = some o → listed[j]? = some true → ∀ d, o.dst = some d → a'.tmps[d]? = some (vf j)
  rest : ∀ t, (∀ (j : Nat) (o : Oper), l[j]? = some o → listed[j]? = some true → o.dst ≠ some t) → a'.tmps[t]? = a.tmps[t]?

section
variable {P : Program} {l : List Oper} {Inv : (Nat → Bool) → (Nat → Value) → World → Prop} {T : Nat → (Nat → Value) → World → World → Prop} {F : Nat → (Nat → Bool) → (Nat → Value) → World → Prop} {Q : Exit → Act → World → Prop} {a : Act}
theorem wpAny_rel (hB : monoB2 l a.tmps.size = true) (hpr : ∀ o ∈ l, prune o = o)
    (hst : ∀ (i : Nat) (done : Nat → Bool) (vf : Nat → Value) (w w' : World), Inv done vf w → done i = false → (∀ m ∈ (befores l []).getD i [], done m = true) → (∀ m, done m = true → F m done vf w) → T i vf w w' → ∀ k, done k = true → F k (updDone done i) vf w')
    (hF : ∀ (k : Nat) (done : Nat → Bool) (f g : Nat → Value) (w : World), (∀ m ∈ (befores l []).getD k [], f m = g m) → f k = g k → F k done f w → F k done g w)
    (h : relWalk P l.toArray Inv T F (befores l []) (Q .normal) l.length l 0 (fun _ => a)) :
    ∃ Xs, ∀ (fuel : Nat) (listed : Array Bool) (vf : Nat → Value) (a' : Act) (w' : World), (undone listed l.length).length ≤ fuel → RelInv l Xs Inv F a vf listed a' w' → wpAny P .any l.toArray Q fuel listed a' w' := by
  obtain ⟨Xs, hpX, hobs, hend⟩ := rel_ext l 0 _ h
  refine ⟨Xs, ?_⟩
  have hS := fun {i : Nat} {o : Oper} (hi : l[i]? = some o) => monoB2_spec hB hi
  have fin : ∀ (listed : Array Bool) (vf : Nat → Value) (a' : Act) (w' : World), (∀ j, j < l.length → listed[j]? = some true) → RelInv l Xs Inv F a vf listed a' w' → Q .normal a' w' := by
    intro listed vf a' w' hall hI
    have hq := hend _ vf w' (fun k hk => by simp [hall k hk]) hI.cls (fun k hk => hI.facts k (hall k hk))
    have ea : a' = lexAct (valsOf Xs vf) l 0 a := by
      obtain ⟨hz, hd⟩ := lexAct_size (valsOf Xs vf) l 0 a
      have ht : a'.tmps = (lexAct (valsOf Xs vf) l 0 a).tmps := by
        apply Array.ext_getElem?
        intro t
        by_cases hex : ∃ (j : Nat) (o : Oper), l[j]? = some o ∧ o.dst = some t
        · obtain ⟨j, o, hj, hdt⟩ := hex
          have hjl := (List.getElem?_eq_some_iff.1 hj).1
          obtain ⟨hlt, huniq⟩ := (hS hj).2.2.2 t hdt
          rw [lexAct_same _ l 0 a j o hj hdt huniq hlt, Nat.zero_add, ← hI.vals j (hall j hjl)]
          exact hI.slots j o hj (hall j hjl) t hdt
        · have hn : ∀ (j : Nat) (o : Oper), l[j]? = some o → o.dst ≠ some t := fun j o hj e => hex ⟨j, o, hj, e⟩
          rw [lexAct_other _ l 0 a (fun o ho => by obtain ⟨j, hj⟩ := List.getElem?_of_mem ho; exact hn j o hj)]
          exact hI.rest t (fun j o hj _ => hn j o hj)
      cases a'; cases hx : lexAct (valsOf Xs vf) l 0 a
      rw [hx] at ht hd
      have := hI.defers
      simp_all
    rw [ea]; exact hq
  have allIf : ∀ (listed : Array Bool), listed.size = l.length → Region.ready .any l.toArray listed = [] → ∀ j, j < l.length → listed[j]? = some true := by
    intro listed hsz hr j
    induction j using Nat.strongRecOn with
    | ind j ih =>
      intro hj
      have hsome : listed[j]? = some listed[j] := Array.getElem?_eq_getElem (by omega)
      cases hb : listed[j] with
      | true => rw [hsome, hb]
      | false =>
        have : j ∈ Region.ready .any l.toArray listed := by
          rw [mem_ready]
          refine ⟨by simp [Array.getD_eq_getD_getElem?, hsome, hb], l[j], by simp [hj], fun e he _ => ?_⟩
          have h1 := ((hS (List.getElem?_eq_getElem hj)).2.1 e he).1
          have h2 := ih e.on h1 (by omega)
          simp [Array.getD_eq_getD_getElem?, h2]
        rw [hr] at this
        cases this
  intro fuel
  induction fuel with
  | zero =>
    intro listed vf a' w' hf hI
    have hall : ∀ j, j < l.length → listed[j]? = some true := by
      intro j hj
      have h0 : undone listed l.length = [] := List.eq_nil_of_length_eq_zero (by omega)
      unfold undone at h0
      rw [List.filter_eq_nil_iff] at h0
      simpa using h0 j (List.mem_range.2 hj)
    refine ⟨?_, fin _ _ _ _ hall hI⟩
    rw [List.eq_nil_iff_forall_not_mem]
    intro j hj
    obtain ⟨h0, o, ho, _⟩ := mem_ready.1 hj
    have hj' : j < l.length := by
      have := (Array.getElem?_eq_some_iff.1 ho).1
      simpa using this
    simp [Array.getD_eq_getD_getElem?, hall j hj'] at h0
  | succ fuel ih =>
    intro listed vf a' w' hf hI
    refine ⟨fun hr => fin _ _ _ _ (allIf listed hI.lsize hr) hI, fun i hi => ?_⟩
    obtain ⟨h0, o, ho, hdep⟩ := mem_ready.1 hi
    have hil : l[i]? = some o := by simpa using ho
    have hilt : i < l.length := (List.getElem?_eq_some_iff.1 hil).1
    have hnl : listed[i]? ≠ some true := fun e => by simp [Array.getD_eq_getD_getElem?, e] at h0
    obtain ⟨hsel, hafter, hlooks, hdst⟩ := hS hil
    have hdone : ∀ e ∈ o.after, listed[e.on]? = some true := fun e he => by
      have := hdep e he (hafter e he).2
      rw [Array.getD_eq_getD_getElem?] at this
      cases hx : listed[e.on]? with
      | none => simp [hx] at this
      | some b => simp [hx] at this; rw [this]
    have hob := hobs i o hil
    rw [Nat.zero_add] at hob
    have hclosed : ∀ k m : Nat, m ∈ (befores l []).getD k [] → listed[k]? = some true → listed[m]? = some true := fun k m hk hlk =>
      befores_spec l [] (fun k i => listed[k]? = some true → listed[i]? = some true) (fun k i h => by simp at h) (fun j o' e hj he hlj => by
        simp at hlj; exact hI.down j o' hj hlj e he) (fun a b c h1 h2 h3 => h2 (h1 h3)) k m hk hlk
    have hsame : ∀ t ∈ o.looksAt l.toArray, (lexAct (valsOf Xs vf) (l.take i) 0 a).tmps[t]? = a'.tmps[t]? := by
      intro t ht
      by_cases hex : ∃ (j : Nat) (o' : Oper), l[j]? = some o' ∧ o'.dst = some t
      · obtain ⟨j, o', hj, hdt⟩ := hex
        rcases hlooks t ht j o' hj hdt with ⟨hji, e, he, hej⟩ | hbef
        rotate_left
        · have hij : i < j := befores_spec l [] (fun k i => i < k) (fun k i h => by simp at h) (fun j o' e hj he => by
            have := ((hS (show l[j]? = some o' from hj)).2.1 e he).1; simpa using this) (fun a b c h1 h2 => Nat.lt_trans h2 h1) j i hbef
          have hnj : listed[j]? ≠ some true := fun hlj => hnl (hclosed j i hbef hlj)
          obtain ⟨_, huniq⟩ := (hS hj).2.2.2 t hdt
          rw [lexAct_other _ (l.take i) 0 a (fun o'' ho'' => by
            obtain ⟨k, hk⟩ := List.getElem?_of_mem ho''
            have hki : k < i := by have := (List.getElem?_eq_some_iff.1 hk).1; simp at this; omega
            rw [List.getElem?_take_of_lt hki] at hk
            exact huniq k o'' hk (by omega))]
          refine (hI.rest t fun k o'' hk hlk => ?_).symm
          by_cases hkj : k = j
          · subst hkj; exact absurd hlk hnj
          · exact huniq k o'' hk hkj
        have hlj : listed[j]? = some true := hej ▸ hdone e he
        obtain ⟨hlt, huniq⟩ := (hS hj).2.2.2 t hdt
        rw [lexAct_same _ (l.take i) 0 a j o' (by rw [List.getElem?_take_of_lt hji]; exact hj) hdt (fun j' o'' hj' hne => huniq j' o'' (by
          have hlt' : j' < i := by
            have := (List.getElem?_eq_some_iff.1 hj').1
            simp at this; omega
          rw [List.getElem?_take_of_lt hlt'] at hj'; exact hj') hne) hlt, Nat.zero_add, ← hI.vals j hlj]
        exact (hI.slots j o' hj hlj t hdt).symm
      · have hn : ∀ (j : Nat) (o : Oper), l[j]? = some o → o.dst ≠ some t := fun j o hj e => hex ⟨j, o, hj, e⟩
        rw [lexAct_other _ (l.take i) 0 a (fun o' ho' => by obtain ⟨j, hj⟩ := List.getElem?_of_mem (List.mem_of_mem_take ho'); exact hn j o' hj)]
        exact (hI.rest t (fun j o hj _ => hn j o hj)).symm
    have hexec : execOp (lexAct (valsOf Xs vf) (l.take i) 0 a).eval o = execOp a'.eval o := by
      refine execOp_congr o hsel fun x hx => ?_
      cases x with
      | tmp t =>
        have := hsame t (List.mem_append_left _ (List.mem_filterMap.2 ⟨.tmp t, by simpa using hx, rfl⟩))
        simp [Act.eval, Array.getD_eq_getD_getElem?, this]
      | _ => rfl
    have hwant : Region.wanted o (yielded l.toArray (lexAct (valsOf Xs vf) (l.take i) 0 a).tmps) = Region.wanted o (yielded l.toArray a'.tmps) := by
      unfold Region.wanted
      cases hg : o.guard with
      | none => rfl
      | some gw =>
        obtain ⟨g, want⟩ := gw
        have hy : yielded l.toArray (lexAct (valsOf Xs vf) (l.take i) 0 a).tmps g = yielded l.toArray a'.tmps g := by
          unfold yielded
          cases ht : (l.toArray[g]?).bind (·.dst) with
          | none => rfl
          | some t =>
            have := hsame t (by simp only [Oper.looksAt, hg, ht]; simp)
            simp only [Option.bind_some, this]
        simp only [hy]
    have hnot : ∀ k : Nat, i ∈ (befores l []).getD k [] → ((fun k => listed[k]? == some true) k) = false := by
      intro k hk
      cases hx : (listed[k]? == some true) with
      | false => exact hx
      | true => exact absurd (hclosed k i hk (by simpa using hx)) hnl
    have hbi : ∀ m ∈ (befores l []).getD i [], listed[m]? = some true := fun m hm => by
      have hmi : m < i := befores_spec l [] (fun k i => i < k) (fun k i h => by simp at h) (fun j o' e hj he => by
          have := ((hS (show l[j]? = some o' from hj)).2.1 e he).1; simpa using this) (fun a b c h1 h2 => Nat.lt_trans h2 h1) i m hm
      have key := befores_spec l [] (fun k m => (k = i ∨ listed[k]? = some true) → (m = i ∨ listed[m]? = some true)) (fun k m h => by simp at h) (fun j o' e hj he hlj => by
        rw [List.length_nil, Nat.zero_add] at hlj
        rcases hlj with rfl | hlj
        · rw [hil] at hj
          obtain rfl : o = o' := by simpa using hj
          exact .inr (hdone e he)
        · exact .inr (hI.down j o' hj hlj e he)) (fun a b c h1 h2 h3 => h2 (h1 h3)) i m hm (.inl rfl)
      rcases key with h | h
      · omega
      · exact h
    have hres := hob _ vf w' hI.cls (by simpa using hnl) (fun k hk => by
      rw [hpr o (List.mem_of_getElem? hil)] at hk
      obtain ⟨e, he, rfl⟩ := List.mem_map.1 hk
      simp [hdone e (by simpa using he)]) hnot (fun k hk => hI.facts k (by simpa using hk))
      (fun v w'' => Inv (updDone (fun k => listed[k]? == some true) i) (updVal vf i v) w'' ∧ T i vf w' w'' ∧ exOf (Xs i) vf v ∧ F i (updDone (fun k => listed[k]? == some true) i) (updVal vf i v) w'') (fun v w'' h0 h1 h2 h3 => ⟨h0, h1, h2, h3⟩)
    rw [hwant] at hres
    have next : ∀ v w'', Inv (updDone (fun k => listed[k]? == some true) i) (updVal vf i v) w'' → T i vf w' w'' → exOf (Xs i) vf v → F i (updDone (fun k => listed[k]? == some true) i) (updVal vf i v) w'' → wpAny P .any l.toArray Q fuel (listed.setIfInBounds i true) (a'.put o.dst v) w'' := by
      intro v w'' hIv hT hE hFv
      have hu := undone_set hilt (by rw [hI.lsize]; exact Nat.le_refl _) hnl
      have hset : ∀ j, (listed.setIfInBounds i true)[j]? = some true → j = i ∨ (j ≠ i ∧ listed[j]? = some true) := fun j hj => by
        by_cases e : j = i
        · exact .inl e
        · rw [Array.getElem?_setIfInBounds_ne (Ne.symm e)] at hj
          exact .inr ⟨e, hj⟩
      have hagree : ∀ j, listed[j]? = some true → ∀ m ∈ (befores l []).getD j [], vf m = updVal vf i v m := fun j hj m hm => by
        have hm' := hclosed j m hm hj
        unfold updVal
        rw [if_neg (fun e : m = i => hnl (e ▸ hm'))]
      have hagreei : ∀ m ∈ (befores l []).getD i [], vf m = updVal vf i v m := fun m hm => by
        have hmi : m < i := befores_spec l [] (fun k i => i < k) (fun k i h => by simp at h) (fun j o' e hj he => by
            have := ((hS (show l[j]? = some o' from hj)).2.1 e he).1; simpa using this) (fun a b c h1 h2 => Nat.lt_trans h2 h1) i m hm
        unfold updVal
        rw [if_neg (by omega)]
      have hfun : updDone (fun k => listed[k]? == some true) i = fun k => (listed.setIfInBounds i true)[k]? == some true := by
        funext k
        unfold updDone
        by_cases e : k = i
        · subst e; rw [if_pos rfl, Array.getElem?_setIfInBounds_self_of_lt (by rw [hI.lsize]; exact hilt)]; simp
        · rw [if_neg e, Array.getElem?_setIfInBounds_ne (Ne.symm e)]
      refine ih _ (updVal vf i v) _ _ (by omega) ⟨?_, ?_, by simp [hI.lsize], ?_, ?_, ?_, ?_, ?_, ?_⟩
      · rw [← hfun]; exact hIv
      · intro j o' hj hlj e he
        by_cases hje : j = i
        · subst hje
          rw [hil] at hj
          obtain rfl : o = o' := by simpa using hj
          have := hdone e he
          by_cases hei : e.on = j
          · rw [hei, Array.getElem?_setIfInBounds_self_of_lt (by rw [hI.lsize]; exact hilt)]
          · rw [Array.getElem?_setIfInBounds_ne (Ne.symm hei)]; exact this
        · rw [Array.getElem?_setIfInBounds_ne (Ne.symm hje)] at hlj
          have := hI.down j o' hj hlj e he
          by_cases hei : e.on = i
          · rw [hei, Array.getElem?_setIfInBounds_self_of_lt (by rw [hI.lsize]; exact hilt)]
          · rw [Array.getElem?_setIfInBounds_ne (Ne.symm hei)]; exact this
      · rw [← hI.defers]; cases o.dst <;> rfl
      · rw [← hI.size]; cases o.dst <;> simp [Act.put]
      · intro j hj
        rcases hset j hj with rfl | ⟨hne, hj'⟩
        · have e1 : updVal vf j v j = v := if_pos rfl
          rw [e1]
          unfold valsOf
          cases hx : Xs j with
          | none => exact e1.symm
          | some X => exact (hE X hx).trans (hpX j X hx _ _ hagreei)
        · have e1 : updVal vf i v j = vf j := if_neg hne
          rw [e1, hI.vals j hj']
          unfold valsOf
          cases hx : Xs j with
          | none => exact e1.symm
          | some X => exact hpX j X hx _ _ (hagree j hj')
      · intro j hj
        rw [← hfun]
        rcases hset j hj with rfl | ⟨hne, hj'⟩
        · exact hFv
        · refine hF j _ vf _ w'' (hagree j hj') (by unfold updVal; rw [if_neg hne]) ?_
          exact hst i _ vf w' w'' hI.cls (by simpa using hnl) (fun m hm => by simpa using hbi m hm) (fun m hm => hI.facts m (by simpa using hm)) hT j (by simpa using hj')
      · intro j o' hj hlj d hd
        rcases hset j hlj with rfl | ⟨hne, hj'⟩
        · rw [hil] at hj
          obtain rfl : o = o' := by simpa using hj
          rw [hd, put_get_same (by rw [hI.size]; exact (hdst d hd).1)]
          unfold updVal; rw [if_pos rfl]
        · rw [put_get_other (fun e' => (hdst d e').2 j o' hj hne hd)]
          unfold updVal; rw [if_neg hne]
          exact hI.slots j o' hj hj' d hd
      · intro t ht
        have hti : o.dst ≠ some t := ht i o hil (by rw [Array.getElem?_setIfInBounds_self_of_lt (by rw [hI.lsize]; exact hilt)])
        rw [put_get_other hti]
        refine hI.rest t fun j o' hj hlj => ?_
        by_cases e : j = i
        · subst e; exact absurd hlj hnl
        · exact ht j o' hj (by rw [Array.getElem?_setIfInBounds_ne (Ne.symm e)]; exact hlj)
    unfold wpOp
    rw [ho]
    by_cases hw : Region.wanted o (yielded l.toArray a'.tmps) = true
    · simp only [hw, if_true] at hres ⊢
      refine .inl (wp_of_gives (R := fun v w'' => Inv (updDone (fun k => listed[k]? == some true) i) (updVal vf i v) w'' ∧ T i vf w' w'' ∧ exOf (Xs i) vf v ∧ F i (updDone (fun k => listed[k]? == some true) i) (updVal vf i v) w'') ?_ fun v w'' ⟨h0, h1, h2, h3⟩ => next v w'' h0 h1 h2 h3)
      unfold gives at hres ⊢
      rw [← hexec]; exact hres
    · simp only [hw] at hres ⊢
      exact next _ _ hres.1 hres.2.1 hres.2.2.1 hres.2.2.2
end
theorem prune_prune (o : Oper) : prune (prune o) = prune o := by
  unfold prune
  simp only [Array.filter_filter, Bool.and_self]
theorem rel_prune {P : Program} {Inv : (Nat → Bool) → (Nat → Value) → World → Prop} {T : Nat → (Nat → Value) → World → World → Prop} {F : Nat → (Nat → Bool) → (Nat → Value) → World → Prop} {bs : List (List Nat)} {Q : Act → World → Prop} {n : Nat} {ops' : List Oper} :
    ∀ (l : List Oper) (i : Nat) (av : (Nat → Value) → Act), relWalk P ops'.toArray Inv T F bs Q n l i av → relWalk P (ops'.map prune).toArray Inv T F bs Q n (l.map prune) i av
  | [], _, _, h => h
  | o :: l, i, av, h => by
    have one : ∀ E, relOb P ops'.toArray Inv T F bs i o av E → relOb P (ops'.map prune).toArray Inv T F bs i (prune o) av E := fun E h1 done vf w a b c d e R hR => by
      rw [prune_prune] at c
      have := h1 done vf w a b c d e R hR
      rw [← yielded_prune] at this
      exact this
    rcases h with ⟨X, hp, h1, h2⟩ | ⟨h1, h2⟩
    · exact .inl ⟨X, hp, one _ h1, rel_prune l (i + 1) _ h2⟩
    · exact .inr ⟨one _ h1, rel_prune l (i + 1) _ h2⟩
/-- THE LAW. -/
theorem wp_region_rel {P : Program} {l : List Oper} {Q : Exit → Act → World → Prop} {a : Act} {id : Nat} {w : World} (Inv : (Nat → Bool) → (Nat → Value) → World → Prop) (T : Nat → (Nat → Value) → World → World → Prop) (F : Nat → (Nat → Bool) → (Nat → Value) → World → Prop)
    (hm : P.follows .mixedOrders = true) (hB : monoB2 (l.map prune) a.tmps.size = true) (bs : List (List Nat)) (hbs : befores (l.map prune) [] = bs)
    (hst : ∀ (i : Nat) (done : Nat → Bool) (vf : Nat → Value) (w w' : World), Inv done vf w → done i = false → (∀ m ∈ bs.getD i [], done m = true) → (∀ m, done m = true → F m done vf w) → T i vf w w' → ∀ k, done k = true → F k (updDone done i) vf w')
    (hF : ∀ (k : Nat) (done : Nat → Bool) (f g : Nat → Value) (w : World), (∀ m ∈ bs.getD k [], f m = g m) → f k = g k → F k done f w → F k done g w)
    (hC : Inv (fun _ => false) (fun _ => undef) w.drew) (h : relWalk P l.toArray Inv T F bs (Q .normal) l.length l 0 (fun _ => a)) : (Code.region id l.toArray true).wp P Q a w := by
  subst hbs
  have h' := rel_prune (ops' := l) l 0 _ h
  rw [show l.length = (l.map prune).length by simp] at h'
  obtain ⟨Xs, hX⟩ := wpAny_rel hB (fun o ho => by obtain ⟨o', _, rfl⟩ := List.mem_map.1 ho; exact prune_prune o') hst hF h'
  refine wp_region_any hm (wpAny_prune _ _ _ _ (hX _ _ (fun _ => undef) _ _ ?_ ⟨?_, ?_, by simp, rfl, rfl, ?_, ?_, ?_, fun _ _ => rfl⟩))
  · have := List.length_filter_le (fun i => (Array.replicate l.toArray.size false)[i]? != some true) (List.range (l.map prune).length)
    simpa [undone] using this
  · refine (congrArg (fun d => Inv d _ _) ?_).mp hC
    funext k
    rw [Array.getElem?_replicate]
    split <;> simp
  · intro j o hj hl
    rw [Array.getElem?_replicate] at hl
    split at hl <;> simp at hl
  · intro j hl
    rw [Array.getElem?_replicate] at hl
    split at hl <;> simp at hl
  · intro j hl
    rw [Array.getElem?_replicate] at hl
    split at hl <;> simp at hl
  · intro j o hj hl
    rw [Array.getElem?_replicate] at hl
    split at hl <;> simp at hl
end Go.Proofs.YthkgjohhbdipcaaGreatDoor.RV
namespace Go.Proofs.YthkgjohhbdipcaaGreatDoor
open Go.RowKit

/-- The operation append, and where the new row lies. -/
theorem gives_append_at {P : Program} {w : World} {o : Oper} {a : Act} {R : Value → World → Prop} (s x : Operand) (t : TypeId)
    (ho : o.op = .call { callee := .builtin .append, args := #[s, x], argTypes := #[t, t] })
    (base : Nat) (e : TypeId) (i : TypeInfo) (z : Value) (size bytes : Nat) (ht : P.underlying t = some (.slice e)) (hi : P.info? e = some i) (hz : i.zero = some z)
    (hsize : i.size = size) (hby : i.bytes = bytes) (hzs : z.cells.size = size) (hsz : 0 < size)
    (v : Value) (n : Nat) (xs : List Value) (hs : a.eval s = v) (hown : w.ownsRow base e size v n xs)
    (ad : Addr) (m c : Nat) (news : List Value) (hx : a.eval x = .slice (some ad) m c) (hl : news.length = m * size) (hnews : ∀ j u, news[j]? = some u → w.cell? (ad.add j) = some u) (h1 : ∀ u ∈ news, u.oneCell' = true)
    (hm : 0 < m) (h63 : n + m ≤ maxLen) (hbytes : (n + m) * bytes ≤ 140737488355328) (hbase : base ≤ w.heap.size)
    (h : ∀ v' w', w'.ownsRow base e size v' (n + m) (xs ++ news) → w.grownBy w' v.ownBlock → (v'.ownBlock = v.ownBlock ∨ v'.ownBlock = some w.heap.size) → R v' w') : gives P o a w R := by
  obtain ⟨g, cap, w', hr, h2, h3, h4, _⟩ := run_append_lies (P := P) w t o.type base e i z size bytes ht hi hz hsize hby hzs hsz v n xs hown ad m c news hl hnews h1 hm h63 hbytes hbase _ rfl
  unfold gives execOp
  simp only [ho, resolve, invoke, builtin, Sem.run_bind, Sem.run_pure, Result.andThen_ok, List.map_toArray, List.map_cons, List.map_nil, hs, hx, hr]
  refine h _ _ h2 h3 ?_
  rcases h4 with h4 | h4
  · left; rw [h4]; rfl
  · right; rw [h4]; rfl

/-- The worlds of such a region: w0 is the world at its head; β the box; cv the slice, with n elements; ia, is: the numbers of the append and of the store. -/
structure ApInv (w0 : World) (β : Nat) (T : TypeId) (box : Array Value) (base : Nat) (E : TypeId) (sz : Nat) (cv : Value) (n : Nat) (cells : List Value) (ia is : Nat) (done : Nat → Bool) (W : World) : Prop where
  os : W.os = w0.os
  tape : W.tape = w0.tape
  output : W.output = w0.output
  size : w0.heap.size ≤ W.heap.size
  blk : ∀ b, b < w0.heap.size → b ≠ β → some b ≠ cv.ownBlock → W.heap[b]? = w0.heap[b]?
  before : done is = false → W.heap[β]? = some (.cells box T)
  old : done ia = false → ∀ b, b < w0.heap.size → b ≠ β → W.heap[b]? = w0.heap[b]?
  own : done ia = false → W.ownsRow base E sz cv n cells
def ApT (β : Nat) (cv : Value) (ia is : Nat) (i : Nat) (_ : Nat → Value) (w w' : World) : Prop := w.heap.size ≤ w'.heap.size ∧ ∀ b, b < w.heap.size → (i = is → b ≠ β) → (i = ia → some b ≠ cv.ownBlock) → w'.heap[b]? = w.heap[b]?
def apF (w0 : World) (β : Nat) (T : TypeId) (box : Array Value) (off base : Nat) (E : TypeId) (sz : Nat) (cv : Value) (n : Nat) (cells : List Value) (m : Nat) (news : (Nat → Value) → List Value) (ia is : Nat) (G : Nat → (Nat → Value) → World → Prop) (k : Nat) (_ : Nat → Bool) (vf : Nat → Value) (W : World) : Prop :=
  if k = ia then W.ownsRow base E sz (vf ia) (n + m) (cells ++ news vf) ∧ ((vf ia).ownBlock = cv.ownBlock ∨ ∀ g, (vf ia).ownBlock = some g → w0.heap.size ≤ g)
  else if k = is then W.heap[β]? = some (.cells (box.setIfInBounds off (vf ia)) T) else G k vf W
section
variable {w0 W W' : World} {β : Nat} {T : TypeId} {box : Array Value} {off base : Nat} {E : TypeId} {sz n m ia is i : Nat} {cv : Value} {cells : List Value} {done : Nat → Bool} {vf : Nat → Value}
theorem ownsRow_same {v : Value} (h : W.ownsRow base E sz v n cells) (hb : ∀ b, base ≤ b → b < W.heap.size → v.ownBlock = some b → W'.heap[b]? = W.heap[b]?) : W'.ownsRow base E sz v n cells := ownsRow_keep1 h hb
theorem ApInv.step (h : ApInv w0 β T box base E sz cv n cells ia is done W) (hb : Below W.heap.size W W') (h1 : i ≠ ia) (h2 : i ≠ is) (hβ : β < w0.heap.size) : ApInv w0 β T box base E sz cv n cells ia is (updDone done i) W' where
  os := hb.os.trans h.os
  tape := hb.tape.trans h.tape
  output := hb.output.trans h.output
  size := Nat.le_trans h.size hb.size
  blk := fun b hlt hn ho => (hb.block b (Nat.lt_of_lt_of_le hlt h.size)).trans (h.blk b hlt hn ho)
  before := fun hd => by
    have : done is = false := by simpa [updDone, Ne.symm h2] using hd
    rw [hb.block β (Nat.lt_of_lt_of_le hβ h.size)]; exact h.before this
  old := fun hd b hlt hn => by
    have : done ia = false := by simpa [updDone, Ne.symm h1] using hd
    exact (hb.block b (Nat.lt_of_lt_of_le hlt h.size)).trans (h.old this b hlt hn)
  own := fun hd => by
    have : done ia = false := by simpa [updDone, Ne.symm h1] using hd
    exact ownsRow_keep1 (h.own this) fun b _ hlt _ => hb.block b hlt
theorem ApT.of_below (hb : Below W.heap.size W W') : ApT β cv ia is i vf W W' := ⟨hb.size, fun b hlt _ _ => hb.block b hlt⟩
theorem ApInv.appended (h : ApInv w0 β T box base E sz cv n cells ia is done W) (hd : done is = false) (hcv : ∀ g, cv.ownBlock = some g → g ≠ β) (hg : W.grownBy W' cv.ownBlock) (hβ : β < w0.heap.size) : ApInv w0 β T box base E sz cv n cells ia is (updDone done ia) W' where
  os := hg.os.trans h.os
  tape := hg.tape.trans h.tape
  output := hg.output.trans h.output
  size := Nat.le_trans h.size hg.size
  blk := fun b hlt hn ho => (hg.block b (Nat.lt_of_lt_of_le hlt h.size) ho).trans (h.blk b hlt hn ho)
  before := fun _ => by rw [hg.block β (Nat.lt_of_lt_of_le hβ h.size) (fun e => hcv β e.symm rfl)]; exact h.before hd
  old := fun hd => by simp [updDone] at hd
  own := fun hd => by simp [updDone] at hd
theorem ApT.of_grown (hg : W.grownBy W' cv.ownBlock) : ApT β cv ia is ia vf W W' := ⟨hg.size, fun b hlt _ h => hg.block b hlt (h rfl)⟩
theorem ApInv.stored {v : Value} (h : ApInv w0 β T box base E sz cv n cells ia is done W) (hda : done ia = true) (hne : is ≠ ia) :
    ApInv w0 β T box base E sz cv n cells ia is (updDone done is) (W.setCell ⟨β, off, none⟩ v) where
  os := h.os
  tape := h.tape
  output := h.output
  size := by rw [set_size]; exact h.size
  blk := fun b hlt hn ho => by rw [set_other (by exact hn)]; exact h.blk b hlt hn ho
  before := fun hd => by simp [updDone] at hd
  old := fun hd => by simp [updDone, Ne.symm hne, hda] at hd
  own := fun hd => by simp [updDone, Ne.symm hne, hda] at hd
theorem ApT.of_store {v : Value} : ApT β cv ia is is vf W (W.setCell ⟨β, off, none⟩ v) := ⟨by rw [set_size]; exact Nat.le_refl _, fun b _ hn _ => set_other (by exact hn rfl)⟩
end
/-- THE LAW. -/
theorem wp_region_apr {P : Program} {l : List Oper} {Q : Exit → Act → World → Prop} {a : Act} {id : Nat} {w0 : World} (β : Nat) (T : TypeId) (box : Array Value) (off base : Nat) (E : TypeId) (sz : Nat) (cv : Value) (n : Nat) (cells : List Value) (m : Nat) (news : (Nat → Value) → List Value) (ia is : Nat) (G : Nat → (Nat → Value) → World → Prop)
    (hm : P.follows .mixedOrders = true) (hB : monoB2 (l.map prune) a.tmps.size = true) (bs : List (List Nat)) (hbs : befores (l.map prune) [] = bs)
    (hbox : w0.heap[β]? = some (.cells box T)) (hown : w0.ownsRow base E sz cv n cells) (hβ : β < base) (hcv : ∀ g, cv.ownBlock = some g → g ≠ β) (his : ia ≠ is) (hia : ia ∈ bs.getD is [])
    (hG : ∀ (k : Nat) (vf : Nat → Value) (w w' : World), (∀ b, w0.heap.size ≤ b → b < w.heap.size → w'.heap[b]? = w.heap[b]?) → w.heap.size ≤ w'.heap.size → G k vf w → G k vf w')
    (hGp : ∀ (k : Nat) (f g : Nat → Value) (w : World), (∀ m ∈ bs.getD k [], f m = g m) → f k = g k → G k f w → G k g w) (hN : ∀ f g : Nat → Value, (∀ m ∈ bs.getD ia [], f m = g m) → news f = news g)
    (h : relWalk P l.toArray (ApInv w0 β T box base E sz cv n cells ia is) (ApT β cv ia is) (apF w0 β T box off base E sz cv n cells m news ia is G) bs (Q .normal) l.length l 0 (fun _ => a)) : (Code.region id l.toArray true).wp P Q a w0 := by
  have hβ' : β < w0.heap.size := (Array.getElem?_eq_some_iff.1 hbox).1
  have hlt : ∀ g, cv.ownBlock = some g → g < w0.heap.size := fun g hg => (hown.lt g hg).2
  refine wp_region_rel _ _ _ hm hB bs hbs (fun i done vf w1 w2 _ hd hbf hf hT k hk => ?_) (fun k done f g w1 hfg hk hF => ?_) ⟨rfl, rfl, rfl, Nat.le_refl _, fun _ _ _ _ => rfl, fun _ => hbox, fun _ _ _ _ => rfl, fun _ => ownsRow_keep1 hown fun _ _ _ _ => rfl⟩ h
  · have hki : k ≠ i := fun e => by rw [e, hd] at hk; cases hk
    have hF := hf k hk
    unfold apF at hF ⊢
    split
    · rename_i e
      rw [if_pos e] at hF
      refine ⟨ownsRow_keep1 hF.1 fun b hb hl ho => hT.2 b hl (fun _ => by omega) (fun e' => absurd (e.trans e'.symm) hki), hF.2⟩
    · rename_i e
      rw [if_neg e] at hF
      split
      · rename_i e2
        rw [if_pos e2] at hF
        rw [hT.2 β (Array.getElem?_eq_some_iff.1 hF).1 (fun e' => absurd (e2.trans e'.symm) hki) (fun _ e' => hcv β e'.symm rfl)]
        exact hF
      · rename_i e2
        rw [if_neg e2] at hF
        exact hG k vf _ _ (fun b hb hl => hT.2 b hl (fun _ => by omega) (fun _ e' => by have := hlt b e'.symm; omega)) hT.1 hF
  · unfold apF at hF ⊢
    split
    · rename_i e
      subst e
      rw [if_pos rfl, hk, hN f g hfg] at hF
      exact hF
    · rename_i e
      rw [if_neg e] at hF
      split
      · rename_i e2
        subst e2
        rw [if_pos rfl, hfg ia hia] at hF
        exact hF
      · rename_i e2
        rw [if_neg e2] at hF
        exact hGp k f g w1 hfg hk hF
/-- what buildSlice lays: one row. -/
def NewRow (B : Nat) (E : TypeId) (m : Nat) (cs : Array Value) (v : Value) (W : World) : Prop := ∃ b, v = .slice (some ⟨b, 0, none⟩) m m ∧ B ≤ b ∧ W.heap[b]? = some (.cells cs E)
theorem NewRow.keep {B : Nat} {E : TypeId} {m : Nat} {cs : Array Value} {v : Value} {w w' : World} (h : NewRow B E m cs v w) (hb : ∀ b, B ≤ b → b < w.heap.size → w'.heap[b]? = w.heap[b]?) : NewRow B E m cs v w' := by
  obtain ⟨b, hv, hB, hc⟩ := h
  refine ⟨b, hv, hB, ?_⟩
  rw [hb b hB (Array.getElem?_eq_some_iff.1 hc).1]; exact hc
theorem OwnSl.keepFrom {α : Type} {w w' : World} {base : Nat} {e : TypeId} {sz : Nat} {R : α → List Value → Prop} {v : Value} {xs : List α} (h : OwnSl w base e sz R v xs) (hb : ∀ b, base ≤ b → b < w.heap.size → w'.heap[b]? = w.heap[b]?) : OwnSl w' base e sz R v xs := by
  obtain ⟨rows, hr, ho⟩ := h
  exact ⟨rows, hr, ownsRow_keep1 ho fun b hbb hl _ => hb b hbb hl⟩
/-- A region that makes an own slice (io), what is appended (ib), and appends it (ia). -/
def ap1F (io ib ia : Nat) (O N A : Value → World → Prop) (k : Nat) (done : Nat → Bool) (vf : Nat → Value) (W : World) : Prop :=
  if k = ia then A (vf ia) W else if k = io then (done ia = false → O (vf io) W) else if k = ib then (done ia = false → N (vf ib) W) else True
def ap1T (ia : Nat) (i : Nat) (_ : Nat → Value) (w w' : World) : Prop := i ≠ ia → Below w.heap.size w w'
theorem wp_region_ap1 {P : Program} {l : List Oper} {Q : Exit → Act → World → Prop} {a : Act} {id : Nat} {w0 : World} (B : Nat) (hBw : B ≤ w0.heap.size) (io ib ia : Nat) (O N A : Value → World → Prop)
    (hm : P.follows .mixedOrders = true) (hB : monoB2 (l.map prune) a.tmps.size = true) (bs : List (List Nat)) (hbs : befores (l.map prune) [] = bs)
    (hO : ∀ v w w', Below w.heap.size w w' → O v w → O v w') (hN : ∀ v w w', Below w.heap.size w w' → N v w → N v w') (hA : ∀ v w w', Below w.heap.size w w' → A v w → A v w')
    (h : relWalk P l.toArray (initI B w0) (ap1T ia) (ap1F io ib ia O N A) bs (Q .normal) l.length l 0 (fun _ => a)) : (Code.region id l.toArray true).wp P Q a w0 := by
  refine wp_region_rel _ _ _ hm hB bs hbs (fun i done vf w1 w2 _ hd hbf hf hT k hk => ?_) (fun k done f g w1 hfg hk hF => ?_) ⟨hBw, (Below.refl _ _).drew⟩ h
  · have hki : k ≠ i := fun e => by rw [e, hd] at hk; cases hk
    have hF := hf k hk
    unfold ap1F at hF ⊢
    split
    · rename_i e
      rw [if_pos e] at hF
      exact hA _ _ _ (hT (fun e' => hki (e.trans e'.symm))) hF
    · rename_i e
      rw [if_neg e] at hF
      split
      · rename_i e2
        rw [if_pos e2] at hF
        intro hx
        unfold updDone at hx
        split at hx
        · cases hx
        · rename_i hia
          exact hO _ _ _ (hT (fun e' => hia e'.symm)) (hF hx)
      · rename_i e2
        rw [if_neg e2] at hF
        split
        · rename_i e3
          rw [if_pos e3] at hF
          intro hx
          unfold updDone at hx
          split at hx
          · cases hx
          · rename_i hia
            exact hN _ _ _ (hT (fun e' => hia e'.symm)) (hF hx)
        · trivial
  · unfold ap1F at hF ⊢
    split
    · rename_i e
      subst e
      rw [if_pos rfl, hk] at hF
      exact hF
    · rename_i e
      rw [if_neg e] at hF
      split
      · rename_i e2
        subst e2
        rw [if_pos rfl, hk] at hF
        exact hF
      · rename_i e2
        rw [if_neg e2] at hF
        split
        · rename_i e3
          subst e3
          rw [if_pos rfl, hk] at hF
          exact hF
        · trivial
theorem NewRow.below {B : Nat} {E : TypeId} {m : Nat} {cs : Array Value} {v : Value} {w w' : World} (h : NewRow B E m cs v w) (hb : Below w.heap.size w w') : NewRow B E m cs v w' := h.keep fun b _ hl => hb.block b hl
end Go.Proofs.YthkgjohhbdipcaaGreatDoor
