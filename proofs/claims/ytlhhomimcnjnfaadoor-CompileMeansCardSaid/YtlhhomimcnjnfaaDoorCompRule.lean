/- Walk: compile.rule. No condition. -/
import Derived.Test.YtlhhomimcnjnfaaDoorCompSpec
import Derived.Test.YtlhhomimcnjnfaaDoorConcatIns
import Derived.Test.YtlhhomimcnjnfaaDoorBlk
import Derived.Test.YtlhhomimcnjnfaaDoorPolRd
namespace Go.Proofs.YtlhhomimcnjnfaaDoor
open Go.RowKit

theorem lenTo_two' {α : Type} (a b : List α) : lenTo [a, b] [a, b].length = a.length + b.length := by simp [lenTo]
theorem condIns_drop {l : List TCond} {v : Int} {j : Nat} (h : j < l.length) : condIns (l.drop j) v = ⟨1, l[j].f, 0, 0⟩ :: jumpIns l[j] (condIns (l.drop (j + 1)) v).length :: condIns (l.drop (j + 1)) v := by
  rw [List.drop_eq_getElem_cons h]
  simp only [condIns, condIns_len]
  have : ((2 * (l.drop (j + 1)).length + 1 : Nat) : Int) = 2 * ((l.drop (j + 1)).length : Int) + 1 := by omega
  rw [this]
theorem rule_arg {W : World} {b3 b4 c' : Nat} {a' : Option Addr} {D : Nat → Prop} {i1 i2 : TIns} {L : List TIns} {T T' : TypeId} (h : RdCode W D (.slice a' L.length c') L)
    (h3 : W.heap[b3]? = some (.cells #[.int .i64 i1.k, .int .i64 i1.a, .int .i64 i1.b, .int .i64 i1.c, .int .i64 i2.k, .int .i64 i2.a, .int .i64 i2.b, .int .i64 i2.c] T))
    (h4 : W.heap[b4]? = some (.cells #[.slice (some ⟨b3, 0, none⟩) 2 2, .slice a' L.length c'] T')) (d3 : D b3) (d4 : D b4) : Sl W D 1 (rowsRIns W D) (.slice (some ⟨b4, 0, none⟩) 2 2) [[i1, i2], L] :=
  sl_block (xs := [[i1, i2], L]) (rows := [[.slice (some ⟨b3, 0, none⟩) 2 2], [.slice a' L.length c']])
    (RowsOf.cons (RowsOf.cons RowsOf.nil ⟨_, rfl, h⟩ rfl) ⟨_, rfl, sl_block (xs := [i1, i2]) (rows := [[.int .i64 i1.k, .int .i64 i1.a, .int .i64 i1.b, .int .i64 i1.c], [.int .i64 i2.k, .int .i64 i2.a, .int .i64 i2.b, .int .i64 i2.c]])
      (RowsOf.cons (RowsOf.cons RowsOf.nil rfl rfl) rfl rfl) h3 rfl d3 (by simp [maxLen])⟩ rfl) h4 rfl d4 (by simp [maxLen])
set_option maxHeartbeats 4000000 in
theorem rule_any (u : Value) (r : TRule) (D : Nat → Prop) (w : World) (h : RdConds w D u r.conds) (hl : r.conds.length ≤ 10) :
    Calls Tryd.prog 56 #[.agg #[u, .int .i64 r.verdict]] w fun e w' => ∃ v, e = .returned v ∧ RdCode w' (fun b => w.heap.size ≤ b) v (condIns r.conds r.verdict) ∧ Below w.heap.size w w' := by
  obtain ⟨a, c, rfl, hlc, hcm, hat⟩ := Sl.form h
  have H := Lib.hid h
  obtain ⟨n, hn⟩ : ∃ n : Nat, n = r.conds.length := ⟨_, rfl⟩
  have Hn := Lib.hid hn
  rw [← hn] at hl hlc hat ⊢
  clear h hn
  go_enter Tryd.func56, Tryd.ntmps56
  go_wp2_with fail
  go_loopw [3, 4] (fun ov kv wr => ∃ (k : Nat) (vs : Value), kv = .int .i64 k ∧ ov = vs ∧ k ≤ n ∧ RdCode wr (fun b => w.heap.size ≤ b) vs (condIns (r.conds.drop k) r.verdict) ∧ Below (w.heap.size + 1) (w.alloc (.cells #[.slice a n c, .int .i64 r.verdict] 41)) wr) (fun _ kv _ => (intOf kv).toNat)
  case atStart =>
    refine ⟨n, .slice (some ⟨w.heap.size + 1, 0, none⟩) 1 1, rfl, rfl, Nat.le_refl _, ?_, (Below.refl _ _).alloc (by simp) _⟩
    have e : condIns (r.conds.drop n) r.verdict = [⟨4, r.verdict, 0, 0⟩] := by rw [Hn.out, List.drop_length]; rfl
    rw [e]
    exact sl_block (R := insR) (sz := 4) (xs := [(⟨4, r.verdict, 0, 0⟩ : TIns)]) (rows := [[.int .i64 4, .int .i64 r.verdict, .int .i64 0, .int .i64 0]]) (RowsOf.cons RowsOf.nil rfl rfl) (blk_at (by simp)) rfl (by simp) (by simp [maxLen])
  case round =>
    obtain ⟨k, vs, rfl, rfl, hk, hrd, hb⟩ := hrel
    have hbc := box_cells hb
    have hbw := bel_box hb
    have hsz := size_box hb
    obtain ⟨a', c', rfl, hlc', hcm', _⟩ := Sl.form hrd
    have Hrd := Lib.hid hrd
    have Hb := Lib.hid hb
    have Hbw := Lib.hid hbw
    clear hrd hb hbw
    cases k with
    | zero =>
      go_wp2
      go_ret
      exact ⟨_, rfl, Hrd.out, Hbw.out⟩
    | succ j =>
      have hjl : j < r.conds.length := by have := Hn.out; omega
      obtain ⟨b, o, rfl, hDb, hblt⟩ := hat (by omega)
      have hcells := RdConds.cells (H.out.below Hbw.out) hjl
      have hcd : Hid (condIns (r.conds.drop j) r.verdict = ⟨1, r.conds[j].f, 0, 0⟩ :: jumpIns r.conds[j] (condIns (r.conds.drop (j + 1)) r.verdict).length :: condIns (r.conds.drop (j + 1)) r.verdict) := condIns_drop hjl
      have hlen : Hid ((condIns (r.conds.drop (j + 1)) r.verdict).length ≤ 21) := by show _ ≤ _; rw [condIns_len, List.length_drop]; have := Hn.out; omega
      obtain ⟨⟨cf, cop, cv⟩, hcj⟩ : ∃ y : TCond, r.conds[j] = y := ⟨_, rfl⟩
      rw [hcj] at hcells hcd
      generalize hL : condIns (r.conds.drop (j + 1)) r.verdict = L at *
      clear hL hcj hcm' hlc'
      rcases (by omega : cop = 2 ∨ cop ≠ 2 ∧ cop = 3 ∨ cop ≠ 2 ∧ cop ≠ 3 ∧ cop = 4 ∨ cop ≠ 2 ∧ cop ≠ 3 ∧ cop ≠ 4) with e2 | ⟨e2, e3⟩ | ⟨e2, e3, e4⟩ | ⟨e2, e3, e4⟩
      · have HJ : Hid (jumpIns ⟨cf, cop, cv⟩ L.length = ⟨2, cv, L.length, 0⟩) := by show jumpIns _ _ = _; unfold jumpIns; dsimp only; rw [if_pos e2]
        have b2 : (cop == 2) = true := beq_iff_eq.2 e2
        clear e2
        go_wp2_with fail
        refine (concatIns_any _ [[⟨1, cf, 0, 0⟩, jumpIns ⟨cf, cop, cv⟩ L.length], L] (fun b => w.heap.size ≤ b) _ (rule_arg (b3 := wr.heap.size + 1 + 1) (Hrd.out.below (bel_alloc (bel_alloc (bel_alloc (bel_alloc (Below.refl _ _) _) _) _) _)) (by rw [HJ.out]; exact blk_old (blk_at (by simp))) (blk_at (by simp)) (by omega) (by omega)) (by rw [lenTo_two']; have := hlen.out; simp; omega)).mono ?_
        rintro e w1 ⟨v1, rfl, hown0, hb1⟩
        have hown := hown0
        rw [show [[(⟨1, cf, 0, 0⟩ : TIns), jumpIns ⟨cf, cop, cv⟩ L.length], L].flatten = ⟨1, cf, 0, 0⟩ :: jumpIns ⟨cf, cop, cv⟩ L.length :: L from by simp] at hown
        clear hown0
        have hb2 := bel_call (bel_alloc (bel_alloc (bel_alloc (bel_alloc (Below.refl wr.heap.size wr) _) _) _) _) hb1
        go_wp2_with fail
        go_roundw
        case rel => exact ⟨j, v1, by go_num, rfl, by omega, by rw [hcd.out]; exact hown.sl (fun b h => Nat.le_trans (by omega : w.heap.size ≤ wr.heap.size) (Nat.le_trans (bel_alloc (bel_alloc (bel_alloc (bel_alloc (Below.refl _ wr) _) _) _) _).size h)), Hb.out.trans (hb2.mono hsz)⟩
        case measure => simp [intOf]
      · have HJ : Hid (jumpIns ⟨cf, cop, cv⟩ L.length = ⟨3, cv, 0, L.length⟩) := by show jumpIns _ _ = _; unfold jumpIns; dsimp only; rw [if_neg e2, if_pos e3]
        have b2 : (cop == 2) = false := beq_eq_false_iff_ne.2 e2
        have b3 : (cop == 3) = true := beq_iff_eq.2 e3
        clear e2 e3
        go_wp2_with fail
        refine (concatIns_any _ [[⟨1, cf, 0, 0⟩, jumpIns ⟨cf, cop, cv⟩ L.length], L] (fun b => w.heap.size ≤ b) _ (rule_arg (b3 := wr.heap.size + 1 + 1) (Hrd.out.below (bel_alloc (bel_alloc (bel_alloc (bel_alloc (Below.refl _ _) _) _) _) _)) (by rw [HJ.out]; exact blk_old (blk_at (by simp))) (blk_at (by simp)) (by omega) (by omega)) (by rw [lenTo_two']; have := hlen.out; simp; omega)).mono ?_
        rintro e w1 ⟨v1, rfl, hown0, hb1⟩
        have hown := hown0
        rw [show [[(⟨1, cf, 0, 0⟩ : TIns), jumpIns ⟨cf, cop, cv⟩ L.length], L].flatten = ⟨1, cf, 0, 0⟩ :: jumpIns ⟨cf, cop, cv⟩ L.length :: L from by simp] at hown
        clear hown0
        have hb2 := bel_call (bel_alloc (bel_alloc (bel_alloc (bel_alloc (Below.refl wr.heap.size wr) _) _) _) _) hb1
        go_wp2_with fail
        go_roundw
        case rel => exact ⟨j, v1, by go_num, rfl, by omega, by rw [hcd.out]; exact hown.sl (fun b h => Nat.le_trans (by omega : w.heap.size ≤ wr.heap.size) (Nat.le_trans (bel_alloc (bel_alloc (bel_alloc (bel_alloc (Below.refl _ wr) _) _) _) _).size h)), Hb.out.trans (hb2.mono hsz)⟩
        case measure => simp [intOf]
      · have HJ : Hid (jumpIns ⟨cf, cop, cv⟩ L.length = ⟨3, cv, L.length, 0⟩) := by show jumpIns _ _ = _; unfold jumpIns; dsimp only; rw [if_neg e2, if_neg e3, if_pos e4]
        have b2 : (cop == 2) = false := beq_eq_false_iff_ne.2 e2
        have b3 : (cop == 3) = false := beq_eq_false_iff_ne.2 e3
        have b4 : (cop == 4) = true := beq_iff_eq.2 e4
        clear e2 e3 e4
        go_wp2_with fail
        refine (concatIns_any _ [[⟨1, cf, 0, 0⟩, jumpIns ⟨cf, cop, cv⟩ L.length], L] (fun b => w.heap.size ≤ b) _ (rule_arg (b3 := wr.heap.size + 1 + 1) (Hrd.out.below (bel_alloc (bel_alloc (bel_alloc (bel_alloc (Below.refl _ _) _) _) _) _)) (by rw [HJ.out]; exact blk_old (blk_at (by simp))) (blk_at (by simp)) (by omega) (by omega)) (by rw [lenTo_two']; have := hlen.out; simp; omega)).mono ?_
        rintro e w1 ⟨v1, rfl, hown0, hb1⟩
        have hown := hown0
        rw [show [[(⟨1, cf, 0, 0⟩ : TIns), jumpIns ⟨cf, cop, cv⟩ L.length], L].flatten = ⟨1, cf, 0, 0⟩ :: jumpIns ⟨cf, cop, cv⟩ L.length :: L from by simp] at hown
        clear hown0
        have hb2 := bel_call (bel_alloc (bel_alloc (bel_alloc (bel_alloc (Below.refl wr.heap.size wr) _) _) _) _) hb1
        go_wp2_with fail
        go_roundw
        case rel => exact ⟨j, v1, by go_num, rfl, by omega, by rw [hcd.out]; exact hown.sl (fun b h => Nat.le_trans (by omega : w.heap.size ≤ wr.heap.size) (Nat.le_trans (bel_alloc (bel_alloc (bel_alloc (bel_alloc (Below.refl _ wr) _) _) _) _).size h)), Hb.out.trans (hb2.mono hsz)⟩
        case measure => simp [intOf]
      · have HJ : Hid (jumpIns ⟨cf, cop, cv⟩ L.length = ⟨2, cv, 0, L.length⟩) := by show jumpIns _ _ = _; unfold jumpIns; dsimp only; rw [if_neg e2, if_neg e3, if_neg e4]
        have b2 : (cop == 2) = false := beq_eq_false_iff_ne.2 e2
        have b3 : (cop == 3) = false := beq_eq_false_iff_ne.2 e3
        have b4 : (cop == 4) = false := beq_eq_false_iff_ne.2 e4
        clear e2 e3 e4
        go_wp2_with fail
        refine (concatIns_any _ [[⟨1, cf, 0, 0⟩, jumpIns ⟨cf, cop, cv⟩ L.length], L] (fun b => w.heap.size ≤ b) _ (rule_arg (b3 := wr.heap.size + 1 + 1) (Hrd.out.below (bel_alloc (bel_alloc (bel_alloc (bel_alloc (Below.refl _ _) _) _) _) _)) (by rw [HJ.out]; exact blk_old (blk_at (by simp))) (blk_at (by simp)) (by omega) (by omega)) (by rw [lenTo_two']; have := hlen.out; simp; omega)).mono ?_
        rintro e w1 ⟨v1, rfl, hown0, hb1⟩
        have hown := hown0
        rw [show [[(⟨1, cf, 0, 0⟩ : TIns), jumpIns ⟨cf, cop, cv⟩ L.length], L].flatten = ⟨1, cf, 0, 0⟩ :: jumpIns ⟨cf, cop, cv⟩ L.length :: L from by simp] at hown
        clear hown0
        have hb2 := bel_call (bel_alloc (bel_alloc (bel_alloc (bel_alloc (Below.refl wr.heap.size wr) _) _) _) _) hb1
        go_wp2_with fail
        go_roundw
        case rel => exact ⟨j, v1, by go_num, rfl, by omega, by rw [hcd.out]; exact hown.sl (fun b h => Nat.le_trans (by omega : w.heap.size ≤ wr.heap.size) (Nat.le_trans (bel_alloc (bel_alloc (bel_alloc (bel_alloc (Below.refl _ wr) _) _) _) _).size h)), Hb.out.trans (hb2.mono hsz)⟩
        case measure => simp [intOf]
end Go.Proofs.YtlhhomimcnjnfaaDoor
