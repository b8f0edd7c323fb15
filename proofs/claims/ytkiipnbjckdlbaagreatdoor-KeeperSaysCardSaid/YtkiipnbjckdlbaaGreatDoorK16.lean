/- Texts laid one behind the other: Filter, RTight, Same2. No condition beyond theirs. -/
import Derived.Test.YtkiipnbjckdlbaaGreatDoorK5
import Derived.Test.YtkiipnbjckdlbaaGreatDoorK6
import Derived.Test.YtkiipnbjckdlbaaGreatDoorK7
import Derived.Test.YtkiipnbjckdlbaaGreatDoorK2
import Derived.Test.YtkiipnbjckdlbaaGreatDoorK14
import Derived.Test.YtkiipnbjckdlbaaGreatDoorK15
import Derived.Test.YtkiipnbjckdlbaaGreatDoorK8
namespace Go.Proofs.YtkiipnbjckdlbaaGreatDoor
open Go.RowKit

/-- a rule's instructions but for its Return. -/
def condHead : List TCond → List TIns
  | [] => []
  | c :: r => ⟨1, c.f, 0, 0⟩ :: jumpIns c (2 * r.length + 1) :: condHead r
theorem condHead_ins : ∀ (cs : List TCond) (v : Int), condIns cs v = condHead cs ++ [⟨4, v, 0, 0⟩]
  | [], _ => rfl
  | c :: r, v => by simp only [condIns, condHead, List.cons_append, condHead_ins r v]
theorem condHead_len : ∀ (cs : List TCond), (condHead cs).length = 2 * cs.length
  | [] => rfl
  | c :: r => by simp only [condHead, List.length_cons, condHead_len r]; omega
theorem condHead_take : ∀ (cs : List TCond) (k : Nat) (h : k < cs.length), (condHead cs).take (2 * (k + 1)) = (condHead cs).take (2 * k) ++ [⟨1, cs[k].f, 0, 0⟩, jumpIns cs[k] (2 * (cs.length : Int) + 1 - 2 * k - 2)]
  | c :: r, 0, _ => by
    simp only [condHead, List.take_succ_cons, List.take_zero, Nat.mul_zero, List.nil_append, Nat.zero_add, Nat.mul_one, List.getElem_cons_zero, List.length_cons]
    congr 3
    omega
  | c :: r, k + 1, h => by
    have ih := condHead_take r k (by simpa using h)
    have e1 : 2 * (k + 1 + 1) = 2 * (k + 1) + 1 + 1 := by omega
    have e2 : 2 * (k + 1) = 2 * k + 1 + 1 := by omega
    have e3 : (2 * ((c :: r).length : Int) + 1 - 2 * ((k + 1 : Nat) : Int) - 2) = 2 * (r.length : Int) + 1 - 2 * (k : Int) - 2 := by simp; omega
    rw [e3, e1]
    simp only [condHead, List.take_succ_cons, List.getElem_cons_succ]
    rw [ih]
    conv => rhs; rw [e2]
    simp only [List.take_succ_cons, List.cons_append]

set_option maxRecDepth 100000 in
set_option maxHeartbeats 8000000 in
theorem rfilter_any (v : Value) (p : TPol) (D : Nat → Prop) (w : World) (h : RdRules w D v p.rules) :
    Calls Tryz.prog 56 #[polV v p.dflt] w fun e w' => ∃ l, e = .returned (.tuple #[l, .int .i64 (filterE p).2]) ∧ RdCode w' (fun b => w.heap.size ≤ b) l (filterE p).1 ∧ Below w.heap.size w w' := by
  have H := Lib.hid h
  obtain ⟨a, c, rfl, hlc, hcm, hat⟩ := Sl.form h
  clear h
  by_cases hp : polE p = 0
  · have hok := (okPol_iff p).1 hp
    have Hlen : Hid (∀ k, k ≤ p.rules.length → (rulesIns (p.rules.take k)).length ≤ 21 * 120) := fun k hk => by
      have h1 := rulesIns_take_len (fun r hr => (hok.rules r hr).len) k hk
      have h2 := hok.len
      omega
    have HF : Hid (filterE p = if 1500 < (filterL p).length then ([], 2) else (filterL p, 0)) := by show filterE p = _; unfold filterE; rw [if_neg (by omega)]
    have hn := hok.len
    have Hok := Lib.hid hok
    have Hp := Lib.hid hp
    obtain ⟨i0, hi, hz0, hz1, hz2⟩ := info_parts infoIns
    have Hi := Lib.hid hi
    clear hok hp hi
    go_enter Tryz.func56, Tryz.ntmps56
    go_wp2_with fail
    refine (rpolcheck_any _ p D _ (RdRules.below H.out (bel_alloc (Below.refl _ _) _))).mono ?_
    rw [Hp.out]
    rintro e w1 ⟨rfl, hb1⟩
    have hb1' : Below (w.heap.size + 1) _ w1 := hb1.mono (by simp)
    have hc1 := box_cells hb1'
    have Hb1 := Lib.hid hb1'
    clear hb1 hb1'
    go_wp2_with fail
    go_loopw [5, 21] (fun ov kv wr => ∃ (k : Nat) (vs : Value), kv = .int .i64 k ∧ vs = ov ∧ k ≤ p.rules.length ∧ OwnSl wr (w.heap.size + 1) 73 4 insR vs (rulesIns (p.rules.take k)) ∧ Below (w.heap.size + 1) (w.alloc (.cells #[.slice a p.rules.length c, .int .i64 p.dflt] 37)) wr) (fun _ kv _ => p.rules.length - (intOf kv).toNat)
    case atStart => exact ⟨0, _, rfl, rfl, by omega, OwnSl.nil, Hb1.out⟩
    case round =>
      obtain ⟨k, vs, rfl, rfl, hk, hown, hb⟩ := hrel
      have hbc := box_cells hb
      have hbw := bel_box hb
      have hsz := size_box hb
      have Hown := Lib.hid hown
      have Hb := Lib.hid hb
      have Hbw := Lib.hid hbw
      clear hc1 hown hb hbw
      by_cases hlt : k < p.rules.length
      · obtain ⟨b, o, rfl, hDb, hblt⟩ := hat (by omega)
        obtain ⟨ca, cc, hc0w, hc1w, hrd, hcl, hcmx, hcat⟩ := RdRules.cells H.out hlt
        obtain ⟨r, hr⟩ : ∃ r, p.rules[k] = r := ⟨_, rfl⟩
        have Hkr := Lib.hid (Hok.out.rules p.rules[k] (List.getElem_mem hlt))
        rw [hr] at hc0w hc1w hrd hcl hcat Hkr
        have Hrd := Lib.hid hrd
        have hc0 := (Hbw.out.cell (p := ⟨b, o + k * 2, none⟩) hblt).trans hc0w
        have hc1 := (Hbw.out.cell (p := ⟨b, o + k * 2 + 1, none⟩) hblt).trans hc1w
        have hl10 := Hkr.out.len
        have Hl := Lib.hid (Hlen.out (k + 1) (by omega))
        have Hs : Hid (rulesIns (p.rules.take (k + 1)) = rulesIns (p.rules.take k) ++ (condHead r.conds ++ [⟨4, r.verdict, 0, 0⟩])) := by show rulesIns _ = _; rw [rulesIns_take hlt, hr, condHead_ins]
        have Hll : Hid ((rulesIns (p.rules.take k)).length + (2 * r.conds.length + 1) ≤ 21 * 120) := by have := Hl.out; rw [Hs.out] at this; simp only [List.length_append, condHead_len, List.length_singleton] at this; exact this
        obtain ⟨wo, rfl⟩ : ∃ wo : World, wo = wr := ⟨_, rfl⟩
        have hob : vs.ownBlock ≠ some wo.heap.size := fun e => by obtain ⟨rows, _, hrw⟩ := Hown.out; have := (hrw.lt _ e).2; omega
        have Hob := Lib.hid hob
        clear hrd hr hob hc0w hc1w
        go_wp2_with fail
        clear hc0 hc1 hbc
        go_loopw [5, 33] (fun ov iv wi => ∃ (j : Nat) (vi : Value), iv = .int .i64 j ∧ vi = ov ∧ j ≤ r.conds.length ∧ OwnSl wi (w.heap.size + 1) 73 4 insR vi (rulesIns (p.rules.take k) ++ (condHead r.conds).take (2 * j)) ∧ Below (w.heap.size + 1) (w.alloc (.cells #[.slice (some ⟨b, o, none⟩) p.rules.length c, .int .i64 p.dflt] 37)) wi ∧
          wi.heap[wo.heap.size]? = some (.cells #[.slice ca r.conds.length cc, .int .i64 r.verdict] 80) ∧ vi.ownBlock ≠ some wo.heap.size ∧ wo.heap.size < wi.heap.size) (fun _ iv _ => r.conds.length - (intOf iv).toNat)
        case atStart => exact ⟨0, vs, rfl, rfl, by omega, by simpa using Hown.out.below (bel_alloc (Below.refl _ _) _), Hb.out.trans ((bel_alloc (Below.refl _ wo) _).mono hsz), heap_last _ _, Hob.out, by simp⟩
        case round =>
          obtain ⟨j, vi, rfl, rfl, hj, howni, hbi, hbox, hnob, hszi⟩ := hrel
          have Howni := Lib.hid howni
          have Hbi := Lib.hid hbi
          have Hbox := Lib.hid hbox
          have Hnob := Lib.hid hnob
          have hbwi := bel_box hbi
          have Hbwi := Lib.hid hbwi
          clear howni hbi hbox hnob hbwi
          by_cases hjl : j < r.conds.length
          · obtain ⟨b2, o2, rfl, hDb2, hblt2⟩ := hcat (by omega)
            obtain ⟨hd0, hd1, hd2⟩ := RdConds.cells (Hrd.out.below Hbwi.out) hjl
            have Hoc := Lib.hid (Hkr.out.conds r.conds[j] (List.getElem_mem hjl))
            have HT := Lib.hid (condHead_take r.conds j hjl)
            have Hll2 : Hid ((rulesIns (p.rules.take k) ++ (condHead r.conds).take (2 * j)).length ≤ 21 * 120) := by
              show _ ≤ _
              have := Hll.out
              rw [List.length_append, List.length_take]; omega
            obtain ⟨⟨cf, cop, cv⟩, hcj⟩ : ∃ y : TCond, r.conds[j] = y := ⟨_, rfl⟩
            rw [hcj] at hd0 hd1 hd2 HT Hoc
            obtain ⟨left, hleft⟩ : ∃ left : Int, 2 * (r.conds.length : Int) + 1 - 2 * (j : Int) - 2 = left := ⟨_, rfl⟩
            rw [hleft] at HT
            have ho0 : 1 ≤ cop := Hoc.out.o0
            have ho1 : cop ≤ 4 := Hoc.out.o1
            dsimp only at hd0 hd1 hd2
            clear hcj
            rcases (by omega : cop = 1 ∨ cop = 2 ∨ cop = 3 ∨ cop = 4) with rfl | rfl | rfl | rfl
            · have HT2 : Hid ((condHead r.conds).take (2 * (j + 1)) = (condHead r.conds).take (2 * j) ++ [⟨1, cf, 0, 0⟩, ⟨2, cv, 0, left⟩]) := by show _ = _; rw [HT.out]; rfl
              have Hnew : Hid (RdCode (((wr.alloc (.cells #[.int .i64 cf, .int .i64 1, .int .i64 cv] 89)).alloc (.cells #[.int .i64 2, .int .i64 cv, .int .i64 0, .int .i64 left] 73)).alloc (.cells #[.int .i64 1, .int .i64 cf, .int .i64 0, .int .i64 0, .int .i64 2, .int .i64 cv, .int .i64 0, .int .i64 left] 73)) (fun _ => True) (.slice (some ⟨wr.heap.size + 1 + 1, 0, none⟩) 2 2) [⟨1, cf, 0, 0⟩, ⟨2, cv, 0, left⟩]) :=
                sl_block (R := insR) (sz := 4) (xs := [(⟨1, cf, 0, 0⟩ : TIns), ⟨2, cv, 0, left⟩]) (rows := [[.int .i64 1, .int .i64 cf, .int .i64 0, .int .i64 0], [.int .i64 2, .int .i64 cv, .int .i64 0, .int .i64 left]]) (RowsOf.cons (RowsOf.cons RowsOf.nil rfl rfl) rfl rfl) (blk_at (by simp)) rfl trivial (by simp [maxLen])
              have Hown3 := Lib.hid (Howni.out.below (bel_alloc (bel_alloc (bel_alloc (Below.refl _ wr) (.cells #[.int .i64 cf, .int .i64 1, .int .i64 cv] 89)) (.cells #[.int .i64 2, .int .i64 cv, .int .i64 0, .int .i64 left] 73)) (.cells #[.int .i64 1, .int .i64 cf, .int .i64 0, .int .i64 0, .int .i64 2, .int .i64 cv, .int .i64 0, .int .i64 left] 73)))
              have Hbox3 := Lib.hid (blk_old (o := (.cells #[.int .i64 1, .int .i64 cf, .int .i64 0, .int .i64 0, .int .i64 2, .int .i64 cv, .int .i64 0, .int .i64 left] 73)) (blk_old (o := (.cells #[.int .i64 2, .int .i64 cv, .int .i64 0, .int .i64 left] 73)) (blk_old (o := (.cells #[.int .i64 cf, .int .i64 1, .int .i64 cv] 89)) Hbox.out)))
              have Hbi3 := Lib.hid (Hbi.out.trans ((bel_alloc (bel_alloc (bel_alloc (Below.refl _ wr) (.cells #[.int .i64 cf, .int .i64 1, .int .i64 cv] 89)) (.cells #[.int .i64 2, .int .i64 cv, .int .i64 0, .int .i64 left] 73)) (.cells #[.int .i64 1, .int .i64 cf, .int .i64 0, .int .i64 0, .int .i64 2, .int .i64 cv, .int .i64 0, .int .i64 left] 73)).mono (by omega)))
              go_wp2_with (at_builtin; refine wpList_app2 rfl _ _ 31 rfl (w.heap.size + 1) 73 i0 _ 4 32 Tryz.underlying31 Hi.out hz0 hz1 hz2 rfl (by decide) _ _ rfl Hown3.out _ _ rfl Hnew.out (fun y _ cs h => oneIns' y cs h) (by have := Hll2.out; show _ + 2 ≤ maxLen; unfold maxLen; omega) (by have := Hll2.out; show (_ + 2) * 32 ≤ _; omega) (by simp; omega) ?_; intro v' w3 hown' hg hat'; have Hown' := Lib.hid hown'; have Hb3 := Lib.hid (Hown3.out.grown Hbi3.out hg (by simp; omega) (Nat.le_refl _)); have Hx3 := Lib.hid ((hg.block wo.heap.size (by simp; omega) (fun e => Hnob.out e.symm)).trans Hbox3.out); have Hn3 : Hid (v'.ownBlock ≠ some wo.heap.size) := (fun e => hat'.elim (fun e' => Hnob.out (e'.symm.trans e)) (fun e' => by have := e'.symm.trans e; simp at this; omega)); have hs3 : wo.heap.size < w3.heap.size := (by have := hg.size; simp at this; omega); clear hown' hg hat')
              go_roundw
              case rel => exact ⟨j + 1, v', by go_num, rfl, by omega, by rw [HT2.out, ← List.append_assoc]; exact Hown'.out, Hb3.out, Hx3.out, Hn3.out, hs3⟩
              case measure => simp [intOf]; omega
            · have HT2 : Hid ((condHead r.conds).take (2 * (j + 1)) = (condHead r.conds).take (2 * j) ++ [⟨1, cf, 0, 0⟩, ⟨2, cv, left, 0⟩]) := by show _ = _; rw [HT.out]; rfl
              have Hnew : Hid (RdCode (((wr.alloc (.cells #[.int .i64 cf, .int .i64 2, .int .i64 cv] 89)).alloc (.cells #[.int .i64 2, .int .i64 cv, .int .i64 left, .int .i64 0] 73)).alloc (.cells #[.int .i64 1, .int .i64 cf, .int .i64 0, .int .i64 0, .int .i64 2, .int .i64 cv, .int .i64 left, .int .i64 0] 73)) (fun _ => True) (.slice (some ⟨wr.heap.size + 1 + 1, 0, none⟩) 2 2) [⟨1, cf, 0, 0⟩, ⟨2, cv, left, 0⟩]) :=
                sl_block (R := insR) (sz := 4) (xs := [(⟨1, cf, 0, 0⟩ : TIns), ⟨2, cv, left, 0⟩]) (rows := [[.int .i64 1, .int .i64 cf, .int .i64 0, .int .i64 0], [.int .i64 2, .int .i64 cv, .int .i64 left, .int .i64 0]]) (RowsOf.cons (RowsOf.cons RowsOf.nil rfl rfl) rfl rfl) (blk_at (by simp)) rfl trivial (by simp [maxLen])
              have Hown3 := Lib.hid (Howni.out.below (bel_alloc (bel_alloc (bel_alloc (Below.refl _ wr) (.cells #[.int .i64 cf, .int .i64 2, .int .i64 cv] 89)) (.cells #[.int .i64 2, .int .i64 cv, .int .i64 left, .int .i64 0] 73)) (.cells #[.int .i64 1, .int .i64 cf, .int .i64 0, .int .i64 0, .int .i64 2, .int .i64 cv, .int .i64 left, .int .i64 0] 73)))
              have Hbox3 := Lib.hid (blk_old (o := (.cells #[.int .i64 1, .int .i64 cf, .int .i64 0, .int .i64 0, .int .i64 2, .int .i64 cv, .int .i64 left, .int .i64 0] 73)) (blk_old (o := (.cells #[.int .i64 2, .int .i64 cv, .int .i64 left, .int .i64 0] 73)) (blk_old (o := (.cells #[.int .i64 cf, .int .i64 2, .int .i64 cv] 89)) Hbox.out)))
              have Hbi3 := Lib.hid (Hbi.out.trans ((bel_alloc (bel_alloc (bel_alloc (Below.refl _ wr) (.cells #[.int .i64 cf, .int .i64 2, .int .i64 cv] 89)) (.cells #[.int .i64 2, .int .i64 cv, .int .i64 left, .int .i64 0] 73)) (.cells #[.int .i64 1, .int .i64 cf, .int .i64 0, .int .i64 0, .int .i64 2, .int .i64 cv, .int .i64 left, .int .i64 0] 73)).mono (by omega)))
              go_wp2_with (at_builtin; refine wpList_app2 rfl _ _ 31 rfl (w.heap.size + 1) 73 i0 _ 4 32 Tryz.underlying31 Hi.out hz0 hz1 hz2 rfl (by decide) _ _ rfl Hown3.out _ _ rfl Hnew.out (fun y _ cs h => oneIns' y cs h) (by have := Hll2.out; show _ + 2 ≤ maxLen; unfold maxLen; omega) (by have := Hll2.out; show (_ + 2) * 32 ≤ _; omega) (by simp; omega) ?_; intro v' w3 hown' hg hat'; have Hown' := Lib.hid hown'; have Hb3 := Lib.hid (Hown3.out.grown Hbi3.out hg (by simp; omega) (Nat.le_refl _)); have Hx3 := Lib.hid ((hg.block wo.heap.size (by simp; omega) (fun e => Hnob.out e.symm)).trans Hbox3.out); have Hn3 : Hid (v'.ownBlock ≠ some wo.heap.size) := (fun e => hat'.elim (fun e' => Hnob.out (e'.symm.trans e)) (fun e' => by have := e'.symm.trans e; simp at this; omega)); have hs3 : wo.heap.size < w3.heap.size := (by have := hg.size; simp at this; omega); clear hown' hg hat')
              go_roundw
              case rel => exact ⟨j + 1, v', by go_num, rfl, by omega, by rw [HT2.out, ← List.append_assoc]; exact Hown'.out, Hb3.out, Hx3.out, Hn3.out, hs3⟩
              case measure => simp [intOf]; omega
            · have HT2 : Hid ((condHead r.conds).take (2 * (j + 1)) = (condHead r.conds).take (2 * j) ++ [⟨1, cf, 0, 0⟩, ⟨3, cv, 0, left⟩]) := by show _ = _; rw [HT.out]; rfl
              have Hnew : Hid (RdCode (((wr.alloc (.cells #[.int .i64 cf, .int .i64 3, .int .i64 cv] 89)).alloc (.cells #[.int .i64 3, .int .i64 cv, .int .i64 0, .int .i64 left] 73)).alloc (.cells #[.int .i64 1, .int .i64 cf, .int .i64 0, .int .i64 0, .int .i64 3, .int .i64 cv, .int .i64 0, .int .i64 left] 73)) (fun _ => True) (.slice (some ⟨wr.heap.size + 1 + 1, 0, none⟩) 2 2) [⟨1, cf, 0, 0⟩, ⟨3, cv, 0, left⟩]) :=
                sl_block (R := insR) (sz := 4) (xs := [(⟨1, cf, 0, 0⟩ : TIns), ⟨3, cv, 0, left⟩]) (rows := [[.int .i64 1, .int .i64 cf, .int .i64 0, .int .i64 0], [.int .i64 3, .int .i64 cv, .int .i64 0, .int .i64 left]]) (RowsOf.cons (RowsOf.cons RowsOf.nil rfl rfl) rfl rfl) (blk_at (by simp)) rfl trivial (by simp [maxLen])
              have Hown3 := Lib.hid (Howni.out.below (bel_alloc (bel_alloc (bel_alloc (Below.refl _ wr) (.cells #[.int .i64 cf, .int .i64 3, .int .i64 cv] 89)) (.cells #[.int .i64 3, .int .i64 cv, .int .i64 0, .int .i64 left] 73)) (.cells #[.int .i64 1, .int .i64 cf, .int .i64 0, .int .i64 0, .int .i64 3, .int .i64 cv, .int .i64 0, .int .i64 left] 73)))
              have Hbox3 := Lib.hid (blk_old (o := (.cells #[.int .i64 1, .int .i64 cf, .int .i64 0, .int .i64 0, .int .i64 3, .int .i64 cv, .int .i64 0, .int .i64 left] 73)) (blk_old (o := (.cells #[.int .i64 3, .int .i64 cv, .int .i64 0, .int .i64 left] 73)) (blk_old (o := (.cells #[.int .i64 cf, .int .i64 3, .int .i64 cv] 89)) Hbox.out)))
              have Hbi3 := Lib.hid (Hbi.out.trans ((bel_alloc (bel_alloc (bel_alloc (Below.refl _ wr) (.cells #[.int .i64 cf, .int .i64 3, .int .i64 cv] 89)) (.cells #[.int .i64 3, .int .i64 cv, .int .i64 0, .int .i64 left] 73)) (.cells #[.int .i64 1, .int .i64 cf, .int .i64 0, .int .i64 0, .int .i64 3, .int .i64 cv, .int .i64 0, .int .i64 left] 73)).mono (by omega)))
              go_wp2_with (at_builtin; refine wpList_app2 rfl _ _ 31 rfl (w.heap.size + 1) 73 i0 _ 4 32 Tryz.underlying31 Hi.out hz0 hz1 hz2 rfl (by decide) _ _ rfl Hown3.out _ _ rfl Hnew.out (fun y _ cs h => oneIns' y cs h) (by have := Hll2.out; show _ + 2 ≤ maxLen; unfold maxLen; omega) (by have := Hll2.out; show (_ + 2) * 32 ≤ _; omega) (by simp; omega) ?_; intro v' w3 hown' hg hat'; have Hown' := Lib.hid hown'; have Hb3 := Lib.hid (Hown3.out.grown Hbi3.out hg (by simp; omega) (Nat.le_refl _)); have Hx3 := Lib.hid ((hg.block wo.heap.size (by simp; omega) (fun e => Hnob.out e.symm)).trans Hbox3.out); have Hn3 : Hid (v'.ownBlock ≠ some wo.heap.size) := (fun e => hat'.elim (fun e' => Hnob.out (e'.symm.trans e)) (fun e' => by have := e'.symm.trans e; simp at this; omega)); have hs3 : wo.heap.size < w3.heap.size := (by have := hg.size; simp at this; omega); clear hown' hg hat')
              go_roundw
              case rel => exact ⟨j + 1, v', by go_num, rfl, by omega, by rw [HT2.out, ← List.append_assoc]; exact Hown'.out, Hb3.out, Hx3.out, Hn3.out, hs3⟩
              case measure => simp [intOf]; omega
            · have HT2 : Hid ((condHead r.conds).take (2 * (j + 1)) = (condHead r.conds).take (2 * j) ++ [⟨1, cf, 0, 0⟩, ⟨3, cv, left, 0⟩]) := by show _ = _; rw [HT.out]; rfl
              have Hnew : Hid (RdCode (((wr.alloc (.cells #[.int .i64 cf, .int .i64 4, .int .i64 cv] 89)).alloc (.cells #[.int .i64 3, .int .i64 cv, .int .i64 left, .int .i64 0] 73)).alloc (.cells #[.int .i64 1, .int .i64 cf, .int .i64 0, .int .i64 0, .int .i64 3, .int .i64 cv, .int .i64 left, .int .i64 0] 73)) (fun _ => True) (.slice (some ⟨wr.heap.size + 1 + 1, 0, none⟩) 2 2) [⟨1, cf, 0, 0⟩, ⟨3, cv, left, 0⟩]) :=
                sl_block (R := insR) (sz := 4) (xs := [(⟨1, cf, 0, 0⟩ : TIns), ⟨3, cv, left, 0⟩]) (rows := [[.int .i64 1, .int .i64 cf, .int .i64 0, .int .i64 0], [.int .i64 3, .int .i64 cv, .int .i64 left, .int .i64 0]]) (RowsOf.cons (RowsOf.cons RowsOf.nil rfl rfl) rfl rfl) (blk_at (by simp)) rfl trivial (by simp [maxLen])
              have Hown3 := Lib.hid (Howni.out.below (bel_alloc (bel_alloc (bel_alloc (Below.refl _ wr) (.cells #[.int .i64 cf, .int .i64 4, .int .i64 cv] 89)) (.cells #[.int .i64 3, .int .i64 cv, .int .i64 left, .int .i64 0] 73)) (.cells #[.int .i64 1, .int .i64 cf, .int .i64 0, .int .i64 0, .int .i64 3, .int .i64 cv, .int .i64 left, .int .i64 0] 73)))
              have Hbox3 := Lib.hid (blk_old (o := (.cells #[.int .i64 1, .int .i64 cf, .int .i64 0, .int .i64 0, .int .i64 3, .int .i64 cv, .int .i64 left, .int .i64 0] 73)) (blk_old (o := (.cells #[.int .i64 3, .int .i64 cv, .int .i64 left, .int .i64 0] 73)) (blk_old (o := (.cells #[.int .i64 cf, .int .i64 4, .int .i64 cv] 89)) Hbox.out)))
              have Hbi3 := Lib.hid (Hbi.out.trans ((bel_alloc (bel_alloc (bel_alloc (Below.refl _ wr) (.cells #[.int .i64 cf, .int .i64 4, .int .i64 cv] 89)) (.cells #[.int .i64 3, .int .i64 cv, .int .i64 left, .int .i64 0] 73)) (.cells #[.int .i64 1, .int .i64 cf, .int .i64 0, .int .i64 0, .int .i64 3, .int .i64 cv, .int .i64 left, .int .i64 0] 73)).mono (by omega)))
              go_wp2_with (at_builtin; refine wpList_app2 rfl _ _ 31 rfl (w.heap.size + 1) 73 i0 _ 4 32 Tryz.underlying31 Hi.out hz0 hz1 hz2 rfl (by decide) _ _ rfl Hown3.out _ _ rfl Hnew.out (fun y _ cs h => oneIns' y cs h) (by have := Hll2.out; show _ + 2 ≤ maxLen; unfold maxLen; omega) (by have := Hll2.out; show (_ + 2) * 32 ≤ _; omega) (by simp; omega) ?_; intro v' w3 hown' hg hat'; have Hown' := Lib.hid hown'; have Hb3 := Lib.hid (Hown3.out.grown Hbi3.out hg (by simp; omega) (Nat.le_refl _)); have Hx3 := Lib.hid ((hg.block wo.heap.size (by simp; omega) (fun e => Hnob.out e.symm)).trans Hbox3.out); have Hn3 : Hid (v'.ownBlock ≠ some wo.heap.size) := (fun e => hat'.elim (fun e' => Hnob.out (e'.symm.trans e)) (fun e' => by have := e'.symm.trans e; simp at this; omega)); have hs3 : wo.heap.size < w3.heap.size := (by have := hg.size; simp at this; omega); clear hown' hg hat')
              go_roundw
              case rel => exact ⟨j + 1, v', by go_num, rfl, by omega, by rw [HT2.out, ← List.append_assoc]; exact Hown'.out, Hb3.out, Hx3.out, Hn3.out, hs3⟩
              case measure => simp [intOf]; omega
          · obtain rfl : j = r.conds.length := by omega
            have hcr := cells_of Hbox.out
            have hl2 : Hid ((condHead r.conds).take (2 * r.conds.length) = condHead r.conds) := by show _ = _; rw [← condHead_len, List.take_length]
            have Hlen2 : Hid ((rulesIns (p.rules.take k) ++ (condHead r.conds).take (2 * r.conds.length)).length ≤ 21 * 120) := by
              show _ ≤ _
              have := Hll.out
              rw [hl2.out, List.length_append, condHead_len]; omega
            have Hnew : Hid (RdCode (wr.alloc (.cells #[.int .i64 4, .int .i64 r.verdict, .int .i64 0, .int .i64 0] 73)) (fun _ => True) (.slice (some ⟨wr.heap.size, 0, none⟩) 1 1) [⟨4, r.verdict, 0, 0⟩]) :=
              sl_block (R := insR) (sz := 4) (xs := [(⟨4, r.verdict, 0, 0⟩ : TIns)]) (rows := [[.int .i64 4, .int .i64 r.verdict, .int .i64 0, .int .i64 0]]) (RowsOf.cons RowsOf.nil rfl rfl) (heap_last _ _) rfl trivial (by simp [maxLen])
            have Hown3 := Lib.hid (Howni.out.below (bel_alloc (Below.refl _ wr) (.cells #[.int .i64 4, .int .i64 r.verdict, .int .i64 0, .int .i64 0] 73)))
            have Hbi3 := Lib.hid (Hbi.out.trans ((bel_alloc (Below.refl _ wr) (.cells #[.int .i64 4, .int .i64 r.verdict, .int .i64 0, .int .i64 0] 73)).mono (by omega)))
            go_wp2_with (at_builtin; refine wpList_app rfl _ _ 31 rfl (w.heap.size + 1) 73 i0 _ 4 32 Tryz.underlying31 Hi.out hz0 hz1 hz2 rfl (by decide) _ _ rfl Hown3.out _ _ rfl Hnew.out (fun y _ cs h => oneIns' y cs h) (by have := Hlen2.out; show _ + 1 ≤ maxLen; unfold maxLen; omega) (by have := Hlen2.out; show (_ + 1) * 32 ≤ _; omega) (by simp; omega) ?_; intro v' w3 hown' hg; have Hown' := Lib.hid hown'; have Hb3 := Lib.hid (Hown3.out.grown Hbi3.out hg (by simp; omega) (Nat.le_refl _)); clear hown' hg)
            go_roundw
            case rel => exact ⟨k + 1, v', by go_num, rfl, by omega, by have := Hown'.out; rw [hl2.out] at this; rw [Hs.out, ← List.append_assoc]; exact this, Hb3.out⟩
            case measure => simp [intOf]; omega
      · obtain rfl : k = p.rules.length := by omega
        have Hl := Lib.hid (Hlen.out p.rules.length (Nat.le_refl _))
        have Hnew : Hid (RdCode (wr.alloc (.cells #[.int .i64 4, .int .i64 p.dflt, .int .i64 0, .int .i64 0] 73)) (fun _ => True) (.slice (some ⟨wr.heap.size, 0, none⟩) 1 1) [⟨4, p.dflt, 0, 0⟩]) :=
          sl_block (R := insR) (sz := 4) (xs := [(⟨4, p.dflt, 0, 0⟩ : TIns)]) (rows := [[.int .i64 4, .int .i64 p.dflt, .int .i64 0, .int .i64 0]]) (RowsOf.cons RowsOf.nil rfl rfl) (heap_last _ _) rfl trivial (by simp [maxLen])
        have Hown3 := Lib.hid (Hown.out.below (bel_alloc (Below.refl _ wr) (.cells #[.int .i64 4, .int .i64 p.dflt, .int .i64 0, .int .i64 0] 73)))
        go_wp2_with (at_builtin; refine wpList_app rfl _ _ 31 rfl (w.heap.size + 1) 73 i0 _ 4 32 Tryz.underlying31 Hi.out hz0 hz1 hz2 rfl (by decide) _ _ rfl Hown3.out _ _ rfl Hnew.out (fun y _ cs h => oneIns' y cs h) (by have := Hl.out; show _ + 1 ≤ maxLen; unfold maxLen; omega) (by have := Hl.out; show (_ + 1) * 32 ≤ _; omega) (by simp; omega) ?_; intro v' w3 hown' hg; rw [List.take_length] at hown'; have Hown' := Lib.hid hown'; have Hb3 := Lib.hid (Hown3.out.grown (Hb.out.trans ((bel_alloc (Below.refl _ wr) _).mono hsz)) hg (by simp; omega) (Nat.le_refl _)); clear hown' hg; have HcF : Hid (RdCode w3 (fun b => w.heap.size ≤ b) v' (filterL p)) := (Hown'.out.sl fun b h => by omega); obtain ⟨af, cf, rfl, _, _⟩ := Sl.form HcF.out; by_cases hbig : 1500 < (filterL p).length)
        · have HF2 : Hid (filterE p = ([], 2)) := by show filterE p = _; rw [HF.out, if_pos hbig]
          go_wp2
          go_ret2
          rw [HF2.out]
          exact ⟨_, rfl, rdNil _ _, bel_box Hb3.out⟩
        · have HF2 : Hid (filterE p = (filterL p, 0)) := by show filterE p = _; rw [HF.out, if_neg hbig]
          go_wp2
          go_ret2
          rw [HF2.out]
          exact ⟨_, rfl, HcF.out, bel_box Hb3.out⟩
  · have HF : Hid (filterE p = ([], polE p)) := by show filterE p = _; unfold filterE; rw [if_pos hp]
    have b0 : (polE p != 0) = true := bne_iff_ne.2 hp
    clear hp
    go_enter Tryz.func56, Tryz.ntmps56
    go_wp2_with fail
    refine (rpolcheck_any _ p D _ (RdRules.below H.out (bel_alloc (Below.refl _ _) _))).mono ?_
    rintro e w1 ⟨rfl, hb1⟩
    have hb1' : Below (w.heap.size + 1) _ w1 := hb1.mono (by simp)
    have Hb1 := Lib.hid hb1'
    clear hb1 hb1'
    go_wp2
    go_ret2
    rw [HF.out]
    exact ⟨_, rfl, rdNil _ _, bel_box Hb1.out⟩
end Go.Proofs.YtkiipnbjckdlbaaGreatDoor
namespace Go.Proofs.YtkiipnbjckdlbaaGreatDoor
open Go.RowKit

/-- a row without cells. -/
theorem own_empty {W : World} {base b : Nat} {e : TypeId} {R : List TIns → List Value → Prop} (hb : W.heap[b]? = some (.cells #[] e)) (hbase : base ≤ b) : OwnSl W base e 1 R (.slice (some ⟨b, 0, none⟩) 0 0) ([] : List (List TIns)) :=
  ⟨[], RowsOf.nil, by simp, .inr ⟨b, 0, #[], by simp, hbase, hb, by simp, by unfold maxLen; omega, by simp, by simp⟩⟩

set_option maxRecDepth 100000 in
set_option maxHeartbeats 8000000 in
theorem rtighten_any (v u0 u1 : Value) (l : List (List TIns)) (p q : TPol) (D : Nat → Prop) (w : World) (h : RdChain w D v l) (hp : RdRules w (fun _ => True) u0 p.rules) (hq : RdRules w (fun _ => True) u1 q.rules) :
    Calls Tryz.prog 21 #[v, polV u0 p.dflt, polV u1 q.dflt] w fun e w' => ∃ v', e = .returned (.tuple #[v', .int .i64 (tightE l p q).2]) ∧ RdChain w' (fun _ => True) v' (tightE l p q).1 ∧ Below w.heap.size w w' := by
  have H := Lib.hid h
  have Hp := Lib.hid hp
  have Hq := Lib.hid hq
  obtain ⟨a, c, rfl, hlc, hcm, hat⟩ := Sl.form h
  obtain ⟨ap, cp, rfl, _⟩ := Sl.form hp
  obtain ⟨aq, cq, rfl, _⟩ := Sl.form hq
  clear h hp hq
  obtain ⟨⟨Y, ye⟩, hY⟩ : ∃ E, deltaE p q = E := ⟨_, rfl⟩
  have HY := Lib.hid hY
  obtain ⟨⟨F, fe⟩, hF⟩ : ∃ E, filterE Y = E := ⟨_, rfl⟩
  have HF := Lib.hid hF
  have HFl : Hid (fe = 0 → filterL Y = F) := fun h => by have := (filterE_ok (p := Y) (by rw [hF]; exact h)).2.1; rw [hF] at this; exact (Prod.mk.inj this).1.symm
  have HT : Hid (tightE l p q = if chainE l ≠ 0 then ([], chainE l) else if ye ≠ 0 then ([], ye) else if l.length = 6 then ([], 2) else if fe ≠ 0 then ([], fe) else (l ++ [filterL Y], 0)) := by
    show tightE l p q = _
    unfold tightE
    rw [hY]
    dsimp only
    rw [hF]
  clear hY hF
  go_enter Tryz.func21, Tryz.ntmps21
  go_wp2_with fail
  have HB := Lib.hid (Bx.two (w := w) (o := .cells #[.slice ap p.rules.length cp, .int .i64 p.dflt] 37) (o' := .cells #[.slice aq q.rules.length cq, .int .i64 q.dflt] 37))
  refine (rchcheck_any _ l D _ (H.out.below HB.out.bel)).mono ?_
  rintro e w1 ⟨rfl, hb1⟩
  have HB1 := Lib.hid (HB.out.below hb1)
  clear hb1
  by_cases h0 : chainE l = 0
  · obtain ⟨hl6, hcodes⟩ := (chainE_iff l).1 h0
    have Hcd := Lib.hid hcodes
    have H0 := Lib.hid h0
    have hq0 := HB1.out.cells0
    have hq1 := HB1.out.cells1
    rw [h0]
    clear h0 hcodes
    go_wp2_with fail
    refine (rdelta_any _ _ p q _ (Hp.out.below HB1.out.bel) (Hq.out.below HB1.out.bel)).mono ?_
    rw [HY.out]
    rintro e w2 ⟨rY, rfl, hrY, hb2⟩
    have HB2 := Lib.hid (HB1.out.below hb2)
    have RY := Lib.hid (rules_true hrY)
    obtain ⟨aY, cY, rfl, _⟩ := Sl.form hrY
    have HC := Lib.hid (Bx.one (w := w2) (o := .cells #[.slice aY Y.rules.length cY, .int .i64 Y.dflt] 37))
    have HB3 := Lib.hid (HB2.out.below HC.out.bel)
    have RY3 := Lib.hid (RY.out.below HC.out.bel)
    have hqc := HC.out.cells0
    clear hrY hb2 hq0 hq1
    by_cases hy : ye = 0
    · subst hy
      by_cases h6 : l.length = 6
      · have HE : Hid (tightE l p q = ([], 2)) := by show tightE l p q = _; rw [HT.out, if_neg (by rw [H0.out]; simp), if_neg (by simp), if_pos h6]
        have HBf := Lib.hid HB3.out.bel
        have h6' : ((l.length : Int) == 6) = true := beq_iff_eq.2 (by omega)
        go_wp2
        go_ret2
        rw [HE.out]
        exact ⟨_, rfl, nil_chain _ _, HBf.out⟩
      · have h6' : ((l.length : Int) == 6) = false := by simpa using (show ¬ (l.length : Int) = 6 by omega)
        go_wp2_with fail
        refine (rfilter_any _ Y _ _ RY3.out).mono ?_
        rw [HF.out]
        rintro e w4 ⟨vF, rfl, hrF, hb4⟩
        have HB4 := Lib.hid (HB3.out.below hb4)
        have RF := Lib.hid hrF
        obtain ⟨aF, cF, rfl, _⟩ := Sl.form hrF
        clear hrF hb4 hqc
        by_cases hf : fe = 0
        · subst hf
          have HE : Hid (tightE l p q = (l ++ [F], 0)) := by show tightE l p q = _; rw [HT.out, if_neg (by rw [H0.out]; simp), if_neg (by simp), if_neg h6, if_neg (by simp), HFl.out rfl]
          have htop : w.heap.size + 2 ≤ w4.heap.size := HB4.out.top
          have hsz3 : w.heap.size ≤ (w2.alloc (.cells #[.slice aY Y.rules.length cY, .int .i64 Y.dflt] 37)).heap.size := HB3.out.bel.size
          obtain ⟨i0, hi, hz0, hz1, hz2⟩ := info_parts infocChain
          have Hi := Lib.hid hi
          have H4 : Hid (RdChain w4 (fun b => b < w4.heap.size) (.slice a l.length c) l) := RdChain.keep (H.out.below HB4.out.bel) (fun _ _ hl => hl) (fun _ _ _ => rfl) (Nat.le_refl _)
          have RF4 : Hid (RdCode w4 (fun b => b < w4.heap.size) (.slice aF F.length cF) F) := RF.out.keep (fun _ _ hl => hl) (fun _ _ _ => rfl) (Nat.le_refl _)
          have h4c : ∀ (b o : Nat), a = some ⟨b, o, none⟩ → True := fun _ _ _ => trivial
          obtain ⟨w5, hw5⟩ : ∃ w5, w4.alloc (.cells #[] 31) = w5 := ⟨_, rfl⟩
          have Hb5 : Hid (Below w4.heap.size w4 w5) := by show Below _ _ _; rw [← hw5]; exact bel_alloc (Below.refl _ _) _
          have Ho5 : Hid (OwnSl w5 w4.heap.size 31 1 (chainR w5 (fun b => b < w4.heap.size)) (.slice (some ⟨w4.heap.size, 0, none⟩) 0 0) []) := own_empty (by rw [← hw5]; exact heap_last _ _) (Nat.le_refl _)
          have H5 := Lib.hid (H4.out.below Hb5.out)
          have RF5 : Hid (RdCode w5 (fun b => b < w4.heap.size) (.slice aF F.length cF) F) := RF4.out.below Hb5.out
          have hsz5 : w5.heap.size = w4.heap.size + 1 := by rw [← hw5]; simp
          clear hi h4c
          have hq4 := HB4.out.bel.size
          go_wp2_with (at_builtin; first
            | (refine wpList_app2 rfl _ _ 22 rfl w4.heap.size 31 i0 _ 1 24 Tryz.underlying22 Hi.out hz0 hz1 hz2 rfl (by decide) _ _ rfl Ho7.out _ _ rfl HN7.out (fun y _ cs h => chainR_one y cs h) (by show _ + 1 ≤ maxLen; unfold maxLen; omega) (by show (_ + 1) * 24 ≤ _; omega) (by simp; omega) ?_; intro v8 w8 hown8 hg8 hat8; have Hown8 := Lib.hid hown8; have Hg8 := Lib.hid hg8; clear hown8 hg8 hat8)
            | (refine wpList_app2 rfl _ _ 22 rfl w4.heap.size 31 i0 _ 1 24 Tryz.underlying22 Hi.out hz0 hz1 hz2 rfl (by decide) _ _ rfl Ho5.out _ _ rfl H5.out (fun y _ cs h => chainR_one y cs h) (by show 0 + _ ≤ maxLen; unfold maxLen; omega) (by show (0 + _) * 24 ≤ _; omega) (by omega) ?_; intro v6 w6 hown6 hg6 hat6; rw [List.nil_append] at hown6; have Hg6 := Lib.hid hg6; have hsame : ∀ b, b < w4.heap.size → w6.heap[b]? = w5.heap[b]? := (fun b hb => Hg6.out.block b (by omega) (fun e => by have e2 : some b = some w4.heap.size := e; injection e2 with e2; omega)); have hs6 : w5.heap.size ≤ w6.heap.size := Hg6.out.size; have Ho6 : Hid (OwnSl w6 w4.heap.size 31 1 (chainR w6 (fun b => b < w4.heap.size)) v6 l) := (hown6.monoR fun _ _ _ ⟨u, e1, e2⟩ => ⟨u, e1, e2.keep (fun _ h _ => h) (fun b hb _ => hsame b hb) hs6⟩); have RF6 : Hid (RdCode w6 (fun b => b < w4.heap.size) (.slice aF F.length cF) F) := RF5.out.keep (fun _ h _ => h) (fun b hb _ => hsame b hb) hs6; have Hb6 : Hid (Below w4.heap.size w4 w6) := Below.grown Hb5.out Hg6.out (by omega) (fun g hg => by have e2 : some w4.heap.size = some g := hg; injection e2 with e2; omega); have Hb7 := Lib.hid (bel_alloc (Below.refl w6.heap.size w6) (.cells #[.slice aF F.length cF] 31)); have Ho7 : Hid (OwnSl (w6.alloc (.cells #[.slice aF F.length cF] 31)) w4.heap.size 31 1 (chainR (w6.alloc (.cells #[.slice aF F.length cF] 31)) (fun b => b < w4.heap.size)) v6 l) := ((Ho6.out.below Hb7.out).monoR fun _ _ _ ⟨u, e1, e2⟩ => ⟨u, e1, e2.below Hb7.out⟩); have HN7 := Lib.hid (one_code (T := 31) (heap_last w6 (.cells #[.slice aF F.length cF] 31)) (RF6.out.below Hb7.out)); clear hown6 hg6 hat6 hsame; obtain ⟨a6, c6, rfl⟩ := Ho6.out.slice))
          go_ret2
          rw [HE.out]
          have hblk := Ho7.out.block
          have hb8 : Below w4.heap.size w4 w8 := Below.grown (Hb6.out.trans (Hb7.out.mono (by omega))) Hg8.out (by simp; omega) (fun g hg => hblk g hg)
          refine ⟨v8, rfl, ?_, HB4.out.bel.trans (hb8.mono hq4)⟩
          exact (Hown8.out.monoR (R' := chainR w8 (fun _ => True)) fun _ _ _ ⟨u, h1, h2⟩ => ⟨u, h1, h2.keep (fun _ _ _ => trivial) (fun b hb hl => Hg8.out.block b hl (fun e => by have h9 : b < w4.heap.size := hb; have := hblk b e.symm; omega)) Hg8.out.size⟩).sl (fun _ _ => trivial)
        · have HE : Hid (tightE l p q = ([], fe)) := by show tightE l p q = _; rw [HT.out, if_neg (by rw [H0.out]; simp), if_neg (by simp), if_neg h6, if_pos hf]
          have hb0 : (fe != 0) = true := bne_iff_ne.2 hf
          have HBf := Lib.hid HB4.out.bel
          clear hf
          go_wp2
          go_ret2
          rw [HE.out]
          exact ⟨_, rfl, nil_chain _ _, HBf.out⟩
    · have HE : Hid (tightE l p q = ([], ye)) := by show tightE l p q = _; rw [HT.out, if_neg (by rw [H0.out]; simp), if_pos hy]
      have hb0 : (ye != 0) = true := bne_iff_ne.2 hy
      have HBf := Lib.hid HB3.out.bel
      clear hy
      go_wp2
      go_ret2
      rw [HE.out]
      exact ⟨_, rfl, nil_chain _ _, HBf.out⟩
  · have HE : Hid (tightE l p q = ([], chainE l)) := by show tightE l p q = _; rw [HT.out, if_pos h0]
    have hb0 : (chainE l != 0) = true := bne_iff_ne.2 h0
    have HBf := Lib.hid HB1.out.bel
    clear h0
    go_wp2
    go_ret2
    rw [HE.out]
    exact ⟨_, rfl, nil_chain _ _, HBf.out⟩
end Go.Proofs.YtkiipnbjckdlbaaGreatDoor
namespace Go.Proofs.YtkiipnbjckdlbaaGreatDoor
open Go.RowKit
attribute [local go_sem] gives givesUpon

theorem box2_step' {w wr w1 : World} {o o' : Obj} (hb : Below (w.heap.size + 2) ((w.alloc o).alloc o') wr) (h1 : Below wr.heap.size wr w1) : Below (w.heap.size + 2) ((w.alloc o).alloc o') w1 := hb.trans (h1.mono (size_box2 hb))

set_option maxHeartbeats 4000000 in
theorem rsame_any (v u : Value) (p q : TPol) (D : Nat → Prop) (w : World) (h : RdRules w D v p.rules) (h' : RdRules w D u q.rules) :
    Calls Tryz.prog 25 #[polV v p.dflt, polV u q.dflt] w fun e w' => e = .returned (.bool (decide (p = q))) ∧ Below w.heap.size w w' := by
  obtain ⟨xs, pd⟩ := p
  obtain ⟨ys, qd⟩ := q
  dsimp only at h h' ⊢
  obtain ⟨a, c, rfl, hlc, hcm, hat⟩ := Sl.form h
  obtain ⟨a', c', rfl, hlc', hcm', hat'⟩ := Sl.form h'
  have H := Lib.hid h
  have H' := Lib.hid h'
  clear h h'
  by_cases hv : pd = qd
  · have b0 : (pd != qd) = false := bne_eq_false_iff_eq.2 hv
    have hd : decide ((⟨xs, pd⟩ : TPol) = ⟨ys, qd⟩) = decide (xs = ys) := by rw [decide_eq_decide]; simp [hv]
    rw [hd]
    clear hd hv
    by_cases hl : xs.length = ys.length
    · have b1 : ((xs.length : Int) != (ys.length : Int)) = false := bne_eq_false_iff_eq.2 (by omega)
      have hl' := Lib.hid hl
      have hl1 : xs.length ≤ ys.length := by omega
      have hl2 : ys.length ≤ xs.length := by omega
      clear hl
      go_enter Tryz.func25, Tryz.ntmps25
      go_wp2_with fail
      go_loopw [24] (fun i wr => ∃ k : Nat, k ≤ xs.length ∧ i = .int .i64 k ∧ xs.take k = ys.take k ∧ Below (w.heap.size + 2) ((w.alloc (.cells #[.slice a xs.length c, .int .i64 pd] 37)).alloc (.cells #[.slice a' ys.length c', .int .i64 qd] 37)) wr) (fun i _ => xs.length - (intOf i).toNat)
      case atStart => exact ⟨0, by omega, rfl, rfl, Below.refl _ _⟩
      case round =>
        obtain ⟨k, hk, rfl, htk, hbx⟩ := hrel
        have Ht := Lib.hid htk
        have Hbx := Lib.hid hbx
        have Hb := Lib.hid (bel_box2 hbx)
        have hsz := size_box2 hbx
        obtain ⟨hc1, hc2⟩ := box2_cells hbx
        clear htk hbx
        by_cases hlt : k < xs.length
        · obtain ⟨b, o, rfl, hDb, hb⟩ := hat (by omega)
          obtain ⟨b', o', rfl, hDb', hb'⟩ := hat' (by omega)
          have hlt' : k < ys.length := by omega
          obtain ⟨ra, rc, k0, k1, hr, hlr, hcr, _⟩ := RdRules.cells (RdRules.below H.out Hb.out) hlt
          obtain ⟨qa, qc, q0, q1, hq, hlq, hcq, _⟩ := RdRules.cells (RdRules.below H'.out Hb.out) hlt'
          have hbr : b' < wr.heap.size := by omega
          have hcc : ∀ W, Cls (wr.heap.size + 1) (wr.alloc (.cells #[.slice ra xs[k].conds.length rc, .int .i64 xs[k].verdict] 80)) W → (∀ j, W.cell? ⟨wr.heap.size, j, none⟩ = (#[.slice ra xs[k].conds.length rc, .int .i64 xs[k].verdict] : Array Value)[j]?) ∧ (∀ j, W.cell? ⟨w.heap.size + 1, j, none⟩ = (#[.slice (some ⟨b', o', none⟩) ys.length c', .int .i64 qd] : Array Value)[j]?) ∧
              W.cell? ⟨b', o' + k * 2, none⟩ = some (.slice qa ys[k].conds.length qc) ∧ W.cell? ⟨b', o' + k * 2 + 1, none⟩ = some (.int .i64 ys[k].verdict) := fun W hW => by
            have hbw := bel_box hW.2
            exact ⟨box_cells hW.2, fun j => (hbw.cell (p := ⟨w.heap.size + 1, j, none⟩) (by show w.heap.size + 1 < wr.heap.size; omega)).trans (hc2 j), (hbw.cell (p := ⟨b', o' + k * 2, none⟩) hbr).trans q0, (hbw.cell (p := ⟨b', o' + k * 2 + 1, none⟩) hbr).trans q1⟩
          have Hcc := Lib.hid hcc
          have hcall : ∀ W, Cls (wr.heap.size + 1) (wr.alloc (.cells #[.slice ra xs[k].conds.length rc, .int .i64 xs[k].verdict] 80)) W →
              Calls Tryz.prog 61 #[.slice ra xs[k].conds.length rc, .slice qa ys[k].conds.length qc] W fun e w' => e = .returned (.bool (decide (xs[k].conds = ys[k].conds))) ∧ Below W.heap.size W w' := fun W hW =>
            eqconds_any _ _ _ _ D W (RdConds.below hr (bel_box hW.2)) (RdConds.below hq (bel_box hW.2))
          have Hcall := Lib.hid hcall
          have hfin : ∀ W, Cls (wr.heap.size + 1) (wr.alloc (.cells #[.slice ra xs[k].conds.length rc, .int .i64 xs[k].verdict] 80)) W → Below wr.heap.size wr W := fun W hW => bel_box hW.2
          have Hfin := Lib.hid hfin
          clear hr hq q0 q1 hcc hcall hfin hc1 hc2
          by_cases hvv : xs[k].verdict = ys[k].verdict
          · have d0 : (xs[k].verdict != ys[k].verdict) = false := bne_eq_false_iff_eq.2 hvv
            have Hvv := Lib.hid hvv
            clear hvv
            go_wp2_with fail
            refine wp_region_exact3 (wr.heap.size + 1) (by simp) (by kernel_rfl) (by kernel_rfl) ?_
            repeat (refine monoE_step (fun K hK => ?_); apply Exists.intro; refine ⟨fun W hC R hR => ?_, ?_⟩; (first
              | (have hcell := Hcc.out W hC; go_simp; exact hR _ _ (Below.refl _ _) rfl)
              | (go_simp; go_at_call 61; refine (Hcall.out W hC).mono ?_; rintro e w1 ⟨rfl, hb1⟩; exact ⟨_, rfl, hR _ _ hb1 rfl⟩)); (go_simp; refine hK _ ?_; clear hK K))
            intro w2 hC2
            by_cases he : xs[k].conds = ys[k].conds
            · have Hn : Hid (xs.take (k + 1) = ys.take (k + 1)) := take_eq_step' hlt hlt' Ht.out (by
                have h1 := Hvv.out
                have h2 := he
                revert h1 h2
                generalize xs[k] = r; generalize ys[k] = s
                cases r; cases s
                rintro h1 h2
                dsimp only at h1 h2
                subst h1 h2; rfl)
              have d : decide (xs[k].conds = ys[k].conds) = true := decide_eq_true he
              clear he
              simp only [d]
              go_wp2
              go_roundw
              case rel => exact ⟨k + 1, by omega, by go_num, Hn.out, box2_step' Hbx.out (Hfin.out _ hC2)⟩
              case measure => simp [intOf]; omega
            · have Hn := Lib.hid (ne_of_get' hlt hlt' (fun e => he (by rw [e])))
              have d : decide (xs[k].conds = ys[k].conds) = false := decide_eq_false he
              clear he
              simp only [d]
              go_wp2
              go_ret
              exact ⟨ret_bool (decide_eq_false Hn.out).symm, bel_call Hb.out (Hfin.out _ hC2)⟩
          · have d0 : (xs[k].verdict != ys[k].verdict) = true := bne_iff_ne.2 hvv
            have Hn := Lib.hid (ne_of_get' hlt hlt' (fun e => hvv (by rw [e])))
            clear hvv
            go_wp2_with fail
            refine wp_region_exact3 (wr.heap.size + 1) (by simp) (by kernel_rfl) (by kernel_rfl) ?_
            repeat (refine monoE_step (fun K hK => ?_); apply Exists.intro; refine ⟨fun W hC R hR => ?_, ?_⟩; (have hcell := Hcc.out W hC; go_simp; exact hR _ _ (Below.refl _ _) rfl); (go_simp; refine hK _ ?_; clear hK K))
            intro w2 hC2
            go_wp2
            go_ret
            exact ⟨ret_bool (decide_eq_false Hn.out).symm, bel_call Hb.out (Hfin.out _ hC2)⟩
        · obtain rfl : k = xs.length := by omega
          have Hn : Hid (xs = ys) := by
            have := Ht.out
            rw [List.take_length, hl'.out, List.take_length] at this
            exact this
          go_wp2
          go_ret
          exact ⟨ret_bool (decide_eq_true Hn.out).symm, Hb.out⟩
    · have b1 : ((xs.length : Int) != (ys.length : Int)) = true := bne_iff_ne.2 (by omega)
      have hn : decide (xs = ys) = false := decide_eq_false fun e => hl (by rw [e])
      rw [hn]
      clear hn hl
      go_enter Tryz.func25, Tryz.ntmps25
      go_wp2
      go_ret
      exact ⟨rfl, bel_alloc (bel_alloc (Below.refl _ _) _) _⟩
  · have b0 : (pd != qd) = true := bne_iff_ne.2 hv
    have hd : decide ((⟨xs, pd⟩ : TPol) = ⟨ys, qd⟩) = false := decide_eq_false fun e => hv (by injection e)
    rw [hd]
    clear hd hv
    go_enter Tryz.func25, Tryz.ntmps25
    go_wp2
    go_ret
    exact ⟨rfl, bel_alloc (bel_alloc (Below.refl _ _) _) _⟩
end Go.Proofs.YtkiipnbjckdlbaaGreatDoor
