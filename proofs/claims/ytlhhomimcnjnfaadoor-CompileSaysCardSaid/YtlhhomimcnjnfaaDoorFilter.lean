/- Walk: the reference's Filter. No condition. -/
import Derived.Test.YtlhhomimcnjnfaaDoorApp2
import Derived.Test.YtlhhomimcnjnfaaDoorCompile
import Derived.Test.YtlhhomimcnjnfaaDoorRPolCheck
import Derived.Test.YtlhhomimcnjnfaaDoorBx
namespace Go.Proofs.YtlhhomimcnjnfaaDoor
open Go.RowKit

/-- a rule's instructions but for its Return. -/
def condHead : List TCond → List TIns
  | [] => []
  | c :: r => ⟨1, c.f, 0, 0⟩ :: jumpIns c (2 * r.length + 1) :: condHead r
theorem condHead_ins : ∀ (cs : List TCond) (v : Int), condIns cs v = condHead cs ++ [⟨4, v, 0, 0⟩]
  | [], _ => rfl
  | c :: r, v => by simp only [condIns, condHead, List.cons_append, condHead_ins r v]
theorem condHead_len : ∀ (cs : List TCond), (condHead cs).length = 2 * cs.length
  | [] => rfl
  | c :: r => by simp only [condHead, List.length_cons, condHead_len r]; omega
theorem condHead_take : ∀ (cs : List TCond) (k : Nat) (h : k < cs.length), (condHead cs).take (2 * (k + 1)) = (condHead cs).take (2 * k) ++ [⟨1, cs[k].f, 0, 0⟩, jumpIns cs[k] (2 * (cs.length : Int) + 1 - 2 * k - 2)]
  | c :: r, 0, _ => by
    simp only [condHead, List.take_succ_cons, List.take_zero, Nat.mul_zero, List.nil_append, Nat.zero_add, Nat.mul_one, List.getElem_cons_zero, List.length_cons]
    congr 3
    omega
  | c :: r, k + 1, h => by
    have ih := condHead_take r k (by simpa using h)
    have e1 : 2 * (k + 1 + 1) = 2 * (k + 1) + 1 + 1 := by omega
    have e2 : 2 * (k + 1) = 2 * k + 1 + 1 := by omega
    have e3 : (2 * ((c :: r).length : Int) + 1 - 2 * ((k + 1 : Nat) : Int) - 2) = 2 * (r.length : Int) + 1 - 2 * (k : Int) - 2 := by simp; omega
    rw [e3, e1]
    simp only [condHead, List.take_succ_cons, List.getElem_cons_succ]
    rw [ih]
    conv => rhs; rw [e2]
    simp only [List.take_succ_cons, List.cons_append]

set_option maxRecDepth 100000 in
set_option maxHeartbeats 8000000 in
theorem rfilter_any (v : Value) (p : TPol) (D : Nat → Prop) (w : World) (h : RdRules w D v p.rules) :
    Calls Tryd.prog 23 #[polV v p.dflt] w fun e w' => ∃ l, e = .returned (.tuple #[l, .int .i64 (filterE p).2]) ∧ RdCode w' (fun b => w.heap.size ≤ b) l (filterE p).1 ∧ Below w.heap.size w w' := by
  have H := Lib.hid h
  obtain ⟨a, c, rfl, hlc, hcm, hat⟩ := Sl.form h
  clear h
  by_cases hp : polE p = 0
  · have hok := (okPol_iff p).1 hp
    have Hlen : Hid (∀ k, k ≤ p.rules.length → (rulesIns (p.rules.take k)).length ≤ 21 * 120) := fun k hk => by
      have h1 := rulesIns_take_len (fun r hr => (hok.rules r hr).len) k hk
      have h2 := hok.len
      omega
    have HF : Hid (filterE p = if 1500 < (filterL p).length then ([], 2) else (filterL p, 0)) := by show filterE p = _; unfold filterE; rw [if_neg (by omega)]
    have hn := hok.len
    have Hok := Lib.hid hok
    have Hp := Lib.hid hp
    obtain ⟨i0, hi, hz0, hz1, hz2⟩ := info_parts infoIns
    have Hi := Lib.hid hi
    clear hok hp hi
    go_enter Tryd.func23, Tryd.ntmps23
    go_wp2_with fail
    refine (rpolcheck_any _ p D _ (RdRules.below H.out (bel_alloc (Below.refl _ _) _))).mono ?_
    rw [Hp.out]
    rintro e w1 ⟨rfl, hb1⟩
    have hb1' : Below (w.heap.size + 1) _ w1 := hb1.mono (by simp)
    have hc1 := box_cells hb1'
    have Hb1 := Lib.hid hb1'
    clear hb1 hb1'
    go_wp2_with fail
    go_loopw [5, 21] (fun ov kv wr => ∃ (k : Nat) (vs : Value), kv = .int .i64 k ∧ vs = ov ∧ k ≤ p.rules.length ∧ OwnSl wr (w.heap.size + 1) 50 4 insR vs (rulesIns (p.rules.take k)) ∧ Below (w.heap.size + 1) (w.alloc (.cells #[.slice a p.rules.length c, .int .i64 p.dflt] 24)) wr) (fun _ kv _ => p.rules.length - (intOf kv).toNat)
    case atStart => exact ⟨0, _, rfl, rfl, by omega, OwnSl.nil, Hb1.out⟩
    case round =>
      obtain ⟨k, vs, rfl, rfl, hk, hown, hb⟩ := hrel
      have hbc := box_cells hb
      have hbw := bel_box hb
      have hsz := size_box hb
      have Hown := Lib.hid hown
      have Hb := Lib.hid hb
      have Hbw := Lib.hid hbw
      clear hc1 hown hb hbw
      by_cases hlt : k < p.rules.length
      · obtain ⟨b, o, rfl, hDb, hblt⟩ := hat (by omega)
        obtain ⟨ca, cc, hc0w, hc1w, hrd, hcl, hcmx, hcat⟩ := RdRules.cells H.out hlt
        obtain ⟨r, hr⟩ : ∃ r, p.rules[k] = r := ⟨_, rfl⟩
        have Hkr := Lib.hid (Hok.out.rules p.rules[k] (List.getElem_mem hlt))
        rw [hr] at hc0w hc1w hrd hcl hcat Hkr
        have Hrd := Lib.hid hrd
        have hc0 := (Hbw.out.cell (p := ⟨b, o + k * 2, none⟩) hblt).trans hc0w
        have hc1 := (Hbw.out.cell (p := ⟨b, o + k * 2 + 1, none⟩) hblt).trans hc1w
        have hl10 := Hkr.out.len
        have Hl := Lib.hid (Hlen.out (k + 1) (by omega))
        have Hs : Hid (rulesIns (p.rules.take (k + 1)) = rulesIns (p.rules.take k) ++ (condHead r.conds ++ [⟨4, r.verdict, 0, 0⟩])) := by show rulesIns _ = _; rw [rulesIns_take hlt, hr, condHead_ins]
        have Hll : Hid ((rulesIns (p.rules.take k)).length + (2 * r.conds.length + 1) ≤ 21 * 120) := by have := Hl.out; rw [Hs.out] at this; simp only [List.length_append, condHead_len, List.length_singleton] at this; exact this
        obtain ⟨wo, rfl⟩ : ∃ wo : World, wo = wr := ⟨_, rfl⟩
        have hob : vs.ownBlock ≠ some wo.heap.size := fun e => by obtain ⟨rows, _, hrw⟩ := Hown.out; have := (hrw.lt _ e).2; omega
        have Hob := Lib.hid hob
        clear hrd hr hob hc0w hc1w
        go_wp2_with fail
        clear hc0 hc1 hbc
        go_loopw [5, 33] (fun ov iv wi => ∃ (j : Nat) (vi : Value), iv = .int .i64 j ∧ vi = ov ∧ j ≤ r.conds.length ∧ OwnSl wi (w.heap.size + 1) 50 4 insR vi (rulesIns (p.rules.take k) ++ (condHead r.conds).take (2 * j)) ∧ Below (w.heap.size + 1) (w.alloc (.cells #[.slice (some ⟨b, o, none⟩) p.rules.length c, .int .i64 p.dflt] 24)) wi ∧
          wi.heap[wo.heap.size]? = some (.cells #[.slice ca r.conds.length cc, .int .i64 r.verdict] 41) ∧ vi.ownBlock ≠ some wo.heap.size ∧ wo.heap.size < wi.heap.size) (fun _ iv _ => r.conds.length - (intOf iv).toNat)
        case atStart => exact ⟨0, vs, rfl, rfl, by omega, by simpa using Hown.out.below (bel_alloc (Below.refl _ _) _), Hb.out.trans ((bel_alloc (Below.refl _ wo) _).mono hsz), heap_last _ _, Hob.out, by simp⟩
        case round =>
          obtain ⟨j, vi, rfl, rfl, hj, howni, hbi, hbox, hnob, hszi⟩ := hrel
          have Howni := Lib.hid howni
          have Hbi := Lib.hid hbi
          have Hbox := Lib.hid hbox
          have Hnob := Lib.hid hnob
          have hbwi := bel_box hbi
          have Hbwi := Lib.hid hbwi
          clear howni hbi hbox hnob hbwi
          by_cases hjl : j < r.conds.length
          · obtain ⟨b2, o2, rfl, hDb2, hblt2⟩ := hcat (by omega)
            obtain ⟨hd0, hd1, hd2⟩ := RdConds.cells (Hrd.out.below Hbwi.out) hjl
            have Hoc := Lib.hid (Hkr.out.conds r.conds[j] (List.getElem_mem hjl))
            have HT := Lib.hid (condHead_take r.conds j hjl)
            have Hll2 : Hid ((rulesIns (p.rules.take k) ++ (condHead r.conds).take (2 * j)).length ≤ 21 * 120) := by
              show _ ≤ _
              have := Hll.out
              rw [List.length_append, List.length_take]; omega
            obtain ⟨⟨cf, cop, cv⟩, hcj⟩ : ∃ y : TCond, r.conds[j] = y := ⟨_, rfl⟩
            rw [hcj] at hd0 hd1 hd2 HT Hoc
            obtain ⟨left, hleft⟩ : ∃ left : Int, 2 * (r.conds.length : Int) + 1 - 2 * (j : Int) - 2 = left := ⟨_, rfl⟩
            rw [hleft] at HT
            have ho0 : 1 ≤ cop := Hoc.out.o0
            have ho1 : cop ≤ 4 := Hoc.out.o1
            dsimp only at hd0 hd1 hd2
            clear hcj
            rcases (by omega : cop = 1 ∨ cop = 2 ∨ cop = 3 ∨ cop = 4) with rfl | rfl | rfl | rfl
            · have HT2 : Hid ((condHead r.conds).take (2 * (j + 1)) = (condHead r.conds).take (2 * j) ++ [⟨1, cf, 0, 0⟩, ⟨2, cv, 0, left⟩]) := by show _ = _; rw [HT.out]; rfl
              have Hnew : Hid (RdCode (((wr.alloc (.cells #[.int .i64 cf, .int .i64 1, .int .i64 cv] 86)).alloc (.cells #[.int .i64 2, .int .i64 cv, .int .i64 0, .int .i64 left] 50)).alloc (.cells #[.int .i64 1, .int .i64 cf, .int .i64 0, .int .i64 0, .int .i64 2, .int .i64 cv, .int .i64 0, .int .i64 left] 50)) (fun _ => True) (.slice (some ⟨wr.heap.size + 1 + 1, 0, none⟩) 2 2) [⟨1, cf, 0, 0⟩, ⟨2, cv, 0, left⟩]) :=
                sl_block (R := insR) (sz := 4) (xs := [(⟨1, cf, 0, 0⟩ : TIns), ⟨2, cv, 0, left⟩]) (rows := [[.int .i64 1, .int .i64 cf, .int .i64 0, .int .i64 0], [.int .i64 2, .int .i64 cv, .int .i64 0, .int .i64 left]]) (RowsOf.cons (RowsOf.cons RowsOf.nil rfl rfl) rfl rfl) (blk_at (by simp)) rfl trivial (by simp [maxLen])
              have Hown3 := Lib.hid (Howni.out.below (bel_alloc (bel_alloc (bel_alloc (Below.refl _ wr) (.cells #[.int .i64 cf, .int .i64 1, .int .i64 cv] 86)) (.cells #[.int .i64 2, .int .i64 cv, .int .i64 0, .int .i64 left] 50)) (.cells #[.int .i64 1, .int .i64 cf, .int .i64 0, .int .i64 0, .int .i64 2, .int .i64 cv, .int .i64 0, .int .i64 left] 50)))
              have Hbox3 := Lib.hid (blk_old (o := (.cells #[.int .i64 1, .int .i64 cf, .int .i64 0, .int .i64 0, .int .i64 2, .int .i64 cv, .int .i64 0, .int .i64 left] 50)) (blk_old (o := (.cells #[.int .i64 2, .int .i64 cv, .int .i64 0, .int .i64 left] 50)) (blk_old (o := (.cells #[.int .i64 cf, .int .i64 1, .int .i64 cv] 86)) Hbox.out)))
              have Hbi3 := Lib.hid (Hbi.out.trans ((bel_alloc (bel_alloc (bel_alloc (Below.refl _ wr) (.cells #[.int .i64 cf, .int .i64 1, .int .i64 cv] 86)) (.cells #[.int .i64 2, .int .i64 cv, .int .i64 0, .int .i64 left] 50)) (.cells #[.int .i64 1, .int .i64 cf, .int .i64 0, .int .i64 0, .int .i64 2, .int .i64 cv, .int .i64 0, .int .i64 left] 50)).mono (by omega)))
              go_wp2_with (at_builtin; refine wpList_app2 rfl _ _ 45 rfl (w.heap.size + 1) 50 i0 _ 4 32 Tryd.underlying45 Hi.out hz0 hz1 hz2 rfl (by decide) _ _ rfl Hown3.out _ _ rfl Hnew.out (fun y _ cs h => oneIns' y cs h) (by have := Hll2.out; show _ + 2 ≤ maxLen; unfold maxLen; omega) (by have := Hll2.out; show (_ + 2) * 32 ≤ _; omega) (by simp; omega) ?_; intro v' w3 hown' hg hat'; have Hown' := Lib.hid hown'; have Hb3 := Lib.hid (Hown3.out.grown Hbi3.out hg (by simp; omega) (Nat.le_refl _)); have Hx3 := Lib.hid ((hg.block wo.heap.size (by simp; omega) (fun e => Hnob.out e.symm)).trans Hbox3.out); have Hn3 : Hid (v'.ownBlock ≠ some wo.heap.size) := (fun e => hat'.elim (fun e' => Hnob.out (e'.symm.trans e)) (fun e' => by have := e'.symm.trans e; simp at this; omega)); have hs3 : wo.heap.size < w3.heap.size := (by have := hg.size; simp at this; omega); clear hown' hg hat')
              go_roundw
              case rel => exact ⟨j + 1, v', by go_num, rfl, by omega, by rw [HT2.out, ← List.append_assoc]; exact Hown'.out, Hb3.out, Hx3.out, Hn3.out, hs3⟩
              case measure => simp [intOf]; omega
            · have HT2 : Hid ((condHead r.conds).take (2 * (j + 1)) = (condHead r.conds).take (2 * j) ++ [⟨1, cf, 0, 0⟩, ⟨2, cv, left, 0⟩]) := by show _ = _; rw [HT.out]; rfl
              have Hnew : Hid (RdCode (((wr.alloc (.cells #[.int .i64 cf, .int .i64 2, .int .i64 cv] 86)).alloc (.cells #[.int .i64 2, .int .i64 cv, .int .i64 left, .int .i64 0] 50)).alloc (.cells #[.int .i64 1, .int .i64 cf, .int .i64 0, .int .i64 0, .int .i64 2, .int .i64 cv, .int .i64 left, .int .i64 0] 50)) (fun _ => True) (.slice (some ⟨wr.heap.size + 1 + 1, 0, none⟩) 2 2) [⟨1, cf, 0, 0⟩, ⟨2, cv, left, 0⟩]) :=
                sl_block (R := insR) (sz := 4) (xs := [(⟨1, cf, 0, 0⟩ : TIns), ⟨2, cv, left, 0⟩]) (rows := [[.int .i64 1, .int .i64 cf, .int .i64 0, .int .i64 0], [.int .i64 2, .int .i64 cv, .int .i64 left, .int .i64 0]]) (RowsOf.cons (RowsOf.cons RowsOf.nil rfl rfl) rfl rfl) (blk_at (by simp)) rfl trivial (by simp [maxLen])
              have Hown3 := Lib.hid (Howni.out.below (bel_alloc (bel_alloc (bel_alloc (Below.refl _ wr) (.cells #[.int .i64 cf, .int .i64 2, .int .i64 cv] 86)) (.cells #[.int .i64 2, .int .i64 cv, .int .i64 left, .int .i64 0] 50)) (.cells #[.int .i64 1, .int .i64 cf, .int .i64 0, .int .i64 0, .int .i64 2, .int .i64 cv, .int .i64 left, .int .i64 0] 50)))
              have Hbox3 := Lib.hid (blk_old (o := (.cells #[.int .i64 1, .int .i64 cf, .int .i64 0, .int .i64 0, .int .i64 2, .int .i64 cv, .int .i64 left, .int .i64 0] 50)) (blk_old (o := (.cells #[.int .i64 2, .int .i64 cv, .int .i64 left, .int .i64 0] 50)) (blk_old (o := (.cells #[.int .i64 cf, .int .i64 2, .int .i64 cv] 86)) Hbox.out)))
              have Hbi3 := Lib.hid (Hbi.out.trans ((bel_alloc (bel_alloc (bel_alloc (Below.refl _ wr) (.cells #[.int .i64 cf, .int .i64 2, .int .i64 cv] 86)) (.cells #[.int .i64 2, .int .i64 cv, .int .i64 left, .int .i64 0] 50)) (.cells #[.int .i64 1, .int .i64 cf, .int .i64 0, .int .i64 0, .int .i64 2, .int .i64 cv, .int .i64 left, .int .i64 0] 50)).mono (by omega)))
              go_wp2_with (at_builtin; refine wpList_app2 rfl _ _ 45 rfl (w.heap.size + 1) 50 i0 _ 4 32 Tryd.underlying45 Hi.out hz0 hz1 hz2 rfl (by decide) _ _ rfl Hown3.out _ _ rfl Hnew.out (fun y _ cs h => oneIns' y cs h) (by have := Hll2.out; show _ + 2 ≤ maxLen; unfold maxLen; omega) (by have := Hll2.out; show (_ + 2) * 32 ≤ _; omega) (by simp; omega) ?_; intro v' w3 hown' hg hat'; have Hown' := Lib.hid hown'; have Hb3 := Lib.hid (Hown3.out.grown Hbi3.out hg (by simp; omega) (Nat.le_refl _)); have Hx3 := Lib.hid ((hg.block wo.heap.size (by simp; omega) (fun e => Hnob.out e.symm)).trans Hbox3.out); have Hn3 : Hid (v'.ownBlock ≠ some wo.heap.size) := (fun e => hat'.elim (fun e' => Hnob.out (e'.symm.trans e)) (fun e' => by have := e'.symm.trans e; simp at this; omega)); have hs3 : wo.heap.size < w3.heap.size := (by have := hg.size; simp at this; omega); clear hown' hg hat')
              go_roundw
              case rel => exact ⟨j + 1, v', by go_num, rfl, by omega, by rw [HT2.out, ← List.append_assoc]; exact Hown'.out, Hb3.out, Hx3.out, Hn3.out, hs3⟩
              case measure => simp [intOf]; omega
            · have HT2 : Hid ((condHead r.conds).take (2 * (j + 1)) = (condHead r.conds).take (2 * j) ++ [⟨1, cf, 0, 0⟩, ⟨3, cv, 0, left⟩]) := by show _ = _; rw [HT.out]; rfl
              have Hnew : Hid (RdCode (((wr.alloc (.cells #[.int .i64 cf, .int .i64 3, .int .i64 cv] 86)).alloc (.cells #[.int .i64 3, .int .i64 cv, .int .i64 0, .int .i64 left] 50)).alloc (.cells #[.int .i64 1, .int .i64 cf, .int .i64 0, .int .i64 0, .int .i64 3, .int .i64 cv, .int .i64 0, .int .i64 left] 50)) (fun _ => True) (.slice (some ⟨wr.heap.size + 1 + 1, 0, none⟩) 2 2) [⟨1, cf, 0, 0⟩, ⟨3, cv, 0, left⟩]) :=
                sl_block (R := insR) (sz := 4) (xs := [(⟨1, cf, 0, 0⟩ : TIns), ⟨3, cv, 0, left⟩]) (rows := [[.int .i64 1, .int .i64 cf, .int .i64 0, .int .i64 0], [.int .i64 3, .int .i64 cv, .int .i64 0, .int .i64 left]]) (RowsOf.cons (RowsOf.cons RowsOf.nil rfl rfl) rfl rfl) (blk_at (by simp)) rfl trivial (by simp [maxLen])
              have Hown3 := Lib.hid (Howni.out.below (bel_alloc (bel_alloc (bel_alloc (Below.refl _ wr) (.cells #[.int .i64 cf, .int .i64 3, .int .i64 cv] 86)) (.cells #[.int .i64 3, .int .i64 cv, .int .i64 0, .int .i64 left] 50)) (.cells #[.int .i64 1, .int .i64 cf, .int .i64 0, .int .i64 0, .int .i64 3, .int .i64 cv, .int .i64 0, .int .i64 left] 50)))
              have Hbox3 := Lib.hid (blk_old (o := (.cells #[.int .i64 1, .int .i64 cf, .int .i64 0, .int .i64 0, .int .i64 3, .int .i64 cv, .int .i64 0, .int .i64 left] 50)) (blk_old (o := (.cells #[.int .i64 3, .int .i64 cv, .int .i64 0, .int .i64 left] 50)) (blk_old (o := (.cells #[.int .i64 cf, .int .i64 3, .int .i64 cv] 86)) Hbox.out)))
              have Hbi3 := Lib.hid (Hbi.out.trans ((bel_alloc (bel_alloc (bel_alloc (Below.refl _ wr) (.cells #[.int .i64 cf, .int .i64 3, .int .i64 cv] 86)) (.cells #[.int .i64 3, .int .i64 cv, .int .i64 0, .int .i64 left] 50)) (.cells #[.int .i64 1, .int .i64 cf, .int .i64 0, .int .i64 0, .int .i64 3, .int .i64 cv, .int .i64 0, .int .i64 left] 50)).mono (by omega)))
              go_wp2_with (at_builtin; refine wpList_app2 rfl _ _ 45 rfl (w.heap.size + 1) 50 i0 _ 4 32 Tryd.underlying45 Hi.out hz0 hz1 hz2 rfl (by decide) _ _ rfl Hown3.out _ _ rfl Hnew.out (fun y _ cs h => oneIns' y cs h) (by have := Hll2.out; show _ + 2 ≤ maxLen; unfold maxLen; omega) (by have := Hll2.out; show (_ + 2) * 32 ≤ _; omega) (by simp; omega) ?_; intro v' w3 hown' hg hat'; have Hown' := Lib.hid hown'; have Hb3 := Lib.hid (Hown3.out.grown Hbi3.out hg (by simp; omega) (Nat.le_refl _)); have Hx3 := Lib.hid ((hg.block wo.heap.size (by simp; omega) (fun e => Hnob.out e.symm)).trans Hbox3.out); have Hn3 : Hid (v'.ownBlock ≠ some wo.heap.size) := (fun e => hat'.elim (fun e' => Hnob.out (e'.symm.trans e)) (fun e' => by have := e'.symm.trans e; simp at this; omega)); have hs3 : wo.heap.size < w3.heap.size := (by have := hg.size; simp at this; omega); clear hown' hg hat')
              go_roundw
              case rel => exact ⟨j + 1, v', by go_num, rfl, by omega, by rw [HT2.out, ← List.append_assoc]; exact Hown'.out, Hb3.out, Hx3.out, Hn3.out, hs3⟩
              case measure => simp [intOf]; omega
            · have HT2 : Hid ((condHead r.conds).take (2 * (j + 1)) = (condHead r.conds).take (2 * j) ++ [⟨1, cf, 0, 0⟩, ⟨3, cv, left, 0⟩]) := by show _ = _; rw [HT.out]; rfl
              have Hnew : Hid (RdCode (((wr.alloc (.cells #[.int .i64 cf, .int .i64 4, .int .i64 cv] 86)).alloc (.cells #[.int .i64 3, .int .i64 cv, .int .i64 left, .int .i64 0] 50)).alloc (.cells #[.int .i64 1, .int .i64 cf, .int .i64 0, .int .i64 0, .int .i64 3, .int .i64 cv, .int .i64 left, .int .i64 0] 50)) (fun _ => True) (.slice (some ⟨wr.heap.size + 1 + 1, 0, none⟩) 2 2) [⟨1, cf, 0, 0⟩, ⟨3, cv, left, 0⟩]) :=
                sl_block (R := insR) (sz := 4) (xs := [(⟨1, cf, 0, 0⟩ : TIns), ⟨3, cv, left, 0⟩]) (rows := [[.int .i64 1, .int .i64 cf, .int .i64 0, .int .i64 0], [.int .i64 3, .int .i64 cv, .int .i64 left, .int .i64 0]]) (RowsOf.cons (RowsOf.cons RowsOf.nil rfl rfl) rfl rfl) (blk_at (by simp)) rfl trivial (by simp [maxLen])
              have Hown3 := Lib.hid (Howni.out.below (bel_alloc (bel_alloc (bel_alloc (Below.refl _ wr) (.cells #[.int .i64 cf, .int .i64 4, .int .i64 cv] 86)) (.cells #[.int .i64 3, .int .i64 cv, .int .i64 left, .int .i64 0] 50)) (.cells #[.int .i64 1, .int .i64 cf, .int .i64 0, .int .i64 0, .int .i64 3, .int .i64 cv, .int .i64 left, .int .i64 0] 50)))
              have Hbox3 := Lib.hid (blk_old (o := (.cells #[.int .i64 1, .int .i64 cf, .int .i64 0, .int .i64 0, .int .i64 3, .int .i64 cv, .int .i64 left, .int .i64 0] 50)) (blk_old (o := (.cells #[.int .i64 3, .int .i64 cv, .int .i64 left, .int .i64 0] 50)) (blk_old (o := (.cells #[.int .i64 cf, .int .i64 4, .int .i64 cv] 86)) Hbox.out)))
              have Hbi3 := Lib.hid (Hbi.out.trans ((bel_alloc (bel_alloc (bel_alloc (Below.refl _ wr) (.cells #[.int .i64 cf, .int .i64 4, .int .i64 cv] 86)) (.cells #[.int .i64 3, .int .i64 cv, .int .i64 left, .int .i64 0] 50)) (.cells #[.int .i64 1, .int .i64 cf, .int .i64 0, .int .i64 0, .int .i64 3, .int .i64 cv, .int .i64 left, .int .i64 0] 50)).mono (by omega)))
              go_wp2_with (at_builtin; refine wpList_app2 rfl _ _ 45 rfl (w.heap.size + 1) 50 i0 _ 4 32 Tryd.underlying45 Hi.out hz0 hz1 hz2 rfl (by decide) _ _ rfl Hown3.out _ _ rfl Hnew.out (fun y _ cs h => oneIns' y cs h) (by have := Hll2.out; show _ + 2 ≤ maxLen; unfold maxLen; omega) (by have := Hll2.out; show (_ + 2) * 32 ≤ _; omega) (by simp; omega) ?_; intro v' w3 hown' hg hat'; have Hown' := Lib.hid hown'; have Hb3 := Lib.hid (Hown3.out.grown Hbi3.out hg (by simp; omega) (Nat.le_refl _)); have Hx3 := Lib.hid ((hg.block wo.heap.size (by simp; omega) (fun e => Hnob.out e.symm)).trans Hbox3.out); have Hn3 : Hid (v'.ownBlock ≠ some wo.heap.size) := (fun e => hat'.elim (fun e' => Hnob.out (e'.symm.trans e)) (fun e' => by have := e'.symm.trans e; simp at this; omega)); have hs3 : wo.heap.size < w3.heap.size := (by have := hg.size; simp at this; omega); clear hown' hg hat')
              go_roundw
              case rel => exact ⟨j + 1, v', by go_num, rfl, by omega, by rw [HT2.out, ← List.append_assoc]; exact Hown'.out, Hb3.out, Hx3.out, Hn3.out, hs3⟩
              case measure => simp [intOf]; omega
          · obtain rfl : j = r.conds.length := by omega
            have hcr := cells_of Hbox.out
            have hl2 : Hid ((condHead r.conds).take (2 * r.conds.length) = condHead r.conds) := by show _ = _; rw [← condHead_len, List.take_length]
            have Hlen2 : Hid ((rulesIns (p.rules.take k) ++ (condHead r.conds).take (2 * r.conds.length)).length ≤ 21 * 120) := by
              show _ ≤ _
              have := Hll.out
              rw [hl2.out, List.length_append, condHead_len]; omega
            have Hnew : Hid (RdCode (wr.alloc (.cells #[.int .i64 4, .int .i64 r.verdict, .int .i64 0, .int .i64 0] 50)) (fun _ => True) (.slice (some ⟨wr.heap.size, 0, none⟩) 1 1) [⟨4, r.verdict, 0, 0⟩]) :=
              sl_block (R := insR) (sz := 4) (xs := [(⟨4, r.verdict, 0, 0⟩ : TIns)]) (rows := [[.int .i64 4, .int .i64 r.verdict, .int .i64 0, .int .i64 0]]) (RowsOf.cons RowsOf.nil rfl rfl) (heap_last _ _) rfl trivial (by simp [maxLen])
            have Hown3 := Lib.hid (Howni.out.below (bel_alloc (Below.refl _ wr) (.cells #[.int .i64 4, .int .i64 r.verdict, .int .i64 0, .int .i64 0] 50)))
            have Hbi3 := Lib.hid (Hbi.out.trans ((bel_alloc (Below.refl _ wr) (.cells #[.int .i64 4, .int .i64 r.verdict, .int .i64 0, .int .i64 0] 50)).mono (by omega)))
            go_wp2_with (at_builtin; refine wpList_app rfl _ _ 45 rfl (w.heap.size + 1) 50 i0 _ 4 32 Tryd.underlying45 Hi.out hz0 hz1 hz2 rfl (by decide) _ _ rfl Hown3.out _ _ rfl Hnew.out (fun y _ cs h => oneIns' y cs h) (by have := Hlen2.out; show _ + 1 ≤ maxLen; unfold maxLen; omega) (by have := Hlen2.out; show (_ + 1) * 32 ≤ _; omega) (by simp; omega) ?_; intro v' w3 hown' hg; have Hown' := Lib.hid hown'; have Hb3 := Lib.hid (Hown3.out.grown Hbi3.out hg (by simp; omega) (Nat.le_refl _)); clear hown' hg)
            go_roundw
            case rel => exact ⟨k + 1, v', by go_num, rfl, by omega, by have := Hown'.out; rw [hl2.out] at this; rw [Hs.out, ← List.append_assoc]; exact this, Hb3.out⟩
            case measure => simp [intOf]; omega
      · obtain rfl : k = p.rules.length := by omega
        have Hl := Lib.hid (Hlen.out p.rules.length (Nat.le_refl _))
        have Hnew : Hid (RdCode (wr.alloc (.cells #[.int .i64 4, .int .i64 p.dflt, .int .i64 0, .int .i64 0] 50)) (fun _ => True) (.slice (some ⟨wr.heap.size, 0, none⟩) 1 1) [⟨4, p.dflt, 0, 0⟩]) :=
          sl_block (R := insR) (sz := 4) (xs := [(⟨4, p.dflt, 0, 0⟩ : TIns)]) (rows := [[.int .i64 4, .int .i64 p.dflt, .int .i64 0, .int .i64 0]]) (RowsOf.cons RowsOf.nil rfl rfl) (heap_last _ _) rfl trivial (by simp [maxLen])
        have Hown3 := Lib.hid (Hown.out.below (bel_alloc (Below.refl _ wr) (.cells #[.int .i64 4, .int .i64 p.dflt, .int .i64 0, .int .i64 0] 50)))
        go_wp2_with (at_builtin; refine wpList_app rfl _ _ 45 rfl (w.heap.size + 1) 50 i0 _ 4 32 Tryd.underlying45 Hi.out hz0 hz1 hz2 rfl (by decide) _ _ rfl Hown3.out _ _ rfl Hnew.out (fun y _ cs h => oneIns' y cs h) (by have := Hl.out; show _ + 1 ≤ maxLen; unfold maxLen; omega) (by have := Hl.out; show (_ + 1) * 32 ≤ _; omega) (by simp; omega) ?_; intro v' w3 hown' hg; rw [List.take_length] at hown'; have Hown' := Lib.hid hown'; have Hb3 := Lib.hid (Hown3.out.grown (Hb.out.trans ((bel_alloc (Below.refl _ wr) _).mono hsz)) hg (by simp; omega) (Nat.le_refl _)); clear hown' hg; have HcF : Hid (RdCode w3 (fun b => w.heap.size ≤ b) v' (filterL p)) := (Hown'.out.sl fun b h => by omega); obtain ⟨af, cf, rfl, _, _⟩ := Sl.form HcF.out; by_cases hbig : 1500 < (filterL p).length)
        · have HF2 : Hid (filterE p = ([], 2)) := by show filterE p = _; rw [HF.out, if_pos hbig]
          go_wp2
          go_ret2
          rw [HF2.out]
          exact ⟨_, rfl, rdNil _ _, bel_box Hb3.out⟩
        · have HF2 : Hid (filterE p = (filterL p, 0)) := by show filterE p = _; rw [HF.out, if_neg hbig]
          go_wp2
          go_ret2
          rw [HF2.out]
          exact ⟨_, rfl, HcF.out, bel_box Hb3.out⟩
  · have HF : Hid (filterE p = ([], polE p)) := by show filterE p = _; unfold filterE; rw [if_pos hp]
    have b0 : (polE p != 0) = true := bne_iff_ne.2 hp
    clear hp
    go_enter Tryd.func23, Tryd.ntmps23
    go_wp2_with fail
    refine (rpolcheck_any _ p D _ (RdRules.below H.out (bel_alloc (Below.refl _ _) _))).mono ?_
    rintro e w1 ⟨rfl, hb1⟩
    have hb1' : Below (w.heap.size + 1) _ w1 := hb1.mono (by simp)
    have Hb1 := Lib.hid hb1'
    clear hb1 hb1'
    go_wp2
    go_ret2
    rw [HF.out]
    exact ⟨_, rfl, rdNil _ _, bel_box Hb1.out⟩
end Go.Proofs.YtlhhomimcnjnfaaDoor
