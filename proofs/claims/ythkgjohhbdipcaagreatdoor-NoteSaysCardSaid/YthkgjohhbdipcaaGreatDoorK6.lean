/- Texts laid one behind the other: EqIns, ChainSame, PolCheck, Judge, Same, KeepSame, RefCode, RChain, Same2. No condition beyond theirs. -/
import Derived.Test.YthkgjohhbdipcaaGreatDoorK1
import Derived.Test.YthkgjohhbdipcaaGreatDoorK2
import Derived.Test.YthkgjohhbdipcaaGreatDoorProg
import Derived.Laws.StructEq
import Derived.KernelRfl
import Derived.Test.YthkgjohhbdipcaaGreatDoorK5
import Derived.Test.YthkgjohhbdipcaaGreatDoorK3
set_option linter.all false
namespace Go.Proofs.YthkgjohhbdipcaaGreatDoor
open Go.RowKit
attribute [local go_sem] gives givesUpon

theorem run_neq_ins (c d : TIns) (w : World) : (binOp .neq 141 (.agg #[.int .i64 c.k, .int .i64 c.a, .int .i64 c.b, .int .i64 c.c]) (.agg #[.int .i64 d.k, .int .i64 d.a, .int .i64 d.b, .int .i64 d.c])).run Tryz.prog w = .ok (.bool (!decide (c = d))) w := by
  obtain ⟨k, a, b, c⟩ := c
  obtain ⟨k', a', b', c'⟩ := d
  dsimp only
  have hd : decide ((⟨k, a, b, c⟩ : TIns) = ⟨k', a', b', c'⟩) = (decide (k = k') && decide (a = a') && decide (b = b') && decide (c = c')) := by
    rw [Bool.eq_iff_iff]; simp [and_assoc]
  rw [hd]
  clear hd
  by_cases h0 : k = k'
  · have b0 : (k == k') = true := beq_iff_eq.2 h0
    by_cases h1 : a = a'
    · have b1 : (a == a') = true := beq_iff_eq.2 h1
      by_cases h2 : b = b'
      · have b2 : (b == b') = true := beq_iff_eq.2 h2
        by_cases h3 : c = c'
        · have b3 : (c == c') = true := beq_iff_eq.2 h3
          rw [decide_eq_true h0, decide_eq_true h1, decide_eq_true h2, decide_eq_true h3]
          clear h0 h1 h2 h3
          go_simp
        · have b3 : (c == c') = false := beq_eq_false_iff_ne.2 h3
          rw [decide_eq_true h0, decide_eq_true h1, decide_eq_true h2, decide_eq_false h3]
          clear h0 h1 h2 h3
          go_simp
      · have b2 : (b == b') = false := beq_eq_false_iff_ne.2 h2
        rw [decide_eq_true h0, decide_eq_true h1, decide_eq_false h2]
        clear h0 h1 h2
        go_simp
    · have b1 : (a == a') = false := beq_eq_false_iff_ne.2 h1
      rw [decide_eq_true h0, decide_eq_false h1]
      clear h0 h1
      go_simp
  · have b0 : (k == k') = false := beq_eq_false_iff_ne.2 h0
    rw [decide_eq_false h0]
    clear h0
    go_simp
theorem run_eql_ins (c d : TIns) (w : World) : (binOp .eql 141 (.agg #[.int .i64 c.k, .int .i64 c.a, .int .i64 c.b, .int .i64 c.c]) (.agg #[.int .i64 d.k, .int .i64 d.a, .int .i64 d.b, .int .i64 d.c])).run Tryz.prog w = .ok (.bool (decide (c = d))) w := by
  obtain ⟨k, a, b, c⟩ := c
  obtain ⟨k', a', b', c'⟩ := d
  dsimp only
  have hd : decide ((⟨k, a, b, c⟩ : TIns) = ⟨k', a', b', c'⟩) = (decide (k = k') && decide (a = a') && decide (b = b') && decide (c = c')) := by
    rw [Bool.eq_iff_iff]; simp [and_assoc]
  rw [hd]
  clear hd
  by_cases h0 : k = k'
  · have b0 : (k == k') = true := beq_iff_eq.2 h0
    by_cases h1 : a = a'
    · have b1 : (a == a') = true := beq_iff_eq.2 h1
      by_cases h2 : b = b'
      · have b2 : (b == b') = true := beq_iff_eq.2 h2
        by_cases h3 : c = c'
        · have b3 : (c == c') = true := beq_iff_eq.2 h3
          rw [decide_eq_true h0, decide_eq_true h1, decide_eq_true h2, decide_eq_true h3]
          clear h0 h1 h2 h3
          go_simp
        · have b3 : (c == c') = false := beq_eq_false_iff_ne.2 h3
          rw [decide_eq_true h0, decide_eq_true h1, decide_eq_true h2, decide_eq_false h3]
          clear h0 h1 h2 h3
          go_simp
      · have b2 : (b == b') = false := beq_eq_false_iff_ne.2 h2
        rw [decide_eq_true h0, decide_eq_true h1, decide_eq_false h2]
        clear h0 h1 h2
        go_simp
    · have b1 : (a == a') = false := beq_eq_false_iff_ne.2 h1
      rw [decide_eq_true h0, decide_eq_false h1]
      clear h0 h1
      go_simp
  · have b0 : (k == k') = false := beq_eq_false_iff_ne.2 h0
    rw [decide_eq_false h0]
    clear h0
    go_simp
theorem take_eq_step4 {α : Type} {xs ys : List α} {k : Nat} (hx : k < xs.length) (hy : k < ys.length) (h : xs.take k = ys.take k) (e : xs[k] = ys[k]) : xs.take (k + 1) = ys.take (k + 1) := by
  rw [List.take_succ_eq_append_getElem hx, List.take_succ_eq_append_getElem hy, h, e]
theorem ne_of_get4 {α : Type} {xs ys : List α} {k : Nat} (hx : k < xs.length) (hy : k < ys.length) (e : xs[k] ≠ ys[k]) : xs ≠ ys := fun h => e (by subst h; rfl)

attribute [-go_sem] run_neq_struct
set_option maxHeartbeats 1000000 in
theorem eqins_any (v u : Value) (xs ys : List TIns) (D : Nat → Prop) (w : World) (h : RdCode w D v xs) (h' : RdCode w D u ys) :
    Calls Tryz.prog 131 #[v, u] w fun e w' => e = .returned (.bool (decide (xs = ys))) ∧ Below w.heap.size w w' := by
  obtain ⟨a, c, rfl, hlc, hcm, hat⟩ := Sl.form h
  obtain ⟨a', c', rfl, hlc', hcm', hat'⟩ := Sl.form h'
  have H := Lib.hid h
  have H' := Lib.hid h'
  clear h h'
  by_cases hl : xs.length = ys.length
  · have b0 : ((xs.length : Int) != (ys.length : Int)) = false := bne_eq_false_iff_eq.2 (by omega)
    have hl' := Lib.hid hl
    have hl1 : xs.length ≤ ys.length := by omega
    have hl2 : ys.length ≤ xs.length := by omega
    clear hl
    go_enter Tryz.func131, Tryz.ntmps131
    go_wp2_with fail
    go_loopw [13] (fun i wr => ∃ k : Nat, k ≤ xs.length ∧ i = .int .i64 k ∧ xs.take k = ys.take k ∧ Below w.heap.size w wr) (fun i _ => xs.length - (intOf i).toNat)
    case atStart => exact ⟨0, by omega, rfl, rfl, Below.refl _ _⟩
    case round =>
      obtain ⟨k, hk, rfl, htk, hbw⟩ := hrel
      have Ht := Lib.hid htk
      have hsz := hbw.size
      clear htk
      by_cases hlt : k < xs.length
      · obtain ⟨b, o, rfl, hDb, hb⟩ := hat (by omega)
        obtain ⟨b', o', rfl, hDb', hb'⟩ := hat' (by omega)
        have hlt' : k < ys.length := by omega
        have hc : ∀ W, Cls w.heap.size wr W → (W.cell? ⟨b, o + k * 4, none⟩ = some (.int .i64 xs[k].k) ∧ W.cell? ⟨b, o + k * 4 + 1, none⟩ = some (.int .i64 xs[k].a) ∧ W.cell? ⟨b, o + k * 4 + 2, none⟩ = some (.int .i64 xs[k].b) ∧ W.cell? ⟨b, o + k * 4 + 3, none⟩ = some (.int .i64 xs[k].c)) ∧
            (W.cell? ⟨b', o' + k * 4, none⟩ = some (.int .i64 ys[k].k) ∧ W.cell? ⟨b', o' + k * 4 + 1, none⟩ = some (.int .i64 ys[k].a) ∧ W.cell? ⟨b', o' + k * 4 + 2, none⟩ = some (.int .i64 ys[k].b) ∧ W.cell? ⟨b', o' + k * 4 + 3, none⟩ = some (.int .i64 ys[k].c)) := fun W hW =>
          ⟨RdCode.cells (H.out.below (hbw.trans hW.2)) hlt, RdCode.cells (H'.out.below (hbw.trans hW.2)) hlt'⟩
        have Hc := Lib.hid hc
        have hne := run_neq_ins xs[k] ys[k]
        clear hc
        go_wp2_with fail
        refine wp_region_exact3 w.heap.size hsz (by kernel_rfl) (by kernel_rfl) ?_
        repeat (refine monoE_step (fun K hK => ?_); apply Exists.intro; refine ⟨fun W hC R hR => ?_, ?_⟩; (first
          | (have hne' := hne W; clear hne; go_simp; exact hR _ _ (Below.refl _ _) rfl)
          | (have hcc := Hc.out W hC; go_simp; exact hR _ _ (Below.refl _ _) rfl)); (go_simp; refine hK _ ?_; clear hK K))
        intro w2 hC2
        clear hne
        by_cases he : xs[k] = ys[k]
        · have Hn := Lib.hid (take_eq_step4 hlt hlt' Ht.out he)
          have d : decide (xs[k] = ys[k]) = true := decide_eq_true he
          clear he
          simp only [d]
          go_wp2
          go_roundw
          case rel => exact ⟨k + 1, by omega, by go_num, Hn.out, hbw.trans hC2.2⟩
          case measure => simp [intOf]; omega
        · have Hn := Lib.hid (ne_of_get4 hlt hlt' he)
          have d : decide (xs[k] = ys[k]) = false := decide_eq_false he
          clear he
          simp only [d]
          go_wp2
          go_ret
          exact ⟨ret_bool (decide_eq_false Hn.out).symm, hbw.trans hC2.2⟩
      · obtain rfl : k = xs.length := by omega
        have Hn : Hid (xs = ys) := by
          have := Ht.out
          rw [List.take_length, hl'.out, List.take_length] at this
          exact this
        go_wp2
        go_ret
        exact ⟨ret_bool (decide_eq_true Hn.out).symm, hbw⟩
  · have b0 : ((xs.length : Int) != (ys.length : Int)) = true := bne_iff_ne.2 (by omega)
    have hn : decide (xs = ys) = false := decide_eq_false fun e => hl (by rw [e])
    rw [hn]
    clear hn hl
    go_enter Tryz.func131, Tryz.ntmps131
    go_wp2
    go_ret
    exact ⟨rfl, Below.refl _ _⟩
end Go.Proofs.YthkgjohhbdipcaaGreatDoor
namespace Go.Proofs.YthkgjohhbdipcaaGreatDoor
open Go.RowKit

theorem code_true {w : World} {D : Nat → Prop} {v : Value} {l : List TIns} (h : RdCode w D v l) : RdCode w (fun _ => True) v l := h.keep (fun _ _ _ => trivial) (fun _ _ _ => rfl) (Nat.le_refl _)
theorem chain_true {w : World} {D : Nat → Prop} {v : Value} {l : List (List TIns)} (h : RdChain w D v l) : RdChain w (fun _ => True) v l := h.keep (fun _ _ _ => trivial) (fun _ _ _ => rfl) (Nat.le_refl _)
set_option maxHeartbeats 1000000 in
theorem chsame1_any (v u : Value) (f g : List TIns) (w : World) (h : RdCode w (fun _ => True) v f) (h' : RdCode w (fun _ => True) u g) :
    Calls Tryz.prog 139 #[v, u] w fun e w' => e = .returned (.bool (decide (f = g))) ∧ Below w.heap.size w w' := by
  have H := Lib.hid h
  have H' := Lib.hid h'
  obtain ⟨a, c, rfl, _⟩ := Sl.form h
  obtain ⟨a', c', rfl, _⟩ := Sl.form h'
  clear h h'
  go_enter Tryz.func139, Tryz.ntmps139
  go_wp2_with fail
  refine (eqins_any _ _ f g _ w H.out H'.out).mono ?_
  rintro e w1 ⟨rfl, hb1⟩
  go_wp2
  go_ret
  exact ⟨rfl, hb1⟩
set_option maxHeartbeats 4000000 in
theorem cheq_any (v u : Value) (xs ys : List (List TIns)) (w : World) (h : RdChain w (fun _ => True) v xs) (h' : RdChain w (fun _ => True) u ys) :
    Calls Tryz.prog 129 #[v, u, .func (.func 139) #[] #[]] w fun e w' => e = .returned (.bool (decide (xs = ys))) ∧ Below w.heap.size w w' := by
  have H := Lib.hid h
  have H' := Lib.hid h'
  obtain ⟨a, c, rfl, hlc, hcm, hat⟩ := Sl.form h
  obtain ⟨a', c', rfl, hlc', hcm', hat'⟩ := Sl.form h'
  clear h h'
  by_cases hl : xs.length = ys.length
  · have Hl := Lib.hid hl
    have hln : ((xs.length : Int) != (ys.length : Int)) = false := by rw [hl]; simp
    clear hl
    go_enter Tryz.func129, Tryz.ntmps129
    go_wp2_with fail
    go_loopw [17] (fun i wr => ∃ k : Nat, k ≤ xs.length ∧ i = .int .i64 k ∧ xs.take k = ys.take k ∧ Below w.heap.size w wr) (fun i _ => xs.length - (intOf i).toNat)
    case atStart => exact ⟨0, by omega, rfl, rfl, Below.refl _ _⟩
    case round =>
      obtain ⟨k, hk, rfl, htk, hbw⟩ := hrel
      have Ht := Lib.hid htk
      have Hb := Lib.hid hbw
      clear htk hbw
      by_cases hlt : k < xs.length
      · obtain ⟨b, o, rfl, _, _⟩ := hat (by omega)
        obtain ⟨b', o', rfl, _, _⟩ := hat' (by rw [← Hl.out]; omega)
        have hlt' : k < ys.length := by rw [← Hl.out]; exact hlt
        obtain ⟨a1, c1, hc1, hr1⟩ := RdChain.cells (H.out.below Hb.out) hlt
        obtain ⟨a2, c2, hc2, hr2⟩ := RdChain.cells (H'.out.below Hb.out) hlt'
        have Hr1 := Lib.hid hr1
        have Hr2 := Lib.hid hr2
        clear hr1 hr2
        go_wp2_with fail
        refine (chsame1_any _ _ xs[k] ys[k] _ Hr1.out Hr2.out).mono ?_
        rintro e w1 ⟨rfl, hb1⟩
        have Hb1 := Lib.hid (bel_call Hb.out hb1)
        clear hb1 hc1 hc2
        by_cases he : xs[k] = ys[k]
        · have Hn := Lib.hid (take_eq_step4 hlt hlt' Ht.out he)
          have d : decide (xs[k] = ys[k]) = true := decide_eq_true he
          clear he
          rw [d]
          go_wp2
          go_roundw
          case rel => first | exact ⟨k + 1, by omega, by go_num, Hn.out, Hb1.out⟩ | ((repeat apply Exists.intro); exact ⟨⟨k + 1, by omega, by go_num, Hn.out, Hb1.out⟩, rfl⟩)
          case measure => simp [intOf]; omega
        · have Hn := Lib.hid (ne_of_get4 hlt hlt' he)
          have d : decide (xs[k] = ys[k]) = false := decide_eq_false he
          clear he
          rw [d]
          go_wp2
          go_ret
          exact ⟨by rw [decide_eq_false Hn.out]; rfl, Hb1.out⟩
      · obtain rfl : k = xs.length := by omega
        have Hn : Hid (xs = ys) := by
          have := Ht.out
          rw [List.take_length, Hl.out, List.take_length] at this
          exact this
        go_wp2
        go_ret
        exact ⟨by rw [decide_eq_true Hn.out]; rfl, Hb.out⟩
  · have hn : xs ≠ ys := fun e => hl (by rw [e])
    have hl' : ((xs.length : Int) != (ys.length : Int)) = true := bne_iff_ne.2 (by omega)
    have HD := Lib.hid (decide_eq_false hn)
    clear hn
    go_enter Tryz.func129, Tryz.ntmps129
    go_wp2
    go_ret
    exact ⟨by rw [HD.out]; rfl, Below.refl _ _⟩
set_option maxHeartbeats 1000000 in
theorem chsame_any (v u : Value) (xs ys : List (List TIns)) (w : World) (h : RdChain w (fun _ => True) v xs) (h' : RdChain w (fun _ => True) u ys) :
    Calls Tryz.prog 100 #[v, u] w fun e w' => e = .returned (.bool (decide (xs = ys))) ∧ Below w.heap.size w w' := by
  have H := Lib.hid h
  have H' := Lib.hid h'
  obtain ⟨a, c, rfl, _⟩ := Sl.form h
  obtain ⟨a', c', rfl, _⟩ := Sl.form h'
  clear h h'
  go_enter Tryz.func100, Tryz.ntmps100
  go_wp2_with fail
  refine (cheq_any _ _ xs ys w H.out H'.out).mono ?_
  rintro e w1 ⟨rfl, hb1⟩
  go_wp2
  go_ret
  exact ⟨rfl, hb1⟩
end Go.Proofs.YthkgjohhbdipcaaGreatDoor
namespace Go.Proofs.YthkgjohhbdipcaaGreatDoor
open Go.RowKit

set_option maxHeartbeats 4000000 in
theorem polcheck_any (v : Value) (p : TPol) (D : Nat → Prop) (w : World) (h : RdRules w D v p.rules) : Calls Tryz.prog 74 #[polV v p.dflt] w fun e w' => e = .returned (.int .i64 (polE p)) ∧ Below w.heap.size w w' := by
  obtain ⟨rs, d⟩ := p
  dsimp only at h ⊢
  obtain ⟨a, c, rfl, hlc, hcm, hat⟩ := Sl.form h
  have H := Lib.hid h
  clear h
  by_cases h1 : 120 < rs.length
  · have he : polE ⟨rs, d⟩ = 2 := by unfold polE; rw [if_pos h1]
    have hz : 120 < (rs.length : Int) := by omega
    rw [he]; clear he h1 hat H
    go_enter Tryz.func74, Tryz.ntmps74
    go_wp2
    go_ret
    exact ⟨rfl, bel_alloc (Below.refl _ _) _⟩
  · have hz : ¬ 120 < (rs.length : Int) := by omega
    by_cases h2 : d < 0 ∨ 4 < d
    · have he : polE ⟨rs, d⟩ = 3 := by unfold polE; rw [if_neg h1, if_pos h2]
      rw [he]; clear he hat H h1
      rcases h2 with h2 | h2
      · go_enter Tryz.func74, Tryz.ntmps74
        go_wp2
        go_ret
        exact ⟨rfl, bel_alloc (Below.refl _ _) _⟩
      · have h0 : ¬ d < 0 := by omega
        go_enter Tryz.func74, Tryz.ntmps74
        go_wp2
        go_ret
        exact ⟨rfl, bel_alloc (Below.refl _ _) _⟩
    · have g0 : ¬ d < 0 := by omega
      have g1 : ¬ 4 < d := by omega
      have He := Lib.hid (show polE ⟨rs, d⟩ = rulesGo rs by unfold polE; rw [if_neg h1, if_neg h2])
      clear h1 h2
      go_enter Tryz.func74, Tryz.ntmps74
      go_wp2_with fail
      go_loopw [23] (fun i wr => ∃ k : Nat, k ≤ rs.length ∧ i = .int .i64 k ∧ rulesGo rs = rulesGo (rs.drop k) ∧ Below w.heap.size w wr) (fun i _ => rs.length - (intOf i).toNat)
      case atStart => exact ⟨0, by omega, rfl, rfl, bel_alloc (Below.refl _ _) _⟩
      case round =>
        obtain ⟨k, hk, rfl, hgo, hbw⟩ := hrel
        have Hgo := Lib.hid hgo
        have hsz := hbw.size
        clear hgo
        by_cases hlt : k < rs.length
        · obtain ⟨b, o, rfl, hDb, hb⟩ := hat (by omega)
          obtain ⟨a', c', k0, k1, hr, hlc', hcm', hat'⟩ := RdRules.cells (RdRules.below H.out hbw) hlt
          have Hr := Lib.hid hr
          have bad : ∀ e : Int, ruleE rs[k] = e → e ≠ 0 → ∀ wz, Below w.heap.size w wz → Ending.returned (.int .i64 e) = .returned (.int .i64 (polE ⟨rs, d⟩)) ∧ Below w.heap.size w wz := fun e he h0 wz hz => by
            refine ⟨ret_int ?_, hz⟩
            rw [He.out, Hgo.out, rulesGo_drop rs k hlt, he, if_neg h0]
          have good : ruleE rs[k] = 0 → rulesGo rs = rulesGo (rs.drop (k + 1)) := fun he => by rw [Hgo.out, rulesGo_drop rs k hlt, if_pos he]
          have Hbad := Lib.hid bad
          have Hgood := Lib.hid good
          clear bad good hr
          generalize hX : rs[k] = X at *
          clear hX
          obtain ⟨cs, vd⟩ := X
          dsimp only at k0 k1 hlc' hat'
          have Hr' : Hid (RdConds wr D (.slice a' cs.length c') cs) := Hr
          clear Hr
          by_cases h3 : 10 < cs.length
          · have Hb := Lib.hid (Hbad.out 2 (by unfold ruleE; rw [if_pos h3]) (by decide))
            have hz3 : 10 < (cs.length : Int) := by omega
            clear Hbad Hgood hat' h3
            go_wp2
            go_ret
            exact Hb.out _ (bel_alloc hbw _)
          · have hz3 : ¬ 10 < (cs.length : Int) := by omega
            by_cases h4 : vd < 0 ∨ 4 < vd
            · have Hb := Lib.hid (Hbad.out 3 (by unfold ruleE; rw [if_neg h3, if_pos h4]) (by decide))
              clear Hbad Hgood hat' h3
              rcases h4 with h4 | h4
              · go_wp2
                go_ret
                exact Hb.out _ (bel_alloc hbw _)
              · have h40 : ¬ vd < 0 := by omega
                go_wp2
                go_ret
                exact Hb.out _ (bel_alloc hbw _)
            · have g3 : ¬ vd < 0 := by omega
              have g4 : ¬ 4 < vd := by omega
              have Hre := Lib.hid (show ruleE ⟨cs, vd⟩ = condsGo cs by unfold ruleE; rw [if_neg h3, if_neg h4])
              clear h3 h4
              go_wp2_with fail
              go_loopw [42] (fun i wi => ∃ j : Nat, j ≤ cs.length ∧ i = .int .i64 j ∧ condsGo cs = condsGo (cs.drop j) ∧ Below w.heap.size w wi ∧ Below wr.heap.size wr wi) (fun i _ => cs.length - (intOf i).toNat)
              case atStart => exact ⟨0, by omega, rfl, rfl, bel_alloc hbw _, bel_alloc (Below.refl _ _) _⟩
              case round =>
                obtain ⟨j, hj, rfl, hgo, hbi, hbi'⟩ := hrel
                have Hgi := Lib.hid hgo
                have hszi := hbi.size
                clear hgo
                by_cases hlj : j < cs.length
                · obtain ⟨b', o', rfl, hDb', hb'⟩ := hat' (by omega)
                  obtain ⟨c0, c1, c2⟩ := RdConds.cells (RdConds.below Hr'.out hbi') hlj
                  have Hd := Lib.hid (condsGo_drop cs j hlj)
                  go_wp2_with (go_at_call 117; refine (cond_any cs[j] _).mono ?_; rintro e w1 ⟨rfl, hb1⟩)
                  · rename_i ht
                    have ht' := bne_iff_ne.1 ht
                    go_ret
                    exact Hbad.out _ (by rw [Hre.out, Hgi.out, Hd.out, if_neg ht']) ht' _ (bel_alloc_call hbi hb1)
                  · rename_i ht
                    have ht' := bne_eq_false_iff_eq.1 ht
                    go_roundw
                    case rel => exact ⟨j + 1, by omega, by go_num, by rw [Hgi.out, Hd.out, if_pos ht'], bel_alloc_call hbi hb1, bel_alloc_call hbi' hb1⟩
                    case measure => simp [intOf]; omega
                · obtain rfl : j = cs.length := by omega
                  have Hg := Lib.hid (Hgood.out (by rw [Hre.out, Hgi.out, List.drop_length]; rfl))
                  go_wp2
                  go_roundw
                  case rel => exact ⟨k + 1, by omega, by go_num, Hg.out, hbi⟩
                  case measure => simp [intOf]; omega
        · obtain rfl : k = rs.length := by omega
          go_wp2
          go_ret
          exact ⟨ret_int (by rw [He.out, Hgo.out, List.drop_length]; rfl), hbw⟩
end Go.Proofs.YthkgjohhbdipcaaGreatDoor
namespace Go.Proofs.YthkgjohhbdipcaaGreatDoor
open Go.RowKit

@[reducible] def callCells (x : TCall) : Array Value := #[.int .i64 x.a0, .int .i64 x.a1, .int .i64 x.a2, .int .i64 x.a3, .int .i64 x.a4]
@[reducible] def condV (c : TCond) : Value := .agg #[.int .i64 c.f, .int .i64 c.op, .int .i64 c.v]

set_option maxHeartbeats 2000000 in
theorem holds_any (c : TCond) (x : TCall) (w : World) (hf0 : 0 ≤ c.f) (hf1 : c.f < 5) (ho0 : 1 ≤ c.op) (ho1 : c.op ≤ 4) : Calls Tryz.prog 232 #[condV c, callV x] w fun e w' => e = .returned (.bool (holdsB c x)) ∧ Below w.heap.size w w' := by
  obtain ⟨f, op, v⟩ := c
  dsimp only at hf0 hf1 ho0 ho1
  obtain ⟨m, rfl⟩ := Int.eq_ofNat_of_zero_le hf0
  have hm : m < 5 := by omega
  have hc : ∀ o, ((w.alloc o).alloc (.cells (callCells x) 46)).cell? ⟨w.heap.size + 1, m, none⟩ = some (.int .i64 (x.get m)) := fun o => by
    rw [World.cell?_alloc_at _ _ _ _ (by simp)]; exact cell5 x m hm
  have Hx : Hid (holdsB ⟨m, op, v⟩ x = if op = 1 then x.get m == v else if op = 2 then x.get m != v else if op = 3 then decide (x.get m < v) else decide (v ≤ x.get m)) := rfl
  have hop : op = 1 ∨ op = 2 ∨ op = 3 ∨ op = 4 := by omega
  rcases hop with rfl | rfl | rfl | rfl
  · rw [Hx.out]; simp only [if_true]
    clear Hx ho0 ho1
    go_enter Tryz.func232, Tryz.ntmps232
    go_wp2
    go_ret
    exact ⟨rfl, bel_alloc (bel_alloc (Below.refl _ _) _) _⟩
  · rw [Hx.out]; simp only [if_true, show ¬ ((2 : Int) = 1) by decide, if_false]
    clear Hx ho0 ho1
    go_enter Tryz.func232, Tryz.ntmps232
    go_wp2
    go_ret
    exact ⟨rfl, bel_alloc (bel_alloc (Below.refl _ _) _) _⟩
  · rw [Hx.out]; simp only [if_true, show ¬ ((3 : Int) = 1) by decide, show ¬ ((3 : Int) = 2) by decide, if_false]
    clear Hx ho0 ho1
    go_enter Tryz.func232, Tryz.ntmps232
    go_wp2
    go_ret
    exact ⟨rfl, bel_alloc (bel_alloc (Below.refl _ _) _) _⟩
  · rw [Hx.out]; simp only [show ¬ ((4 : Int) = 1) by decide, show ¬ ((4 : Int) = 2) by decide, show ¬ ((4 : Int) = 3) by decide, if_false]
    clear Hx ho0 ho1
    go_enter Tryz.func232, Tryz.ntmps232
    go_wp2
    go_ret
    exact ⟨rfl, bel_alloc (bel_alloc (Below.refl _ _) _) _⟩

theorem which1_any (c : TCond) (x : TCall) (bx : Nat) (w : World) (hok : OkCond c) (hx : ∀ j, w.cell? ⟨bx, j, none⟩ = (callCells x)[j]?) (hbx : bx < w.heap.size) :
    Calls Tryz.prog 231 #[condV c, .pointer (some ⟨bx, 0, none⟩)] w fun e w' => e = .returned (.bool (!holdsB c x)) ∧ Below w.heap.size w w' := by
  have hx' : ∀ o j, (w.alloc o).cell? ⟨bx, j, none⟩ = (callCells x)[j]? := fun o j => (World.cell?_alloc_lt w o ⟨bx, j, none⟩ hbx).trans (hx j)
  have Hok := Lib.hid hok
  clear hok hx
  go_enter Tryz.func231, Tryz.ntmps231
  go_wp2_with fail
  refine (holds_any c x _ Hok.out.f0 Hok.out.f1 Hok.out.o0 Hok.out.o1).mono ?_
  rintro e w1 ⟨rfl, hb1⟩
  go_wp2
  go_ret
  exact ⟨rfl, bel_alloc_call (Below.refl _ _) hb1⟩

theorem allHold_take {x : TCall} {l : List TCond} {k : Nat} (hk : k < l.length) (h : allHold x (l.take k) = true) (hh : holdsB l[k] x = true) : allHold x (l.take (k + 1)) = true := by
  rw [List.take_succ_eq_append_getElem hk]
  unfold allHold at *
  rw [List.all_append, h]
  simp [hh]
theorem allHold_not {x : TCall} {l : List TCond} {k : Nat} (hk : k < l.length) (hh : holdsB l[k] x = false) : allHold x l = false := by
  unfold allHold
  rw [List.all_eq_false]
  exact ⟨l[k], List.getElem_mem hk, by simp [hh]⟩

set_option maxHeartbeats 2000000 in
theorem indexFunc_any (v : Value) (l : List TCond) (x : TCall) (bx : Nat) (D : Nat → Prop) (w : World) (h : RdConds w D v l) (hok : ∀ c ∈ l, OkCond c) (hx : ∀ j, w.cell? ⟨bx, j, none⟩ = (callCells x)[j]?) (hbx : bx < w.heap.size) :
    Calls Tryz.prog 246 #[v, .func (.func 231) #[] #[.pointer (some ⟨bx, 0, none⟩)]] w fun e w' =>
      ∃ n : Int, e = .returned (.int .i64 n) ∧ decide (0 ≤ n) = (!allHold x l) ∧ Below w.heap.size w w' := by
  obtain ⟨a, c, rfl, hlc, hcm, hat⟩ := Sl.form h
  have H := Lib.hid h
  have Hok := Lib.hid hok
  have Hx := Lib.hid hx
  clear h hok hx
  go_enter Tryz.func246, Tryz.ntmps246
  go_wp2_with fail
  go_loopw [8] (fun i wr => ∃ k : Nat, k ≤ l.length ∧ i = .int .i64 k ∧ allHold x (l.take k) = true ∧ Below w.heap.size w wr) (fun i _ => l.length - (intOf i).toNat)
  case atStart => exact ⟨0, by omega, rfl, rfl, Below.refl _ _⟩
  case round =>
    obtain ⟨k, hk, rfl, hall, hbw⟩ := hrel
    have Hall := Lib.hid hall
    have hsz := hbw.size
    clear hall
    by_cases hlt : k < l.length
    · obtain ⟨b, o, rfl, hDb, hb⟩ := hat (by omega)
      obtain ⟨c0, c1, c2⟩ := RdConds.cells (RdConds.below H.out hbw) hlt
      go_wp2_with fail
      refine (which1_any l[k] x bx _ (Hok.out _ (List.getElem_mem hlt)) (fun j => (hbw.cell (p := ⟨bx, j, none⟩) hbx).trans (Hx.out j)) (by omega)).mono ?_
      rintro e w1 ⟨rfl, hb1⟩
      cases hh : holdsB l[k] x with
      | true =>
        have Hn := Lib.hid (allHold_take hlt Hall.out hh)
        clear hh
        go_wp2
        go_roundw
        case rel => exact ⟨k + 1, by omega, by go_num, Hn.out, bel_call hbw hb1⟩
        case measure => simp [intOf]; omega
      | false =>
        have Hn := Lib.hid (allHold_not hlt hh)
        clear hh
        go_wp2
        go_ret
        exact ⟨_, rfl, by rw [Hn.out]; simp, bel_call hbw hb1⟩
    · obtain rfl : k = l.length := by omega
      have Hn : Hid (allHold x l = true) := by have := Hall.out; rwa [List.take_length] at this
      go_wp2
      go_ret
      exact ⟨_, rfl, by rw [Hn.out]; simp, hbw⟩

theorem containsFunc_any (v : Value) (l : List TCond) (x : TCall) (bx : Nat) (D : Nat → Prop) (w : World) (h : RdConds w D v l) (hok : ∀ c ∈ l, OkCond c) (hx : ∀ j, w.cell? ⟨bx, j, none⟩ = (callCells x)[j]?) (hbx : bx < w.heap.size) :
    Calls Tryz.prog 230 #[v, .func (.func 231) #[] #[.pointer (some ⟨bx, 0, none⟩)]] w fun e w' => e = .returned (.bool (!allHold x l)) ∧ Below w.heap.size w w' := by
  have H := Lib.hid h
  have Hok := Lib.hid hok
  have Hx := Lib.hid hx
  clear h hok hx
  go_enter Tryz.func230, Tryz.ntmps230
  go_wp2_with fail
  refine (indexFunc_any v l x bx D _ H.out Hok.out Hx.out hbx).mono ?_
  rintro e w1 ⟨n, rfl, hn, hb1⟩
  have Hn := Lib.hid hn
  clear hn
  go_wp2
  go_ret
  exact ⟨ret_bool (by rw [← Hn.out]), hb1⟩
end Go.Proofs.YthkgjohhbdipcaaGreatDoor
namespace Go.Proofs.YthkgjohhbdipcaaGreatDoor
open Go.RowKit
attribute [local go_sem] gives givesUpon

theorem take_eq_step' {α : Type} {xs ys : List α} {k : Nat} (hx : k < xs.length) (hy : k < ys.length) (h : xs.take k = ys.take k) (e : xs[k] = ys[k]) : xs.take (k + 1) = ys.take (k + 1) := by
  rw [List.take_succ_eq_append_getElem hx, List.take_succ_eq_append_getElem hy, h, e]
theorem ne_of_get' {α : Type} {xs ys : List α} {k : Nat} (hx : k < xs.length) (hy : k < ys.length) (e : xs[k] ≠ ys[k]) : xs ≠ ys := fun h => e (by subst h; rfl)

theorem run_neq_cond (c d : TCond) (w : World) : (binOp .neq 153 (.agg #[.int .i64 c.f, .int .i64 c.op, .int .i64 c.v]) (.agg #[.int .i64 d.f, .int .i64 d.op, .int .i64 d.v])).run Tryz.prog w = .ok (.bool (!decide (c = d))) w := by
  obtain ⟨f, o, v⟩ := c
  obtain ⟨f', o', v'⟩ := d
  dsimp only
  have hd : decide ((⟨f, o, v⟩ : TCond) = ⟨f', o', v'⟩) = (decide (f = f') && decide (o = o') && decide (v = v')) := by
    rw [Bool.eq_iff_iff]; simp [and_assoc]
  rw [hd]
  clear hd
  by_cases h1 : f = f'
  · have b1 : (f == f') = true := beq_iff_eq.2 h1
    by_cases h2 : o = o'
    · have b2 : (o == o') = true := beq_iff_eq.2 h2
      by_cases h3 : v = v'
      · have b3 : (v == v') = true := beq_iff_eq.2 h3
        rw [decide_eq_true h1, decide_eq_true h2, decide_eq_true h3]
        clear h1 h2 h3
        go_simp
      · have b3 : (v == v') = false := beq_eq_false_iff_ne.2 h3
        rw [decide_eq_true h1, decide_eq_true h2, decide_eq_false h3]
        clear h1 h2 h3
        go_simp
    · have b2 : (o == o') = false := beq_eq_false_iff_ne.2 h2
      rw [decide_eq_true h1, decide_eq_false h2]
      clear h1 h2
      go_simp
  · have b1 : (f == f') = false := beq_eq_false_iff_ne.2 h1
    rw [decide_eq_false h1]
    clear h1
    go_simp

attribute [-go_sem] run_neq_struct
set_option maxHeartbeats 1000000 in
theorem eqconds_any (v u : Value) (xs ys : List TCond) (D : Nat → Prop) (w : World) (h : RdConds w D v xs) (h' : RdConds w D u ys) :
    Calls Tryz.prog 116 #[v, u] w fun e w' => e = .returned (.bool (decide (xs = ys))) ∧ Below w.heap.size w w' := by
  obtain ⟨a, c, rfl, hlc, hcm, hat⟩ := Sl.form h
  obtain ⟨a', c', rfl, hlc', hcm', hat'⟩ := Sl.form h'
  have H := Lib.hid h
  have H' := Lib.hid h'
  clear h h'
  by_cases hl : xs.length = ys.length
  · have b0 : ((xs.length : Int) != (ys.length : Int)) = false := bne_eq_false_iff_eq.2 (by omega)
    have hl' := Lib.hid hl
    have hl1 : xs.length ≤ ys.length := by omega
    have hl2 : ys.length ≤ xs.length := by omega
    clear hl
    go_enter Tryz.func116, Tryz.ntmps116
    go_wp2_with fail
    go_loopw [13] (fun i wr => ∃ k : Nat, k ≤ xs.length ∧ i = .int .i64 k ∧ xs.take k = ys.take k ∧ Below w.heap.size w wr) (fun i _ => xs.length - (intOf i).toNat)
    case atStart => exact ⟨0, by omega, rfl, rfl, Below.refl _ _⟩
    case round =>
      obtain ⟨k, hk, rfl, htk, hbw⟩ := hrel
      have Ht := Lib.hid htk
      have hsz := hbw.size
      clear htk
      by_cases hlt : k < xs.length
      · obtain ⟨b, o, rfl, hDb, hb⟩ := hat (by omega)
        obtain ⟨b', o', rfl, hDb', hb'⟩ := hat' (by omega)
        have hlt' : k < ys.length := by omega
        have hc : ∀ W, Cls w.heap.size wr W → (W.cell? ⟨b, o + k * 3, none⟩ = some (.int .i64 xs[k].f) ∧ W.cell? ⟨b, o + k * 3 + 1, none⟩ = some (.int .i64 xs[k].op) ∧ W.cell? ⟨b, o + k * 3 + 2, none⟩ = some (.int .i64 xs[k].v)) ∧
            (W.cell? ⟨b', o' + k * 3, none⟩ = some (.int .i64 ys[k].f) ∧ W.cell? ⟨b', o' + k * 3 + 1, none⟩ = some (.int .i64 ys[k].op) ∧ W.cell? ⟨b', o' + k * 3 + 2, none⟩ = some (.int .i64 ys[k].v)) := fun W hW =>
          ⟨RdConds.cells (H.out.below (hbw.trans hW.2)) hlt, RdConds.cells (H'.out.below (hbw.trans hW.2)) hlt'⟩
        have Hc := Lib.hid hc
        have hne := run_neq_cond xs[k] ys[k]
        clear hc
        go_wp2_with fail
        refine wp_region_exact3 w.heap.size hsz (by kernel_rfl) (by kernel_rfl) ?_
        repeat (refine monoE_step (fun K hK => ?_); apply Exists.intro; refine ⟨fun W hC R hR => ?_, ?_⟩; (first
          | (have hne' := hne W; clear hne; go_simp; exact hR _ _ (Below.refl _ _) rfl)
          | (have hcc := Hc.out W hC; go_simp; exact hR _ _ (Below.refl _ _) rfl)); (go_simp; refine hK _ ?_; clear hK K))
        intro w2 hC2
        clear hne
        by_cases he : xs[k] = ys[k]
        · have Hn := Lib.hid (take_eq_step' hlt hlt' Ht.out he)
          have d : decide (xs[k] = ys[k]) = true := decide_eq_true he
          clear he
          simp only [d]
          go_wp2
          go_roundw
          case rel => exact ⟨k + 1, by omega, by go_num, Hn.out, hbw.trans hC2.2⟩
          case measure => simp [intOf]; omega
        · have Hn := Lib.hid (ne_of_get' hlt hlt' he)
          have d : decide (xs[k] = ys[k]) = false := decide_eq_false he
          clear he
          simp only [d]
          go_wp2
          go_ret
          exact ⟨ret_bool (decide_eq_false Hn.out).symm, hbw.trans hC2.2⟩
      · obtain rfl : k = xs.length := by omega
        have Hn : Hid (xs = ys) := by
          have := Ht.out
          rw [List.take_length, hl'.out, List.take_length] at this
          exact this
        go_wp2
        go_ret
        exact ⟨ret_bool (decide_eq_true Hn.out).symm, hbw⟩
  · have b0 : ((xs.length : Int) != (ys.length : Int)) = true := bne_iff_ne.2 (by omega)
    have hn : decide (xs = ys) = false := decide_eq_false fun e => hl (by rw [e])
    rw [hn]
    clear hn hl
    go_enter Tryz.func116, Tryz.ntmps116
    go_wp2
    go_ret
    exact ⟨rfl, Below.refl _ _⟩

set_option maxHeartbeats 1000000 in
theorem same1_any (v u : Value) (r q : TRule) (D : Nat → Prop) (w : World) (h : RdConds w D v r.conds) (h' : RdConds w D u q.conds) :
    Calls Tryz.prog 115 #[.agg #[v, .int .i64 r.verdict], .agg #[u, .int .i64 q.verdict]] w fun e w' => e = .returned (.bool (decide (r = q))) ∧ Below w.heap.size w w' := by
  obtain ⟨rc, rv⟩ := r
  obtain ⟨qc, qv⟩ := q
  dsimp only at h h' ⊢
  have H := Lib.hid h
  have H' := Lib.hid h'
  clear h h'
  by_cases hv : rv = qv
  · have b0 : (rv == qv) = true := beq_iff_eq.2 hv
    have hd : decide ((⟨rc, rv⟩ : TRule) = ⟨qc, qv⟩) = decide (rc = qc) := by rw [decide_eq_decide]; simp [hv]
    rw [hd]
    clear hd hv
    go_enter Tryz.func115, Tryz.ntmps115
    go_wp2_with fail
    refine (eqconds_any v u rc qc D _ (RdConds.below H.out (bel_alloc (bel_alloc (Below.refl _ _) _) _)) (RdConds.below H'.out (bel_alloc (bel_alloc (Below.refl _ _) _) _))).mono ?_
    rintro e w1 ⟨rfl, hb1⟩
    have hb1' : Below (w.heap.size + 2) _ w1 := hb1.mono (by simp)
    go_wp2
    go_ret
    exact ⟨rfl, bel_box2 hb1'⟩
  · have b0 : (rv == qv) = false := beq_eq_false_iff_ne.2 hv
    have hd : decide ((⟨rc, rv⟩ : TRule) = ⟨qc, qv⟩) = false := decide_eq_false fun e => hv (by injection e)
    rw [hd]
    clear hd hv
    go_enter Tryz.func115, Tryz.ntmps115
    go_wp2
    go_ret
    exact ⟨rfl, bel_alloc (bel_alloc (Below.refl _ _) _) _⟩

set_option maxHeartbeats 1000000 in
theorem eqrules_any (v u : Value) (xs ys : List TRule) (D : Nat → Prop) (w : World) (h : RdRules w D v xs) (h' : RdRules w D u ys) :
    Calls Tryz.prog 114 #[v, u, .func (.func 115) #[] #[]] w fun e w' => e = .returned (.bool (decide (xs = ys))) ∧ Below w.heap.size w w' := by
  obtain ⟨a, c, rfl, hlc, hcm, hat⟩ := Sl.form h
  obtain ⟨a', c', rfl, hlc', hcm', hat'⟩ := Sl.form h'
  have H := Lib.hid h
  have H' := Lib.hid h'
  clear h h'
  by_cases hl : xs.length = ys.length
  · have b0 : ((xs.length : Int) != (ys.length : Int)) = false := bne_eq_false_iff_eq.2 (by omega)
    have hl' := Lib.hid hl
    have hl1 : xs.length ≤ ys.length := by omega
    have hl2 : ys.length ≤ xs.length := by omega
    clear hl
    go_enter Tryz.func114, Tryz.ntmps114
    go_wp2_with fail
    go_loopw [17] (fun i wr => ∃ k : Nat, k ≤ xs.length ∧ i = .int .i64 k ∧ xs.take k = ys.take k ∧ Below w.heap.size w wr) (fun i _ => xs.length - (intOf i).toNat)
    case atStart => exact ⟨0, by omega, rfl, rfl, Below.refl _ _⟩
    case round =>
      obtain ⟨k, hk, rfl, htk, hbw⟩ := hrel
      have Ht := Lib.hid htk
      have hsz := hbw.size
      clear htk
      by_cases hlt : k < xs.length
      · obtain ⟨b, o, rfl, hDb, hb⟩ := hat (by omega)
        obtain ⟨b', o', rfl, hDb', hb'⟩ := hat' (by omega)
        have hlt' : k < ys.length := by omega
        obtain ⟨ra, rc, k0, k1, hr, hlr, hcr, _⟩ := RdRules.cells (RdRules.below H.out hbw) hlt
        obtain ⟨qa, qc, q0, q1, hq, hlq, hcq, _⟩ := RdRules.cells (RdRules.below H'.out hbw) hlt'
        have Hr := Lib.hid hr
        have Hq := Lib.hid hq
        have hbr : b' < wr.heap.size := by omega
        have q0' : ∀ O, (wr.alloc O).cell? ⟨b', o' + k * 2, none⟩ = some (.slice qa ys[k].conds.length qc) := fun O => (World.cell?_alloc_lt _ _ _ hbr).trans q0
        have q1' : ∀ O, (wr.alloc O).cell? ⟨b', o' + k * 2 + 1, none⟩ = some (.int .i64 ys[k].verdict) := fun O => (World.cell?_alloc_lt _ _ _ hbr).trans q1
        clear hr hq q0 q1
        go_wp2_with fail
        refine (same1_any _ _ xs[k] ys[k] D _ (RdConds.below Hr.out (bel_alloc (bel_alloc (Below.refl _ _) _) _)) (RdConds.below Hq.out (bel_alloc (bel_alloc (Below.refl _ _) _) _))).mono ?_
        rintro e w1 ⟨rfl, hb1⟩
        have hb2 : Below (wr.heap.size + 2) _ w1 := hb1.mono (by simp)
        have Hb := Lib.hid (hbw.trans ((bel_box2 hb2).mono hbw.size))
        clear hb1 hb2 k0 k1 q0' q1'
        by_cases he : xs[k] = ys[k]
        · have Hn := Lib.hid (take_eq_step' hlt hlt' Ht.out he)
          rw [decide_eq_true he]
          clear he
          go_wp2
          go_roundw
          case rel => exact ⟨k + 1, by omega, by go_num, Hn.out, Hb.out⟩
          case measure => simp [intOf]; omega
        · have Hn := Lib.hid (ne_of_get' hlt hlt' he)
          rw [decide_eq_false he]
          clear he
          go_wp2
          go_ret
          exact ⟨ret_bool (decide_eq_false Hn.out).symm, Hb.out⟩
      · obtain rfl : k = xs.length := by omega
        have Hn : Hid (xs = ys) := by
          have := Ht.out
          rw [List.take_length, hl'.out, List.take_length] at this
          exact this
        go_wp2
        go_ret
        exact ⟨ret_bool (decide_eq_true Hn.out).symm, hbw⟩
  · have b0 : ((xs.length : Int) != (ys.length : Int)) = true := bne_iff_ne.2 (by omega)
    have hn : decide (xs = ys) = false := decide_eq_false fun e => hl (by rw [e])
    rw [hn]
    clear hn hl
    go_enter Tryz.func114, Tryz.ntmps114
    go_wp2
    go_ret
    exact ⟨rfl, Below.refl _ _⟩

set_option maxHeartbeats 1000000 in
theorem same_any (v u : Value) (p q : TPol) (D : Nat → Prop) (w : World) (h : RdRules w D v p.rules) (h' : RdRules w D u q.rules) :
    Calls Tryz.prog 73 #[polV v p.dflt, polV u q.dflt] w fun e w' => e = .returned (.bool (decide (p = q))) ∧ Below w.heap.size w w' := by
  obtain ⟨pr, pd⟩ := p
  obtain ⟨qr, qd⟩ := q
  dsimp only at h h' ⊢
  have H := Lib.hid h
  have H' := Lib.hid h'
  have hmk : ∀ (fn : Fn) (first cap : Array Value) (w : World), (Instr.makeFunc fn first cap).run Tryz.prog w = .ok (.func fn first cap) w := fun _ _ _ _ => rfl
  clear h h'
  by_cases hv : pd = qd
  · have b0 : (pd == qd) = true := beq_iff_eq.2 hv
    have hd : decide ((⟨pr, pd⟩ : TPol) = ⟨qr, qd⟩) = decide (pr = qr) := by rw [decide_eq_decide]; simp [hv]
    rw [hd]
    clear hd hv
    go_enter Tryz.func73, Tryz.ntmps73
    go_wp2_with fail
    refine (eqrules_any v u pr qr D _ (RdRules.below H.out (bel_alloc (bel_alloc (Below.refl _ _) _) _)) (RdRules.below H'.out (bel_alloc (bel_alloc (Below.refl _ _) _) _))).mono ?_
    rintro e w1 ⟨rfl, hb1⟩
    have hb1' : Below (w.heap.size + 2) _ w1 := hb1.mono (by simp)
    go_wp2
    go_ret
    exact ⟨rfl, bel_box2 hb1'⟩
  · have b0 : (pd == qd) = false := beq_eq_false_iff_ne.2 hv
    have hd : decide ((⟨pr, pd⟩ : TPol) = ⟨qr, qd⟩) = false := decide_eq_false fun e => hv (by injection e)
    rw [hd]
    clear hd hv
    go_enter Tryz.func73, Tryz.ntmps73
    go_wp2
    go_ret
    exact ⟨rfl, bel_alloc (bel_alloc (Below.refl _ _) _) _⟩
end Go.Proofs.YthkgjohhbdipcaaGreatDoor
namespace Go.Proofs.YthkgjohhbdipcaaGreatDoor
open Go.RowKit

theorem Below.cell_alloc' {w : World} {ad : Addr} {v : Value} (O : Obj) (h : w.cell? ad = some v) : (w.alloc O).cell? ad = some v := by
  obtain ⟨b, i, s⟩ := ad
  have hlt : b < w.heap.size := by
    apply Classical.byContradiction
    intro hn
    unfold World.cell? at h
    rw [Array.getElem?_eq_none (by show w.heap.size ≤ b; omega)] at h
    cases h
  unfold World.cell? at h ⊢
  rw [show (w.alloc O).heap[b]? = w.heap[b]? from Below.heap_alloc w O b hlt]
  exact h
@[reducible] def cellV (c : TCell) (a1 : Option Addr) (c1 : Nat) (a2 : Option Addr) (c2 : Nat) : Value := .agg #[.bool c.open_, .slice a1 c.chain.length c1, .slice a2 c.p.rules.length c2, .int .i64 c.p.dflt]
theorem cells_true {w : World} {D : Nat → Prop} {v : Value} {l : List TCell} (h : RdCells w D v l) : RdCells w (fun _ => True) v l := h.keep (fun _ _ _ => trivial) (fun _ _ _ => rfl) (Nat.le_refl _)
set_option maxHeartbeats 4000000 in
theorem kksame1_any (x y : TCell) (a1 a2 b1 b2 : Option Addr) (c1 c2 d1 d2 : Nat) (w : World) (h1 : RdChain w (fun _ => True) (.slice a1 x.chain.length c1) x.chain) (h2 : RdRules w (fun _ => True) (.slice a2 x.p.rules.length c2) x.p.rules) (h3 : RdChain w (fun _ => True) (.slice b1 y.chain.length d1) y.chain) (h4 : RdRules w (fun _ => True) (.slice b2 y.p.rules.length d2) y.p.rules) :
    Calls Tryz.prog 99 #[cellV x a1 c1 a2 c2, cellV y b1 d1 b2 d2] w fun e w' => e = .returned (.bool (decide (x = y))) ∧ Below w.heap.size w w' := by
  have H1 := Lib.hid h1
  have H2 := Lib.hid h2
  have H3 := Lib.hid h3
  have H4 := Lib.hid h4
  clear h1 h2 h3 h4
  obtain ⟨ox, cx, px⟩ := x
  obtain ⟨oy, cy, py⟩ := y
  dsimp only at H1 H2 H3 H4 ⊢
  have HB := Lib.hid (Bx.two (w := w) (o := .cells #[.bool ox, .slice a1 cx.length c1, .slice a2 px.rules.length c2, .int .i64 px.dflt] 52) (o' := .cells #[.bool oy, .slice b1 cy.length d1, .slice b2 py.rules.length d2, .int .i64 py.dflt] 52))
  have HD : Hid (decide ((⟨ox, cx, px⟩ : TCell) = ⟨oy, cy, py⟩) = (decide (ox = oy) && decide (cx = cy) && decide (px = py))) := by show _ = _; simp [Bool.and_assoc]
  by_cases ho : ox = oy
  · subst ho
    go_enter Tryz.func99, Tryz.ntmps99
    go_wp2_with fail
    refine (chsame_any _ _ cx cy _ (H1.out.below HB.out.bel) (H3.out.below HB.out.bel)).mono ?_
    rintro e w1 ⟨rfl, hb1⟩
    have HB1 := Lib.hid (HB.out.below hb1)
    clear hb1
    by_cases hc : cx = cy
    · have d1 : decide (cx = cy) = true := decide_eq_true hc
      have HD' : Hid (decide ((⟨ox, cx, px⟩ : TCell) = ⟨ox, cy, py⟩) = decide (px = py)) := by show _ = _; rw [HD.out, d1]; simp
      rw [d1]
      clear hc HD d1
      have hq0 := HB1.out.cells0
      have hq1 := HB1.out.cells1
      go_wp2_with fail
      refine (same_any _ _ px py (fun _ => True) _ (RdRules.below H2.out HB1.out.bel) (RdRules.below H4.out HB1.out.bel)).mono ?_
      rintro e w2 ⟨rfl, hb2⟩
      have HB2 := Lib.hid (HB1.out.below hb2)
      clear hq0 hq1 hb2
      go_wp2
      go_ret
      exact ⟨by rw [HD'.out]; rfl, HB2.out.bel⟩
    · have d1 : decide (cx = cy) = false := decide_eq_false hc
      have HD' : Hid (decide ((⟨ox, cx, px⟩ : TCell) = ⟨ox, cy, py⟩) = false) := by show _ = _; rw [HD.out, d1]; simp
      rw [d1]
      clear hc HD d1
      go_wp2
      go_ret
      exact ⟨by rw [HD'.out]; rfl, HB1.out.bel⟩
  · have d1 : (ox == oy) = false := by simpa using ho
    have HD' : Hid (decide ((⟨ox, cx, px⟩ : TCell) = ⟨oy, cy, py⟩) = false) := by show _ = _; rw [HD.out]; simp [ho]
    clear ho HD
    have HBL : Hid (Below w.heap.size w _) := HB.out.bel
    go_enter Tryz.func99, Tryz.ntmps99
    go_wp2
    go_ret
    exact ⟨by rw [HD'.out]; rfl, HBL.out⟩
set_option maxRecDepth 100000 in
set_option maxHeartbeats 4000000 in
theorem kkeq_any (v u : Value) (xs ys : List TCell) (w : World) (h : RdCells w (fun _ => True) v xs) (h' : RdCells w (fun _ => True) u ys) :
    Calls Tryz.prog 89 #[v, u, .func (.func 99) #[] #[]] w fun e w' => e = .returned (.bool (decide (xs = ys))) ∧ Below w.heap.size w w' := by
  have H := Lib.hid h
  have H' := Lib.hid h'
  obtain ⟨a, c, rfl, hlc, hcm, hat⟩ := Sl.form h
  obtain ⟨a', c', rfl, hlc', hcm', hat'⟩ := Sl.form h'
  clear h h'
  by_cases hl : xs.length = ys.length
  · have Hl := Lib.hid hl
    have hln : ((xs.length : Int) != (ys.length : Int)) = false := by rw [hl]; simp
    clear hl
    go_enter Tryz.func89, Tryz.ntmps89
    go_wp2_with fail
    go_loopw [17] (fun i wr => ∃ k : Nat, k ≤ xs.length ∧ i = .int .i64 k ∧ xs.take k = ys.take k ∧ Below w.heap.size w wr) (fun i _ => xs.length - (intOf i).toNat)
    case atStart => exact ⟨0, by omega, rfl, rfl, Below.refl _ _⟩
    case round =>
      obtain ⟨k, hk, rfl, htk, hbw⟩ := hrel
      have Ht := Lib.hid htk
      have Hb := Lib.hid hbw
      clear htk hbw
      by_cases hlt : k < xs.length
      · obtain ⟨b, o, rfl, _, _⟩ := hat (by omega)
        obtain ⟨b', o', rfl, _, _⟩ := hat' (by rw [← Hl.out]; omega)
        have hlt' : k < ys.length := by rw [← Hl.out]; exact hlt
        obtain ⟨a1, a2, c1, c2, x0, x1, x2, x3, hr1, hp1⟩ := RdCells.cells (H.out.below Hb.out) hlt
        obtain ⟨b1, b2, d1, d2, y0, y1, y2, y3, hr2, hp2⟩ := RdCells.cells (H'.out.below Hb.out) hlt'
        have Hr1 := Lib.hid hr1
        have Hr2 := Lib.hid hr2
        have Hp1 := Lib.hid hp1
        have Hp2 := Lib.hid hp2
        have HC := Lib.hid (Bx.two (w := wr) (o := .cells #[.bool xs[k].open_, .slice a1 xs[k].chain.length c1, .slice a2 xs[k].p.rules.length c2, .int .i64 xs[k].p.dflt] 52) (o' := .cells #[.bool ys[k].open_, .slice b1 ys[k].chain.length d1, .slice b2 ys[k].p.rules.length d2, .int .i64 ys[k].p.dflt] 52))
        have q0 : ∀ O, (wr.alloc O).cell? ⟨b', o' + k * 4, none⟩ = _ := fun O => (Below.cell_alloc' O y0)
        have q1 : ∀ O, (wr.alloc O).cell? ⟨b', o' + k * 4 + 1, none⟩ = _ := fun O => (Below.cell_alloc' O y1)
        have q2 : ∀ O, (wr.alloc O).cell? ⟨b', o' + k * 4 + 2, none⟩ = _ := fun O => (Below.cell_alloc' O y2)
        have q3 : ∀ O, (wr.alloc O).cell? ⟨b', o' + k * 4 + 3, none⟩ = _ := fun O => (Below.cell_alloc' O y3)
        clear hr1 hr2 hp1 hp2
        go_wp2_with fail
        refine (kksame1_any xs[k] ys[k] _ _ _ _ _ _ _ _ _ (Hr1.out.below HC.out.bel) (RdRules.below Hp1.out HC.out.bel) (Hr2.out.below HC.out.bel) (RdRules.below Hp2.out HC.out.bel)).mono ?_
        rintro e w1 ⟨rfl, hb1⟩
        have Hb1 := Lib.hid (bel_call (bel_call Hb.out HC.out.bel) hb1)
        clear hb1 x0 x1 x2 x3 y0 y1 y2 y3 q0 q1 q2 q3 HC
        by_cases he : xs[k] = ys[k]
        · have Hn := Lib.hid (take_eq_step4 hlt hlt' Ht.out he)
          have d : decide (xs[k] = ys[k]) = true := decide_eq_true he
          clear he
          rw [d]
          go_wp2
          go_roundw
          case rel => first | exact ⟨k + 1, by omega, by go_num, Hn.out, Hb1.out⟩ | ((repeat apply Exists.intro); exact ⟨⟨k + 1, by omega, by go_num, Hn.out, Hb1.out⟩, rfl⟩)
          case measure => simp [intOf]; omega
        · have Hn := Lib.hid (ne_of_get4 hlt hlt' he)
          have d : decide (xs[k] = ys[k]) = false := decide_eq_false he
          clear he
          rw [d]
          go_wp2
          go_ret
          exact ⟨by rw [decide_eq_false Hn.out]; rfl, Hb1.out⟩
      · obtain rfl : k = xs.length := by omega
        have Hn : Hid (xs = ys) := by
          have := Ht.out
          rw [List.take_length, Hl.out, List.take_length] at this
          exact this
        go_wp2
        go_ret
        exact ⟨by rw [decide_eq_true Hn.out]; rfl, Hb.out⟩
  · have hn : xs ≠ ys := fun e => hl (by rw [e])
    have hl' : ((xs.length : Int) != (ys.length : Int)) = true := bne_iff_ne.2 (by omega)
    have HD := Lib.hid (decide_eq_false hn)
    clear hn
    go_enter Tryz.func89, Tryz.ntmps89
    go_wp2
    go_ret
    exact ⟨by rw [HD.out]; rfl, Below.refl _ _⟩
set_option maxHeartbeats 1000000 in
theorem keepsame_any (v u : Value) (xs ys : List TCell) (w : World) (h : RdCells w (fun _ => True) v xs) (h' : RdCells w (fun _ => True) u ys) :
    Calls Tryz.prog 60 #[v, u] w fun e w' => e = .returned (.bool (decide (xs = ys))) ∧ Below w.heap.size w w' := by
  have H := Lib.hid h
  have H' := Lib.hid h'
  obtain ⟨a, c, rfl, _⟩ := Sl.form h
  obtain ⟨a', c', rfl, _⟩ := Sl.form h'
  clear h h'
  go_enter Tryz.func60, Tryz.ntmps60
  go_wp2_with fail
  refine (kkeq_any _ _ xs ys w H.out H'.out).mono ?_
  rintro e w1 ⟨rfl, hb1⟩
  go_wp2
  go_ret
  exact ⟨rfl, hb1⟩
end Go.Proofs.YthkgjohhbdipcaaGreatDoor
namespace Go.Proofs.YthkgjohhbdipcaaGreatDoor
open Go.RowKit

theorem slice_ext {b o o' n n' c c' : Nat} (h1 : o = o') (h2 : n = n') (h3 : c = c') : Value.slice (some ⟨b, o, none⟩) n c = .slice (some ⟨b, o', none⟩) n' c' := by subst h1 h2 h3; rfl
set_option maxHeartbeats 2000000 in
theorem ran_ok (v : Value) (l : List TIns) (x : TCall) (D : Nat → Prop) (w : World) (h : RdCode w D v l) (hc : codeE l = 0) :
    Calls Tryz.prog 63 #[v, callV x] w fun e w' => e = .returned (.tuple #[.int .i64 (run l x).1, .int .i64 (run l x).2]) ∧ Below w.heap.size w w' := by
  obtain ⟨hR, hl⟩ := right_of hc
  have hpos : 0 < l.length := List.length_pos_iff.2 hR.ne
  obtain ⟨a, c, rfl, hlc, hcm, hat⟩ := Sl.form h
  obtain ⟨b, o, rfl, hDb, hb⟩ := hat hpos
  have H := Lib.hid h
  have HR := Lib.hid hR
  clear h hR hc hat
  go_enter Tryz.func63, Tryz.ntmps63
  go_wp2_with fail
  go_loopw [0, 6, 7] (fun s n d wr => ∃ (k dn : Nat) (nn : Int), k < l.length ∧ dn ≤ k ∧ s = .slice (some ⟨b, o + k * 4, none⟩) (l.length - k) (c - k) ∧ n = .int .i64 nn ∧ d = .int .i64 (dn + 1) ∧ RunAt x l k nn dn ∧ Below (w.heap.size + 1) (w.alloc (.cells #[.int .i64 x.a0, .int .i64 x.a1, .int .i64 x.a2, .int .i64 x.a3, .int .i64 x.a4] 46)) wr) (fun s _ _ _ => match s with | .slice _ n _ => n | _ => 0)
  case atStart => exact ⟨0, 0, 0, hpos, by omega, by simp, rfl, rfl, RunAt.start x l, Below.refl _ _⟩
  case round =>
    obtain ⟨k, dn, nn, hk, hdn, rfl, rfl, rfl, hrun, hbx⟩ := hrel
    have Hrun := Lib.hid hrun
    have hsz := size_box hbx
    obtain ⟨c0, c1, c2, c3⟩ := RdCode.cells (RdCode.below H.out (bel_box hbx)) hk
    have hcell := box_cells hbx
    obtain ⟨hi, hn4⟩ := HR.out.at_ hk
    have Hn4 := Lib.hid hn4
    clear hrun hn4
    rcases insE_cases hi with ⟨h4, h5, h6, h7, h8⟩ | ⟨h1, h5, h6, h7, h8⟩ | ⟨h23, h5, h6, h7, h8, h9, h10⟩
    · rw [h4] at c0
      have Hr := Lib.hid (Hrun.out.ret hk h4)
      clear hi h4 h5 h6 h7 h8
      go_wp2
      all_goals go_ret2
      all_goals exact ⟨by rw [Hr.out]; simp, bel_alloc (bel_box hbx) _⟩
    · obtain ⟨m, hm⟩ := Int.eq_ofNat_of_zero_le h5
      have Hn := Lib.hid (Hrun.out.load hk h1)
      have hk1 := Hn4.out (by omega)
      rw [h1] at c0
      rw [hm] at c1 Hn
      have hm5 : m < 5 := by omega
      have hcm := hcell m
      rw [cell5 x m hm5] at hcm
      have hcm' : ∀ o, (wr.alloc o).cell? ⟨w.heap.size, m, none⟩ = some (.int .i64 (x.get m)) := fun o => (World.cell?_alloc_lt wr o ⟨w.heap.size, m, none⟩ (show w.heap.size < wr.heap.size by omega)).trans hcm
      clear hi h1 h5 h6 h7 h8 hm hcell Hrun
      go_wp2
      go_roundw
      case rel => exact ⟨k + 1, dn + 1, _, hk1, by omega, slice_ext (by omega) (by omega) (by omega), rfl, by go_num, Hn.out, hbx.trans ((Below.refl _ _).alloc (size_box hbx) _)⟩
      case measure => simp; omega
    · obtain ⟨mb, hmb⟩ := Int.eq_ofNat_of_zero_le h7
      obtain ⟨mc, hmc⟩ := Int.eq_ofNat_of_zero_le h9
      have Hn := Lib.hid (Hrun.out.jump hk h23)
      rw [hmb] at c2
      rw [hmc] at c3
      have hx : Hid (insNext l[k] nn = if (l[k].k = 2 ∧ nn = l[k].a) ∨ (l[k].k = 3 ∧ nn < l[k].a) then mb else mc) := by unfold insNext; rw [hmb, hmc]; rfl
      have hb1 : k + 1 + mb < l.length := by omega
      have hb2 : k + 1 + mc < l.length := by omega
      clear hi h5 h6 h7 h8 h9 h10 hmb hmc hcell Hrun
      rcases h23 with h2 | h3
      · rw [h2] at c0
        by_cases he : nn = l[k].a
        · have be : (nn == l[k].a) = true := beq_iff_eq.2 he
          have Hm : Hid (insNext l[k] nn = mb) := by rw [hx.out]; exact if_pos (.inl ⟨h2, he⟩)
          clear he h2 hx
          go_wp2
          go_roundw
          case rel => exact ⟨k + 1 + mb, dn + 1, nn, hb1, by omega, slice_ext (by omega) (by omega) (by omega), rfl, by go_num, by have := Hn.out; rwa [Hm.out] at this, hbx.trans ((Below.refl _ _).alloc (size_box hbx) _)⟩
          case measure => simp; omega
        · have be : (nn == l[k].a) = false := beq_eq_false_iff_ne.2 he
          have Hm : Hid (insNext l[k] nn = mc) := by rw [hx.out]; exact if_neg (by omega)
          clear he h2 hx
          go_wp2
          go_roundw
          case rel => exact ⟨k + 1 + mc, dn + 1, nn, hb2, by omega, slice_ext (by omega) (by omega) (by omega), rfl, by go_num, by have := Hn.out; rwa [Hm.out] at this, hbx.trans ((Below.refl _ _).alloc (size_box hbx) _)⟩
          case measure => simp; omega
      · rw [h3] at c0
        by_cases he : nn < l[k].a
        · have Hm : Hid (insNext l[k] nn = mb) := by rw [hx.out]; exact if_pos (.inr ⟨h3, he⟩)
          clear h3 hx
          go_wp2
          go_roundw
          case rel => exact ⟨k + 1 + mb, dn + 1, nn, hb1, by omega, slice_ext (by omega) (by omega) (by omega), rfl, by go_num, by have := Hn.out; rwa [Hm.out] at this, hbx.trans ((Below.refl _ _).alloc (size_box hbx) _)⟩
          case measure => simp; omega
        · have Hm : Hid (insNext l[k] nn = mc) := by rw [hx.out]; exact if_neg (by omega)
          clear h3 hx
          go_wp2
          go_roundw
          case rel => exact ⟨k + 1 + mc, dn + 1, nn, hb2, by omega, slice_ext (by omega) (by omega) (by omega), rfl, by go_num, by have := Hn.out; rwa [Hm.out] at this, hbx.trans ((Below.refl _ _).alloc (size_box hbx) _)⟩
          case measure => simp; omega

set_option maxHeartbeats 4000000 in
theorem rcheckcode_any (v : Value) (l : List TIns) (D : Nat → Prop) (w : World) (h : RdCode w D v l) : Calls Tryz.prog 157 #[v] w fun e w' => e = .returned (.int .i64 (codeE l)) ∧ Below w.heap.size w w' := by
  obtain ⟨a, c, rfl, hlc, hcm, hat⟩ := Sl.form h
  have H := Lib.hid h
  clear h
  by_cases h0 : ¬ (1 ≤ (l.length : Int) ∧ (l.length : Int) ≤ 1500)
  · have d := inB_no h0
    have hs : codeE l = 2 := if_pos (by omega)
    rw [hs]; clear hs hat H h0
    go_enter Tryz.func157, Tryz.ntmps157
    go_wp2_with (go_at_call 56; refine (in_any _ _ _ _).mono ?_; rintro e w1 ⟨rfl, rfl⟩)
    go_ret
    exact ⟨rfl, Below.refl _ _⟩
  · obtain ⟨b, o, rfl, hDb, hb⟩ := hat (by omega)
    have d := inB_yes (n := (l.length : Int)) (a := 1) (b := 1500) (by omega) (by omega)
    have hE := Lib.hid (show codeE l = if codeGo l ≠ 0 then codeGo l else if lastK l = 4 then 0 else 4 from if_neg (by omega))
    have h1 : 1 ≤ l.length := by omega
    clear hat h0
    go_enter Tryz.func157, Tryz.ntmps157
    go_wp2_with (go_at_call 56; refine (in_any _ _ _ _).mono ?_; rintro e w1 ⟨rfl, rfl⟩)
    go_loopw [14] (fun i wr => ∃ k : Nat, k ≤ l.length ∧ i = .int .i64 k ∧ codeGo l = codeGo (l.drop k) ∧ Below w.heap.size w wr) (fun i _ => l.length - (intOf i).toNat)
    case atStart => exact ⟨0, by omega, rfl, rfl, Below.refl _ _⟩
    case round =>
      obtain ⟨k, hk, rfl, hgo, hbw⟩ := hrel
      have Hgo := Lib.hid hgo
      clear hgo d
      by_cases hlt : k < l.length
      · obtain ⟨c0, c1, c2, c3⟩ := RdCode.cells (RdCode.below H.out hbw) hlt
        have hsz := hbw.size
        have bad : ∀ e : Int, insE l[k] ((l.length : Int) - 1 - k) = e → e ≠ 0 → ∀ wz, Below w.heap.size w wz → Ending.returned (.int .i64 e) = .returned (.int .i64 (codeE l)) ∧ Below w.heap.size w wz := fun e he h0 wz hz => by
          refine ⟨ret_int ?_, hz⟩
          rw [hE.out, Hgo.out, codeGo_drop l k hlt, he, if_neg h0, if_pos h0]
        have good : insE l[k] ((l.length : Int) - 1 - k) = 0 → codeGo l = codeGo (l.drop (k + 1)) := fun he => by rw [Hgo.out, codeGo_drop l k hlt, if_pos he]
        have hx := Lib.hid (show insE l[k] ((l.length : Int) - 1 - k) = _ from rfl)
        generalize hX : l[k] = X at *
        clear hX hx
        obtain ⟨xk, xa, xb, xc⟩ := X
        dsimp only at c0 c1 c2 c3
        have Hbad := Lib.hid bad
        have Hgood := Lib.hid good
        clear bad good
        by_cases hA : xk = 1 ∨ xk = 4
        · by_cases hbz : xb = 0
          · subst hbz
            by_cases hcz : xc = 0
            · subst hcz
              by_cases ha : 0 ≤ xa ∧ xa ≤ 4
              · have d := inB_yes ha.1 ha.2
                have Hg := Lib.hid (Hgood.out (by simp [insE, hA]; omega))
                clear Hbad Hgood ha
                rcases hA with rfl | rfl
                · go_wp2_with (go_at_call 56; refine (in_any _ _ _ _).mono ?_; rintro e w1 ⟨rfl, rfl⟩)
                  go_roundw
                  case rel => exact ⟨k + 1, by omega, by go_num, Hg.out, bel_alloc hbw _⟩
                  case measure => simp [intOf]; omega
                · go_wp2_with (go_at_call 56; refine (in_any _ _ _ _).mono ?_; rintro e w1 ⟨rfl, rfl⟩)
                  go_roundw
                  case rel => exact ⟨k + 1, by omega, by go_num, Hg.out, bel_alloc hbw _⟩
                  case measure => simp [intOf]; omega
              · have d := inB_no ha
                have Hb := Lib.hid (Hbad.out 3 (by simp only [insE, hA]; simp; omega) (by decide))
                clear Hbad Hgood ha
                rcases hA with rfl | rfl
                · go_wp2_with (go_at_call 56; refine (in_any _ _ _ _).mono ?_; rintro e w1 ⟨rfl, rfl⟩)
                  go_ret
                  exact Hb.out _ (bel_alloc hbw _)
                · go_wp2_with (go_at_call 56; refine (in_any _ _ _ _).mono ?_; rintro e w1 ⟨rfl, rfl⟩)
                  go_ret
                  exact Hb.out _ (bel_alloc hbw _)
            · have bz : (xc != 0) = true := bne_iff_ne.2 hcz
              have Hb := Lib.hid (Hbad.out 4 (by simp [insE, hA, hcz]) (by decide))
              clear Hbad Hgood hcz
              rcases hA with rfl | rfl
              · go_wp2_with (go_at_call 56; refine (in_any _ _ _ _).mono ?_; rintro e w1 ⟨rfl, rfl⟩)
                go_ret
                exact Hb.out _ (bel_alloc hbw _)
              · go_wp2_with (go_at_call 56; refine (in_any _ _ _ _).mono ?_; rintro e w1 ⟨rfl, rfl⟩)
                go_ret
                exact Hb.out _ (bel_alloc hbw _)
          · have bz : (xb != 0) = true := bne_iff_ne.2 hbz
            have Hb := Lib.hid (Hbad.out 4 (by simp [insE, hA, hbz]) (by decide))
            clear Hbad Hgood hbz
            rcases hA with rfl | rfl
            · go_wp2_with (go_at_call 56; refine (in_any _ _ _ _).mono ?_; rintro e w1 ⟨rfl, rfl⟩)
              go_ret
              exact Hb.out _ (bel_alloc hbw _)
            · go_wp2_with (go_at_call 56; refine (in_any _ _ _ _).mono ?_; rintro e w1 ⟨rfl, rfl⟩)
              go_ret
              exact Hb.out _ (bel_alloc hbw _)
        · by_cases hB : xk = 2 ∨ xk = 3
          · have hA1 : ¬ (xk = 1) := fun e => hA (.inl e)
            have hA4 : ¬ (xk = 4) := fun e => hA (.inr e)
            by_cases ha : 0 ≤ xa ∧ xa ≤ 65535
            · have d := inB_yes ha.1 ha.2
              have Hgood' : Hid (0 ≤ xb ∧ xb < (l.length : Int) - 1 - k → 0 ≤ xc ∧ xc < (l.length : Int) - 1 - k → codeGo l = codeGo (l.drop (k + 1))) := fun h1 h2 => Hgood.out (by simp only [insE, if_neg hA, if_pos hB]; rw [if_neg (by omega), if_neg (by omega)])
              have Hbad' : Hid (¬ (0 ≤ xb ∧ xb < (l.length : Int) - 1 - k) ∨ ¬ (0 ≤ xc ∧ xc < (l.length : Int) - 1 - k) → ∀ wz, Below w.heap.size w wz → Ending.returned (.int .i64 5) = .returned (.int .i64 (codeE l)) ∧ Below w.heap.size w wz) := fun h1 => Hbad.out 5 (by simp only [insE, if_neg hA, if_pos hB]; rw [if_neg (by omega), if_pos (by omega)]) (by decide)
              clear Hbad Hgood ha hA hA1 hA4
              rcases hB with rfl | rfl
              · go_wp2_with (go_at_call 56; refine (in_any _ _ _ _).mono ?_; rintro e w1 ⟨rfl, rfl⟩)
                go_loop [54] (fun i => ∃ j : Nat, j ≤ 2 ∧ i = .int .i64 j ∧ Hid (1 ≤ j → 0 ≤ xb ∧ xb < (l.length : Int) - 1 - k) ∧ Hid (2 ≤ j → 0 ≤ xc ∧ xc < (l.length : Int) - 1 - k)) (fun i => 2 - (intOf i).toNat)
                case atStart => exact ⟨0, by omega, rfl, fun h => absurd h (by omega), fun h => absurd h (by omega)⟩
                case round =>
                  obtain ⟨j, hj, rfl, hj1, hj2⟩ := hrel
                  have hjj : j = 0 ∨ j = 1 ∨ j = 2 := by omega
                  rcases hjj with rfl | rfl | rfl
                  · by_cases hq : 0 ≤ xb ∧ xb < (l.length : Int) - 1 - k
                    · have Hq := Lib.hid hq
                      obtain ⟨hq1, hq2⟩ := hq
                      go_wp2
                      go_round
                      case rel => exact ⟨1, by omega, rfl, fun _ => Hq.out, fun h => absurd h (by omega)⟩
                      case measure => simp [intOf]
                    · have Hf := Lib.hid (Hbad'.out (.inl hq))
                      by_cases hq1 : xb < 0
                      · clear hq
                        go_wp2
                        go_ret
                        exact Hf.out _ (bel_alloc (bel_alloc hbw _) _)
                      · have hq2 : (l.length : Int) - 1 - k ≤ xb := by omega
                        clear hq
                        go_wp2
                        go_ret
                        exact Hf.out _ (bel_alloc (bel_alloc hbw _) _)
                  · by_cases hq : 0 ≤ xc ∧ xc < (l.length : Int) - 1 - k
                    · have Hq := Lib.hid hq
                      obtain ⟨hq1, hq2⟩ := hq
                      go_wp2
                      go_round
                      case rel => exact ⟨2, by omega, rfl, fun _ => hj1.out (by omega), fun _ => Hq.out⟩
                      case measure => simp [intOf]
                    · have Hf := Lib.hid (Hbad'.out (.inr hq))
                      by_cases hq1 : xc < 0
                      · clear hq
                        go_wp2
                        go_ret
                        exact Hf.out _ (bel_alloc (bel_alloc hbw _) _)
                      · have hq2 : (l.length : Int) - 1 - k ≤ xc := by omega
                        clear hq
                        go_wp2
                        go_ret
                        exact Hf.out _ (bel_alloc (bel_alloc hbw _) _)
                  · have Hg := Lib.hid (Hgood'.out (hj1.out (by omega)) (hj2.out (by omega)))
                    go_wp2
                    go_roundw
                    case rel => exact ⟨k + 1, by omega, by go_num, Hg.out, bel_alloc (bel_alloc hbw _) _⟩
                    case measure => simp [intOf]; omega
              · go_wp2_with (go_at_call 56; refine (in_any _ _ _ _).mono ?_; rintro e w1 ⟨rfl, rfl⟩)
                go_loop [54] (fun i => ∃ j : Nat, j ≤ 2 ∧ i = .int .i64 j ∧ Hid (1 ≤ j → 0 ≤ xb ∧ xb < (l.length : Int) - 1 - k) ∧ Hid (2 ≤ j → 0 ≤ xc ∧ xc < (l.length : Int) - 1 - k)) (fun i => 2 - (intOf i).toNat)
                case atStart => exact ⟨0, by omega, rfl, fun h => absurd h (by omega), fun h => absurd h (by omega)⟩
                case round =>
                  obtain ⟨j, hj, rfl, hj1, hj2⟩ := hrel
                  have hjj : j = 0 ∨ j = 1 ∨ j = 2 := by omega
                  rcases hjj with rfl | rfl | rfl
                  · by_cases hq : 0 ≤ xb ∧ xb < (l.length : Int) - 1 - k
                    · have Hq := Lib.hid hq
                      obtain ⟨hq1, hq2⟩ := hq
                      go_wp2
                      go_round
                      case rel => exact ⟨1, by omega, rfl, fun _ => Hq.out, fun h => absurd h (by omega)⟩
                      case measure => simp [intOf]
                    · have Hf := Lib.hid (Hbad'.out (.inl hq))
                      by_cases hq1 : xb < 0
                      · clear hq
                        go_wp2
                        go_ret
                        exact Hf.out _ (bel_alloc (bel_alloc hbw _) _)
                      · have hq2 : (l.length : Int) - 1 - k ≤ xb := by omega
                        clear hq
                        go_wp2
                        go_ret
                        exact Hf.out _ (bel_alloc (bel_alloc hbw _) _)
                  · by_cases hq : 0 ≤ xc ∧ xc < (l.length : Int) - 1 - k
                    · have Hq := Lib.hid hq
                      obtain ⟨hq1, hq2⟩ := hq
                      go_wp2
                      go_round
                      case rel => exact ⟨2, by omega, rfl, fun _ => hj1.out (by omega), fun _ => Hq.out⟩
                      case measure => simp [intOf]
                    · have Hf := Lib.hid (Hbad'.out (.inr hq))
                      by_cases hq1 : xc < 0
                      · clear hq
                        go_wp2
                        go_ret
                        exact Hf.out _ (bel_alloc (bel_alloc hbw _) _)
                      · have hq2 : (l.length : Int) - 1 - k ≤ xc := by omega
                        clear hq
                        go_wp2
                        go_ret
                        exact Hf.out _ (bel_alloc (bel_alloc hbw _) _)
                  · have Hg := Lib.hid (Hgood'.out (hj1.out (by omega)) (hj2.out (by omega)))
                    go_wp2
                    go_roundw
                    case rel => exact ⟨k + 1, by omega, by go_num, Hg.out, bel_alloc (bel_alloc hbw _) _⟩
                    case measure => simp [intOf]; omega
            · have d := inB_no ha
              have Hb := Lib.hid (Hbad.out 3 (by simp only [insE, if_neg hA, if_pos hB]; rw [if_pos (by omega)]) (by decide))
              clear Hbad Hgood ha hA hA1 hA4
              rcases hB with rfl | rfl
              · go_wp2_with (go_at_call 56; refine (in_any _ _ _ _).mono ?_; rintro e w1 ⟨rfl, rfl⟩)
                go_ret
                exact Hb.out _ (bel_alloc hbw _)
              · go_wp2_with (go_at_call 56; refine (in_any _ _ _ _).mono ?_; rintro e w1 ⟨rfl, rfl⟩)
                go_ret
                exact Hb.out _ (bel_alloc hbw _)
          · have e1 : (xk == 1) = false := beq_eq_false_iff_ne.2 (by omega)
            have e2 : (xk == 2) = false := beq_eq_false_iff_ne.2 (by omega)
            have e3 : (xk == 3) = false := beq_eq_false_iff_ne.2 (by omega)
            have e4 : (xk == 4) = false := beq_eq_false_iff_ne.2 (by omega)
            have Hb := Lib.hid (Hbad.out 4 (by simp only [insE, if_neg hA, if_neg hB]) (by decide))
            clear Hbad Hgood hA hB
            go_wp2
            go_ret
            exact Hb.out _ (bel_alloc hbw _)
      · obtain rfl : k = l.length := by omega
        have hz : codeGo l = 0 := by rw [Hgo.out, List.drop_length]; rfl
        have Hz := Lib.hid hz
        have hl1 : l.length - 1 < l.length := by omega
        obtain ⟨c0, _, _, _⟩ := RdCode.cells (RdCode.below H.out hbw) hl1
        have Hl := Lib.hid (lastK_eq l (by omega))
        clear hz
        by_cases h4 : l[l.length - 1].k = 4
        · rw [h4] at c0
          have Hf := Lib.hid (show codeE l = 0 by rw [hE.out, Hz.out, Hl.out, h4]; simp)
          clear h4
          go_wp2
          go_ret
          exact ⟨ret_int Hf.out.symm, hbw⟩
        · have b4 : (l[l.length - 1].k != 4) = true := bne_iff_ne.2 h4
          have Hf := Lib.hid (show codeE l = 4 by rw [hE.out, Hz.out, Hl.out, if_neg h4]; simp)
          clear h4
          go_wp2
          go_ret
          exact ⟨ret_int Hf.out.symm, hbw⟩
end Go.Proofs.YthkgjohhbdipcaaGreatDoor
namespace Go.Proofs.YthkgjohhbdipcaaGreatDoor
open Go.RowKit

set_option maxHeartbeats 1000000 in
theorem rchsame1_any (v u : Value) (f g : List TIns) (w : World) (h : RdCode w (fun _ => True) v f) (h' : RdCode w (fun _ => True) u g) :
    Calls Tryz.prog 130 #[v, u] w fun e w' => e = .returned (.bool (decide (f = g))) ∧ Below w.heap.size w w' := by
  have H := Lib.hid h
  have H' := Lib.hid h'
  obtain ⟨a, c, rfl, _⟩ := Sl.form h
  obtain ⟨a', c', rfl, _⟩ := Sl.form h'
  clear h h'
  go_enter Tryz.func130, Tryz.ntmps130
  go_wp2_with fail
  refine (eqins_any _ _ f g _ w H.out H'.out).mono ?_
  rintro e w1 ⟨rfl, hb1⟩
  go_wp2
  go_ret
  exact ⟨rfl, hb1⟩
set_option maxHeartbeats 4000000 in
theorem rcheq_any (v u : Value) (xs ys : List (List TIns)) (w : World) (h : RdChain w (fun _ => True) v xs) (h' : RdChain w (fun _ => True) u ys) :
    Calls Tryz.prog 129 #[v, u, .func (.func 130) #[] #[]] w fun e w' => e = .returned (.bool (decide (xs = ys))) ∧ Below w.heap.size w w' := by
  have H := Lib.hid h
  have H' := Lib.hid h'
  obtain ⟨a, c, rfl, hlc, hcm, hat⟩ := Sl.form h
  obtain ⟨a', c', rfl, hlc', hcm', hat'⟩ := Sl.form h'
  clear h h'
  by_cases hl : xs.length = ys.length
  · have Hl := Lib.hid hl
    have hln : ((xs.length : Int) != (ys.length : Int)) = false := by rw [hl]; simp
    clear hl
    go_enter Tryz.func129, Tryz.ntmps129
    go_wp2_with fail
    go_loopw [17] (fun i wr => ∃ k : Nat, k ≤ xs.length ∧ i = .int .i64 k ∧ xs.take k = ys.take k ∧ Below w.heap.size w wr) (fun i _ => xs.length - (intOf i).toNat)
    case atStart => exact ⟨0, by omega, rfl, rfl, Below.refl _ _⟩
    case round =>
      obtain ⟨k, hk, rfl, htk, hbw⟩ := hrel
      have Ht := Lib.hid htk
      have Hb := Lib.hid hbw
      clear htk hbw
      by_cases hlt : k < xs.length
      · obtain ⟨b, o, rfl, _, _⟩ := hat (by omega)
        obtain ⟨b', o', rfl, _, _⟩ := hat' (by rw [← Hl.out]; omega)
        have hlt' : k < ys.length := by rw [← Hl.out]; exact hlt
        obtain ⟨a1, c1, hc1, hr1⟩ := RdChain.cells (H.out.below Hb.out) hlt
        obtain ⟨a2, c2, hc2, hr2⟩ := RdChain.cells (H'.out.below Hb.out) hlt'
        have Hr1 := Lib.hid hr1
        have Hr2 := Lib.hid hr2
        clear hr1 hr2
        go_wp2_with fail
        refine (rchsame1_any _ _ xs[k] ys[k] _ Hr1.out Hr2.out).mono ?_
        rintro e w1 ⟨rfl, hb1⟩
        have Hb1 := Lib.hid (bel_call Hb.out hb1)
        clear hb1 hc1 hc2
        by_cases he : xs[k] = ys[k]
        · have Hn := Lib.hid (take_eq_step4 hlt hlt' Ht.out he)
          have d : decide (xs[k] = ys[k]) = true := decide_eq_true he
          clear he
          rw [d]
          go_wp2
          go_roundw
          case rel => first | exact ⟨k + 1, by omega, by go_num, Hn.out, Hb1.out⟩ | ((repeat apply Exists.intro); exact ⟨⟨k + 1, by omega, by go_num, Hn.out, Hb1.out⟩, rfl⟩)
          case measure => simp [intOf]; omega
        · have Hn := Lib.hid (ne_of_get4 hlt hlt' he)
          have d : decide (xs[k] = ys[k]) = false := decide_eq_false he
          clear he
          rw [d]
          go_wp2
          go_ret
          exact ⟨by rw [decide_eq_false Hn.out]; rfl, Hb1.out⟩
      · obtain rfl : k = xs.length := by omega
        have Hn : Hid (xs = ys) := by
          have := Ht.out
          rw [List.take_length, Hl.out, List.take_length] at this
          exact this
        go_wp2
        go_ret
        exact ⟨by rw [decide_eq_true Hn.out]; rfl, Hb.out⟩
  · have hn : xs ≠ ys := fun e => hl (by rw [e])
    have hl' : ((xs.length : Int) != (ys.length : Int)) = true := bne_iff_ne.2 (by omega)
    have HD := Lib.hid (decide_eq_false hn)
    clear hn
    go_enter Tryz.func129, Tryz.ntmps129
    go_wp2
    go_ret
    exact ⟨by rw [HD.out]; rfl, Below.refl _ _⟩
set_option maxHeartbeats 1000000 in
theorem rchsame_any (v u : Value) (xs ys : List (List TIns)) (w : World) (h : RdChain w (fun _ => True) v xs) (h' : RdChain w (fun _ => True) u ys) :
    Calls Tryz.prog 91 #[v, u] w fun e w' => e = .returned (.bool (decide (xs = ys))) ∧ Below w.heap.size w w' := by
  have H := Lib.hid h
  have H' := Lib.hid h'
  obtain ⟨a, c, rfl, _⟩ := Sl.form h
  obtain ⟨a', c', rfl, _⟩ := Sl.form h'
  clear h h'
  go_enter Tryz.func91, Tryz.ntmps91
  go_wp2_with fail
  refine (rcheq_any _ _ xs ys w H.out H'.out).mono ?_
  rintro e w1 ⟨rfl, hb1⟩
  go_wp2
  go_ret
  exact ⟨rfl, hb1⟩
set_option maxHeartbeats 4000000 in
set_option maxHeartbeats 4000000 in
theorem rchcheck_any (v : Value) (l : List (List TIns)) (D : Nat → Prop) (w : World) (h : RdChain w D v l) :
    Calls Tryz.prog 132 #[v] w fun e w' => e = .returned (.int .i64 (chainE l)) ∧ Below w.heap.size w w' := by
  obtain ⟨a, c, rfl, hlc, hcm, hat⟩ := Sl.form h
  have H := Lib.hid h
  clear h
  go_enter Tryz.func132, Tryz.ntmps132
  by_cases h6 : 6 < l.length
  · have hE : chainE l = 2 := by unfold chainE; rw [if_pos h6]
    rw [hE]
    go_wp2
    go_ret
    exact ⟨rfl, Below.refl _ _⟩
  · have HE : Hid (chainE l = codesGo l) := by show chainE l = _; unfold chainE; rw [if_neg h6]
    go_wp2_with fail
    go_loopw [11] (fun kv wr => ∃ k : Nat, kv = .int .i64 k ∧ k ≤ l.length ∧ codesGo l = codesGo (l.drop k) ∧ Below w.heap.size w wr) (fun kv _ => l.length - (intOf kv).toNat)
    case atStart => exact ⟨0, rfl, by omega, rfl, Below.refl _ _⟩
    case round =>
      obtain ⟨k, rfl, hk, hd, hb⟩ := hrel
      have Hd := Lib.hid hd
      have Hb := Lib.hid hb
      clear hd hb
      by_cases hlt : k < l.length
      · obtain ⟨b, o, rfl, _, _⟩ := hat (by omega)
        obtain ⟨a', c', hc, hr⟩ := RdChain.cells (H.out.below Hb.out) hlt
        have Hr := Lib.hid hr
        have Hdk := Lib.hid (codesGo_drop l k hlt)
        obtain ⟨f, hf⟩ : ∃ f, l[k] = f := ⟨_, rfl⟩
        rw [hf] at hc Hr Hdk
        clear hr hf
        go_wp2_with fail
        refine (rcheckcode_any _ f _ _ Hr.out).mono ?_
        rintro e w1 ⟨rfl, hb1⟩
        have Hb1 := Lib.hid (bel_call Hb.out hb1)
        clear hb1 hc
        by_cases h0 : codeE f = 0
        · have Hn : Hid (codesGo l = codesGo (l.drop (k + 1))) := by show _ = _; rw [Hd.out, Hdk.out, if_pos h0]
          rw [h0]
          clear h0
          go_wp2
          go_roundw
          case rel => exact ⟨k + 1, by go_num, by omega, Hn.out, Hb1.out⟩
          case measure => simp [intOf]; omega
        · have Hn : Hid (chainE l = codeE f) := by show _ = _; rw [HE.out, Hd.out, Hdk.out, if_neg h0]
          have hb0 : (codeE f != 0) = true := bne_iff_ne.2 h0
          clear h0
          go_wp2
          go_ret
          exact ⟨ret_int Hn.out.symm, Hb1.out⟩
      · obtain rfl : k = l.length := by omega
        have Hn : Hid (chainE l = 0) := by show _ = _; rw [HE.out, Hd.out, List.drop_length]; rfl
        go_wp2
        go_ret
        exact ⟨ret_int Hn.out.symm, Hb.out⟩
set_option maxHeartbeats 4000000 in
theorem rasked_any (v : Value) (l : List (List TIns)) (x : TCall) (D : Nat → Prop) (w : World) (h : RdChain w D v l) (hok : ∀ f ∈ l, codeE f = 0) (hx : x.ok) :
    Calls Tryz.prog 24 #[v, callV x] w fun e w' => e = .returned (.int .i64 (asked l x)) ∧ Below w.heap.size w w' := by
  obtain ⟨a, c, rfl, hlc, hcm, hat⟩ := Sl.form h
  have H := Lib.hid h
  have Hok := Lib.hid hok
  have Hx := Lib.hid hx
  clear h hok hx
  go_enter Tryz.func24, Tryz.ntmps24
  go_wp2_with fail
  have HB := Lib.hid (Bx.one (w := w) (o := .cells #[.int .i64 x.a0, .int .i64 x.a1, .int .i64 x.a2, .int .i64 x.a3, .int .i64 x.a4] 46))
  go_loopw [5, 12] (fun vv kv wr => ∃ (k : Nat) (t : Int), kv = .int .i64 k ∧ vv = .int .i64 t ∧ k ≤ l.length ∧ asked l x = askGo x (l.drop k) t ∧ Bx w [.cells #[.int .i64 x.a0, .int .i64 x.a1, .int .i64 x.a2, .int .i64 x.a3, .int .i64 x.a4] 46] wr) (fun _ kv _ => l.length - (intOf kv).toNat)
  case atStart => exact ⟨0, 4, rfl, rfl, by omega, rfl, HB.out⟩
  case round =>
    obtain ⟨k, t, rfl, rfl, hk, hd, hb⟩ := hrel
    have Hd := Lib.hid hd
    have HBr := Lib.hid hb
    clear hd hb
    by_cases hlt : k < l.length
    · obtain ⟨b, o, rfl, _, _⟩ := hat (by omega)
      obtain ⟨a', c', hc, hr⟩ := RdChain.cells (H.out.below HBr.out.bel) hlt
      have Hr := Lib.hid hr
      have Hck := Lib.hid (Hok.out l[k] (List.getElem_mem hlt))
      have Hdk := Lib.hid (askGo_drop x l k t hlt)
      obtain ⟨f, hf⟩ : ∃ f, l[k] = f := ⟨_, rfl⟩
      rw [hf] at hc Hr Hdk Hck
      have hc0 := HBr.out.cells0
      clear hr hf
      go_wp2_with fail
      refine (ran_ok _ f x _ _ Hr.out Hck.out).mono ?_
      rintro e w3 ⟨rfl, hb3⟩
      have HB3 := Lib.hid (HBr.out.below hb3)
      clear hb3 hc hc0
      obtain ⟨u, hu⟩ : ∃ u, (run f x).1 = u := ⟨_, rfl⟩
      rw [hu] at Hdk ⊢
      have Hn : Hid (asked l x = askGo x (l.drop (k + 1)) (minOf t u)) := by show _ = _; rw [Hd.out, Hdk.out]
      by_cases htu : u < t
      · have hd1 : decide (u < t) = true := decide_eq_true htu
        have e1 : minOf t u = u := by unfold minOf; rw [if_neg (by omega)]
        rw [e1] at Hn
        clear htu e1
        go_wp2
        go_roundw
        case rel => exact ⟨k + 1, u, by go_num, rfl, by omega, Hn.out, HB3.out⟩
        case measure => simp [intOf]; omega
      · have hd1 : decide (u < t) = false := decide_eq_false htu
        have e1 : minOf t u = t := by unfold minOf; rw [if_pos (by omega)]
        rw [e1] at Hn
        clear htu e1
        go_wp2
        go_roundw
        case rel => exact ⟨k + 1, t, by go_num, rfl, by omega, Hn.out, HB3.out⟩
        case measure => simp [intOf]; omega
    · obtain rfl : k = l.length := by omega
      have Hn : Hid (asked l x = t) := by show _ = _; rw [Hd.out, List.drop_length]; rfl
      have HBf := Lib.hid HBr.out.bel
      go_wp2
      go_ret
      exact ⟨ret_int Hn.out.symm, HBf.out⟩
end Go.Proofs.YthkgjohhbdipcaaGreatDoor
namespace Go.Proofs.YthkgjohhbdipcaaGreatDoor
open Go.RowKit
attribute [local go_sem] gives givesUpon

theorem box2_step' {w wr w1 : World} {o o' : Obj} (hb : Below (w.heap.size + 2) ((w.alloc o).alloc o') wr) (h1 : Below wr.heap.size wr w1) : Below (w.heap.size + 2) ((w.alloc o).alloc o') w1 := hb.trans (h1.mono (size_box2 hb))

set_option maxHeartbeats 4000000 in
theorem rsame_any (v u : Value) (p q : TPol) (D : Nat → Prop) (w : World) (h : RdRules w D v p.rules) (h' : RdRules w D u q.rules) :
    Calls Tryz.prog 75 #[polV v p.dflt, polV u q.dflt] w fun e w' => e = .returned (.bool (decide (p = q))) ∧ Below w.heap.size w w' := by
  obtain ⟨xs, pd⟩ := p
  obtain ⟨ys, qd⟩ := q
  dsimp only at h h' ⊢
  obtain ⟨a, c, rfl, hlc, hcm, hat⟩ := Sl.form h
  obtain ⟨a', c', rfl, hlc', hcm', hat'⟩ := Sl.form h'
  have H := Lib.hid h
  have H' := Lib.hid h'
  clear h h'
  by_cases hv : pd = qd
  · have b0 : (pd != qd) = false := bne_eq_false_iff_eq.2 hv
    have hd : decide ((⟨xs, pd⟩ : TPol) = ⟨ys, qd⟩) = decide (xs = ys) := by rw [decide_eq_decide]; simp [hv]
    rw [hd]
    clear hd hv
    by_cases hl : xs.length = ys.length
    · have b1 : ((xs.length : Int) != (ys.length : Int)) = false := bne_eq_false_iff_eq.2 (by omega)
      have hl' := Lib.hid hl
      have hl1 : xs.length ≤ ys.length := by omega
      have hl2 : ys.length ≤ xs.length := by omega
      clear hl
      go_enter Tryz.func75, Tryz.ntmps75
      go_wp2_with fail
      go_loopw [24] (fun i wr => ∃ k : Nat, k ≤ xs.length ∧ i = .int .i64 k ∧ xs.take k = ys.take k ∧ Below (w.heap.size + 2) ((w.alloc (.cells #[.slice a xs.length c, .int .i64 pd] 38)).alloc (.cells #[.slice a' ys.length c', .int .i64 qd] 38)) wr) (fun i _ => xs.length - (intOf i).toNat)
      case atStart => exact ⟨0, by omega, rfl, rfl, Below.refl _ _⟩
      case round =>
        obtain ⟨k, hk, rfl, htk, hbx⟩ := hrel
        have Ht := Lib.hid htk
        have Hbx := Lib.hid hbx
        have Hb := Lib.hid (bel_box2 hbx)
        have hsz := size_box2 hbx
        obtain ⟨hc1, hc2⟩ := box2_cells hbx
        clear htk hbx
        by_cases hlt : k < xs.length
        · obtain ⟨b, o, rfl, hDb, hb⟩ := hat (by omega)
          obtain ⟨b', o', rfl, hDb', hb'⟩ := hat' (by omega)
          have hlt' : k < ys.length := by omega
          obtain ⟨ra, rc, k0, k1, hr, hlr, hcr, _⟩ := RdRules.cells (RdRules.below H.out Hb.out) hlt
          obtain ⟨qa, qc, q0, q1, hq, hlq, hcq, _⟩ := RdRules.cells (RdRules.below H'.out Hb.out) hlt'
          have hbr : b' < wr.heap.size := by omega
          have hcc : ∀ W, Cls (wr.heap.size + 1) (wr.alloc (.cells #[.slice ra xs[k].conds.length rc, .int .i64 xs[k].verdict] 147)) W → (∀ j, W.cell? ⟨wr.heap.size, j, none⟩ = (#[.slice ra xs[k].conds.length rc, .int .i64 xs[k].verdict] : Array Value)[j]?) ∧ (∀ j, W.cell? ⟨w.heap.size + 1, j, none⟩ = (#[.slice (some ⟨b', o', none⟩) ys.length c', .int .i64 qd] : Array Value)[j]?) ∧
              W.cell? ⟨b', o' + k * 2, none⟩ = some (.slice qa ys[k].conds.length qc) ∧ W.cell? ⟨b', o' + k * 2 + 1, none⟩ = some (.int .i64 ys[k].verdict) := fun W hW => by
            have hbw := bel_box hW.2
            exact ⟨box_cells hW.2, fun j => (hbw.cell (p := ⟨w.heap.size + 1, j, none⟩) (by show w.heap.size + 1 < wr.heap.size; omega)).trans (hc2 j), (hbw.cell (p := ⟨b', o' + k * 2, none⟩) hbr).trans q0, (hbw.cell (p := ⟨b', o' + k * 2 + 1, none⟩) hbr).trans q1⟩
          have Hcc := Lib.hid hcc
          have hcall : ∀ W, Cls (wr.heap.size + 1) (wr.alloc (.cells #[.slice ra xs[k].conds.length rc, .int .i64 xs[k].verdict] 147)) W →
              Calls Tryz.prog 116 #[.slice ra xs[k].conds.length rc, .slice qa ys[k].conds.length qc] W fun e w' => e = .returned (.bool (decide (xs[k].conds = ys[k].conds))) ∧ Below W.heap.size W w' := fun W hW =>
            eqconds_any _ _ _ _ D W (RdConds.below hr (bel_box hW.2)) (RdConds.below hq (bel_box hW.2))
          have Hcall := Lib.hid hcall
          have hfin : ∀ W, Cls (wr.heap.size + 1) (wr.alloc (.cells #[.slice ra xs[k].conds.length rc, .int .i64 xs[k].verdict] 147)) W → Below wr.heap.size wr W := fun W hW => bel_box hW.2
          have Hfin := Lib.hid hfin
          clear hr hq q0 q1 hcc hcall hfin hc1 hc2
          by_cases hvv : xs[k].verdict = ys[k].verdict
          · have d0 : (xs[k].verdict != ys[k].verdict) = false := bne_eq_false_iff_eq.2 hvv
            have Hvv := Lib.hid hvv
            clear hvv
            go_wp2_with fail
            refine wp_region_exact3 (wr.heap.size + 1) (by simp) (by kernel_rfl) (by kernel_rfl) ?_
            repeat (refine monoE_step (fun K hK => ?_); apply Exists.intro; refine ⟨fun W hC R hR => ?_, ?_⟩; (first
              | (have hcell := Hcc.out W hC; go_simp; exact hR _ _ (Below.refl _ _) rfl)
              | (go_simp; go_at_call 116; refine (Hcall.out W hC).mono ?_; rintro e w1 ⟨rfl, hb1⟩; exact ⟨_, rfl, hR _ _ hb1 rfl⟩)); (go_simp; refine hK _ ?_; clear hK K))
            intro w2 hC2
            by_cases he : xs[k].conds = ys[k].conds
            · have Hn : Hid (xs.take (k + 1) = ys.take (k + 1)) := take_eq_step' hlt hlt' Ht.out (by
                have h1 := Hvv.out
                have h2 := he
                revert h1 h2
                generalize xs[k] = r; generalize ys[k] = s
                cases r; cases s
                rintro h1 h2
                dsimp only at h1 h2
                subst h1 h2; rfl)
              have d : decide (xs[k].conds = ys[k].conds) = true := decide_eq_true he
              clear he
              simp only [d]
              go_wp2
              go_roundw
              case rel => exact ⟨k + 1, by omega, by go_num, Hn.out, box2_step' Hbx.out (Hfin.out _ hC2)⟩
              case measure => simp [intOf]; omega
            · have Hn := Lib.hid (ne_of_get' hlt hlt' (fun e => he (by rw [e])))
              have d : decide (xs[k].conds = ys[k].conds) = false := decide_eq_false he
              clear he
              simp only [d]
              go_wp2
              go_ret
              exact ⟨ret_bool (decide_eq_false Hn.out).symm, bel_call Hb.out (Hfin.out _ hC2)⟩
          · have d0 : (xs[k].verdict != ys[k].verdict) = true := bne_iff_ne.2 hvv
            have Hn := Lib.hid (ne_of_get' hlt hlt' (fun e => hvv (by rw [e])))
            clear hvv
            go_wp2_with fail
            refine wp_region_exact3 (wr.heap.size + 1) (by simp) (by kernel_rfl) (by kernel_rfl) ?_
            repeat (refine monoE_step (fun K hK => ?_); apply Exists.intro; refine ⟨fun W hC R hR => ?_, ?_⟩; (have hcell := Hcc.out W hC; go_simp; exact hR _ _ (Below.refl _ _) rfl); (go_simp; refine hK _ ?_; clear hK K))
            intro w2 hC2
            go_wp2
            go_ret
            exact ⟨ret_bool (decide_eq_false Hn.out).symm, bel_call Hb.out (Hfin.out _ hC2)⟩
        · obtain rfl : k = xs.length := by omega
          have Hn : Hid (xs = ys) := by
            have := Ht.out
            rw [List.take_length, hl'.out, List.take_length] at this
            exact this
          go_wp2
          go_ret
          exact ⟨ret_bool (decide_eq_true Hn.out).symm, Hb.out⟩
    · have b1 : ((xs.length : Int) != (ys.length : Int)) = true := bne_iff_ne.2 (by omega)
      have hn : decide (xs = ys) = false := decide_eq_false fun e => hl (by rw [e])
      rw [hn]
      clear hn hl
      go_enter Tryz.func75, Tryz.ntmps75
      go_wp2
      go_ret
      exact ⟨rfl, bel_alloc (bel_alloc (Below.refl _ _) _) _⟩
  · have b0 : (pd != qd) = true := bne_iff_ne.2 hv
    have hd : decide ((⟨xs, pd⟩ : TPol) = ⟨ys, qd⟩) = false := decide_eq_false fun e => hv (by injection e)
    rw [hd]
    clear hd hv
    go_enter Tryz.func75, Tryz.ntmps75
    go_wp2
    go_ret
    exact ⟨rfl, bel_alloc (bel_alloc (Below.refl _ _) _) _⟩
end Go.Proofs.YthkgjohhbdipcaaGreatDoor
