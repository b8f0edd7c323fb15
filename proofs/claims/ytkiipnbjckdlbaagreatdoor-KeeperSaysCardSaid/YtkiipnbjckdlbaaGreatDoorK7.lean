/- Texts laid one behind the other: ReadMaps, RPolCheck, ReadSt, Read, Made, Tight, EqIns, ChainSame, Right. No condition beyond theirs. -/
import Derived.Test.YtkiipnbjckdlbaaGreatDoorK6
import Derived.Test.YtkiipnbjckdlbaaGreatDoorK1
import Derived.Test.YtkiipnbjckdlbaaGreatDoorK4
import Derived.Test.YtkiipnbjckdlbaaGreatDoorK3
import Derived.Laws.ResultCell
import Derived.Test.YtkiipnbjckdlbaaGreatDoorK5
import Derived.Test.YtkiipnbjckdlbaaGreatDoorProg
import Derived.Laws.StructEq
import Derived.KernelRfl
import Derived.Test.YtkiipnbjckdlbaaGreatDoorK2
namespace Go.Proofs.YtkiipnbjckdlbaaGreatDoor
open Go.RowKit

@[reducible] def bs (l : List UInt8) : Value := .string ⟨l.toArray⟩
@[reducible] def vmap : Array MapEntry := #[⟨bs [107, 105, 108, 108], .int .i64 0, 0⟩, ⟨bs [116, 114, 97, 112], .int .i64 1, 1⟩, ⟨bs [102, 97, 105, 108], .int .i64 2, 2⟩, ⟨bs [108, 111, 103], .int .i64 3, 3⟩, ⟨bs [97, 108, 108, 111, 119], .int .i64 4, 4⟩]
@[reducible] def fmap : Array MapEntry := #[⟨bs [110, 114], .int .i64 0, 0⟩, ⟨bs [107, 105, 110, 100], .int .i64 1, 1⟩, ⟨bs [97], .int .i64 2, 2⟩, ⟨bs [98], .int .i64 3, 3⟩, ⟨bs [99], .int .i64 4, 4⟩]
@[reducible] def omap : Array MapEntry := #[⟨.int .u8 61, .int .i64 1, 0⟩, ⟨.int .u8 33, .int .i64 2, 1⟩, ⟨.int .u8 60, .int .i64 3, 2⟩, ⟨.int .u8 62, .int .i64 4, 3⟩]

theorem same_str (u : ByteArray) (l : List UInt8) : Instr.sameNow .string (.string u) (bs l) = some (decide (u.data.toList = l)) := by
  have : (u == (⟨l.toArray⟩ : ByteArray)) = decide (u.data.toList = l) := by
    rw [beq_toListBytes, ByteArray.toList_eq, ByteArray.toList_eq, Bool.eq_iff_iff]
    simp
  rw [← this]
  rfl
theorem same_u8 (n m : Int) : Instr.sameNow (.int .u8) (.int .u8 n) (.int .u8 m) = some (decide (n = m)) := by
  have : (n == m) = decide (n = m) := by rw [Bool.eq_iff_iff]; simp
  rw [← this]
  rfl
/-- a look-up among a list of keys. -/
theorem find_step {kd : TypeDesc} {k key v : Value} {born : Nat} {es : List MapEntry} {i : Nat} {b : Bool} (h : Instr.sameNow kd k key = some b) : Instr.findNow kd k (⟨key, v, born⟩ :: es) i = if b then some (some (i, v)) else Instr.findNow kd k es (i + 1) := by
  cases b <;> simp [Instr.findNow, h]
theorem find_v (u : ByteArray) : ∃ f, Instr.findNow .string (.string u) vmap.toList 0 = some f ∧ f.map (·.2) = (verdictOf u.data.toList).map fun n => Value.int .i64 n := by
  simp only [find_step (same_str _ _), verdictOf, decide_eq_true_eq]
  repeat (split; · exact ⟨_, rfl, rfl⟩)
  exact ⟨none, rfl, rfl⟩
theorem find_f (u : ByteArray) : ∃ f, Instr.findNow .string (.string u) fmap.toList 0 = some f ∧ f.map (·.2) = (fieldOf u.data.toList).map fun n => Value.int .i64 n := by
  simp only [find_step (same_str _ _), fieldOf, decide_eq_true_eq]
  repeat (split; · exact ⟨_, rfl, rfl⟩)
  exact ⟨none, rfl, rfl⟩
theorem find_o (b : UInt8) : ∃ f, Instr.findNow (.int .u8) (.int .u8 b.toNat) omap.toList 0 = some f ∧ (f.map (·.2)).getD (.int .i64 0) = Value.int .i64 (opOf b) := by
  have e : ∀ n : UInt8, ((b.toNat : Int) = (n.toNat : Int)) = (b = n) := fun n => by
    rw [eq_iff_iff]
    constructor
    · intro h; exact UInt8.toNat_inj.1 (by omega)
    · rintro rfl; rfl
  have e1 := e 61
  have e2 := e 33
  have e3 := e 60
  have e4 := e 62
  simp only [show ((61 : UInt8).toNat : Int) = 61 from rfl, show ((33 : UInt8).toNat : Int) = 33 from rfl, show ((60 : UInt8).toNat : Int) = 60 from rfl, show ((62 : UInt8).toNat : Int) = 62 from rfl] at e1 e2 e3 e4
  simp only [find_step (same_u8 _ _), opOf, decide_eq_true_eq, e1, e2, e3, e4]
  repeat (split; · exact ⟨_, rfl, rfl⟩)
  exact ⟨none, rfl, rfl⟩

/-- a slice without its first element: one form, be it empty or not. -/
theorem slice_tail (b n : Nat) : ∃ off : Nat, (0 < n → off = 1) ∧ ∀ W : World, (Instr.slice 137 (.slice (some ⟨b, 0, none⟩) (n + 1) (n + 1)) (some (.int .i64 1)) none none).run Tryz.prog W = .ok (.slice (some ⟨b, off, none⟩) n n) W := by
  by_cases h : n = 0
  · subst h
    exact ⟨0, fun h => by omega, fun W => by kernel_rfl⟩
  · refine ⟨1, fun _ => rfl, fun W => ?_⟩
    go_simp
    intro h'
    omega
end Go.Proofs.YtkiipnbjckdlbaaGreatDoor
namespace Go.Proofs.YtkiipnbjckdlbaaGreatDoor
open Go.RowKit
attribute [local go_sem] gives givesUpon

set_option maxHeartbeats 8000000 in
theorem rpolcheck_any (v : Value) (p : TPol) (D : Nat → Prop) (w : World) (h : RdRules w D v p.rules) : Calls Tryz.prog 74 #[polV v p.dflt] w fun e w' => e = .returned (.int .i64 (polE p)) ∧ Below w.heap.size w w' := by
  obtain ⟨rs, d⟩ := p
  dsimp only at h ⊢
  obtain ⟨a, c, rfl, hlc, hcm, hat⟩ := Sl.form h
  have H := Lib.hid h
  clear h
  by_cases h1 : 120 < rs.length
  · have he : polE ⟨rs, d⟩ = 2 := by unfold polE; rw [if_pos h1]
    have hz : 120 < (rs.length : Int) := by omega
    rw [he]; clear he h1 hat H
    go_enter Tryz.func74, Tryz.ntmps74
    go_wp2
    go_ret
    exact ⟨rfl, bel_alloc (Below.refl _ _) _⟩
  · have hz : ¬ 120 < (rs.length : Int) := by omega
    by_cases h2 : 0 ≤ d ∧ d ≤ 4
    · have hd := inB_yes h2.1 h2.2
      have He := Lib.hid (show polE ⟨rs, d⟩ = rulesGo rs by unfold polE; rw [if_neg h1, if_neg (by simp only; omega)])
      clear h1 h2
      go_enter Tryz.func74, Tryz.ntmps74
      go_wp2_with (go_at_call 62; refine (in_any _ _ _ _).mono ?_; rintro e w1 ⟨rfl, rfl⟩)
      go_loopw [18] (fun i wr => ∃ k : Nat, k ≤ rs.length ∧ i = .int .i64 k ∧ rulesGo rs = rulesGo (rs.drop k) ∧ Below w.heap.size w wr) (fun i _ => rs.length - (intOf i).toNat)
      case atStart => exact ⟨0, by omega, rfl, rfl, bel_alloc (Below.refl _ _) _⟩
      case round =>
        obtain ⟨k, hk, rfl, hgo, hbw⟩ := hrel
        have Hgo := Lib.hid hgo
        have hsz := hbw.size
        clear hgo hd
        by_cases hlt : k < rs.length
        · obtain ⟨b, o, rfl, hDb, hb⟩ := hat (by omega)
          obtain ⟨a', c', k0, k1, hr, hlc', hcm', hat'⟩ := RdRules.cells (RdRules.below H.out hbw) hlt
          have Hr := Lib.hid hr
          have bad : ∀ e : Int, ruleE rs[k] = e → e ≠ 0 → ∀ wz, Below w.heap.size w wz → Ending.returned (.int .i64 e) = .returned (.int .i64 (polE ⟨rs, d⟩)) ∧ Below w.heap.size w wz := fun e he h0 wz hz => by
            refine ⟨ret_int ?_, hz⟩
            rw [He.out, Hgo.out, rulesGo_drop rs k hlt, he, if_neg h0]
          have good : ruleE rs[k] = 0 → rulesGo rs = rulesGo (rs.drop (k + 1)) := fun he => by rw [Hgo.out, rulesGo_drop rs k hlt, if_pos he]
          have Hbad := Lib.hid bad
          have Hgood := Lib.hid good
          clear bad good hr
          generalize hX : rs[k] = X at *
          clear hX
          obtain ⟨cs, vd⟩ := X
          dsimp only at k0 k1 hlc' hat'
          have Hr' : Hid (RdConds wr D (.slice a' cs.length c') cs) := Hr
          clear Hr
          by_cases h3 : 10 < cs.length
          · have Hb := Lib.hid (Hbad.out 2 (by unfold ruleE; rw [if_pos h3]) (by decide))
            have hz3 : 10 < (cs.length : Int) := by omega
            clear Hbad Hgood hat' h3
            go_wp2
            go_ret
            exact Hb.out _ (bel_alloc hbw _)
          · have hz3 : ¬ 10 < (cs.length : Int) := by omega
            by_cases h4 : 0 ≤ vd ∧ vd ≤ 4
            · have hvd := inB_yes h4.1 h4.2
              have Hre := Lib.hid (show ruleE ⟨cs, vd⟩ = condsGo cs by unfold ruleE; rw [if_neg h3, if_neg (by simp only; omega)])
              clear h3 h4
              go_wp2_with (go_at_call 62; refine (in_any _ _ _ _).mono ?_; rintro e w1 ⟨rfl, rfl⟩)
              obtain ⟨wo, rfl⟩ : ∃ wo : World, wo = wr := ⟨_, rfl⟩
              go_loopw [35] (fun i wi => ∃ j : Nat, j ≤ cs.length ∧ i = .int .i64 j ∧ condsGo cs = condsGo (cs.drop j) ∧ Below w.heap.size w wi ∧ Below wo.heap.size wo wi) (fun i _ => cs.length - (intOf i).toNat)
              case atStart => exact ⟨0, by omega, rfl, rfl, bel_alloc hbw _, bel_alloc (Below.refl _ _) _⟩
              case round =>
                obtain ⟨j, hj, rfl, hgo, hbi, hbi'⟩ := hrel
                have Hgi := Lib.hid hgo
                have hszi := hbi.size
                clear hgo hvd
                by_cases hlj : j < cs.length
                · obtain ⟨b', o', rfl, hDb', hb'⟩ := hat' (by omega)
                  obtain ⟨c0, c1, c2⟩ := RdConds.cells (RdConds.below Hr'.out hbi') hlj
                  have badc : ∀ e : Int, condE cs[j] = e → e ≠ 0 → ruleE ⟨cs, vd⟩ = e := fun e he h0 => by rw [Hre.out, Hgi.out, condsGo_drop cs j hlj, he, if_neg h0]
                  have goodc : condE cs[j] = 0 → condsGo cs = condsGo (cs.drop (j + 1)) := fun he => by rw [Hgi.out, condsGo_drop cs j hlj, if_pos he]
                  have Hbadc := Lib.hid badc
                  have Hgoodc := Lib.hid goodc
                  clear badc goodc
                  generalize hY : cs[j] = Y at *
                  clear hY
                  obtain ⟨cf, co, cv⟩ := Y
                  dsimp only at c0 c1 c2
                  by_cases q1 : 0 ≤ cf ∧ cf ≤ 4
                  · have d1 := inB_yes q1.1 q1.2
                    by_cases q2 : 1 ≤ co ∧ co ≤ 4
                    · have d2 := inB_yes q2.1 q2.2
                      have hcl : ∀ W, Cls (wr.heap.size + 1) (wr.alloc (.cells #[.int .i64 cf, .int .i64 co, .int .i64 cv] 89)) W → ∀ j : Nat, W.cell? ⟨wr.heap.size, j, none⟩ = (#[Value.int .i64 cf, .int .i64 co, .int .i64 cv] : Array Value)[j]? := fun W hW j => box_cells hW.2 j
                      have Hcl := Lib.hid hcl
                      clear hcl
                      by_cases q3 : 0 ≤ cv ∧ cv ≤ mostOf cf
                      · have d3 := inB_yes q3.1 q3.2
                        have Hg := Lib.hid (Hgoodc.out (by unfold condE; rw [if_neg (by simp only; omega), if_neg (by simp only; omega), if_neg (by simp only; omega)]))
                        clear q1 q2 q3
                        go_wp2_with (go_at_call 62; refine (in_any _ _ _ _).mono ?_; rintro e w1 ⟨rfl, rfl⟩)
                        refine wp_region_exact (wr.heap.size + 1) (by simp) (by kernel_rfl) (by kernel_rfl) ?_
                        repeat (refine monoE_step (fun K hK => ?_); apply Exists.intro; refine ⟨fun W hC R hR => ?_, ?_⟩; (first
                          | (have hcell := Hcl.out W hC; go_simp; refine hR _ _ (Below.refl _ _) rfl)
                          | (go_simp; go_at_call 43; refine (mostof_any _ _).mono ?_; rintro e w1 ⟨rfl, hb1⟩; exact ⟨_, rfl, hR _ _ hb1 rfl⟩)
                          | (go_simp; go_at_call 62; refine (in_any _ _ _ _).mono ?_; rintro e w1 ⟨rfl, rfl⟩; exact ⟨_, rfl, hR _ _ (Below.refl _ _) rfl⟩)); (go_simp; refine hK _ ?_; clear hK K))
                        intro w2 hC2
                        go_wp2
                        go_roundw
                        case rel => exact ⟨j + 1, by omega, by go_num, Hg.out, hbi.trans ((bel_box hC2.2).mono hszi), hbi'.trans ((bel_box hC2.2).mono hbi'.size)⟩
                        case measure => simp [intOf]; omega
                      · have d3 := inB_no q3
                        have Hb := Lib.hid (Hbad.out 3 (Hbadc.out 3 (by unfold condE; rw [if_neg (by simp only; omega), if_neg (by simp only; omega), if_pos (by simp only; omega)]) (by decide)) (by decide))
                        clear q1 q2 q3
                        go_wp2_with (go_at_call 62; refine (in_any _ _ _ _).mono ?_; rintro e w1 ⟨rfl, rfl⟩)
                        refine wp_region_exact (wr.heap.size + 1) (by simp) (by kernel_rfl) (by kernel_rfl) ?_
                        repeat (refine monoE_step (fun K hK => ?_); apply Exists.intro; refine ⟨fun W hC R hR => ?_, ?_⟩; (first
                          | (have hcell := Hcl.out W hC; go_simp; refine hR _ _ (Below.refl _ _) rfl)
                          | (go_simp; go_at_call 43; refine (mostof_any _ _).mono ?_; rintro e w1 ⟨rfl, hb1⟩; exact ⟨_, rfl, hR _ _ hb1 rfl⟩)
                          | (go_simp; go_at_call 62; refine (in_any _ _ _ _).mono ?_; rintro e w1 ⟨rfl, rfl⟩; exact ⟨_, rfl, hR _ _ (Below.refl _ _) rfl⟩)); (go_simp; refine hK _ ?_; clear hK K))
                        intro w2 hC2
                        go_wp2
                        go_ret
                        exact Hb.out _ (hbi.trans ((bel_box hC2.2).mono hszi))
                    · have d2 := inB_no q2
                      have Hb := Lib.hid (Hbad.out 4 (Hbadc.out 4 (by unfold condE; rw [if_neg (by simp only; omega), if_pos (by simp only; omega)]) (by decide)) (by decide))
                      clear q1 q2
                      go_wp2_with (go_at_call 62; refine (in_any _ _ _ _).mono ?_; rintro e w1 ⟨rfl, rfl⟩)
                      go_ret
                      exact Hb.out _ (bel_alloc hbi _)
                  · have d1 := inB_no q1
                    have Hb := Lib.hid (Hbad.out 5 (Hbadc.out 5 (by unfold condE; rw [if_pos (by simp only; omega)]) (by decide)) (by decide))
                    clear q1
                    go_wp2_with (go_at_call 62; refine (in_any _ _ _ _).mono ?_; rintro e w1 ⟨rfl, rfl⟩)
                    go_ret
                    exact Hb.out _ (bel_alloc hbi _)
                · obtain rfl : j = cs.length := by omega
                  have Hg := Lib.hid (Hgood.out (by rw [Hre.out, Hgi.out, List.drop_length]; rfl))
                  go_wp2
                  go_roundw
                  case rel => exact ⟨k + 1, by omega, by go_num, Hg.out, hbi⟩
                  case measure => simp [intOf]; omega
            · have hvd := inB_no h4
              have Hb := Lib.hid (Hbad.out 3 (by unfold ruleE; rw [if_neg h3, if_pos (by simp only; omega)]) (by decide))
              clear Hbad Hgood hat' h3 h4
              go_wp2_with (go_at_call 62; refine (in_any _ _ _ _).mono ?_; rintro e w1 ⟨rfl, rfl⟩)
              go_ret
              exact Hb.out _ (bel_alloc hbw _)
        · obtain rfl : k = rs.length := by omega
          go_wp2
          go_ret
          exact ⟨ret_int (by rw [He.out, Hgo.out, List.drop_length]; rfl), hbw⟩
    · have hd := inB_no h2
      have he : polE ⟨rs, d⟩ = 3 := by unfold polE; rw [if_neg h1, if_pos (by simp only; omega)]
      rw [he]; clear he hat H h1 h2
      go_enter Tryz.func74, Tryz.ntmps74
      go_wp2_with (go_at_call 62; refine (in_any _ _ _ _).mono ?_; rintro e w1 ⟨rfl, rfl⟩)
      go_ret
      exact ⟨rfl, bel_alloc (Below.refl _ _) _⟩
end Go.Proofs.YtkiipnbjckdlbaaGreatDoor
namespace Go.Proofs.YtkiipnbjckdlbaaGreatDoor
open Go.RowKit
open Go.MapKept (IsKey)

set_option maxHeartbeats 1000000 in
theorem bad_any (e : Int) (w : World) : Calls Tryz.prog 102 #[.int .i64 e] w fun en w' => en = .returned (.tuple #[polV (.slice none 0 0) 0, .int .i64 e]) ∧ Below w.heap.size w w' := by
  go_enter Tryz.func102, Tryz.ntmps102
  go_wp2
  refine bodyPost_ret (v := .tuple #[polV (.slice none 0 0) 0, .int .i64 e]) ?_ rfl ⟨rfl, bel_alloc (Below.refl _ _) _⟩
  rw [results_cell_tmp rfl]
  go_simp

/-- blocks of the call's own behind its five, but that of one slice. -/
def But (B : Nat) (pv : Value) (b : Nat) : Prop := B + 5 ≤ b ∧ pv.ownBlock ≠ some b
/-- the world as the loop of rules has it. -/
structure RdState (w wr : World) (rs : List TRule) (pv : Value) : Prop where
  bel : Below w.heap.size w wr
  sz : w.heap.size + 5 ≤ wr.heap.size
  res : wr.heap[w.heap.size]? = some (.cells #[.slice none 0 0, .int .i64 0] 37)
  vm : wr.heap[w.heap.size + 1]? = some (.map vmap 5)
  fm : wr.heap[w.heap.size + 2]? = some (.map fmap 5)
  om : wr.heap[w.heap.size + 3]? = some (.map omap 4)
  pc : wr.heap[w.heap.size + 4]? = some (.cells #[pv, .int .i64 0] 37)
  own : OwnSl wr (w.heap.size + 5) 80 2 (ruleR wr (But w.heap.size pv)) pv rs
theorem RdState.below {w wr w1 : World} {rs : List TRule} {pv : Value} (h : RdState w wr rs pv) (hb : Below wr.heap.size wr w1) : RdState w w1 rs pv where
  bel := bel_call h.bel hb
  sz := Nat.le_trans h.sz hb.size
  res := blk_below h.res hb
  vm := blk_below h.vm hb
  fm := blk_below h.fm hb
  om := blk_below h.om hb
  pc := blk_below h.pc hb
  own := (h.own.below hb).monoR fun _ _ _ ⟨v, h1, h2⟩ => ⟨v, h1, h2.below hb⟩
theorem RdState.rules {w wr : World} {rs : List TRule} {pv : Value} (h : RdState w wr rs pv) : RdRules wr (fun b => w.heap.size + 5 ≤ b) pv rs :=
  (h.own.monoR fun _ _ _ ⟨v, h1, h2⟩ => ⟨v, h1, h2.keep (fun _ hb _ => hb.1) (fun _ _ _ => rfl) (Nat.le_refl _)⟩).sl fun _ h => h
theorem rdState0 (w : World) : RdState w (((((w.alloc (.cells #[.slice none 0 0, .int .i64 0] 37)).alloc (.map vmap 5)).alloc (.map fmap 5)).alloc (.map omap 4)).alloc (.cells #[.slice none 0 0, .int .i64 0] 37)) [] (.slice none 0 0) where
  bel := bel_alloc (bel_alloc (bel_alloc (bel_alloc (bel_alloc (Below.refl _ _) _) _) _) _) _
  sz := by simp
  res := blk_old (blk_old (blk_old (blk_old (blk_at rfl))))
  vm := blk_old (blk_old (blk_old (blk_at (by simp))))
  fm := blk_old (blk_old (blk_at (by simp)))
  om := blk_old (blk_at (by simp))
  pc := blk_at (by simp)
  own := OwnSl.nil

theorem infoCond : (Tryz.prog.info? 89).map (fun i => (i.zero, i.size, i.bytes)) = some (some (.agg #[.int .i64 0, .int .i64 0, .int .i64 0]), 3, 24) := by kernel_rfl
theorem infoRule : (Tryz.prog.info? 80).map (fun i => (i.zero, i.size, i.bytes)) = some (some (.agg #[.slice none 0 0, .int .i64 0]), 2, 32) := by kernel_rfl
theorem rd_step {w w2 wr w4 : World} {rs : List TRule} {pv : Value} {cs : List TCond} {cv : Value} {vd : Int} {gg cap : Nat} {rows : List (List Value)} {O : Obj} (hst : RdState w w2 rs pv) (hbw : Below w2.heap.size w2 wr)
    (hown : OwnSl wr (w2.heap.size + 1) 89 3 condR cv cs) (hgrow : (wr.alloc O).grownBy w4 pv.ownBlock)
    (hown4 : w4.ownsRow (w.heap.size + 5) 80 2 (.slice (some ⟨gg, 0, none⟩) (rs.length + 1) cap) (rs.length + 1) (rows.flatten ++ [cv, .int .i64 vd]))
    (hro : RowsOf 2 (ruleR wr (But w.heap.size pv)) rs rows) (hat : pv.ownBlock = some gg ∨ gg = wr.heap.size + 1) :
    RdState w (w4.setCell ⟨w.heap.size + 4, 0, none⟩ (.slice (some ⟨gg, 0, none⟩) (rs.length + 1) cap)) (rs ++ [⟨cs, vd⟩]) (.slice (some ⟨gg, 0, none⟩) (rs.length + 1) cap) := by
  have h1 := hst.below hbw
  have hsz2 := hst.sz
  have hsw := hbw.size
  have hpo : ∀ g, pv.ownBlock = some g → w.heap.size + 5 ≤ g ∧ g < w2.heap.size := fun g hg => by
    obtain ⟨rows', _, hr'⟩ := hst.own
    exact hr'.lt g hg
  have hal : (wr.alloc O).heap.size = wr.heap.size + 1 := by simp
  have hg4 := hgrow.size
  -- a block that is neither the box nor the rules' row stays
  have keep : ∀ b, b < wr.heap.size → b ≠ w.heap.size + 4 → pv.ownBlock ≠ some b → (w4.setCell ⟨w.heap.size + 4, 0, none⟩ (.slice (some ⟨gg, 0, none⟩) (rs.length + 1) cap)).heap[b]? = wr.heap[b]? := fun b hb hn ho => by
    rw [set_other (by exact hn), hgrow.block b (by omega) (fun e => ho e.symm)]
    show (wr.heap.push O)[b]? = _
    rw [Array.getElem?_push, if_neg (by omega)]
  have small : ∀ b, b < w.heap.size + 4 → (w4.setCell ⟨w.heap.size + 4, 0, none⟩ (.slice (some ⟨gg, 0, none⟩) (rs.length + 1) cap)).heap[b]? = wr.heap[b]? := fun b hb =>
    keep b (by omega) (by omega) (fun e => by have := (hpo b e).1; omega)
  have hss : wr.heap.size ≤ (w4.setCell ⟨w.heap.size + 4, 0, none⟩ (.slice (some ⟨gg, 0, none⟩) (rs.length + 1) cap)).heap.size := by rw [set_size]; omega
  exact {
    bel := by
      refine set_below ?_ (by show w.heap.size ≤ w.heap.size + 4; omega)
      exact h1.bel.trans ⟨hgrow.os, hgrow.tape, hgrow.output, by omega, fun i hi => by
        rw [hgrow.block i (by omega) (fun e => by have := (hpo i e.symm).1; omega)]
        show (wr.heap.push O)[i]? = _
        rw [Array.getElem?_push, if_neg (by omega)]⟩
    sz := by omega
    res := (small _ (by omega)).trans h1.res
    vm := (small _ (by omega)).trans h1.vm
    fm := (small _ (by omega)).trans h1.fm
    om := (small _ (by omega)).trans h1.om
    pc := by
      have : w4.heap[w.heap.size + 4]? = some (.cells #[pv, .int .i64 0] 37) := by
        rw [hgrow.block _ (by omega) (fun e => by have := (hpo _ e.symm).1; omega)]
        show (wr.heap.push O)[w.heap.size + 4]? = _
        rw [Array.getElem?_push, if_neg (by omega)]
        exact h1.pc
      exact set_at this
    own := by
      refine ⟨rows ++ [[cv, .int .i64 vd]], (hro.mono fun x _ c hx => ?_).app (RowsOf.cons (sz := 2) (x := (⟨cs, vd⟩ : TRule)) (r := [cv, .int .i64 vd]) RowsOf.nil ?_ rfl), ?_⟩
      · obtain ⟨v, e1, e2⟩ := hx
        exact ⟨v, e1, e2.keep (fun b hb hlt => ⟨hb.1, fun e => by
          have e' : gg = b := by simpa [Value.ownBlock] using e
          rcases hat with h | h
          · exact hb.2 (by rw [h, e'])
          · omega⟩) (fun b hb hlt => keep b hlt (by have := hb.1; omega) hb.2) hss⟩
      · refine ⟨cv, rfl, ?_⟩
        have hs : RdConds wr (fun b => w2.heap.size + 1 ≤ b) cv cs := hown.sl fun _ h => h
        exact hs.keep (fun b hb hlt => ⟨by have : w2.heap.size + 1 ≤ b := hb; omega, fun e => by
          have e' : gg = b := by simpa [Value.ownBlock] using e
          have hb' : w2.heap.size + 1 ≤ b := hb
          rcases hat with h | h
          · have := (hpo gg h).2; omega
          · omega⟩) (fun b hb hlt => keep b hlt (by have : w2.heap.size + 1 ≤ b := hb; omega) (fun e => by have : w2.heap.size + 1 ≤ b := hb; have := (hpo b e).2; omega)) hss
      · have := ownsRow_keep1 (w' := w4.setCell ⟨w.heap.size + 4, 0, none⟩ (.slice (some ⟨gg, 0, none⟩) (rs.length + 1) cap)) hown4 (fun b hb _ _ => set_other (by show b ≠ w.heap.size + 4; omega))
        simpa using this }
end Go.Proofs.YtkiipnbjckdlbaaGreatDoor
namespace Go.Proofs.YtkiipnbjckdlbaaGreatDoor
open Go.RowKit
open Go.MapKept (IsKey)
attribute [local go_sem] gives givesUpon

attribute [-go_sem] run_slice_l
set_option maxRecDepth 8000 in
set_option maxHeartbeats 4000000 in
theorem read_walk (s : ByteArray) (w : World) (hL : Laid w) (hs : s.size ≤ 281474976710656) (hs' : s.size < 4294967281) :
    Calls Tryz.prog 80 #[.string s] w fun e w' => ∃ v, e = .returned (.tuple #[polV v (readP s.data.toList).1.dflt, .int .i64 (readP s.data.toList).2]) ∧ RdRules w' (fun b => w.heap.size ≤ b) v (readP s.data.toList).1.rules ∧ Below w.heap.size w w' := by
  have HL := Lib.hid hL
  clear hL
  have hmm := @run_makeMap Tryz.prog
  have hb0 : w.heap.size + 1 = (w.alloc (.cells #[.slice none 0 0, .int .i64 0] 37)).heap.size := by simp
  have hv0 := run_insert_at (P := Tryz.prog) (t := 133) (es := #[]) (c := 0) (key := bs [107, 105, 108, 108]) (v := .int .i64 0) hb0 Tryz.underlying133 Tryz.underlying9 (by first | exact trivial | rfl) (by kernel_rfl)
  have hv1 := run_insert_at (P := Tryz.prog) (t := 133) (es := #[⟨bs [107, 105, 108, 108], .int .i64 0, 0⟩]) (c := 1) (key := bs [116, 114, 97, 112]) (v := .int .i64 1) hb0 Tryz.underlying133 Tryz.underlying9 (by first | exact trivial | rfl) (by kernel_rfl)
  have hv2 := run_insert_at (P := Tryz.prog) (t := 133) (es := #[⟨bs [107, 105, 108, 108], .int .i64 0, 0⟩, ⟨bs [116, 114, 97, 112], .int .i64 1, 1⟩]) (c := 2) (key := bs [102, 97, 105, 108]) (v := .int .i64 2) hb0 Tryz.underlying133 Tryz.underlying9 (by first | exact trivial | rfl) (by kernel_rfl)
  have hv3 := run_insert_at (P := Tryz.prog) (t := 133) (es := #[⟨bs [107, 105, 108, 108], .int .i64 0, 0⟩, ⟨bs [116, 114, 97, 112], .int .i64 1, 1⟩, ⟨bs [102, 97, 105, 108], .int .i64 2, 2⟩]) (c := 3) (key := bs [108, 111, 103]) (v := .int .i64 3) hb0 Tryz.underlying133 Tryz.underlying9 (by first | exact trivial | rfl) (by kernel_rfl)
  have hv4 := run_insert_at (P := Tryz.prog) (t := 133) (es := #[⟨bs [107, 105, 108, 108], .int .i64 0, 0⟩, ⟨bs [116, 114, 97, 112], .int .i64 1, 1⟩, ⟨bs [102, 97, 105, 108], .int .i64 2, 2⟩, ⟨bs [108, 111, 103], .int .i64 3, 3⟩]) (c := 4) (key := bs [97, 108, 108, 111, 119]) (v := .int .i64 4) hb0 Tryz.underlying133 Tryz.underlying9 (by first | exact trivial | rfl) (by kernel_rfl)
  have hb1 : w.heap.size + 2 = ((w.alloc (.cells #[.slice none 0 0, .int .i64 0] 37)).alloc (.map vmap 5)).heap.size := by simp
  have hf0 := run_insert_at (P := Tryz.prog) (t := 133) (es := #[]) (c := 0) (key := bs [110, 114]) (v := .int .i64 0) hb1 Tryz.underlying133 Tryz.underlying9 (by first | exact trivial | rfl) (by kernel_rfl)
  have hf1 := run_insert_at (P := Tryz.prog) (t := 133) (es := #[⟨bs [110, 114], .int .i64 0, 0⟩]) (c := 1) (key := bs [107, 105, 110, 100]) (v := .int .i64 1) hb1 Tryz.underlying133 Tryz.underlying9 (by first | exact trivial | rfl) (by kernel_rfl)
  have hf2 := run_insert_at (P := Tryz.prog) (t := 133) (es := #[⟨bs [110, 114], .int .i64 0, 0⟩, ⟨bs [107, 105, 110, 100], .int .i64 1, 1⟩]) (c := 2) (key := bs [97]) (v := .int .i64 2) hb1 Tryz.underlying133 Tryz.underlying9 (by first | exact trivial | rfl) (by kernel_rfl)
  have hf3 := run_insert_at (P := Tryz.prog) (t := 133) (es := #[⟨bs [110, 114], .int .i64 0, 0⟩, ⟨bs [107, 105, 110, 100], .int .i64 1, 1⟩, ⟨bs [97], .int .i64 2, 2⟩]) (c := 3) (key := bs [98]) (v := .int .i64 3) hb1 Tryz.underlying133 Tryz.underlying9 (by first | exact trivial | rfl) (by kernel_rfl)
  have hf4 := run_insert_at (P := Tryz.prog) (t := 133) (es := #[⟨bs [110, 114], .int .i64 0, 0⟩, ⟨bs [107, 105, 110, 100], .int .i64 1, 1⟩, ⟨bs [97], .int .i64 2, 2⟩, ⟨bs [98], .int .i64 3, 3⟩]) (c := 4) (key := bs [99]) (v := .int .i64 4) hb1 Tryz.underlying133 Tryz.underlying9 (by first | exact trivial | rfl) (by kernel_rfl)
  have hb2 : w.heap.size + 3 = (((w.alloc (.cells #[.slice none 0 0, .int .i64 0] 37)).alloc (.map vmap 5)).alloc (.map fmap 5)).heap.size := by simp
  have ho0 := run_insert_at (P := Tryz.prog) (t := 134) (es := #[]) (c := 0) (key := .int .u8 61) (v := .int .i64 1) hb2 Tryz.underlying134 Tryz.underlying5 (by first | exact trivial | rfl) (by kernel_rfl)
  have ho1 := run_insert_at (P := Tryz.prog) (t := 134) (es := #[⟨.int .u8 61, .int .i64 1, 0⟩]) (c := 1) (key := .int .u8 33) (v := .int .i64 2) hb2 Tryz.underlying134 Tryz.underlying5 (by first | exact trivial | rfl) (by kernel_rfl)
  have ho2 := run_insert_at (P := Tryz.prog) (t := 134) (es := #[⟨.int .u8 61, .int .i64 1, 0⟩, ⟨.int .u8 33, .int .i64 2, 1⟩]) (c := 2) (key := .int .u8 60) (v := .int .i64 3) hb2 Tryz.underlying134 Tryz.underlying5 (by first | exact trivial | rfl) (by kernel_rfl)
  have ho3 := run_insert_at (P := Tryz.prog) (t := 134) (es := #[⟨.int .u8 61, .int .i64 1, 0⟩, ⟨.int .u8 33, .int .i64 2, 1⟩, ⟨.int .u8 60, .int .i64 3, 2⟩]) (c := 3) (key := .int .u8 62) (v := .int .i64 4) hb2 Tryz.underlying134 Tryz.underlying5 (by first | exact trivial | rfl) (by kernel_rfl)
  simp only [List.push_toArray, List.nil_append, List.cons_append, Nat.reduceAdd] at hv0 hv1 hv2 hv3 hv4 hf0 hf1 hf2 hf3 hf4 ho0 ho1 ho2 ho3
  clear hb0 hb1 hb2
  go_enter Tryz.func80, Tryz.ntmps80
  go_wp2_with fail
  clear hv0 hv1 hv2 hv3 hv4 hf0 hf1 hf2 hf3 hf4 ho0 ho1 ho2 ho3 hmm
  go_loopw [0] (fun sv wr => ∃ (n : Nat) (t : ByteArray) (rs : List TRule) (pv : Value), sv = .string t ∧ t.size < n ∧ rs.length + t.size ≤ s.size ∧ Hid (pread (s.data.toList.length + 1) s.data.toList = (pread n t.data.toList).map fun p => ⟨rs ++ p.rules, p.dflt⟩) ∧ RdState w wr rs pv) (fun sv _ => (match sv with | .string t => t.size | _ => 0))
  case atStart => exact ⟨s.size + 1, s, [], .slice none 0 0, rfl, by omega, by simp, by
    have e : s.data.toList.length = s.size := rfl
    rw [e]
    cases pread (s.size + 1) s.data.toList <;> rfl, rdState0 w⟩
  case round =>
    obtain ⟨n, t, rs, pv, rfl, hn, hts, hp, hst⟩ := hrel
    obtain ⟨pa, pcap, hpv, hpl, hpm, _⟩ := Sl.form hst.rules
    have Hpv := Lib.hid hpv
    have Hst := Lib.hid hst
    clear hpv hpl hpm
    have hsz := hst.sz
    have HLr := Lib.hid (HL.out.below hst.bel)
    clear hst
    go_wp2_with fail
    refine (cut_any t _ HLr.out (by omega)).mono ?_
    rintro e w1 ⟨ta, tr, more, rfl, hta, htr, hmore, hsa, hsr, hb1⟩
    have Hta := Lib.hid hta
    have Htr := Lib.hid htr
    have Hmore := Lib.hid hmore
    clear hta htr hmore
    have Hst1 := Lib.hid (Hst.out.below hb1)
    have HL1 := Lib.hid (HLr.out.below hb1)
    have hsz1 := Hst1.out.sz
    clear Hst HLr hb1 hsz
    go_wp2_with fail
    refine (split_any ta w1 HL1.out (by omega)).mono ?_
    rintro e w2 ⟨ws, rfl, hw2, hws, hw0, hwl, hwu⟩
    obtain ⟨u0, us, rfl⟩ : ∃ u0 us, ws = u0 :: us := by cases ws with
      | nil => simp at hw0
      | cons u0 us => exact ⟨u0, us, rfl⟩
    have hb2 : Below w1.heap.size w1 w2 := by rw [hw2]; exact bel_alloc (Below.refl _ _) _
    have hbl : w2.heap[w1.heap.size]? = some (.cells ((u0 :: us).map Value.string).toArray 9) := by rw [hw2]; exact heap_last _ _
    have hc0 : w2.cell? ⟨w1.heap.size, 0, none⟩ = some (.string u0) := by rw [hw2]; exact (World.cell?_alloc_at _ _ _ _ rfl).trans (by simp)
    have Hst2 := Lib.hid (Hst1.out.below hb2)
    have HL2 := Lib.hid (HL1.out.below hb2)
    have hsz2 := Hst2.out.sz
    have Hbl := Lib.hid hbl
    have Hstep : Hid (∀ k, pread (k + 1) t.data.toList = match verdictOf u0.data.toList with
        | none => none
        | some v => if more then (match condsOf (us.map (·.data.toList)) with
            | none => none
            | some cs => (pread k tr.data.toList).map fun p => ⟨⟨cs, v⟩ :: p.rules, p.dflt⟩) else if 1 < us.length + 1 then none else some ⟨[], v⟩) := fun k => by
      rw [pread_step (u0 := u0.data.toList) (us := us.map (·.data.toList)) (by rw [← Hta.out, ← hws]; rfl), Hmore.out, Htr.out, List.length_map] <;> rfl
    obtain ⟨k, rfl⟩ : ∃ k, n = k + 1 := ⟨n - 1, by omega⟩
    have Hwu := Lib.hid hwu
    clear hw2 hb2 hbl hws hwu Hst1 HL1 Hta Hmore
    obtain ⟨fv, hfv, hfv'⟩ := find_v u0
    have hz : ∀ W : World, (zeroValue 3).run Tryz.prog W = .ok (.int .i64 0) W := fun W => by kernel_rfl
    have hlk := run_lookup_ok (P := Tryz.prog) (key := .string u0) (t := 133) Tryz.underlying133 Tryz.underlying9 Hst2.out.vm (hz _) (by exact trivial) hfv
    have hfs : fv.isSome = (verdictOf u0.data.toList).isSome := by
      have := congrArg Option.isSome hfv'
      simpa using this
    rw [hfs, hfv'] at hlk
    have h1l : (1 : Nat) ≤ us.length + 1 := by omega
    clear hfv hfv' hfs hz hw0
    cases hvd : verdictOf u0.data.toList with
    | none =>
      rw [hvd] at hlk
      simp only [Option.map_none, Option.getD_none, Option.isSome_none] at hlk
      go_wp2_with fail
      refine (bad_any 1 _).mono ?_
      rintro e w3 ⟨rfl, hb3⟩
      have hr3 := blk_below Hst2.out.res hb3
      have hc3 := cells_of hr3
      have hf3 := not_frozen hr3
      have hr4 := set_at (o := 1) (v := .int .i64 0) (set_at (o := 0) (v := .slice none 0 0) hr3)
      have hc4 := cells_of hr4
      have Hb4 := Lib.hid (set_below (a := ⟨w.heap.size, 1, none⟩) (v := .int .i64 0) (set_below (a := ⟨w.heap.size, 0, none⟩) (v := .slice none 0 0) (bel_call Hst2.out.bel hb3) (Nat.le_refl _)) (Nat.le_refl _))
      go_wp2
      have hrd : readP s.data.toList = (⟨[], 0⟩, 1) := readP_none (by rw [hp.out, Hstep.out k, hvd]; rfl)
      rw [hrd]
      refine bodyPost_ret (v := .tuple #[polV (.slice none 0 0) 0, .int .i64 1]) ?_ rfl ⟨_, rfl, ⟨none, 0, rfl, Nat.le_refl _, by unfold maxLen; omega, fun _ => rfl, fun h => by cases h⟩, Hb4.out⟩
      rw [results_cell_tmp rfl]
      go_simp
    | some vd =>
      rw [hvd] at hlk
      simp only [Option.map_some, Option.getD_some, Option.isSome_some] at hlk
      have Hvd := Lib.hid hvd
      clear hvd
      cases more with
      | false =>
        by_cases hus : us.length = 0
        · have d1 : ¬ (1 : Int) < (us.length : Int) + 1 := by omega
          have hpc := Hst2.out.pc
          have hcp := cells_of hpc
          have hfp := not_frozen hpc
          have hR4 : RdRules (w2.setCell ⟨w.heap.size + 4, 1, none⟩ (.int .i64 vd)) (fun b => w.heap.size + 5 ≤ b) pv rs :=
            RdRules.keep Hst2.out.rules (fun _ h _ => h) (fun b hb _ => set_other (by show b ≠ w.heap.size + 4; have : w.heap.size + 5 ≤ b := hb; omega)) (by rw [set_size]; exact Nat.le_refl _)
          have hb4 : Below w.heap.size w (w2.setCell ⟨w.heap.size + 4, 1, none⟩ (.int .i64 vd)) := set_below Hst2.out.bel (by show w.heap.size ≤ w.heap.size + 4; omega)
          have hr4 : (w2.setCell ⟨w.heap.size + 4, 1, none⟩ (.int .i64 vd)).heap[w.heap.size]? = some (.cells #[.slice none 0 0, .int .i64 0] 37) := (set_other (by show w.heap.size ≠ w.heap.size + 4; omega)).trans Hst2.out.res
          have hp4 := set_at (o := 1) (v := .int .i64 vd) hpc
          have hre : Hid (readP s.data.toList = if polE ⟨rs, vd⟩ = 0 then (⟨rs, vd⟩, 0) else (⟨[], 0⟩, polE ⟨rs, vd⟩)) := readP_some (by
            rw [hp.out, Hstep.out k, Hvd.out]
            simp only [Bool.false_eq_true, if_false]
            rw [if_neg (by omega)]
            simp only [Option.map_some, List.append_nil])
          have HR4 := Lib.hid hR4
          have Hb4 := Lib.hid hb4
          have Hr4 := Lib.hid hr4
          have Hp4 := Lib.hid hp4
          clear hR4 hb4 hr4 hp4
          go_wp2_with fail
          refine (rpolcheck_any pv ⟨rs, vd⟩ _ _ HR4.out).mono ?_
          rintro e w5 ⟨rfl, hb5⟩
          have hR5 := RdRules.below HR4.out hb5
          have hr5 := blk_below Hr4.out hb5
          have hp5 := blk_below Hp4.out hb5
          have hb5' := bel_call Hb4.out hb5
          have HR5 := Lib.hid hR5
          have Hb5 := Lib.hid hb5'
          clear hR5 hb5' hb5 hpc hcp hfp HR4 Hb4 Hr4 Hp4
          by_cases hpe : polE ⟨rs, vd⟩ = 0
          · have d2 : (polE ⟨rs, vd⟩ != 0) = false := bne_eq_false_iff_eq.2 hpe
            have Hpe := Lib.hid hpe
            have hcp := cells_of hp5
            have hcr := cells_of hr5
            have hfr := not_frozen hr5
            have hr6 := set_at (o := 1) (v := .int .i64 vd) (set_at (o := 0) (v := pv) hr5)
            have hc6 := cells_of hr6
            have Hb6 := Lib.hid (set_below (a := ⟨w.heap.size, 1, none⟩) (v := .int .i64 vd) (set_below (a := ⟨w.heap.size, 0, none⟩) (v := pv) Hb5.out (Nat.le_refl _)) (Nat.le_refl _))
            have hR6 : Hid (RdRules ((w5.setCell ⟨w.heap.size, 0, none⟩ pv).setCell ⟨w.heap.size, 1, none⟩ (.int .i64 vd)) (fun b => w.heap.size ≤ b) pv rs) :=
              RdRules.keep HR5.out (fun b h _ => by have : w.heap.size + 5 ≤ b := h; show w.heap.size ≤ b; omega) (fun b hb _ => by
                have h1 : w.heap.size + 5 ≤ b := hb
                rw [set_other (by show b ≠ w.heap.size; omega), set_other (by show b ≠ w.heap.size; omega)]) (by rw [set_size, set_size]; exact Nat.le_refl _)
            clear hpe hp5
            have Hre := hre
            clear hre
            obtain rfl := Hpv.out
            go_wp2
            rw [Hre.out, if_pos Hpe.out]
            refine bodyPost_ret (v := .tuple #[polV (.slice pa rs.length pcap) vd, .int .i64 0]) ?_ rfl ⟨_, rfl, hR6.out, Hb6.out⟩
            rw [results_cell_tmp rfl]
            go_simp
          · have d2 : (polE ⟨rs, vd⟩ != 0) = true := bne_iff_ne.2 hpe
            have Hpe := Lib.hid hpe
            clear hpe hp5
            go_wp2_with fail
            refine (bad_any _ _).mono ?_
            rintro e w6 ⟨rfl, hb6⟩
            have hr6 := blk_below hr5 hb6
            have hc6 := cells_of hr6
            have hf6 := not_frozen hr6
            have hr7 := set_at (o := 1) (v := .int .i64 0) (set_at (o := 0) (v := .slice none 0 0) hr6)
            have hc7 := cells_of hr7
            have Hb7 := Lib.hid (set_below (a := ⟨w.heap.size, 1, none⟩) (v := .int .i64 0) (set_below (a := ⟨w.heap.size, 0, none⟩) (v := .slice none 0 0) (bel_call Hb5.out hb6) (Nat.le_refl _)) (Nat.le_refl _))
            clear hr5
            go_wp2
            rw [hre.out, if_neg Hpe.out]
            refine bodyPost_ret (v := .tuple #[polV (.slice none 0 0) 0, .int .i64 (polE ⟨rs, vd⟩)]) ?_ rfl ⟨_, rfl, ⟨none, 0, rfl, Nat.le_refl _, by unfold maxLen; omega, fun _ => rfl, fun h => by cases h⟩, Hb7.out⟩
            rw [results_cell_tmp rfl]
            go_simp
        · have d1 : (1 : Int) < (us.length : Int) + 1 := by omega
          go_wp2_with fail
          refine (bad_any 1 _).mono ?_
          rintro e w3 ⟨rfl, hb3⟩
          have hr3 := blk_below Hst2.out.res hb3
          have hc3 := cells_of hr3
          have hf3 := not_frozen hr3
          have hr4 := set_at (o := 1) (v := .int .i64 0) (set_at (o := 0) (v := .slice none 0 0) hr3)
          have hc4 := cells_of hr4
          have Hb4 := Lib.hid (set_below (a := ⟨w.heap.size, 1, none⟩) (v := .int .i64 0) (set_below (a := ⟨w.heap.size, 0, none⟩) (v := .slice none 0 0) (bel_call Hst2.out.bel hb3) (Nat.le_refl _)) (Nat.le_refl _))
          have hrd : Hid (readP s.data.toList = (⟨[], 0⟩, 1)) := readP_none (by
            rw [hp.out, Hstep.out k, Hvd.out]
            simp only [Bool.false_eq_true, if_false]
            rw [if_pos (by omega)]; rfl)
          go_wp2
          rw [hrd.out]
          refine bodyPost_ret (v := .tuple #[polV (.slice none 0 0) 0, .int .i64 1]) ?_ rfl ⟨_, rfl, ⟨none, 0, rfl, Nat.le_refl _, by unfold maxLen; omega, fun _ => rfl, fun h => by cases h⟩, Hb4.out⟩
          rw [results_cell_tmp rfl]
          go_simp
      | true =>
        have d1 : (1 : Int) ≤ (us.length : Int) + 1 := by omega
        obtain ⟨off, hoff, htl⟩ := slice_tail w1.heap.size us.length
        have Hoff := Lib.hid hoff
        clear hoff
        go_wp2_with fail
        all_goals
          clear htl
          go_loopw [70] (fun jv wr => ∃ (j : Nat) (cs : List TCond) (cv : Value), jv = .int .i64 j ∧ j ≤ us.length ∧ cs.length = j ∧ Hid (condsOf (us.map (·.data.toList)) = (condsOf ((us.map (·.data.toList)).drop j)).map (cs ++ ·)) ∧
            Below w2.heap.size w2 wr ∧ wr.heap[w2.heap.size]? = some (.cells #[cv, .int .i64 vd] 80) ∧ OwnSl wr (w2.heap.size + 1) 89 3 condR cv cs) (fun jv _ => us.length - (intOf jv).toNat)
          case atStart => exact ⟨0, [], .slice none 0 0, rfl, by omega, rfl, by rw [List.drop_zero]; cases condsOf (us.map (·.data.toList)) <;> rfl, bel_alloc (Below.refl _ _) _, heap_last _ _, OwnSl.nil⟩
          case round =>
            obtain ⟨j, cs, cv, rfl, hj, hcl, hcs, hbw, hrb, hown⟩ := hrel
            have hul : us.length ≤ 4294967281 := by have : us.length + 1 ≤ ta.size + 1 := hwl; omega
            have hjb : j ≤ 4294967281 := by omega
            have hcb : cs.length ≤ 4294967281 := by omega
            have Hcl := Lib.hid hcl
            clear hcl
            have Hown := Lib.hid hown
            have Hbw := Lib.hid hbw
            have hszw := hbw.size
            clear hown hbw
            by_cases hlt : j < us.length
            · have hwd : wr.heap[w1.heap.size]? = some (.cells ((u0 :: us).map Value.string).toArray 9) := blk_below Hbl.out Hbw.out
              have hoff1 := Hoff.out (by omega)
              have hwc : wr.cell? ⟨w1.heap.size, off + j, none⟩ = some (.string us[j]) := by
                rw [cells_of hwd, hoff1, Nat.add_comm]
                simp [hlt]
              clear hwd hoff1
              obtain ⟨wo, rfl⟩ : ∃ wo : World, wo = wr := ⟨_, rfl⟩
              obtain ⟨u, hu⟩ : ∃ u : ByteArray, us[j] = u := ⟨_, rfl⟩
              rw [hu] at hwc
              have hus : u.size ≤ ta.size := Hwu.out u (by rw [← hu]; exact List.mem_cons_of_mem _ (List.getElem_mem _))
              have Hu := Lib.hid hu
              clear hu
              have Hlt : Hid (j < us.length) := Lib.hid hlt
              have hbad : Hid (condOf u.data.toList = none → readP s.data.toList = (⟨[], 0⟩, 1)) := fun hc => readP_none (by
                rw [hp.out, Hstep.out k, Hvd.out]
                have h1 : condsOf (us.map (·.data.toList)) = none := by
                  rw [hcs.out, condsOf_drop (by simpa using hlt)]
                  simp [Hu.out, hc]
                simp [h1])
              go_wp2_with fail
              go_loopw [18] (fun kv wr => ∃ k : Nat, kv = .int .i64 k ∧ k ≤ u.size ∧ (∀ i, i < k → ∀ b, u.data.toList[i]? = some b → opOf b = 0) ∧ Below wo.heap.size wo wr) (fun kv _ => u.size - (intOf kv).toNat)
              case atStart => exact ⟨0, rfl, by omega, fun i h => by omega, Below.refl _ _⟩
              case round =>
                obtain ⟨k, rfl, hk, hop, hbo⟩ := hrel
                have Hop := Lib.hid hop
                have Hbo := Lib.hid hbo
                have hszo := hbo.size
                clear hop hbo hwc
                have hom : wr.heap[w.heap.size + 3]? = some (.map omap 4) := blk_below (blk_below Hst2.out.om Hbw.out) Hbo.out
                by_cases hkl : k < u.size
                · have hkz : (k : Int) < (u.size : Int) := by omega
                  obtain ⟨b, hb⟩ : ∃ b : UInt8, u[k] = b := ⟨_, rfl⟩
                  have hbl' : u.data.toList[k]? = some b := by
                    rw [← hb]; exact Lib.data_getElem? u k hkl
                  obtain ⟨fo, hfo, hfo'⟩ := find_o b
                  have hz : ∀ W : World, (zeroValue 3).run Tryz.prog W = .ok (.int .i64 0) W := fun W => by kernel_rfl
                  have hlo := run_lookup_bare (P := Tryz.prog) (key := .int .u8 b.toNat) (t := 134) Tryz.underlying134 Tryz.underlying5 hom (hz _) rfl hfo
                  rw [hfo'] at hlo
                  clear hz hfo hfo' hom
                  have Hbl' := Lib.hid hbl'
                  clear hbl'
                  by_cases h0 : opOf b = 0
                  · have d3 : (opOf b == 0) = true := beq_iff_eq.2 h0
                    have H0 := Lib.hid h0
                    clear h0
                    go_wp2_with fail
                    go_roundw
                    case rel => exact ⟨k + 1, by go_num, by omega, fun i hi c hc => by
                      by_cases hik : i = k
                      · subst hik
                        rw [Hbl'.out] at hc
                        injection hc with hc
                        rw [← hc]; exact H0.out
                      · exact Hop.out i (by omega) c hc, Hbo.out⟩
                    case measure => simp [intOf]; omega
                  · have d3 : (opOf b == 0) = false := beq_eq_false_iff_ne.2 h0
                    have d4 : (k == u.size) = false := beq_eq_false_iff_ne.2 (by omega)
                    have d5 : ((k : Int) == (u.size : Int)) = false := beq_eq_false_iff_ne.2 (by omega)
                    have Hat : Hid (opAt u.data.toList = k) := opAt_spec _ k Hop.out (by show k ≤ u.size; omega) (fun c hc => by
                      rw [Hbl'.out] at hc
                      injection hc with hc
                      rw [← hc]; exact h0)
                    clear h0
                    have hfm : wr.heap[w.heap.size + 2]? = some (.map fmap 5) := blk_below (blk_below Hst2.out.fm Hbw.out) Hbo.out
                    obtain ⟨ff, hff, hff'⟩ := find_f (u.extract 0 k)
                    have hz : ∀ W : World, (zeroValue 3).run Tryz.prog W = .ok (.int .i64 0) W := fun W => by kernel_rfl
                    have hlf := run_lookup_ok (P := Tryz.prog) (key := .string (u.extract 0 k)) (t := 133) Tryz.underlying133 Tryz.underlying9 hfm (hz _) (by exact trivial) hff
                    have hfs : ff.isSome = (fieldOf (u.extract 0 k).data.toList).isSome := by
                      have := congrArg Option.isSome hff'
                      simpa using this
                    rw [hfs, hff', Lib.extract_from_zero] at hlf
                    clear hfm hff hff' hfs hz
                    have HLr := Lib.hid ((HL2.out.below Hbw.out).below Hbo.out)
                    have hkk : (k : Int) + 1 ≤ (u.size : Int) := by omega
                    have hco : Hid (condOf u.data.toList = match fieldOf (u.data.toList.take k) with
                      | none => none
                      | some f => if (wholeS (u.data.toList.drop (k + 1))).2 then some ⟨f, opOf b, (wholeS (u.data.toList.drop (k + 1))).1⟩ else none) := by
                      unfold condOf
                      rw [Hat.out, if_neg (by show k ≠ u.size; omega), List.getD_eq_getElem?_getD, Hbl'.out]
                      rfl
                    cases hfd : fieldOf (u.data.toList.take k) with
                    | none =>
                      rw [hfd] at hlf
                      simp only [Option.map_none, Option.getD_none, Option.isSome_none] at hlf
                      have hrd : Hid (readP s.data.toList = (⟨[], 0⟩, 1)) := hbad.out (by rw [hco.out, hfd])
                      clear hfd hco
                      go_wp2_with fail
                      refine (whole_any (u.extract (k + 1) u.size) wr HLr.out (by rw [ByteArray.size_extract]; omega)).mono ?_
                      rintro e w3 ⟨rfl, hb3⟩
                      have Hb3 := Lib.hid hb3
                      clear hb3
                      go_wp2_with fail
                      refine (bad_any 1 _).mono ?_
                      rintro e w7 ⟨rfl, hb7⟩
                      have hr7 := blk_below (blk_below (blk_below (blk_below Hst2.out.res Hbw.out) Hbo.out) Hb3.out) hb7
                      have hc7 := cells_of hr7
                      have hf7 := not_frozen hr7
                      have hr8 := set_at (o := 1) (v := .int .i64 0) (set_at (o := 0) (v := .slice none 0 0) hr7)
                      have hc8 := cells_of hr8
                      have Hb8 := Lib.hid (set_below (a := ⟨w.heap.size, 1, none⟩) (v := .int .i64 0) (set_below (a := ⟨w.heap.size, 0, none⟩) (v := .slice none 0 0) (bel_call (bel_call (bel_call (bel_call Hst2.out.bel Hbw.out) Hbo.out) Hb3.out) hb7) (Nat.le_refl _)) (Nat.le_refl _))
                      go_wp2
                      rw [hrd.out]
                      refine bodyPost_ret (v := .tuple #[polV (.slice none 0 0) 0, .int .i64 1]) ?_ rfl ⟨_, rfl, ⟨none, 0, rfl, Nat.le_refl _, by unfold maxLen; omega, fun _ => rfl, fun h => by cases h⟩, Hb8.out⟩
                      rw [results_cell_tmp rfl]
                      go_simp
                    | some fd =>
                      rw [hfd] at hlf
                      simp only [Option.map_some, Option.getD_some, Option.isSome_some] at hlf
                      have Hfd := Lib.hid hfd
                      clear hfd
                      go_wp2_with fail
                      refine (whole_any (u.extract (k + 1) u.size) wr HLr.out (by rw [ByteArray.size_extract]; omega)).mono ?_
                      rintro e w3 ⟨rfl, hb3⟩
                      have Hb3 := Lib.hid hb3
                      clear hb3
                      rw [Lib.extract_to_end]
                      rw [Hfd.out] at hco
                      obtain ⟨nn, hnn⟩ : ∃ nn : Int, (wholeS (u.data.toList.drop (k + 1))).1 = nn := ⟨_, rfl⟩
                      cases hgd : (wholeS (u.data.toList.drop (k + 1))).2 with
                      | false =>
                        have hrd : Hid (readP s.data.toList = (⟨[], 0⟩, 1)) := hbad.out (by rw [hco.out, hgd]; rfl)
                        clear hgd hco
                        go_wp2_with fail
                        refine (bad_any 1 _).mono ?_
                        rintro e w7 ⟨rfl, hb7⟩
                        have hr7 := blk_below (blk_below (blk_below (blk_below Hst2.out.res Hbw.out) Hbo.out) Hb3.out) hb7
                        have hc7 := cells_of hr7
                        have hf7 := not_frozen hr7
                        have hr8 := set_at (o := 1) (v := .int .i64 0) (set_at (o := 0) (v := .slice none 0 0) hr7)
                        have hc8 := cells_of hr8
                        have Hb8 := Lib.hid (set_below (a := ⟨w.heap.size, 1, none⟩) (v := .int .i64 0) (set_below (a := ⟨w.heap.size, 0, none⟩) (v := .slice none 0 0) (bel_call (bel_call (bel_call (bel_call Hst2.out.bel Hbw.out) Hbo.out) Hb3.out) hb7) (Nat.le_refl _)) (Nat.le_refl _))
                        go_wp2
                        rw [hrd.out]
                        refine bodyPost_ret (v := .tuple #[polV (.slice none 0 0) 0, .int .i64 1]) ?_ rfl ⟨_, rfl, ⟨none, 0, rfl, Nat.le_refl _, by unfold maxLen; omega, fun _ => rfl, fun h => by cases h⟩, Hb8.out⟩
                        rw [results_cell_tmp rfl]
                        go_simp
                      | true =>
                        have hc1 : Hid (condOf u.data.toList = some ⟨fd, opOf b, nn⟩) := by
                          have := hco.out
                          rw [hgd, hnn] at this
                          exact this
                        rw [hnn]
                        clear hgd hnn hco
                        go_wp2_with fail
                        have hk0 : (0 : Int) ≤ (k : Int) := by omega
                        have hbx3 : w3.cell? ⟨w2.heap.size, 0, none⟩ = some cv := by rw [cells_of (blk_below (blk_below hrb Hbo.out) Hb3.out)]; rfl
                        have hrb3 := blk_below (blk_below hrb Hbo.out) Hb3.out
                        have hom3 : w3.heap[w.heap.size + 3]? = some (.map omap 4) := blk_below (blk_below (blk_below Hst2.out.om Hbw.out) Hbo.out) Hb3.out
                        have hlk : ∀ W : World, W.heap[w.heap.size + 3]? = some (.map omap 4) → (Instr.lookup 134 (.map (some (w.heap.size + 3))) (.int .u8 b.toNat) false).run Tryz.prog W = .ok (.int .i64 (opOf b)) W := fun W hW => by
                          obtain ⟨fo, hfo, hfo'⟩ := find_o b
                          have := run_lookup_bare (P := Tryz.prog) (z := .int .i64 0) (key := .int .u8 b.toNat) (t := 134) Tryz.underlying134 Tryz.underlying5 hW (by kernel_rfl) rfl hfo
                          rw [hfo'] at this
                          exact this
                        have Hlk := Lib.hid hlk
                        clear hlk
                        obtain ⟨rows, hro, hrw⟩ := (Hown.out.below Hbo.out).below Hb3.out
                        obtain ⟨i0, hi0, hz0, hz1, hz2⟩ := info_parts infoCond
                        have hlt3 : w2.heap.size < w3.heap.size := (Array.getElem?_eq_some_iff.1 hrb3).1
                        have ho3 := Hown.out.block
                        have hs3 := Hb3.out.size
                        have hso := Hbo.out.size
                        have hkl' : (k : Int) < (u.size : Int) := by omega
                        have hnb : ∀ g, cv.ownBlock = some g → g ≠ w2.heap.size := fun g e => by have := ho3 _ e; omega
                        have hnm : some (w.heap.size + 3) ≠ cv.ownBlock := fun e => by have := ho3 _ e.symm; omega
                        have Hro := Lib.hid hro
                        have Hhi := Lib.hid hi0
                        have Hrw := Lib.hid hrw
                        have Hom3 := Lib.hid hom3
                        have Hrb3 := Lib.hid hrb3
                        clear hro hi0 hrw hom3 hrb3 hbx3 ho3
                        refine wp_region_app w2.heap.size 80 #[cv, .int .i64 vd] 0 (w2.heap.size + 1) 89 3 cv cs.length rows.flatten 1 [.int .i64 fd, .int .i64 (opOf b), .int .i64 nn] 11 13 (by kernel_rfl) (by kernel_rfl) Hrb3.out Hrw.out (by omega) (Array.getElem?_eq_some_iff.1 Hrb3.out).1 _ rfl
                          [ex (.pointer (some ⟨w2.heap.size, 0, none⟩)), ex cv, ex (.int .i64 fd), ex (.map (some (w.heap.size + 3))), ex (.string u), ex (.int .i64 k), ex (.int .u8 b.toNat), ex (.int .i64 (opOf b)), ex (.int .i64 nn), ex (.agg #[.int .i64 fd, .int .i64 (opOf b), .int .i64 nn]), pr (NewP w3.heap.size 89 1 #[.int .i64 fd, .int .i64 (opOf b), .int .i64 nn]), pr (OwnP (w2.heap.size + 1) 89 3 (cs.length + 1) (rows.flatten ++ [.int .i64 fd, .int .i64 (opOf b), .int .i64 nn])), ex (.pointer (some ⟨w2.heap.size, 0, none⟩)), ex undef] ?_
                          ⟨.inl ⟨_, rfl⟩, .inl ⟨_, rfl⟩, .inl ⟨_, rfl⟩, .inl ⟨_, rfl⟩, .inl ⟨_, rfl⟩, .inl ⟨_, rfl⟩, .inl ⟨_, rfl⟩, .inl ⟨_, rfl⟩, .inl ⟨_, rfl⟩, .inl ⟨_, rfl⟩, .inr (.inl rfl), .inr (.inr ⟨rfl, rfl⟩), .inl ⟨_, rfl⟩, .inl ⟨_, rfl⟩, trivial⟩
                        (refine walkP_ex (fun K hK => ?_); refine ⟨fun done W hI h0 hd hn hf R hR => ?_, ?_⟩; (clear h0 hd hn hf; go_simp; exact hR _ _ (hI.step (Below.refl _ _) (by decide) (by decide)) (AppT.of_below (Below.refl _ _)) rfl); (go_simp; refine hK _ ?_; clear hK K))
                        (refine walkP_ex (fun K hK => ?_); refine ⟨fun done W hI h0 hd hn hf R hR => ?_, ?_⟩; (have h13 : done 13 = false := hn 13 (by decide); have hcb := cells_of (hI.before h13); clear h0 hd hn hf; go_simp; exact hR _ _ (hI.step (Below.refl _ _) (by decide) (by decide)) (AppT.of_below (Below.refl _ _)) rfl); (go_simp; refine hK _ ?_; clear hK K))
                        (refine walkP_ex (fun K hK => ?_); refine ⟨fun done W hI h0 hd hn hf R hR => ?_, ?_⟩; (clear h0 hd hn hf; go_simp; exact hR _ _ (hI.step (Below.refl _ _) (by decide) (by decide)) (AppT.of_below (Below.refl _ _)) rfl); (go_simp; refine hK _ ?_; clear hK K))
                        (refine walkP_ex (fun K hK => ?_); refine ⟨fun done W hI h0 hd hn hf R hR => ?_, ?_⟩; (clear h0 hd hn hf; go_simp; exact hR _ _ (hI.step (Below.refl _ _) (by decide) (by decide)) (AppT.of_below (Below.refl _ _)) rfl); (go_simp; refine hK _ ?_; clear hK K))
                        (refine walkP_ex (fun K hK => ?_); refine ⟨fun done W hI h0 hd hn hf R hR => ?_, ?_⟩; (clear h0 hd hn hf; go_simp; exact hR _ _ (hI.step (Below.refl _ _) (by decide) (by decide)) (AppT.of_below (Below.refl _ _)) rfl); (go_simp; refine hK _ ?_; clear hK K))
                        (refine walkP_ex (fun K hK => ?_); refine ⟨fun done W hI h0 hd hn hf R hR => ?_, ?_⟩; (clear h0 hd hn hf; go_simp; exact hR _ _ (hI.step (Below.refl _ _) (by decide) (by decide)) (AppT.of_below (Below.refl _ _)) rfl); (go_simp; refine hK _ ?_; clear hK K))
                        (refine walkP_ex (fun K hK => ?_); refine ⟨fun done W hI h0 hd hn hf R hR => ?_, ?_⟩; (clear h0 hd hn hf; go_simp; exact hR _ _ (hI.step (Below.refl _ _) (by decide) (by decide)) (AppT.of_below (Below.refl _ _)) rfl); (go_simp; refine hK _ ?_; clear hK K))
                        (refine walkP_ex (fun K hK => ?_); refine ⟨fun done W hI h0 hd hn hf R hR => ?_, ?_⟩; (have hlw := Hlk.out W ((hI.blk (w.heap.size + 3) (by omega) (by omega) hnm).trans Hom3.out); clear h0 hd hn hf; go_simp; exact hR _ _ (hI.step (Below.refl _ _) (by decide) (by decide)) (AppT.of_below (Below.refl _ _)) rfl); (go_simp; refine hK _ ?_; clear hK K))
                        (refine walkP_ex (fun K hK => ?_); refine ⟨fun done W hI h0 hd hn hf R hR => ?_, ?_⟩; (clear h0 hd hn hf; go_simp; exact hR _ _ (hI.step (Below.refl _ _) (by decide) (by decide)) (AppT.of_below (Below.refl _ _)) rfl); (go_simp; refine hK _ ?_; clear hK K))
                        (refine walkP_ex (fun K hK => ?_); refine ⟨fun done W hI h0 hd hn hf R hR => ?_, ?_⟩; (clear h0 hd hn hf; go_simp; exact hR _ _ (hI.step (Below.refl _ _) (by decide) (by decide)) (AppT.of_below (Below.refl _ _)) rfl); (go_simp; refine hK _ ?_; clear hK K))
                        (refine walkP_pr (fun K hK => ?_); refine ⟨fun done W hI h0 hd hn hf R hR => ?_, fun v10 => ?_⟩; (clear h0 hd hn hf; go_simp; exact hR _ _ (hI.step (bel_alloc (Below.refl _ _) _) (by decide) (by decide)) (AppT.of_below (bel_alloc (Below.refl _ _) _)) ⟨_, rfl, hI.size, heap_last _ _⟩); (go_simp; refine hK _ _ ?_; clear hK K))
                        (refine walkP_pr (fun K hK => ?_); refine ⟨fun done W hI h0 hd hn hf R hR => ?_, fun v11 => ?_⟩; (have h10 : NewP w3.heap.size 89 1 #[.int .i64 fd, .int .i64 (opOf b), .int .i64 nn] v10 W := hf 10 (by decide); obtain ⟨bn, rfl, hbn, hcn⟩ := h10; refine ob_plain rfl ?_; refine gives_append (.tmp 123) (.tmp 132) 78 rfl (w2.heap.size + 1) 89 i0 _ 3 24 Tryz.underlying78 Hhi.out hz0 hz1 hz2 rfl (by omega) cv cs.length rows.flatten (by rfl) (hI.own h0) ⟨bn, 0, none⟩ 1 1 [.int .i64 fd, .int .i64 (opOf b), .int .i64 nn] (by rfl) (by rfl) (World.news_of_block hcn) (by simp [Value.oneCell']) (by omega) (by unfold maxLen; omega) (by omega) (by have := hI.size; omega) (fun v' w' h1 h2 => hR _ _ (hI.appended (hn 13 (by decide)) (by decide) hnb h2 (by omega)) (AppT.of_grown h2) h1)); (go_simp; refine hK _ _ ?_; clear hK K))
                        (refine walkP_ex (fun K hK => ?_); refine ⟨fun done W hI h0 hd hn hf R hR => ?_, ?_⟩; (clear h0 hd hn hf; go_simp; exact hR _ _ (hI.step (Below.refl _ _) (by decide) (by decide)) (AppT.of_below (Below.refl _ _)) rfl); (go_simp; refine hK _ ?_; clear hK K))
                        (refine walkP_ex (fun K hK => ?_); refine ⟨fun done W hI h0 hd hn hf R hR => ?_, ?_⟩; (have h11 : OwnP (w2.heap.size + 1) 89 3 (cs.length + 1) (rows.flatten ++ [.int .i64 fd, .int .i64 (opOf b), .int .i64 nn]) v11 W := hf 11 (by decide); have hda : done 11 = true := hd 11 (by decide); have hst := hI.stored (v := v11) h0 hda (by decide) h11 (by omega); obtain ⟨gv, cpv, rfl, _, _⟩ := World.ownsRow.form h11 (by omega); have hcb := cells_of (hI.before h0); have hfb := not_frozen (hI.before h0); clear hd hn hf; go_simp; exact hR _ _ hst AppT.of_store rfl); (go_simp; refine hK _ ?_; clear hK K))
                        intro done W hdone hI hF
                        obtain ⟨v', hbv, hov⟩ := hI.after (hdone 13 (by decide))
                        have hbW : Below w2.heap.size w2 W := hI.below (bel_call (bel_call Hbw.out Hbo.out) Hb3.out) (Nat.le_refl _) (fun g hg => by have := Hown.out.block g hg; omega) (by omega)
                        have Hbv := Lib.hid hbv
                        have Hov := Lib.hid hov
                        have HbW := Lib.hid hbW
                        clear hI hF hdone hbv hov hbW
                        go_wp2
                        go_roundw
                        case rel => exact ⟨j + 1, cs ++ [⟨fd, opOf b, nn⟩], v', by go_num, by have := Hlt.out; omega, by simp [Hcl.out], by
                            show condsOf _ = _
                            rw [hcs.out, condsOf_drop (by simpa using hlt)]
                            simp only [List.getElem_map, Hu.out, hc1.out]
                            cases condsOf (List.drop (j + 1) (us.map (·.data.toList))) <;> simp, HbW.out, Hbv.out,
                          ⟨rows ++ [[.int .i64 fd, .int .i64 (opOf b), .int .i64 nn]], Hro.out.app (RowsOf.cons (sz := 3) (R := condR) (x := (⟨fd, opOf b, nn⟩ : TCond)) (r := [.int .i64 fd, .int .i64 (opOf b), .int .i64 nn]) RowsOf.nil rfl rfl), by
                            have := Hov.out
                            simpa using this⟩⟩
                        case measure => have := Hlt.out; simp [intOf]; omega
                · obtain rfl : k = u.size := by omega
                  have hrd : Hid (readP s.data.toList = (⟨[], 0⟩, 1)) := hbad.out (by
                    unfold condOf
                    rw [if_pos (show opAt u.data.toList = u.data.toList.length from opAt_spec _ u.data.toList.length Hop.out (Nat.le_refl _) (fun c hc => by simp at hc))])
                  clear hom
                  go_wp2_with fail
                  refine (bad_any 1 _).mono ?_
                  rintro e w7 ⟨rfl, hb7⟩
                  have hr7 := blk_below (blk_below (blk_below Hst2.out.res Hbw.out) Hbo.out) hb7
                  have hc7 := cells_of hr7
                  have hf7 := not_frozen hr7
                  have hr8 := set_at (o := 1) (v := .int .i64 0) (set_at (o := 0) (v := .slice none 0 0) hr7)
                  have hc8 := cells_of hr8
                  have Hb8 := Lib.hid (set_below (a := ⟨w.heap.size, 1, none⟩) (v := .int .i64 0) (set_below (a := ⟨w.heap.size, 0, none⟩) (v := .slice none 0 0) (bel_call (bel_call (bel_call Hst2.out.bel Hbw.out) Hbo.out) hb7) (Nat.le_refl _)) (Nat.le_refl _))
                  go_wp2
                  rw [hrd.out]
                  refine bodyPost_ret (v := .tuple #[polV (.slice none 0 0) 0, .int .i64 1]) ?_ rfl ⟨_, rfl, ⟨none, 0, rfl, Nat.le_refl _, by unfold maxLen; omega, fun _ => rfl, fun h => by cases h⟩, Hb8.out⟩
                  rw [results_cell_tmp rfl]
                  go_simp
            · obtain rfl : j = us.length := by omega
              have hcs1 : Hid (condsOf (us.map (·.data.toList)) = some cs) := by
                show condsOf _ = _
                rw [hcs.out, List.drop_of_length_le (by simp)]
                simp [condsOf]
              have hpc := blk_below Hst2.out.pc Hbw.out
              have hcp := cells_of hpc
              have hfp := not_frozen hpc
              have hcr := cells_of hrb
              obtain ⟨ca, cc, hcv, _⟩ := Sl.form (Hown.out.sl (D := fun _ => True) fun _ _ => trivial)
              obtain ⟨rows, hro, hrw⟩ := (Hst2.out.below Hbw.out).own
              obtain ⟨i0, hi0, hz0, hz1, hz2⟩ := info_parts infoRule
              have hpo : ∀ g, pv.ownBlock = some g → w.heap.size + 5 ≤ g := fun g hg => (hrw.lt g hg).1
              have hpn : some (w.heap.size + 4) ≠ pv.ownBlock := fun e => by have := hpo _ e.symm; omega
              have h1 : ∀ u ∈ [cv, Value.int .i64 vd], u.oneCell' = true := by rw [hcv]; simp [Value.oneCell']
              have hsr' : tr.size < t.size := hsr trivial
              have Hro := Lib.hid hro
              have Hrw := Lib.hid hrw
              have Hpc := Lib.hid hpc
              have Hhi := Lib.hid hi0
              have H1 := Lib.hid h1
              have Hrb := Lib.hid hrb
              clear hro hrw hpc hi0 h1 hcv hsr hrb
              go_wp2_with (at_builtin; refine wpList_append_lies _ rfl _ _ _ rfl (w.heap.size + 5) 80 i0 _ 2 32 Tryz.underlying35 Hhi.out hz0 hz1 hz2 rfl (by decide) pv rs.length rows.flatten rfl (Hrw.out.alloc _) ⟨wr.heap.size, 0, none⟩ 1 1 [cv, .int .i64 vd] rfl rfl (World.news_of_block (cs := #[cv, .int .i64 vd]) (blk_at rfl)) H1.out (by omega) (by unfold maxLen; omega) (by omega) (by simp; omega) (wr.heap.size + 1) (by simp) ?_; intro gg cap w4 hown4 hgrow hat hlt4; have hb4 := (hgrow.block (w.heap.size + 4) (by simp; omega) hpn).trans (blk_old Hpc.out); have hc4 := cells_of hb4; have hf4 := not_frozen hb4; have Hown4 := Lib.hid hown4; have Hgrow := Lib.hid hgrow; have Hat := Lib.hid hat; clear hown4 hgrow hat hb4)
              go_roundw
              case rel => exact ⟨k, tr, rs ++ [⟨cs, vd⟩], .slice (some ⟨gg, 0, none⟩) (rs.length + 1) cap, rfl, by omega, by simp; omega, by
                  show pread _ _ = _
                  rw [hp.out, Hstep.out k, Hvd.out, hcs1.out]
                  cases pread k tr.data.toList <;> simp, rd_step Hst2.out Hbw.out Hown.out Hgrow.out Hown4.out Hro.out Hat.out⟩
              case measure => simp; omega
end Go.Proofs.YtkiipnbjckdlbaaGreatDoor
namespace Go.Proofs.YtkiipnbjckdlbaaGreatDoor
open Go.RowKit

set_option maxHeartbeats 1000000 in
theorem made_any (w : World) (hL : Laid w) : Calls Tryz.prog 46 #[] w fun e w' => ∃ v, e = .returned (polV v 4) ∧ RdRules w' (fun b => w.heap.size ≤ b) v madeP.rules ∧ Below w.heap.size w w' := by
  have HL := Lib.hid (hL.below (bel_alloc (Below.refl _ _) (.cells #[.slice none 0 0, .int .i64 0] 37)))
  clear hL
  go_enter Tryz.func46, Tryz.ntmps46
  go_wp2_with fail
  refine (read_walk ⟨writtenL.toArray⟩ _ HL.out (by decide) (by decide)).mono ?_
  rintro e w1 ⟨v, rfl, hr, hb⟩
  have hrm : readP (⟨writtenL.toArray⟩ : ByteArray).data.toList = (madeP, 0) := read_made
  rw [hrm] at hr
  rw [hrm]
  have hd : (madeP, (0 : Int)).1.dflt = 4 := rfl
  rw [hd]
  have hr1 := blk_below (heap_last w (.cells #[.slice none 0 0, .int .i64 0] 37)) hb
  have Hr := Lib.hid hr
  have Hb := Lib.hid (bel_call (bel_alloc (Below.refl _ w) _) hb)
  obtain ⟨a, c, rfl, _⟩ := Sl.form hr
  have hsz := hb.size
  have hr2 : (w1.alloc (.cells #[.slice a madeP.rules.length c, .int .i64 4] 37)).heap[w.heap.size]? = some (.cells #[.slice none 0 0, .int .i64 0] 37) := blk_old hr1
  have hc2 := cells_of hr2
  have hf2 := not_frozen hr2
  have hr4 := set_at (o := 1) (v := .int .i64 4) (set_at (o := 0) (v := .slice a madeP.rules.length c) hr2)
  have hc4 := cells_of hr4
  have Hb4 := Lib.hid (set_below (a := ⟨w.heap.size, 1, none⟩) (v := .int .i64 4) (set_below (a := ⟨w.heap.size, 0, none⟩) (v := .slice a madeP.rules.length c) (bel_alloc Hb.out (.cells #[.slice a madeP.rules.length c, .int .i64 4] 37)) (Nat.le_refl _)) (Nat.le_refl _))
  have HR4 : Hid (RdRules (((w1.alloc (.cells #[.slice a madeP.rules.length c, .int .i64 4] 37)).setCell ⟨w.heap.size, 0, none⟩ (.slice a madeP.rules.length c)).setCell ⟨w.heap.size, 1, none⟩ (.int .i64 4)) (fun b => w.heap.size ≤ b) (.slice a madeP.rules.length c) madeP.rules) :=
    RdRules.keep (Hr.out.below (bel_alloc (Below.refl _ _) _)) (fun b h _ => by have : (w.alloc _).heap.size ≤ b := h; simp at this; show w.heap.size ≤ b; omega) (fun b hb _ => by
      have h1 : (w.alloc _).heap.size ≤ b := hb
      simp at h1
      rw [set_other (by show b ≠ w.heap.size; omega), set_other (by show b ≠ w.heap.size; omega)]) (by rw [set_size, set_size]; exact Nat.le_refl _)
  clear hr hb hrm hd hr1 hr2
  go_wp2
  refine bodyPost_ret (v := polV (.slice a madeP.rules.length c) 4) ?_ rfl ⟨_, rfl, HR4.out, Hb4.out⟩
  simp [results, Tryz.results46, go_sem, hc4]

end Go.Proofs.YtkiipnbjckdlbaaGreatDoor
namespace Go.Proofs.YtkiipnbjckdlbaaGreatDoor
open Go.RowKit

def strictP : TPol := ⟨[⟨[⟨0, 1, 3⟩, ⟨2, 3, 5⟩], 0⟩, ⟨[⟨1, 2, 0⟩], 3⟩, ⟨[⟨3, 4, 7⟩], 2⟩], 4⟩
theorem read_strict : readP [107, 105, 108, 108, 32, 110, 114, 61, 51, 32, 97, 60, 53, 59, 108, 111, 103, 32, 107, 105, 110, 100, 33, 48, 59, 102, 97, 105, 108, 32, 98, 62, 55, 59, 97, 108, 108, 111, 119] = (strictP, 0) := by decide +kernel
theorem tgt_f : (filterE madeP).2 = 0 := by decide +kernel
theorem tgt_d : (deltaE madeP strictP).2 = 0 := by decide +kernel
theorem tgt_d2 : (deltaE strictP madeP).2 = 7 := by decide +kernel
theorem tgt_dl : (deltaE madeP strictP).1.rules.length = 3 := by decide +kernel
theorem tgt_dd : (deltaE madeP strictP).1.dflt = 4 := by decide +kernel
theorem tgt_dv : (deltaE madeP strictP).1.rules.map (·.verdict) = [4, 4, 2] := by decide +kernel
theorem tgt_t : (tightE [(filterE madeP).1] madeP strictP).2 = 0 := by decide +kernel
theorem tgt_tl : (tightE [(filterE madeP).1] madeP strictP).1.length = 2 := by decide +kernel
theorem tgt_a : askE (tightE [(filterE madeP).1] madeP strictP).1 ⟨0, 0, 0, 8, 0⟩ = (2, 0) := by decide +kernel
theorem tgt_a2 : askE [] ⟨0, 0, 0, 0, 0⟩ = (4, 0) := by decide +kernel

set_option maxHeartbeats 1000000 in
theorem strict_any (w : World) (hL : Laid w) : Calls Tryz.prog 47 #[] w fun e w' => ∃ v, e = .returned (polV v 4) ∧ RdRules w' (fun b => w.heap.size ≤ b) v strictP.rules ∧ Below w.heap.size w w' := by
  have HL := Lib.hid (hL.below (bel_alloc (Below.refl _ _) (.cells #[.slice none 0 0, .int .i64 0] 37)))
  clear hL
  go_enter Tryz.func47, Tryz.ntmps47
  go_wp2_with fail
  refine (read_walk ⟨([107, 105, 108, 108, 32, 110, 114, 61, 51, 32, 97, 60, 53, 59, 108, 111, 103, 32, 107, 105, 110, 100, 33, 48, 59, 102, 97, 105, 108, 32, 98, 62, 55, 59, 97, 108, 108, 111, 119] : List UInt8).toArray⟩ _ HL.out (by decide) (by decide)).mono ?_
  rintro e w1 ⟨v, rfl, hr, hb⟩
  have hrm : readP (⟨([107, 105, 108, 108, 32, 110, 114, 61, 51, 32, 97, 60, 53, 59, 108, 111, 103, 32, 107, 105, 110, 100, 33, 48, 59, 102, 97, 105, 108, 32, 98, 62, 55, 59, 97, 108, 108, 111, 119] : List UInt8).toArray⟩ : ByteArray).data.toList = (strictP, 0) := read_strict
  rw [hrm] at hr
  rw [hrm]
  have hd : (strictP, (0 : Int)).1.dflt = 4 := rfl
  rw [hd]
  have hr1 := blk_below (heap_last w (.cells #[.slice none 0 0, .int .i64 0] 37)) hb
  have Hr := Lib.hid hr
  have Hb := Lib.hid (bel_call (bel_alloc (Below.refl _ w) _) hb)
  obtain ⟨a, c, rfl, _⟩ := Sl.form hr
  have hsz := hb.size
  have hr2 : (w1.alloc (.cells #[.slice a strictP.rules.length c, .int .i64 4] 37)).heap[w.heap.size]? = some (.cells #[.slice none 0 0, .int .i64 0] 37) := blk_old hr1
  have hc2 := cells_of hr2
  have hf2 := not_frozen hr2
  have hr4 := set_at (o := 1) (v := .int .i64 4) (set_at (o := 0) (v := .slice a strictP.rules.length c) hr2)
  have hc4 := cells_of hr4
  have Hb4 := Lib.hid (set_below (a := ⟨w.heap.size, 1, none⟩) (v := .int .i64 4) (set_below (a := ⟨w.heap.size, 0, none⟩) (v := .slice a strictP.rules.length c) (bel_alloc Hb.out (.cells #[.slice a strictP.rules.length c, .int .i64 4] 37)) (Nat.le_refl _)) (Nat.le_refl _))
  have HR4 : Hid (RdRules (((w1.alloc (.cells #[.slice a strictP.rules.length c, .int .i64 4] 37)).setCell ⟨w.heap.size, 0, none⟩ (.slice a strictP.rules.length c)).setCell ⟨w.heap.size, 1, none⟩ (.int .i64 4)) (fun b => w.heap.size ≤ b) (.slice a strictP.rules.length c) strictP.rules) :=
    RdRules.keep (Hr.out.below (bel_alloc (Below.refl _ _) _)) (fun b h _ => by have : (w.alloc _).heap.size ≤ b := h; simp at this; show w.heap.size ≤ b; omega) (fun b hb _ => by
      have h1 : (w.alloc _).heap.size ≤ b := hb
      simp at h1
      rw [set_other (by show b ≠ w.heap.size; omega), set_other (by show b ≠ w.heap.size; omega)]) (by rw [set_size, set_size]; exact Nat.le_refl _)
  clear hr hb hrm hd hr1 hr2
  go_wp2
  refine bodyPost_ret (v := polV (.slice a strictP.rules.length c) 4) ?_ rfl ⟨_, rfl, HR4.out, Hb4.out⟩
  simp [results, Tryz.results47, go_sem, hc4]

set_option maxRecDepth 100000 in
set_option maxHeartbeats 8000000 in
theorem tightened_walk (w : World) (hL : Laid w) : Calls Tryz.prog 13 #[] w fun e w' => e = .returned (.bool true) ∧ Below w.heap.size w w' := by
  have HL := Lib.hid hL
  clear hL
  obtain ⟨F, hF⟩ : ∃ F, filterE madeP = F := ⟨_, rfl⟩
  obtain ⟨F1, F2⟩ := F
  have hF2 : F2 = 0 := by have := tgt_f; rw [hF] at this; exact this
  subst hF2
  obtain ⟨⟨D1, D2⟩, hD⟩ : ∃ F, deltaE madeP strictP = F := ⟨_, rfl⟩
  have hD2 : D2 = 0 := by have := tgt_d; rw [hD] at this; exact this
  have hDl : D1.rules.length = 3 := by have := tgt_dl; rw [hD] at this; exact this
  have hDd : D1.dflt = 4 := by have := tgt_dd; rw [hD] at this; exact this
  have hDv : D1.rules.map (·.verdict) = [4, 4, 2] := by have := tgt_dv; rw [hD] at this; exact this
  subst hD2
  obtain ⟨⟨E1, E2⟩, hE⟩ : ∃ F, deltaE strictP madeP = F := ⟨_, rfl⟩
  have hE2 : E2 = 7 := by have := tgt_d2; rw [hE] at this; exact this
  subst hE2
  obtain ⟨⟨T1, T2⟩, hT⟩ : ∃ F, tightE [F1] madeP strictP = F := ⟨_, rfl⟩
  have hT2 : T2 = 0 := by have := tgt_t; rw [hF] at this; dsimp only at this; rw [hT] at this; exact this
  have hTl : T1.length = 2 := by have := tgt_tl; rw [hF] at this; dsimp only at this; rw [hT] at this; exact this
  have hTa : askE T1 ⟨0, 0, 0, 8, 0⟩ = (2, 0) := by have := tgt_a; rw [hF] at this; dsimp only at this; rw [hT] at this; exact this
  subst hT2
  have HF := Lib.hid hF
  have HD := Lib.hid hD
  have HE := Lib.hid hE
  have HT := Lib.hid hT
  have HTa := Lib.hid hTa
  have HDl := Lib.hid hDl
  have HDv := Lib.hid hDv
  have HTl := Lib.hid hTl
  have HDd := Lib.hid hDd
  clear hF hD hE hT hTa hDl hDv hTl hDd
  go_enter Tryz.func13, Tryz.ntmps13
  go_wp2_with fail
  refine (made_any _ HL.out).mono ?_
  rintro e w1 ⟨v1, rfl, hr1, hb1⟩
  have Hb1 := Lib.hid hb1
  have Hr1 := Lib.hid (rules_true hr1)
  obtain ⟨a1, c1, rfl, _⟩ := Sl.form hr1
  clear hr1 hb1
  go_wp2_with fail
  refine (compile_any _ madeP _ _ Hr1.out).mono ?_
  rw [HF.out]
  rintro e w2 ⟨v2, rfl, hr2, hb2⟩
  have Hb2 := Lib.hid (bel_call Hb1.out hb2)
  have Hr2 := Lib.hid hr2
  obtain ⟨a2, c2, rfl, _⟩ := Sl.form hr2
  clear hr2 hb2
  go_wp2_with fail
  refine (made_any _ (HL.out.below Hb2.out)).mono ?_
  rintro e w3 ⟨v3, rfl, hr3, hb3⟩
  have Hb3 := Lib.hid (bel_call Hb2.out hb3)
  have Hf3 := Lib.hid (Hr2.out.below hb3)
  have Hr3 := Lib.hid (rules_true hr3)
  obtain ⟨a3, c3, rfl, _⟩ := Sl.form hr3
  clear hr3 hb3
  go_wp2_with fail
  refine (strict_any _ (HL.out.below Hb3.out)).mono ?_
  rintro e w4 ⟨v4, rfl, hr4, hb4⟩
  have Hb4 := Lib.hid (bel_call Hb3.out hb4)
  have Hf4 := Lib.hid (Hf3.out.below hb4)
  have Hr34 := Lib.hid (Hr3.out.below hb4)
  have Hr4 := Lib.hid (rules_true hr4)
  obtain ⟨a4, c4, rfl, _⟩ := Sl.form hr4
  clear hr4 hb4
  go_wp2_with fail
  refine (delta_any _ _ madeP strictP _ Hr34.out Hr4.out).mono ?_
  rw [HD.out]
  rintro e w5 ⟨v5, rfl, hr5, hb5⟩
  have Hb5 := Lib.hid (bel_call Hb4.out hb5)
  have Hf5 := Lib.hid (Hf4.out.below hb5)
  have Hr5 := Lib.hid (rules_true hr5)
  obtain ⟨a5, c5, rfl, _⟩ := Sl.form hr5
  have HC5 := Lib.hid (Bx.one (w := w5) (o := .cells #[.slice a5 D1.rules.length c5, .int .i64 D1.dflt] 37))
  clear hr5 hb5
  go_wp2_with fail
  have HC6 := Lib.hid (Bx.push HC5.out (by simp) (.cells #[.slice a2 F1.length c2] 31))
  refine (made_any _ (HL.out.below (bel_call Hb5.out HC6.out.bel))).mono ?_
  rintro e w6 ⟨v6, rfl, hr6, hb6⟩
  have HC7 := Lib.hid (HC6.out.below hb6)
  have Hr6 := Lib.hid (rules_true hr6)
  obtain ⟨a6, c6, rfl, _⟩ := Sl.form hr6
  clear hr6 hb6
  go_wp2_with fail
  refine (strict_any _ (HL.out.below (bel_call Hb5.out HC7.out.bel))).mono ?_
  rintro e w7 ⟨v7, rfl, hr7, hb7⟩
  have HC8 := Lib.hid (HC7.out.below hb7)
  have Hr67 := Lib.hid (Hr6.out.below hb7)
  have Hr7 := Lib.hid (rules_true hr7)
  obtain ⟨a7, c7, rfl, _⟩ := Sl.form hr7
  clear hr7 hb7
  go_wp2_with fail
  have Hone : Hid (RdChain w7 (fun _ => True) (.slice (some ⟨w5.heap.size + 1, 0, none⟩) 1 1) [F1]) :=
    Sl.mono (one_code (T := 31) (D := fun _ => True) (HC8.out.at_ 1 _ rfl) ((Hf5.out.keep (fun _ _ _ => trivial) (fun _ _ _ => rfl) (Nat.le_refl _)).below HC8.out.bel)) (fun _ _ _ => trivial) (fun _ _ _ => rfl) (Nat.le_refl _) (fun _ _ _ h => h)
  refine (tighten_any _ _ _ [F1] madeP strictP _ _ Hone.out Hr67.out Hr7.out).mono ?_
  rw [HT.out]
  rintro e w8 ⟨v8, rfl, hr8, hb8⟩
  have HC9 := Lib.hid (HC8.out.below hb8)
  have Hr8 := Lib.hid hr8
  obtain ⟨a8, c8, rfl, _⟩ := Sl.form hr8
  clear hr8 hb8
  go_wp2_with fail
  refine (ask_any _ T1 ⟨0, 0, 0, 8, 0⟩ _ _ Hr8.out).mono ?_
  rw [HTa.out]
  rintro e w9 ⟨rfl, hb9⟩
  have HC10 := Lib.hid (HC9.out.below hb9)
  clear hb9
  go_wp2_with fail
  refine (ask_any _ [] ⟨0, 0, 0, 0, 0⟩ (fun _ => True) _ (nil_chain _ _)).mono ?_
  rw [tgt_a2]
  rintro e w10 ⟨rfl, hb10⟩
  have HC11 := Lib.hid (HC10.out.below hb10)
  clear hb10
  go_wp2_with fail
  refine (strict_any _ (HL.out.below (bel_call Hb5.out HC11.out.bel))).mono ?_
  rintro e w11 ⟨v11, rfl, hr11, hb11⟩
  have HC12 := Lib.hid (HC11.out.below hb11)
  have Hr11 := Lib.hid (rules_true hr11)
  obtain ⟨a11, c11, rfl, _⟩ := Sl.form hr11
  clear hr11 hb11
  go_wp2_with fail
  refine (made_any _ (HL.out.below (bel_call Hb5.out HC12.out.bel))).mono ?_
  rintro e w12 ⟨v12, rfl, hr12, hb12⟩
  have HC13 := Lib.hid (HC12.out.below hb12)
  have Hr11' := Lib.hid (Hr11.out.below hb12)
  have Hr12 := Lib.hid (rules_true hr12)
  obtain ⟨a12, c12, rfl, _⟩ := Sl.form hr12
  clear hr12 hb12
  go_wp2_with fail
  refine (delta_any _ _ strictP madeP _ Hr11'.out Hr12.out).mono ?_
  rw [HE.out]
  rintro e w13 ⟨v13, rfl, hr13, hb13⟩
  have HC14 := Lib.hid (HC13.out.below hb13)
  obtain ⟨a13, c13, rfl, _⟩ := Sl.form hr13
  have HC15 := Lib.hid (HC14.out.below (bel_alloc (Below.refl _ _) (.cells #[.slice a13 E1.rules.length c13, .int .i64 E1.dflt] 37)))
  have hq0 := HC15.out.cells0
  have Hr15 := Lib.hid (Hr5.out.below HC15.out.bel)
  have hDl := HDl.out
  obtain ⟨b5, o5, rfl, _⟩ := Sl.at_ Hr15.out (by rw [hDl]; omega)
  obtain ⟨_, _, _, hv2, _⟩ := RdRules.cells Hr15.out (i := 2) (by rw [hDl]; omega)
  have hvd : (D1.rules[2]'(by rw [hDl]; omega)).verdict = 2 := by
    have h := HDv.out
    have h2 := congrArg (fun l : List Int => l[2]?) h
    simp only [List.getElem?_map, List.getElem?_eq_getElem (show 2 < D1.rules.length by rw [hDl]; omega), Option.map_some] at h2
    exact Option.some.inj h2
  rw [hvd] at hv2
  have hTl := HTl.out
  have hDd := HDd.out
  have Hfin := Lib.hid (bel_call Hb5.out HC15.out.bel)
  clear hr13 hb13 hvd
  go_wp2
  go_ret
  exact ⟨rfl, Hfin.out⟩
end Go.Proofs.YtkiipnbjckdlbaaGreatDoor
namespace Go.Proofs.YtkiipnbjckdlbaaGreatDoor
open Go.RowKit
attribute [local go_sem] gives givesUpon

theorem run_neq_ins (c d : TIns) (w : World) : (binOp .neq 73 (.agg #[.int .i64 c.k, .int .i64 c.a, .int .i64 c.b, .int .i64 c.c]) (.agg #[.int .i64 d.k, .int .i64 d.a, .int .i64 d.b, .int .i64 d.c])).run Tryz.prog w = .ok (.bool (!decide (c = d))) w := by
  obtain ⟨k, a, b, c⟩ := c
  obtain ⟨k', a', b', c'⟩ := d
  dsimp only
  have hd : decide ((⟨k, a, b, c⟩ : TIns) = ⟨k', a', b', c'⟩) = (decide (k = k') && decide (a = a') && decide (b = b') && decide (c = c')) := by
    rw [Bool.eq_iff_iff]; simp [and_assoc]
  rw [hd]
  clear hd
  by_cases h0 : k = k'
  · have b0 : (k == k') = true := beq_iff_eq.2 h0
    by_cases h1 : a = a'
    · have b1 : (a == a') = true := beq_iff_eq.2 h1
      by_cases h2 : b = b'
      · have b2 : (b == b') = true := beq_iff_eq.2 h2
        by_cases h3 : c = c'
        · have b3 : (c == c') = true := beq_iff_eq.2 h3
          rw [decide_eq_true h0, decide_eq_true h1, decide_eq_true h2, decide_eq_true h3]
          clear h0 h1 h2 h3
          go_simp
        · have b3 : (c == c') = false := beq_eq_false_iff_ne.2 h3
          rw [decide_eq_true h0, decide_eq_true h1, decide_eq_true h2, decide_eq_false h3]
          clear h0 h1 h2 h3
          go_simp
      · have b2 : (b == b') = false := beq_eq_false_iff_ne.2 h2
        rw [decide_eq_true h0, decide_eq_true h1, decide_eq_false h2]
        clear h0 h1 h2
        go_simp
    · have b1 : (a == a') = false := beq_eq_false_iff_ne.2 h1
      rw [decide_eq_true h0, decide_eq_false h1]
      clear h0 h1
      go_simp
  · have b0 : (k == k') = false := beq_eq_false_iff_ne.2 h0
    rw [decide_eq_false h0]
    clear h0
    go_simp
theorem run_eql_ins (c d : TIns) (w : World) : (binOp .eql 73 (.agg #[.int .i64 c.k, .int .i64 c.a, .int .i64 c.b, .int .i64 c.c]) (.agg #[.int .i64 d.k, .int .i64 d.a, .int .i64 d.b, .int .i64 d.c])).run Tryz.prog w = .ok (.bool (decide (c = d))) w := by
  obtain ⟨k, a, b, c⟩ := c
  obtain ⟨k', a', b', c'⟩ := d
  dsimp only
  have hd : decide ((⟨k, a, b, c⟩ : TIns) = ⟨k', a', b', c'⟩) = (decide (k = k') && decide (a = a') && decide (b = b') && decide (c = c')) := by
    rw [Bool.eq_iff_iff]; simp [and_assoc]
  rw [hd]
  clear hd
  by_cases h0 : k = k'
  · have b0 : (k == k') = true := beq_iff_eq.2 h0
    by_cases h1 : a = a'
    · have b1 : (a == a') = true := beq_iff_eq.2 h1
      by_cases h2 : b = b'
      · have b2 : (b == b') = true := beq_iff_eq.2 h2
        by_cases h3 : c = c'
        · have b3 : (c == c') = true := beq_iff_eq.2 h3
          rw [decide_eq_true h0, decide_eq_true h1, decide_eq_true h2, decide_eq_true h3]
          clear h0 h1 h2 h3
          go_simp
        · have b3 : (c == c') = false := beq_eq_false_iff_ne.2 h3
          rw [decide_eq_true h0, decide_eq_true h1, decide_eq_true h2, decide_eq_false h3]
          clear h0 h1 h2 h3
          go_simp
      · have b2 : (b == b') = false := beq_eq_false_iff_ne.2 h2
        rw [decide_eq_true h0, decide_eq_true h1, decide_eq_false h2]
        clear h0 h1 h2
        go_simp
    · have b1 : (a == a') = false := beq_eq_false_iff_ne.2 h1
      rw [decide_eq_true h0, decide_eq_false h1]
      clear h0 h1
      go_simp
  · have b0 : (k == k') = false := beq_eq_false_iff_ne.2 h0
    rw [decide_eq_false h0]
    clear h0
    go_simp
theorem take_eq_step4 {α : Type} {xs ys : List α} {k : Nat} (hx : k < xs.length) (hy : k < ys.length) (h : xs.take k = ys.take k) (e : xs[k] = ys[k]) : xs.take (k + 1) = ys.take (k + 1) := by
  rw [List.take_succ_eq_append_getElem hx, List.take_succ_eq_append_getElem hy, h, e]
theorem ne_of_get4 {α : Type} {xs ys : List α} {k : Nat} (hx : k < xs.length) (hy : k < ys.length) (e : xs[k] ≠ ys[k]) : xs ≠ ys := fun h => e (by subst h; rfl)

attribute [-go_sem] run_neq_struct
set_option maxHeartbeats 1000000 in
theorem eqins_any (v u : Value) (xs ys : List TIns) (D : Nat → Prop) (w : World) (h : RdCode w D v xs) (h' : RdCode w D u ys) :
    Calls Tryz.prog 42 #[v, u] w fun e w' => e = .returned (.bool (decide (xs = ys))) ∧ Below w.heap.size w w' := by
  obtain ⟨a, c, rfl, hlc, hcm, hat⟩ := Sl.form h
  obtain ⟨a', c', rfl, hlc', hcm', hat'⟩ := Sl.form h'
  have H := Lib.hid h
  have H' := Lib.hid h'
  clear h h'
  by_cases hl : xs.length = ys.length
  · have b0 : ((xs.length : Int) != (ys.length : Int)) = false := bne_eq_false_iff_eq.2 (by omega)
    have hl' := Lib.hid hl
    have hl1 : xs.length ≤ ys.length := by omega
    have hl2 : ys.length ≤ xs.length := by omega
    clear hl
    go_enter Tryz.func42, Tryz.ntmps42
    go_wp2_with fail
    go_loopw [13] (fun i wr => ∃ k : Nat, k ≤ xs.length ∧ i = .int .i64 k ∧ xs.take k = ys.take k ∧ Below w.heap.size w wr) (fun i _ => xs.length - (intOf i).toNat)
    case atStart => exact ⟨0, by omega, rfl, rfl, Below.refl _ _⟩
    case round =>
      obtain ⟨k, hk, rfl, htk, hbw⟩ := hrel
      have Ht := Lib.hid htk
      have hsz := hbw.size
      clear htk
      by_cases hlt : k < xs.length
      · obtain ⟨b, o, rfl, hDb, hb⟩ := hat (by omega)
        obtain ⟨b', o', rfl, hDb', hb'⟩ := hat' (by omega)
        have hlt' : k < ys.length := by omega
        have hc : ∀ W, Cls w.heap.size wr W → (W.cell? ⟨b, o + k * 4, none⟩ = some (.int .i64 xs[k].k) ∧ W.cell? ⟨b, o + k * 4 + 1, none⟩ = some (.int .i64 xs[k].a) ∧ W.cell? ⟨b, o + k * 4 + 2, none⟩ = some (.int .i64 xs[k].b) ∧ W.cell? ⟨b, o + k * 4 + 3, none⟩ = some (.int .i64 xs[k].c)) ∧
            (W.cell? ⟨b', o' + k * 4, none⟩ = some (.int .i64 ys[k].k) ∧ W.cell? ⟨b', o' + k * 4 + 1, none⟩ = some (.int .i64 ys[k].a) ∧ W.cell? ⟨b', o' + k * 4 + 2, none⟩ = some (.int .i64 ys[k].b) ∧ W.cell? ⟨b', o' + k * 4 + 3, none⟩ = some (.int .i64 ys[k].c)) := fun W hW =>
          ⟨RdCode.cells (H.out.below (hbw.trans hW.2)) hlt, RdCode.cells (H'.out.below (hbw.trans hW.2)) hlt'⟩
        have Hc := Lib.hid hc
        have hne := run_neq_ins xs[k] ys[k]
        clear hc
        go_wp2_with fail
        refine wp_region_exact3 w.heap.size hsz (by kernel_rfl) (by kernel_rfl) ?_
        repeat (refine monoE_step (fun K hK => ?_); apply Exists.intro; refine ⟨fun W hC R hR => ?_, ?_⟩; (first
          | (have hne' := hne W; clear hne; go_simp; exact hR _ _ (Below.refl _ _) rfl)
          | (have hcc := Hc.out W hC; go_simp; exact hR _ _ (Below.refl _ _) rfl)); (go_simp; refine hK _ ?_; clear hK K))
        intro w2 hC2
        clear hne
        by_cases he : xs[k] = ys[k]
        · have Hn := Lib.hid (take_eq_step4 hlt hlt' Ht.out he)
          have d : decide (xs[k] = ys[k]) = true := decide_eq_true he
          clear he
          simp only [d]
          go_wp2
          go_roundw
          case rel => exact ⟨k + 1, by omega, by go_num, Hn.out, hbw.trans hC2.2⟩
          case measure => simp [intOf]; omega
        · have Hn := Lib.hid (ne_of_get4 hlt hlt' he)
          have d : decide (xs[k] = ys[k]) = false := decide_eq_false he
          clear he
          simp only [d]
          go_wp2
          go_ret
          exact ⟨ret_bool (decide_eq_false Hn.out).symm, hbw.trans hC2.2⟩
      · obtain rfl : k = xs.length := by omega
        have Hn : Hid (xs = ys) := by
          have := Ht.out
          rw [List.take_length, hl'.out, List.take_length] at this
          exact this
        go_wp2
        go_ret
        exact ⟨ret_bool (decide_eq_true Hn.out).symm, hbw⟩
  · have b0 : ((xs.length : Int) != (ys.length : Int)) = true := bne_iff_ne.2 (by omega)
    have hn : decide (xs = ys) = false := decide_eq_false fun e => hl (by rw [e])
    rw [hn]
    clear hn hl
    go_enter Tryz.func42, Tryz.ntmps42
    go_wp2
    go_ret
    exact ⟨rfl, Below.refl _ _⟩
end Go.Proofs.YtkiipnbjckdlbaaGreatDoor
namespace Go.Proofs.YtkiipnbjckdlbaaGreatDoor
open Go.RowKit

theorem code_true {w : World} {D : Nat → Prop} {v : Value} {l : List TIns} (h : RdCode w D v l) : RdCode w (fun _ => True) v l := h.keep (fun _ _ _ => trivial) (fun _ _ _ => rfl) (Nat.le_refl _)
theorem chain_true {w : World} {D : Nat → Prop} {v : Value} {l : List (List TIns)} (h : RdChain w D v l) : RdChain w (fun _ => True) v l := h.keep (fun _ _ _ => trivial) (fun _ _ _ => rfl) (Nat.le_refl _)
set_option maxHeartbeats 1000000 in
theorem chsame1_any (v u : Value) (f g : List TIns) (w : World) (h : RdCode w (fun _ => True) v f) (h' : RdCode w (fun _ => True) u g) :
    Calls Tryz.prog 59 #[v, u] w fun e w' => e = .returned (.bool (decide (f = g))) ∧ Below w.heap.size w w' := by
  have H := Lib.hid h
  have H' := Lib.hid h'
  obtain ⟨a, c, rfl, _⟩ := Sl.form h
  obtain ⟨a', c', rfl, _⟩ := Sl.form h'
  clear h h'
  go_enter Tryz.func59, Tryz.ntmps59
  go_wp2_with fail
  refine (eqins_any _ _ f g _ w H.out H'.out).mono ?_
  rintro e w1 ⟨rfl, hb1⟩
  go_wp2
  go_ret
  exact ⟨rfl, hb1⟩
set_option maxHeartbeats 4000000 in
theorem cheq_any (v u : Value) (xs ys : List (List TIns)) (w : World) (h : RdChain w (fun _ => True) v xs) (h' : RdChain w (fun _ => True) u ys) :
    Calls Tryz.prog 58 #[v, u, .func (.func 59) #[] #[]] w fun e w' => e = .returned (.bool (decide (xs = ys))) ∧ Below w.heap.size w w' := by
  have H := Lib.hid h
  have H' := Lib.hid h'
  obtain ⟨a, c, rfl, hlc, hcm, hat⟩ := Sl.form h
  obtain ⟨a', c', rfl, hlc', hcm', hat'⟩ := Sl.form h'
  clear h h'
  by_cases hl : xs.length = ys.length
  · have Hl := Lib.hid hl
    have hln : ((xs.length : Int) != (ys.length : Int)) = false := by rw [hl]; simp
    clear hl
    go_enter Tryz.func58, Tryz.ntmps58
    go_wp2_with fail
    go_loopw [17] (fun i wr => ∃ k : Nat, k ≤ xs.length ∧ i = .int .i64 k ∧ xs.take k = ys.take k ∧ Below w.heap.size w wr) (fun i _ => xs.length - (intOf i).toNat)
    case atStart => exact ⟨0, by omega, rfl, rfl, Below.refl _ _⟩
    case round =>
      obtain ⟨k, hk, rfl, htk, hbw⟩ := hrel
      have Ht := Lib.hid htk
      have Hb := Lib.hid hbw
      clear htk hbw
      by_cases hlt : k < xs.length
      · obtain ⟨b, o, rfl, _, _⟩ := hat (by omega)
        obtain ⟨b', o', rfl, _, _⟩ := hat' (by rw [← Hl.out]; omega)
        have hlt' : k < ys.length := by rw [← Hl.out]; exact hlt
        obtain ⟨a1, c1, hc1, hr1⟩ := RdChain.cells (H.out.below Hb.out) hlt
        obtain ⟨a2, c2, hc2, hr2⟩ := RdChain.cells (H'.out.below Hb.out) hlt'
        have Hr1 := Lib.hid hr1
        have Hr2 := Lib.hid hr2
        clear hr1 hr2
        go_wp2_with fail
        refine (chsame1_any _ _ xs[k] ys[k] _ Hr1.out Hr2.out).mono ?_
        rintro e w1 ⟨rfl, hb1⟩
        have Hb1 := Lib.hid (bel_call Hb.out hb1)
        clear hb1 hc1 hc2
        by_cases he : xs[k] = ys[k]
        · have Hn := Lib.hid (take_eq_step4 hlt hlt' Ht.out he)
          have d : decide (xs[k] = ys[k]) = true := decide_eq_true he
          clear he
          rw [d]
          go_wp2
          go_roundw
          case rel => first | exact ⟨k + 1, by omega, by go_num, Hn.out, Hb1.out⟩ | ((repeat apply Exists.intro); exact ⟨⟨k + 1, by omega, by go_num, Hn.out, Hb1.out⟩, rfl⟩)
          case measure => simp [intOf]; omega
        · have Hn := Lib.hid (ne_of_get4 hlt hlt' he)
          have d : decide (xs[k] = ys[k]) = false := decide_eq_false he
          clear he
          rw [d]
          go_wp2
          go_ret
          exact ⟨by rw [decide_eq_false Hn.out]; rfl, Hb1.out⟩
      · obtain rfl : k = xs.length := by omega
        have Hn : Hid (xs = ys) := by
          have := Ht.out
          rw [List.take_length, Hl.out, List.take_length] at this
          exact this
        go_wp2
        go_ret
        exact ⟨by rw [decide_eq_true Hn.out]; rfl, Hb.out⟩
  · have hn : xs ≠ ys := fun e => hl (by rw [e])
    have hl' : ((xs.length : Int) != (ys.length : Int)) = true := bne_iff_ne.2 (by omega)
    have HD := Lib.hid (decide_eq_false hn)
    clear hn
    go_enter Tryz.func58, Tryz.ntmps58
    go_wp2
    go_ret
    exact ⟨by rw [HD.out]; rfl, Below.refl _ _⟩
set_option maxHeartbeats 1000000 in
theorem chsame_any (v u : Value) (xs ys : List (List TIns)) (w : World) (h : RdChain w (fun _ => True) v xs) (h' : RdChain w (fun _ => True) u ys) :
    Calls Tryz.prog 23 #[v, u] w fun e w' => e = .returned (.bool (decide (xs = ys))) ∧ Below w.heap.size w w' := by
  have H := Lib.hid h
  have H' := Lib.hid h'
  obtain ⟨a, c, rfl, _⟩ := Sl.form h
  obtain ⟨a', c', rfl, _⟩ := Sl.form h'
  clear h h'
  go_enter Tryz.func23, Tryz.ntmps23
  go_wp2_with fail
  refine (cheq_any _ _ xs ys w H.out H'.out).mono ?_
  rintro e w1 ⟨rfl, hb1⟩
  go_wp2
  go_ret
  exact ⟨rfl, hb1⟩
end Go.Proofs.YtkiipnbjckdlbaaGreatDoor
namespace Go.Proofs.YtkiipnbjckdlbaaGreatDoor
open Go.RowKit
attribute [local go_sem] gives givesUpon

theorem tmod_small (k n : Int) (hn : 0 < n) : -n < k.tmod n ∧ k.tmod n < n ∧ k % n = if k.tmod n < 0 then k.tmod n + n else k.tmod n := by
  have h1 := Int.tmod_lt_of_pos k hn
  have h2 : -n < k.tmod n := Int.lt_tmod_of_pos k hn
  refine ⟨h2, h1, ?_⟩
  have he := Int.emod_nonneg k (show n ≠ 0 by omega)
  have he2 := Int.emod_lt_of_pos k hn
  have hd := Int.tmod_eq_emod (a := k) (b := n)
  split at hd <;> split <;> omega

set_option maxHeartbeats 1000000 in
theorem at_any (k n : Int) (w : World) (hn : 0 < n) (hb : n ≤ 70000) : Calls Tryz.prog 41 #[.int .i64 k, .int .i64 n] w fun e w' => e = .returned (.int .i64 (k % n)) ∧ w = w' := by
  obtain ⟨h1, h2, h3⟩ := tmod_small k n hn
  have H3 := Lib.hid h3
  clear h3
  go_enter Tryz.func41, Tryz.ntmps41
  by_cases h4 : k.tmod n < 0
  · go_wp2
    go_ret
    exact ⟨ret_int (by rw [H3.out, if_pos h4]), rfl⟩
  · go_wp2
    go_ret
    exact ⟨ret_int (by rw [H3.out, if_neg (by omega)]), rfl⟩

/-- what right makes of a call. -/
def TCall.right (x : TCall) : TCall := ⟨x.a0 % 64, x.a1 % 4, x.a2 % 65536, x.a3 % 65536, x.a4 % 65536⟩
theorem TCall.right_ok (x : TCall) : x.right.ok := by unfold TCall.ok TCall.right; dsimp only; omega
/-- the first k fields brought within bounds. -/
def rightTo (x : TCall) (k : Nat) : Array Value :=
  #[.int .i64 (if 0 < k then x.a0 % 64 else x.a0), .int .i64 (if 1 < k then x.a1 % 4 else x.a1), .int .i64 (if 2 < k then x.a2 % 65536 else x.a2), .int .i64 (if 3 < k then x.a3 % 65536 else x.a3), .int .i64 (if 4 < k then x.a4 % 65536 else x.a4)]
theorem rightTo_get (x : TCall) (k : Nat) (h : k < 5) : (rightTo x k)[k]? = some (.int .i64 (x.get k)) := by
  have hk : k = 0 ∨ k = 1 ∨ k = 2 ∨ k = 3 ∨ k = 4 := by omega
  rcases hk with rfl | rfl | rfl | rfl | rfl <;> rfl
theorem rightTo_set (x : TCall) (k : Nat) (h : k < 5) : (rightTo x k).setIfInBounds k (.int .i64 (x.get k % (mostOf k + 1))) = rightTo x (k + 1) := by
  have hk : k = 0 ∨ k = 1 ∨ k = 2 ∨ k = 3 ∨ k = 4 := by omega
  rcases hk with rfl | rfl | rfl | rfl | rfl <;> rfl

/-- What is told of a world in which one block of ours is written. -/
structure OneBlk (w0 : World) (b : Nat) (T : TypeId) (cs : Array Value) (W : World) : Prop where
  grown : w0.grownBy W (some b)
  here : W.heap[b]? = some (.cells cs T (0, 0))
theorem OneBlk.lt {w0 W : World} {b : Nat} {T : TypeId} {cs : Array Value} (h : OneBlk w0 b T cs W) : b < W.heap.size := (Array.getElem?_eq_some_iff.1 h.here).1
theorem OneBlk.below {w0 W W' : World} {b : Nat} {T : TypeId} {cs : Array Value} (h : OneBlk w0 b T cs W) (hb : Below W.heap.size W W') : OneBlk w0 b T cs W' :=
  ⟨⟨hb.os.trans h.grown.os, hb.tape.trans h.grown.tape, hb.output.trans h.grown.output, Nat.le_trans h.grown.size hb.size, fun i hi hn => (hb.block i (Nat.lt_of_lt_of_le hi h.grown.size)).trans (h.grown.block i hi hn)⟩, (hb.block b h.lt).trans h.here⟩
theorem OneBlk.cell {w0 W : World} {b : Nat} {T : TypeId} {cs : Array Value} (h : OneBlk w0 b T cs W) (k : Nat) : W.cell? ⟨b, k, none⟩ = cs[k]? := by simp [World.cell?, h.here]
theorem OneBlk.frozen {w0 W : World} {b : Nat} {T : TypeId} {cs : Array Value} (h : OneBlk w0 b T cs W) (k : Nat) : W.frozen? ⟨b, k, none⟩ = false := by simp [World.frozen?, h.here]
theorem OneBlk.set {w0 W : World} {b : Nat} {T : TypeId} {cs : Array Value} (h : OneBlk w0 b T cs W) (k : Nat) (v : Value) : OneBlk w0 b T (cs.setIfInBounds k v) (W.setCell ⟨b, k, none⟩ v) := by
  refine ⟨⟨h.grown.os, h.grown.tape, h.grown.output, by simpa [World.setCell] using h.grown.size, fun i hi hn => ?_⟩, ?_⟩
  · rw [Below.heap_setCell _ _ _ _ (fun e => hn (by rw [e]))]
    exact h.grown.block i hi hn
  · simp [World.setCell, Array.getElem?_modify, h.here]
theorem OneBlk.drew {w0 W : World} {b : Nat} {T : TypeId} {cs : Array Value} (h : OneBlk w0 b T cs W) : OneBlk w0 b T cs W.drew := ⟨⟨h.grown.os, h.grown.tape, h.grown.output, h.grown.size, h.grown.block⟩, h.here⟩
theorem OneBlk.alloc {w0 W : World} {b : Nat} {T : TypeId} {cs : Array Value} (h : OneBlk w0 b T cs W) (o : Obj) : OneBlk w0 b T cs (W.alloc o) := h.below ((Below.refl _ _).alloc (Nat.le_refl _) o)
theorem OneBlk.toBelow {w0 W : World} {b B : Nat} {T : TypeId} {cs : Array Value} (h : OneBlk w0 b T cs W) (hB : B ≤ b) (hB' : B ≤ w0.heap.size) : Below B w0 W :=
  ⟨h.grown.os, h.grown.tape, h.grown.output, h.grown.size, fun k hk => h.grown.block k (by omega) (by simp; omega)⟩

set_option maxHeartbeats 1000000 in
theorem right_any (x : TCall) (w : World) : Calls Tryz.prog 11 #[callV x] w fun e w' => e = .returned (callV x.right) ∧ Below w.heap.size w w' := by
  go_enter Tryz.func11, Tryz.ntmps11
  go_wp2_with fail
  go_loopw [4] (fun i wr => ∃ k : Nat, k ≤ 5 ∧ i = .int .i64 k ∧ OneBlk ((w.alloc (.cells #[.int .i64 x.a0, .int .i64 x.a1, .int .i64 x.a2, .int .i64 x.a3, .int .i64 x.a4] 24)).alloc (.cells #[.int .i64 0, .int .i64 0, .int .i64 0, .int .i64 0, .int .i64 0] 24)) w.heap.size 24 (rightTo x k) wr) (fun i _ => 5 - (intOf i).toNat)
  case atStart => exact ⟨0, by omega, rfl, ⟨rfl, rfl, rfl, Nat.le_refl _, fun _ _ _ => rfl⟩, blk_old (blk_at rfl)⟩
  case round =>
    obtain ⟨k, hk, rfl, hO⟩ := hrel
    have HO := Lib.hid hO
    have hlt0 := hO.lt
    clear hO
    by_cases hlt : k < 5
    · have hm0 : 0 < mostOf k + 1 ∧ mostOf k + 1 ≤ 70000 := by unfold mostOf; split <;> (try split) <;> omega
      have hwr : IntKind.i64.wrap (mostOf k + 1) = mostOf k + 1 := IntWalk.i64_in _ (by omega)
      have hgk := rightTo_get x k hlt
      have Hset := Lib.hid (rightTo_set x k hlt)
      go_wp2_with fail
      refine wp_region_stores (fun done W => OneBlk wr w.heap.size 24 (if done 9 then rightTo x (k + 1) else rightTo x k) W) (by kernel_rfl) (by kernel_rfl) ⟨⟨rfl, rfl, rfl, Nat.le_refl _, fun _ _ _ => rfl⟩, HO.out.here⟩ _ rfl ?_
      (refine doneE_step (fun K hK => ?_); apply Exists.intro; refine ⟨fun done W hI h0 hd hn R hR => ?_, ?_⟩; (go_simp; refine hR _ _ ?_ rfl; simpa [updDone] using hI); (go_simp; refine hK _ ?_; clear hK K))
      (refine doneE_step (fun K hK => ?_); apply Exists.intro; refine ⟨fun done W hI h0 hd hn R hR => ?_, ?_⟩; (go_simp; refine hR _ _ ?_ rfl; simpa [updDone] using hI); (go_simp; refine hK _ ?_; clear hK K))
      (refine doneE_step (fun K hK => ?_); apply Exists.intro; refine ⟨fun done W hI h0 hd hn R hR => ?_, ?_⟩; (go_simp; refine hR _ _ ?_ rfl; simpa [updDone] using hI); (go_simp; refine hK _ ?_; clear hK K))
      (refine doneE_step (fun K hK => ?_); apply Exists.intro; refine ⟨fun done W hI h0 hd hn R hR => ?_, ?_⟩; (have h9 : done 9 = false := hn 9 (by decide); have hI' : OneBlk wr w.heap.size 24 (rightTo x k) W := (by simpa [h9] using hI); have hc := (hI'.cell k).trans hgk; clear hI h0 hd hn; go_simp; refine hR _ _ ?_ rfl; simpa [updDone, h9] using hI'); (go_simp; refine hK _ ?_; clear hK K))
      (refine doneE_step (fun K hK => ?_); apply Exists.intro; refine ⟨fun done W hI h0 hd hn R hR => ?_, ?_⟩; (go_simp; refine hR _ _ ?_ rfl; simpa [updDone] using hI); (go_simp; refine hK _ ?_; clear hK K))
      (refine doneE_step (fun K hK => ?_); apply Exists.intro; refine ⟨fun done W hI h0 hd hn R hR => ?_, ?_⟩; (go_simp; go_at_call 43; refine (mostof_any _ _).mono ?_; rintro e w1 ⟨rfl, hb1⟩; refine ⟨_, rfl, hR _ _ ?_ rfl⟩; simpa [updDone] using hI.below hb1); (go_simp; refine hK _ ?_; clear hK K))
      (refine doneE_step (fun K hK => ?_); apply Exists.intro; refine ⟨fun done W hI h0 hd hn R hR => ?_, ?_⟩; (go_simp; refine hR _ _ ?_ rfl; simpa [updDone] using hI); (go_simp; refine hK _ ?_; clear hK K))
      (refine doneE_step (fun K hK => ?_); apply Exists.intro; refine ⟨fun done W hI h0 hd hn R hR => ?_, ?_⟩; (go_simp; go_at_call 41; (with_reducible refine (at_any _ _ _ hm0.1 hm0.2).mono ?_); rintro e w1 ⟨rfl, rfl⟩; refine ⟨_, rfl, hR _ _ ?_ rfl⟩; simpa [updDone] using hI); (go_simp; refine hK _ ?_; clear hK K))
      (refine doneE_step (fun K hK => ?_); apply Exists.intro; refine ⟨fun done W hI h0 hd hn R hR => ?_, ?_⟩; (go_simp; refine hR _ _ ?_ rfl; simpa [updDone] using hI); (go_simp; refine hK _ ?_; clear hK K))
      (refine doneE_step (fun K hK => ?_); apply Exists.intro; refine ⟨fun done W hI h0 hd hn R hR => ?_, ?_⟩; (have hI' : OneBlk wr w.heap.size 24 (rightTo x k) W := (by simpa [h0] using hI); have hc := (hI'.cell k).trans hgk; have hf := hI'.frozen k; have hs := hI'.set k (.int .i64 (x.get k % (mostOf k + 1))); rw [Hset.out] at hs; clear hI h0 hd hn; go_simp; refine hR _ _ ?_ rfl; simpa [updDone] using hs); (go_simp; refine hK _ ?_; clear hK K))
      intro done W hdone hI
      have h9 : done 9 = true := hdone 9 (by decide)
      have hI' : OneBlk wr w.heap.size 24 (rightTo x (k + 1)) W := by simpa [h9] using hI
      clear hI hdone
      have HI := Lib.hid hI'
      clear hI'
      go_wp2
      go_roundw
      case rel => exact ⟨k + 1, by omega, by go_num, ⟨⟨HI.out.grown.os.trans HO.out.grown.os, HI.out.grown.tape.trans HO.out.grown.tape, HI.out.grown.output.trans HO.out.grown.output, Nat.le_trans HO.out.grown.size HI.out.grown.size, fun i hi hn => (HI.out.grown.block i (Nat.lt_of_lt_of_le hi HO.out.grown.size) hn).trans (HO.out.grown.block i hi hn)⟩, HI.out.here⟩⟩
      case measure => simp [intOf]; omega
    · obtain rfl : k = 5 := by omega
      have hcell := HO.out.cell
      have h2 : wr.heap[w.heap.size + 1]? = some (.cells #[.int .i64 0, .int .i64 0, .int .i64 0, .int .i64 0, .int .i64 0] 24 (0, 0)) :=
        (HO.out.grown.block (w.heap.size + 1) (by simp) (by simp)).trans (blk_at (by simp))
      have hc2 : ∀ j, wr.cell? ⟨w.heap.size + 1, j, none⟩ = (#[Value.int .i64 0, .int .i64 0, .int .i64 0, .int .i64 0, .int .i64 0] : Array Value)[j]? := fun j => by simp [World.cell?, h2]
      have hf2 : ∀ j, wr.frozen? ⟨w.heap.size + 1, j, none⟩ = false := fun j => by simp [World.frozen?, h2]
      clear h2
      unfold rightTo at hcell
      have hb : Below w.heap.size w wr := (bel_alloc (bel_alloc (Below.refl _ _) _) _).trans (HO.out.toBelow (Nat.le_refl _) (by simp; omega))
      have Hb := Lib.hid hb
      clear hb
      go_wp2
      exact bodyPost_ret (v := callV x.right) (by simp [results, Tryz.results11, go_sem, hc2]; exact ⟨rfl, rfl, rfl, rfl, rfl⟩) rfl ⟨rfl, ((((Hb.out.setCell (by simp) _).setCell (by simp) _).setCell (by simp) _).setCell (by simp) _).setCell (by simp) _⟩
end Go.Proofs.YtkiipnbjckdlbaaGreatDoor
