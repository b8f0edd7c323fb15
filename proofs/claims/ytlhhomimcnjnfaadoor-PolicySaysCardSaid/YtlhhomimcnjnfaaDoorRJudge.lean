/- Walks: the reference's Holds, Judged. Condition: right policies, and calls' fields within bounds of the array. -/
import Derived.Test.YtlhhomimcnjnfaaDoorJudge3
import Derived.Test.YtlhhomimcnjnfaaDoorPrune
namespace Go.Proofs.YtlhhomimcnjnfaaDoor
open Go.RowKit
open Go.MapKept (IsKey)
attribute [local go_sem] gives givesUpon

/-- a condition of a number. -/
def holdsN (op v n : Int) : Bool := if op = 1 then n == v else if op = 2 then n != v else if op = 3 then decide (n < v) else decide (v ≤ n)
theorem holdsB_eq (c : TCond) (x : TCall) : holdsB c x = holdsN c.op c.v (x.get c.f) := rfl
@[reducible] def hm1 (n v : Int) : Array MapEntry := #[⟨.int .i64 1, .bool (n == v), 0⟩]
@[reducible] def hm2 (n v : Int) : Array MapEntry := #[⟨.int .i64 1, .bool (n == v), 0⟩, ⟨.int .i64 2, .bool (n != v), 1⟩]
@[reducible] def hm3 (n v : Int) : Array MapEntry := #[⟨.int .i64 1, .bool (n == v), 0⟩, ⟨.int .i64 2, .bool (n != v), 1⟩, ⟨.int .i64 3, .bool (decide (n < v)), 2⟩]
@[reducible] def hm4 (n v : Int) : Array MapEntry := #[⟨.int .i64 1, .bool (n == v), 0⟩, ⟨.int .i64 2, .bool (n != v), 1⟩, ⟨.int .i64 3, .bool (decide (n < v)), 2⟩, ⟨.int .i64 4, .bool (decide (v ≤ n)), 3⟩]
theorem hm_find (op n v : Int) (h0 : 1 ≤ op) (h1 : op ≤ 4) : ∃ j, Instr.findNow (.int .i64) (.int .i64 op) (hm4 n v).toList 0 = some (some (j, .bool (holdsN op v n))) := by
  have hop : op = 1 ∨ op = 2 ∨ op = 3 ∨ op = 4 := by omega
  rcases hop with rfl | rfl | rfl | rfl
  · exact ⟨0, rfl⟩
  · exact ⟨1, rfl⟩
  · exact ⟨2, rfl⟩
  · exact ⟨3, rfl⟩

set_option maxHeartbeats 2000000 in
theorem rholds_any (c : TCond) (n : Int) (w : World) (ho0 : 1 ≤ c.op) (ho1 : c.op ≤ 4) : Calls Tryd.prog 54 #[condV c, .int .i64 n] w fun e w' => e = .returned (.bool (holdsN c.op c.v n)) ∧ Below w.heap.size w w' := by
  obtain ⟨f, op, v⟩ := c
  dsimp only at ho0 ho1 ⊢
  have hmm := @run_makeMap Tryd.prog
  have hb : w.heap.size + 1 = (w.alloc (.cells #[.int .i64 f, .int .i64 op, .int .i64 v] 86)).heap.size := by simp
  have h1 := run_insert_at (P := Tryd.prog) (t := 130) (es := #[]) (c := 0) (key := .int .i64 1) (v := .bool (n == v)) hb Tryd.underlying130 Tryd.underlying3 rfl rfl
  have h2 := run_insert_at (P := Tryd.prog) (t := 130) (es := hm1 n v) (c := 1) (key := .int .i64 2) (v := .bool (n != v)) hb Tryd.underlying130 Tryd.underlying3 rfl rfl
  have h3 := run_insert_at (P := Tryd.prog) (t := 130) (es := hm2 n v) (c := 2) (key := .int .i64 3) (v := .bool (decide (n < v))) hb Tryd.underlying130 Tryd.underlying3 rfl rfl
  have h4 := run_insert_at (P := Tryd.prog) (t := 130) (es := hm3 n v) (c := 3) (key := .int .i64 4) (v := .bool (decide (v ≤ n))) hb Tryd.underlying130 Tryd.underlying3 rfl rfl
  simp only [List.push_toArray, List.nil_append, List.cons_append, Nat.reduceAdd] at h1 h2 h3 h4
  obtain ⟨j, hf⟩ := hm_find op n v ho0 ho1
  have hz : ∀ W : World, (zeroValue 4).run Tryd.prog W = .ok (.bool false) W := fun W => by kernel_rfl
  have h5 := run_lookup_bare (P := Tryd.prog) (key := .int .i64 op) (t := 130) Tryd.underlying130 Tryd.underlying3 (blk_at (w := w.alloc (.cells #[.int .i64 f, .int .i64 op, .int .i64 v] 86)) (o := .map (hm4 n v) 4) hb) (hz _) rfl hf
  simp only [Option.map_some, Option.getD_some] at h5
  clear hz hf hb
  go_enter Tryd.func54, Tryd.ntmps54
  go_wp2
  go_ret
  exact ⟨rfl, bel_alloc (bel_alloc (Below.refl _ _) _) _⟩

theorem callCells_get (x : TCall) {q : Nat} (h : q < 5) : (callCells x)[q]? = some (.int .i64 (x.get q)) := by
  have : q = 0 ∨ q = 1 ∨ q = 2 ∨ q = 3 ∨ q = 4 := by omega
  rcases this with rfl | rfl | rfl | rfl | rfl <;> rfl

theorem allHold_take_succ {x : TCall} {l : List TCond} {k : Nat} (hk : k < l.length) : allHold x (l.take (k + 1)) = (allHold x (l.take k) && holdsB l[k] x) := by
  rw [List.take_succ_eq_append_getElem hk]
  unfold allHold
  rw [List.all_append]
  simp
/-- which rule says, told from place k on. -/
def whichFrom (x : TCall) (rs : List TRule) (k : Nat) : Nat := k + which x (rs.drop k)
theorem whichFrom_end (x : TCall) (rs : List TRule) : whichFrom x rs rs.length = rs.length := by unfold whichFrom; rw [List.drop_length]; rfl
theorem whichFrom_zero (x : TCall) (rs : List TRule) : whichFrom x rs 0 = which x rs := by unfold whichFrom; simp
theorem whichFrom_yes {x : TCall} {rs : List TRule} {k : Nat} (h : k < rs.length) (hh : allHold x rs[k].conds = true) : whichFrom x rs k = k := by
  unfold whichFrom; rw [which_drop x rs k h, if_pos hh]; rfl
theorem whichFrom_no {x : TCall} {rs : List TRule} {k : Nat} (h : k < rs.length) (hh : allHold x rs[k].conds = false) : whichFrom x rs k = whichFrom x rs (k + 1) := by
  unfold whichFrom; rw [which_drop x rs k h, hh]; simp; omega
theorem verdictAt_lt {p : TPol} {k : Nat} (h : k < p.rules.length) : verdictAt p k = p.rules[k].verdict := by unfold verdictAt; rw [List.getElem?_eq_getElem h]
theorem verdictAt_end (p : TPol) : verdictAt p p.rules.length = p.dflt := by unfold verdictAt; rw [List.getElem?_eq_none (Nat.le_refl _)]

set_option maxHeartbeats 4000000 in
theorem rjudged_any (v : Value) (p : TPol) (x : TCall) (D : Nat → Prop) (w : World) (h : RdRules w D v p.rules) (hok : OkPol p) :
    Calls Tryd.prog 17 #[polV v p.dflt, callV x] w fun e w' => e = .returned (.tuple #[.int .i64 (judged p x).1, .int .i64 (judged p x).2]) ∧ Below w.heap.size w w' := by
  obtain ⟨a, c, rfl, hlc, hcm, hat⟩ := Sl.form h
  have H := Lib.hid h
  have Hok := Lib.hid hok
  have hlen : p.rules.length ≤ 120 := hok.len
  clear h hok
  go_enter Tryd.func17, Tryd.ntmps17
  go_wp2_with fail
  have hcl : ∀ W, Cls (w.heap.size + 2) ((w.alloc (.cells #[.slice a p.rules.length c, .int .i64 p.dflt] 24)).alloc (.cells (callCells x) 26)) W → ∀ j : Nat, W.cell? ⟨w.heap.size, j, none⟩ = (#[Value.slice a p.rules.length c, .int .i64 p.dflt] : Array Value)[j]? := fun W hW j => (box2_cells hW.2).1 j
  have Hcl := Lib.hid hcl
  clear hcl
  refine wp_region_exact3 (w.heap.size + 2) (by simp) (by kernel_rfl) (by kernel_rfl) ?_
  repeat (refine monoE_step (fun K hK => ?_); apply Exists.intro; refine ⟨fun W hC R hR => ?_, ?_⟩; (have hcell := Hcl.out W hC; go_simp; exact hR _ _ (Below.refl _ _) rfl); (go_simp; refine hK _ ?_; clear hK K))
  intro w2 hC2
  obtain ⟨hc1, hc2⟩ := box2_cells hC2.2
  have hv0 : verdictAt p (whichFrom x p.rules p.rules.length) = p.dflt := by rw [whichFrom_end, verdictAt_end]
  have Hv0 := Lib.hid hv0
  have Hw0 := Lib.hid (whichFrom_end x p.rules)
  clear hv0
  go_wp2_with fail
  go_loopw [6, 7, 8] (fun vd kk i wr => ∃ (k : Nat) (z : Int), k ≤ p.rules.length ∧ Hid (z = (k : Int) - 1) ∧ i = .int .i64 z ∧ vd = .int .i64 (verdictAt p (whichFrom x p.rules k)) ∧ kk = .int .i64 (whichFrom x p.rules k) ∧ Below (w.heap.size + 2) ((w.alloc (.cells #[.slice a p.rules.length c, .int .i64 p.dflt] 24)).alloc (.cells (callCells x) 26)) wr) (fun _ _ i _ => (intOf i + 1).toNat)
  case atStart => exact ⟨p.rules.length, _, Nat.le_refl _, rfl, rfl, by rw [Hv0.out], by rw [Hw0.out], hC2.2⟩
  case round =>
    obtain ⟨k, z, hk, hz, rfl, rfl, rfl, hbx⟩ := hrel
    have Hb := Lib.hid (bel_box2 hbx)
    have hsz := size_box2 hbx
    clear hc1 hc2 hC2 Hv0 Hw0
    obtain ⟨hc1, hc2⟩ := box2_cells hbx
    cases k with
    | zero =>
      obtain rfl : z = -1 := by have := hz.out; omega
      have Hw := Lib.hid (whichFrom_zero x p.rules)
      go_wp2
      go_ret2
      exact ⟨by rw [Hw.out]; rfl, Hb.out⟩
    | succ m =>
      obtain rfl : z = m := by have := hz.out; omega
      have hlt : m < p.rules.length := by omega
      obtain ⟨b, o, rfl, hDb, hbb⟩ := hat (by omega)
      obtain ⟨a', c', k0, k1, hr, hlc', hcm', hat'⟩ := RdRules.cells (RdRules.below H.out Hb.out) hlt
      have Hr := Lib.hid hr
      have Hrok := Lib.hid (Hok.out.rules _ (List.getElem_mem hlt))
      have hm0 : (0 : Int) ≤ m := by omega
      clear hr
      obtain ⟨wo, rfl⟩ : ∃ wo : World, wo = wr := ⟨_, rfl⟩
      go_wp2_with fail
      go_loopw [9, 32] (fun al i wr => ∃ (j : Nat) (ab : Bool), j ≤ p.rules[m].conds.length ∧ i = .int .i64 j ∧ al = .bool ab ∧ Hid (ab = allHold x (p.rules[m].conds.take j)) ∧ Below wo.heap.size wo wr) (fun _ i _ => p.rules[m].conds.length - (intOf i).toNat)
      case atStart => exact ⟨0, true, by omega, rfl, rfl, rfl, Below.refl _ _⟩
      case round =>
        obtain ⟨j, ab, hj, rfl, rfl, hab, hbi⟩ := hrel
        have hbx' := box2_step hbx hbi
        have Hbx := Lib.hid hbx'
        have hszi := hbi.size
        have Hbi := Lib.hid hbi
        clear hc1 hc2
        obtain ⟨hc1, hc2⟩ := box2_cells hbx'
        clear hbx'
        by_cases hlj : j < p.rules[m].conds.length
        · obtain ⟨b', o', rfl, hDb', hb'⟩ := hat' (by omega)
          obtain ⟨d0, d1, d2⟩ := RdConds.cells (RdConds.below Hr.out Hbi.out) hlj
          have Hck := Lib.hid (Hrok.out.conds _ (List.getElem_mem hlj))
          have Hsucc := Lib.hid (allHold_take_succ (x := x) hlj)
          clear k0 k1
          obtain ⟨q, hq⟩ : ∃ q : Nat, p.rules[m].conds[j].f = q := ⟨p.rules[m].conds[j].f.toNat, by have := Hck.out.f0; omega⟩
          have hq5 : q < 5 := by have := Hck.out.f1; omega
          rw [hq] at d0
          have Hq := Lib.hid hq
          clear hq
          have hx0 : ∀ W, Cls (wr.heap.size + 1) (wr.alloc (.cells #[.int .i64 q, .int .i64 p.rules[m].conds[j].op, .int .i64 p.rules[m].conds[j].v] 86)) W → (∀ i : Nat, W.cell? ⟨wr.heap.size, i, none⟩ = (#[.int .i64 q, .int .i64 p.rules[m].conds[j].op, .int .i64 p.rules[m].conds[j].v] : Array Value)[i]?) ∧ (∀ i : Nat, W.cell? ⟨w.heap.size + 1, i, none⟩ = (callCells x)[i]?) :=
            fun W hW => ⟨box_cells hW.2, fun i => ((hW.2.cell (p := ⟨w.heap.size + 1, i, none⟩) (by show w.heap.size + 1 < wr.heap.size + 1; omega)).trans (World.cell?_alloc_lt _ _ _ (by show w.heap.size + 1 < wr.heap.size; omega))).trans (hc2 i)⟩
          have Hx0 := Lib.hid hx0
          clear hx0
          have Hget := Lib.hid (callCells_get x hq5)
          cases ab with
          | true =>
            have Hn : Hid (holdsN p.rules[m].conds[j].op p.rules[m].conds[j].v (x.get q) = allHold x (p.rules[m].conds.take (j + 1))) := by
              have h2 := Hsucc.out
              rw [← hab.out, Bool.true_and, holdsB_eq, Hq.out] at h2
              exact h2.symm
            clear hab Hsucc
            have Hh : ∀ W : World, Calls Tryd.prog 54 #[.agg #[.int .i64 q, .int .i64 p.rules[m].conds[j].op, .int .i64 p.rules[m].conds[j].v], .int .i64 (x.get q)] W fun e w' => e = .returned (.bool (holdsN p.rules[m].conds[j].op p.rules[m].conds[j].v (x.get q))) ∧ Below W.heap.size W w' := fun W => rholds_any ⟨q, _, _⟩ _ W Hck.out.o0 Hck.out.o1
            have HH := Lib.hid Hh
            clear Hh
            have hqi : (q : Int) < 5 := by omega
            go_wp2_with fail
            refine wp_region_exact3 (wr.heap.size + 1) (by simp) (by kernel_rfl) (by kernel_rfl) ?_
            repeat (refine monoE_step (fun K hK => ?_); apply Exists.intro; refine ⟨fun W hC R hR => ?_, ?_⟩; (first
              | (have hcell := (Hx0.out W hC).1; go_simp; exact hR _ _ (Below.refl _ _) rfl)
              | (have hcell := ((Hx0.out W hC).2 q).trans Hget.out; go_simp; exact hR _ _ (Below.refl _ _) rfl)
              | (go_simp; go_at_call 54; refine (HH.out _).mono ?_; rintro e w1 ⟨rfl, hb1⟩; exact ⟨_, rfl, hR _ _ hb1 rfl⟩)); (go_simp; refine hK _ ?_; clear hK K))
            intro w2 hC2
            go_wp2_with fail
            go_roundw
            case rel => exact ⟨j + 1, _, by omega, by go_num, rfl, Hn, Hbi.out.trans ((bel_box hC2.2).mono Hbi.out.size)⟩
            case measure => simp [intOf]; omega
          | false =>
            have Hn : Hid (false = allHold x (p.rules[m].conds.take (j + 1))) := by
              have h2 := Hsucc.out
              rw [← hab.out, Bool.false_and] at h2
              exact h2.symm
            clear hab Hsucc
            go_wp2_with fail
            refine wp_region_exact3 (wr.heap.size + 1) (by simp) (by kernel_rfl) (by kernel_rfl) ?_
            repeat (refine monoE_step (fun K hK => ?_); apply Exists.intro; refine ⟨fun W hC R hR => ?_, ?_⟩; (go_simp; exact hR _ _ (Below.refl _ _) rfl); (go_simp; refine hK _ ?_; clear hK K))
            intro w2 hC2
            go_wp2_with fail
            go_roundw
            case rel => exact ⟨j + 1, _, by omega, by go_num, rfl, Hn, Hbi.out.trans ((bel_box hC2.2).mono Hbi.out.size)⟩
            case measure => simp [intOf]; omega
        · obtain rfl : j = p.rules[m].conds.length := by omega
          have Hab : Hid (ab = allHold x p.rules[m].conds) := by have := hab.out; rwa [List.take_length] at this
          have k1' := (Hbi.out.cell (p := ⟨b, o + m * 2 + 1, none⟩) (World.block_lt_of_cell? _ _ k1)).trans k1
          clear k0 k1 hab hat'
          cases ab with
          | true =>
            have Hn := Lib.hid (whichFrom_yes hlt Hab.out.symm)
            have Hvv := Lib.hid (verdictAt_lt hlt)
            clear Hab
            go_wp2
            go_roundw
            case rel => exact ⟨m, (m : Int) - 1, by omega, rfl, rfl, by rw [Hn.out, Hvv.out], by rw [Hn.out], Hbx.out⟩
            case measure => simp [intOf]
          | false =>
            have Hn := Lib.hid (whichFrom_no hlt Hab.out.symm)
            clear Hab
            go_wp2
            go_roundw
            case rel => exact ⟨m, (m : Int) - 1, by omega, rfl, rfl, by rw [Hn.out], by rw [Hn.out], Hbx.out⟩
            case measure => simp [intOf]
end Go.Proofs.YtlhhomimcnjnfaaDoor
