/- Texts laid one behind the other: PText, Met, Right, Same, Frame, FrameF, Open, OpenPol. No condition beyond theirs. -/
import Derived.Test.YtioeliocdbckbaaGreatDoorK6
import Derived.Test.YtioeliocdbckbaaGreatDoorK1
import Derived.Test.YtioeliocdbckbaaGreatDoorK2
import Derived.Test.YtioeliocdbckbaaGreatDoorK3
import Derived.Lib.ItoaLen
import Derived.Test.YtioeliocdbckbaaGreatDoorK4
import Derived.Test.YtioeliocdbckbaaGreatDoorK5
import Derived.Laws.StructEq
import Derived.KernelRfl
import Derived.Test.YtioeliocdbckbaaGreatDoorRows
import Derived.SizedLaws
import Derived.LaidMore
import Derived.Lay
import Derived.Lib.LaidU8
import Derived.Shelf.Vars
import Derived.ProofKit
import Derived.OpenShut
import Derived.Stop.Joined
import Derived.Deep.Slices
import Derived.ChangeOld
import Derived.ChangeSame
import Derived.Carry
import Derived.Test.YtioeliocdbckbaaGreatDoorProg
namespace Go.Proofs.YtioeliocdbckbaaGreatDoor
open Go.RowKit Go.Shelf
attribute [local go_sem] gives givesUpon

structure LaidF (w : World) : Prop where
  base : Laid w
  sp : Lib.TabIs Tryz.prog w "strings.asciiSpace" .u8 Lib.asciiSpaceTab
theorem LaidF.below {w w' : World} (h : LaidF w) (hb : Below w.heap.size w w') : LaidF w' := ⟨h.base.below hb, Go.Joins.tab_stays (g := 0) (by kernel_rfl) h.sp hb (Nat.le_refl _)⟩
def bsL (l : List UInt8) : ByteArray := ⟨l.toArray⟩
theorem itoa_any (n : Int) (h0 : -9223372036854775808 ≤ n) (h1 : n ≤ 9223372036854775807) (w : World) (hL : Laid w) :
    Calls Tryz.prog 81 #[.int .i64 n] w fun e w' => e = .returned (.string (bsL (Lib.itoa n))) ∧ Below w.heap.size w w' :=
  (Tryz.strconv_Itoa n h0 h1 w hL.pow).mono fun _ _ ⟨he, _, _, hw⟩ => ⟨he, below_world hw⟩
theorem verdict_words : Lib.fields [107, 105, 108, 108, 32, 116, 114, 97, 112, 32, 102, 97, 105, 108, 32, 108, 111, 103, 32, 97, 108, 108, 111, 119] = [[107, 105, 108, 108], [116, 114, 97, 112], [102, 97, 105, 108], [108, 111, 103], [97, 108, 108, 111, 119]] := by decide +kernel
theorem field_words : Lib.fields [110, 114, 32, 107, 105, 110, 100, 32, 97, 32, 98, 32, 99] = [[110, 114], [107, 105, 110, 100], [97], [98], [99]] := by decide +kernel

theorem fields_of (l : List UInt8) (ws : List (List UInt8)) (h0 : (l.all fun b => decide (b.toNat < 128)) = true) (h1 : l.length < 4294967281) (hf : Lib.fields l = ws) (w : World) (ht : Lib.TabIs Tryz.prog w "strings.asciiSpace" .u8 Lib.asciiSpaceTab) :
    Calls Tryz.prog 80 #[.string ⟨l.toArray⟩] w fun e w' => e = .returned (.slice (some ⟨w.heap.size, 0, none⟩) ws.length ws.length) ∧ w' = w.alloc (.cells (ws.map fun l => Value.string (bsL l)).toArray 9) := by
  subst hf
  exact Tryz.strings_Fields ⟨l.toArray⟩ w h1 (fun j b hb => of_decide_eq_true (List.all_eq_true.1 h0 b (List.mem_of_getElem? hb))) ht
theorem bsL_app (l m : List UInt8) : bsL l ++ bsL m = bsL (l ++ m) := by
  unfold bsL
  apply ByteArray.ext
  simp [ByteArray.data_append]
/-- the words in their blocks. -/
theorem verdict_cell {v : Int} (h0 : 0 ≤ v) (h1 : v ≤ 4) : (#[Value.string (bsL [107, 105, 108, 108]), .string (bsL [116, 114, 97, 112]), .string (bsL [102, 97, 105, 108]), .string (bsL [108, 111, 103]), .string (bsL [97, 108, 108, 111, 119])] : Array Value)[v.toNat]? = some (.string (bsL (verdictW v))) := by
  rcases (by omega : v = 0 ∨ v = 1 ∨ v = 2 ∨ v = 3 ∨ v = 4) with rfl | rfl | rfl | rfl | rfl <;> rfl
theorem field_cell {v : Int} (h0 : 0 ≤ v) (h1 : v ≤ 4) : (#[Value.string (bsL [110, 114]), .string (bsL [107, 105, 110, 100]), .string (bsL [97]), .string (bsL [98]), .string (bsL [99])] : Array Value)[v.toNat]? = some (.string (bsL (fieldW v))) := by
  rcases (by omega : v = 0 ∨ v = 1 ∨ v = 2 ∨ v = 3 ∨ v = 4) with rfl | rfl | rfl | rfl | rfl <;> rfl
theorem add_bs {P : Program} (x y : List UInt8) (h : x.length + y.length ≤ 1000000) (W : World) : (Op.stringOp .add (bsL x) (bsL y)).run P W = .ok (.string (bsL (x ++ y))) W := by
  rw [run_string_add_sum W (bsL x) (bsL y) (by show x.toArray.size + y.toArray.size ≤ _; simp; omega), bsL_app]
theorem op_slice {o : Int} (h0 : 1 ≤ o) (h1 : o ≤ 4) (W : World) : (Instr.slice 9 (.string ⟨#[63, 61, 33, 60, 62]⟩) (some (.int .i64 o)) (some (.int .i64 (o + 1))) none).run Tryz.prog W = .ok (.string (bsL [opW o])) W := by
  rcases (by omega : o = 1 ∨ o = 2 ∨ o = 3 ∨ o = 4) with rfl | rfl | rfl | rfl <;> kernel_rfl
def headP (l : List TRule) : List UInt8 := l.flatMap fun r => ruleW r ++ [59]
theorem headP_take {l : List TRule} {k : Nat} (h : k < l.length) : headP (l.take (k + 1)) = headP (l.take k) ++ (ruleW l[k] ++ [59]) := by
  unfold headP
  rw [List.take_succ_eq_append_getElem h, List.flatMap_append]; simp
def headC (l : List TCond) : List UInt8 := l.flatMap fun c => 32 :: condW c
theorem headC_take {l : List TCond} {k : Nat} (h : k < l.length) : headC (l.take (k + 1)) = headC (l.take k) ++ 32 :: condW l[k] := by
  unfold headC
  rw [List.take_succ_eq_append_getElem h, List.flatMap_append]; simp

theorem verdictW_len (v : Int) : (verdictW v).length ≤ 5 := by unfold verdictW; split <;> (try split) <;> (try split) <;> (try split) <;> simp
theorem fieldW_len (v : Int) : (fieldW v).length ≤ 4 := by unfold fieldW; split <;> (try split) <;> (try split) <;> (try split) <;> simp
theorem condW_len {c : TCond} (h : OkCond c) : (32 :: condW c).length ≤ 27 := by
  have h1 := fieldW_len c.f
  have h2 := Lib.itoa_length_le c.v (by have := h.v0; omega) (by have := h.v1; have : mostOf c.f ≤ 65535 := (by unfold mostOf; split <;> (try split) <;> omega); omega)
  unfold condW
  simp only [List.length_cons, List.length_append]; omega
theorem headC_len : ∀ (l : List TCond), (∀ c ∈ l, OkCond c) → (headC l).length ≤ 27 * l.length
  | [], _ => by simp [headC]
  | c :: l, h => by
    have h1 := condW_len (h c (List.mem_cons_self ..))
    have h2 := headC_len l (fun x hx => h x (List.mem_cons_of_mem _ hx))
    unfold headC at h2 ⊢
    rw [List.flatMap_cons, List.length_append]
    have h3 : (c :: l).length = l.length + 1 := rfl
    omega
theorem ruleW_len {r : TRule} (h : OkRule r) : (ruleW r ++ [59]).length ≤ 280 := by
  have h1 := headC_len r.conds h.conds
  have h2 := verdictW_len r.verdict
  have h3 := h.len
  unfold headC at h1
  unfold ruleW
  simp only [List.length_append, List.length_singleton]; omega
theorem headP_len : ∀ (l : List TRule), (∀ r ∈ l, OkRule r) → (headP l).length ≤ 280 * l.length
  | [], _ => by simp [headP]
  | r :: l, h => by
    have h1 := ruleW_len (h r (List.mem_cons_self ..))
    have h2 := headP_len l (fun x hx => h x (List.mem_cons_of_mem _ hx))
    unfold headP at h2 ⊢
    rw [List.flatMap_cons, List.length_append, List.length_cons]; omega
attribute [-go_sem] run_string_add_if run_slice_string_if run_slice_string
set_option maxRecDepth 100000 in
set_option maxHeartbeats 8000000 in
theorem ptext_any (v : Value) (p : TPol) (D : Nat → Prop) (w : World) (h : RdRules w D v p.rules) (hok : OkPol p) (hL : LaidF w) :
    Calls Tryz.prog 52 #[polV v p.dflt] w fun e w' => e = .returned (.string (bsL (textP p))) ∧ Below w.heap.size w w' := by
  have H := Lib.hid h
  have Hok := Lib.hid hok
  have HL := Lib.hid hL
  obtain ⟨a, c, rfl, hlc, hcm, hat⟩ := Sl.form h
  clear h hok hL
  go_enter Tryz.func52, Tryz.ntmps52
  go_wp2_with fail
  have HB := Lib.hid (Bx.one (w := w) (o := .cells #[.slice a p.rules.length c, .int .i64 p.dflt] 24))
  refine (fields_of [107, 105, 108, 108, 32, 116, 114, 97, 112, 32, 102, 97, 105, 108, 32, 108, 111, 103, 32, 97, 108, 108, 111, 119] _ (by decide +kernel) (by decide) verdict_words _ (HL.out.below HB.out.bel).sp).mono ?_
  rintro e w1 ⟨rfl, rfl⟩
  have HB1 := Lib.hid (HB.out.push (by simp) (.cells (([[107, 105, 108, 108], [116, 114, 97, 112], [102, 97, 105, 108], [108, 111, 103], [97, 108, 108, 111, 119]] : List (List UInt8)).map fun l => Value.string (bsL l)).toArray 9))
  go_wp2_with fail
  refine (fields_of [110, 114, 32, 107, 105, 110, 100, 32, 97, 32, 98, 32, 99] _ (by decide +kernel) (by decide) field_words _ (HL.out.below HB1.out.bel).sp).mono ?_
  rintro e w2 ⟨rfl, rfl⟩
  have HB2 := Lib.hid (HB1.out.push (by simp) (.cells (([[110, 114], [107, 105, 110, 100], [97], [98], [99]] : List (List UInt8)).map fun l => Value.string (bsL l)).toArray 9))
  have HW : Hid (Bx w [.cells #[.slice a p.rules.length c, .int .i64 p.dflt] 24, .cells #[Value.string (bsL [107, 105, 108, 108]), .string (bsL [116, 114, 97, 112]), .string (bsL [102, 97, 105, 108]), .string (bsL [108, 111, 103]), .string (bsL [97, 108, 108, 111, 119])] 9, .cells #[Value.string (bsL [110, 114]), .string (bsL [107, 105, 110, 100]), .string (bsL [97]), .string (bsL [98]), .string (bsL [99])] 9] (((w.alloc (.cells #[.slice a p.rules.length c, .int .i64 p.dflt] 24)).alloc (.cells (([[107, 105, 108, 108], [116, 114, 97, 112], [102, 97, 105, 108], [108, 111, 103], [97, 108, 108, 111, 119]] : List (List UInt8)).map fun l => Value.string (bsL l)).toArray 9)).alloc (.cells (([[110, 114], [107, 105, 110, 100], [97], [98], [99]] : List (List UInt8)).map fun l => Value.string (bsL l)).toArray 9))) := HB2.out
  clear HB1 HB2
  revert HW
  generalize (((w.alloc (.cells #[.slice a p.rules.length c, .int .i64 p.dflt] 24)).alloc (.cells (([[107, 105, 108, 108], [116, 114, 97, 112], [102, 97, 105, 108], [108, 111, 103], [97, 108, 108, 111, 119]] : List (List UInt8)).map fun l => Value.string (bsL l)).toArray 9)).alloc (.cells (([[110, 114], [107, 105, 110, 100], [97], [98], [99]] : List (List UInt8)).map fun l => Value.string (bsL l)).toArray 9)) = w2
  intro HW
  have hc0 := HW.out.cells0
  have hbo := Lib.hid (HL.out.below HW.out.bel)
  have htop : w.heap.size + 3 ≤ w2.heap.size := HW.out.top
  go_wp2_with fail
  clear hc0
  go_loopw [5, 15] (fun sv kv wr => ∃ (k : Nat) (t : List UInt8), kv = .int .i64 k ∧ sv = .string (bsL t) ∧ t = headP (p.rules.take k) ∧ k ≤ p.rules.length ∧ Below w2.heap.size w2 wr) (fun _ kv _ => p.rules.length - (intOf kv).toNat)
  case atStart => exact ⟨0, [], rfl, rfl, rfl, by omega, Below.refl _ _⟩
  case round =>
    obtain ⟨k, t, rfl, rfl, ht, hk, hb⟩ := hrel
    have Ht := Lib.hid ht
    have Hb := Lib.hid hb
    have hszr := hb.size
    have HWr := Lib.hid (HW.out.below hb)
    clear ht hb
    by_cases hlt : k < p.rules.length
    · obtain ⟨b, o, rfl, hDb, hblt⟩ := hat (by omega)
      obtain ⟨ca, cc, hc0w, hc1w, hrd, hcl, hcmx, hcat⟩ := RdRules.cells (H.out.below HWr.out.bel) hlt
      have Hkr := Lib.hid (Hok.out.rules p.rules[k] (List.getElem_mem hlt))
      have Htk := Lib.hid (headP_take hlt)
      obtain ⟨r, hr⟩ : ∃ r, p.rules[k] = r := ⟨_, rfl⟩
      rw [hr] at hc0w hc1w hrd hcl hcat Hkr Htk
      have Hrd := Lib.hid hrd
      have hv0 := Hkr.out.v0
      have hv1 := Hkr.out.v1
      have hvc : (wr.alloc (.cells #[.slice ca r.conds.length cc, .int .i64 r.verdict] 58)).cell? ⟨w.heap.size + 1, r.verdict.toNat, none⟩ = some (.string (bsL (verdictW r.verdict))) := ((HWr.out.alloc _).cells1 _).trans (verdict_cell hv0 hv1)
      obtain ⟨wo, rfl⟩ : ∃ wo : World, wo = wr := ⟨_, rfl⟩
      have htl : t.length ≤ 33600 := by
        rw [Ht.out]
        have := headP_len (p.rules.take k) (fun x hx => Hok.out.rules x (List.mem_of_mem_take hx))
        rw [List.length_take] at this
        have := Hok.out.len
        omega
      have hvl := verdictW_len r.verdict
      have ha1 := fun W => add_bs (P := Tryz.prog) t (verdictW r.verdict) (by omega) W
      clear hrd hr
      go_wp2_with fail
      clear hc0w hc1w hvc ha1
      have hbo1 : Below w2.heap.size w2 (wo.alloc (.cells #[.slice ca r.conds.length cc, .int .i64 r.verdict] 58)) := Hb.out.alloc hszr _
      have Hbo1 := Lib.hid hbo1
      have hbx1 : (wo.alloc (.cells #[.slice ca r.conds.length cc, .int .i64 r.verdict] 58)).heap[wo.heap.size]? = some (.cells #[.slice ca r.conds.length cc, .int .i64 r.verdict] 58) := heap_last _ _
      have Hrd1 := Lib.hid (Hrd.out.below (bel_alloc (Below.refl _ _) (.cells #[.slice ca r.conds.length cc, .int .i64 r.verdict] 58)))
      clear hbo1 hbx1
      go_loopw [5, 29] (fun sv jv wr => ∃ (j : Nat) (u : List UInt8), jv = .int .i64 j ∧ sv = .string (bsL u) ∧ u = t ++ verdictW r.verdict ++ headC (r.conds.take j) ∧ j ≤ r.conds.length ∧ Below (wo.heap.size + 1) (wo.alloc (.cells #[.slice ca r.conds.length cc, .int .i64 r.verdict] 58)) wr) (fun _ jv _ => r.conds.length - (intOf jv).toNat)
      case atStart => exact ⟨0, _, rfl, rfl, by simp [headC], by omega, Below.refl _ _⟩
      case round =>
        obtain ⟨j, u, rfl, rfl, hu, hj, hbj⟩ := hrel
        have Hu := Lib.hid hu
        have Hbj := Lib.hid hbj
        have hszj := hbj.size
        simp only [World.size_alloc] at hszj
        have HWj := Lib.hid (HW.out.below (Hbo1.out.trans (hbj.mono (by omega))))
        have HLj := Lib.hid (hbo.out.below (Hbo1.out.trans (hbj.mono (by omega))))
        clear hu hbj
        by_cases hjl : j < r.conds.length
        · obtain ⟨b2, o2, rfl, hDb2, hblt2⟩ := hcat (by omega)
          obtain ⟨hd0, hd1, hd2⟩ := RdConds.cells (Hrd1.out.below (Hbj.out.mono (by simp))) hjl
          have Hoc := Lib.hid (Hkr.out.conds r.conds[j] (List.getElem_mem hjl))
          have Hcj := Lib.hid (headC_take hjl)
          obtain ⟨⟨cf, cop, cv⟩, hcj⟩ : ∃ y : TCond, r.conds[j] = y := ⟨_, rfl⟩
          rw [hcj] at hd0 hd1 hd2 Hoc Hcj
          obtain ⟨hf0, hf1, ho0, ho1, hcv0, hcv1⟩ := (show (0 ≤ cf ∧ cf ≤ 4 ∧ 1 ≤ cop ∧ cop ≤ 4 ∧ 0 ≤ cv ∧ cv ≤ 65535) from ⟨Hoc.out.f0, by have h : cf < 5 := Hoc.out.f1; omega, Hoc.out.o0, Hoc.out.o1, Hoc.out.v0, by have h1 := Hoc.out.v1; have : mostOf cf ≤ 65535 := (by unfold mostOf; split <;> (try split) <;> omega); exact Int.le_trans h1 this⟩)
          have hul : u.length ≤ 34000 := by
            rw [Hu.out]
            have h1 := headC_len (r.conds.take j) (fun x hx => Hkr.out.conds x (List.mem_of_mem_take hx))
            rw [List.length_take] at h1
            have h2 := Hkr.out.len
            simp only [List.length_append]; omega
          have hfl := fieldW_len cf
          have hil := Lib.itoa_length_le cv (by omega) (by omega)
          have HX : Hid (∀ W, Cls (wr.heap.size + 1) (wr.alloc (.cells #[.int .i64 cf, .int .i64 cop, .int .i64 cv] 84)) W → (∀ i, W.cell? ⟨wr.heap.size, i, none⟩ = (#[.int .i64 cf, .int .i64 cop, .int .i64 cv] : Array Value)[i]?) ∧ W.cell? ⟨w.heap.size + 1 + 1, cf.toNat, none⟩ = some (.string (bsL (fieldW cf))) ∧ Laid W) := fun W hW =>
            ⟨cells_of (blk_below (heap_last wr (.cells #[.int .i64 cf, .int .i64 cop, .int .i64 cv] 84)) (hW.2.mono (by simp))), ((HWj.out.below ((bel_alloc (Below.refl _ _) _).trans (hW.2.mono (by omega)))).cells2 _).trans (field_cell hf0 hf1), (HLj.out.below ((bel_alloc (Below.refl _ _) _).trans (hW.2.mono (by omega)))).base⟩
          obtain ⟨s1, hs1⟩ : ∃ s1, 32 :: fieldW cf = s1 := ⟨_, rfl⟩
          obtain ⟨s2, hs2⟩ : ∃ s2, s1 ++ [opW cop] = s2 := ⟨_, rfl⟩
          obtain ⟨s3, hs3⟩ : ∃ s3, s2 ++ Lib.itoa cv = s3 := ⟨_, rfl⟩
          obtain ⟨s4, hs4⟩ : ∃ s4, u ++ s3 = s4 := ⟨_, rfl⟩
          have hl1 : s1.length ≤ 5 := by rw [← hs1]; simp; omega
          have hl2 : s2.length ≤ 6 := by rw [← hs2]; simp; omega
          have hl3 : s3.length ≤ 27 := by rw [← hs3]; simp; omega
          have hb1 : ∀ W : World, (Op.stringOp .add ⟨#[32]⟩ (bsL (fieldW cf))).run Tryz.prog W = .ok (.string (bsL s1)) W := fun W => by rw [← hs1]; exact add_bs [32] (fieldW cf) (by simp; omega) W
          have hb2 : ∀ W : World, (Op.stringOp .add (bsL s1) (bsL [opW cop])).run Tryz.prog W = .ok (.string (bsL s2)) W := fun W => by rw [← hs2]; exact add_bs s1 [opW cop] (by simp; omega) W
          have hb3 : ∀ W : World, (Op.stringOp .add (bsL s2) (bsL (Lib.itoa cv))).run Tryz.prog W = .ok (.string (bsL s3)) W := fun W => by rw [← hs3]; exact add_bs s2 (Lib.itoa cv) (by omega) W
          have hb4 : ∀ W : World, (Op.stringOp .add (bsL u) (bsL s3)).run Tryz.prog W = .ok (.string (bsL s4)) W := fun W => by rw [← hs4]; exact add_bs u s3 (by omega) W
          have hsl := fun W => op_slice ho0 ho1 W
          have hf5 : cf < 5 := by omega
          have hfw : IntKind.i64.wrap (cop + 1) = cop + 1 := IntWalk.i64_in _ (by omega)
          have HF : Hid (s4 = t ++ verdictW r.verdict ++ headC (r.conds.take (j + 1))) := by
            show _ = _
            rw [Hcj.out, ← hs4, ← hs3, ← hs2, ← hs1, Hu.out]; unfold condW; simp
          clear hs1 hs2 hs3 hs4 hl1 hl2 hl3
          obtain ⟨wj, rfl⟩ : ∃ wj : World, wj = wr := ⟨_, rfl⟩
          clear hcj
          go_wp2_with fail
          clear hd0 hd1 hd2
          refine wp_region_exact3 (wj.heap.size + 1) (by simp) (by kernel_rfl) (by kernel_rfl) ?_
          repeat (refine monoE_step (fun K hK => ?_); apply Exists.intro; refine ⟨fun W hC R hR => ?_, ?_⟩; (first
            | (have hcc := (HX.out W hC).1; have hcd := (HX.out W hC).2.1; go_simp; exact hR _ _ (Below.refl _ _) rfl)
            | (have hLW := (HX.out W hC).2.2; go_simp; go_at_call 81; refine (itoa_any cv (by omega) (by omega) _ hLW).mono ?_; rintro e w5 ⟨rfl, hb5⟩; exact ⟨_, rfl, hR _ _ hb5 rfl⟩)); (go_simp; refine hK _ ?_; clear hK K))
          intro w5 hC5
          have Hb5 := Lib.hid (Hbj.out.trans (((bel_alloc (Below.refl wj.heap.size wj) (.cells #[.int .i64 cf, .int .i64 cop, .int .i64 cv] 84)).mono hszj).trans (hC5.2.mono (by omega))))
          clear hC5 hb1 hb2 hb3 hb4 hsl
          go_wp2
          go_roundw
          case rel => exact ⟨j + 1, _, by go_num, rfl, HF.out, by omega, Hb5.out⟩
          case measure => simp [intOf]; omega
        · obtain rfl : j = r.conds.length := by omega
          have hul : u.length ≤ 34000 := by
            rw [Hu.out, List.take_length]
            have h1 := headC_len r.conds Hkr.out.conds
            have h2 := Hkr.out.len
            simp only [List.length_append]; omega
          have ha2 : ∀ W : World, (Op.stringOp .add (bsL u) ⟨#[59]⟩).run Tryz.prog W = .ok (.string (bsL (u ++ [59]))) W := fun W => add_bs u [59] (by simp; omega) W
          have HF : Hid (u ++ [59] = headP (p.rules.take (k + 1))) := by
            show _ = _
            rw [Htk.out, Hu.out, List.take_length, Ht.out]; unfold ruleW headC; simp
          have HB3 := Lib.hid (Hbo1.out.trans (Hbj.out.mono (by omega)))
          go_wp2
          go_roundw
          case rel => exact ⟨k + 1, _, by go_num, rfl, HF.out, by omega, HB3.out⟩
          case measure => simp [intOf]; omega
    · obtain rfl : k = p.rules.length := by omega
      have htl : t.length ≤ 33600 := by
        rw [Ht.out, List.take_length]
        have := headP_len p.rules Hok.out.rules
        have := Hok.out.len
        omega
      have hvl := verdictW_len p.dflt
      have hd0 := Hok.out.d0
      have hd1 := Hok.out.d1
      have ha1 := fun W => add_bs (P := Tryz.prog) t (verdictW p.dflt) (by omega) W
      have hc0 := HWr.out.cells0
      have hvc : wr.cell? ⟨w.heap.size + 1, p.dflt.toNat, none⟩ = some (.string (bsL (verdictW p.dflt))) := (HWr.out.cells1 _).trans (verdict_cell hd0 hd1)
      have HF : Hid (t ++ verdictW p.dflt = textP p) := by
        show _ = _
        rw [Ht.out, List.take_length]; rfl
      have HBf := Lib.hid HWr.out.bel
      go_wp2
      go_ret
      exact ⟨by rw [HF.out]; rfl, HBf.out⟩
end Go.Proofs.YtioeliocdbckbaaGreatDoor
namespace Go.Proofs.YtioeliocdbckbaaGreatDoor
open Go.RowKit
attribute [local go_sem] gives givesUpon

def trapA : TPol := ⟨[⟨[⟨2, 3, 9⟩], 1⟩], 4⟩
def metP : TPol := ⟨[⟨[⟨0, 1, 3⟩, ⟨2, 3, 5⟩, ⟨2, 3, 9⟩], 0⟩, ⟨[⟨0, 1, 3⟩, ⟨2, 3, 5⟩], 0⟩, ⟨[⟨1, 2, 0⟩, ⟨2, 3, 9⟩], 1⟩, ⟨[⟨1, 2, 0⟩], 3⟩, ⟨[⟨2, 3, 9⟩], 1⟩], 4⟩
def excP : TPol := ⟨[⟨[⟨2, 3, 9⟩, ⟨0, 1, 3⟩, ⟨2, 3, 5⟩], 4⟩, ⟨[⟨2, 3, 9⟩, ⟨1, 2, 0⟩], 1⟩, ⟨[⟨2, 3, 9⟩], 1⟩, ⟨[⟨0, 1, 3⟩, ⟨2, 3, 5⟩], 4⟩, ⟨[⟨1, 2, 0⟩], 4⟩], 4⟩
def longP : TPol := ⟨[⟨[], 0⟩, ⟨[], 3⟩], 4⟩
def shrtP : TPol := ⟨[⟨[], 0⟩], 4⟩
theorem met0 : readP [116, 114, 97, 112, 32, 97, 60, 57, 59, 97, 108, 108, 111, 119] = (trapA, 0) := by decide +kernel
theorem met1 : pairE minOf madeP trapA = (metP, 0) := by decide +kernel
theorem met2 : shortE longP = (shrtP, 0) := by decide +kernel
theorem met3 : pairE exceptOf trapA madeP = (excP, 0) := by decide +kernel
theorem met1t : textP metP = [107, 105, 108, 108, 32, 110, 114, 61, 51, 32, 97, 60, 53, 32, 97, 60, 57, 59, 107, 105, 108, 108, 32, 110, 114, 61, 51, 32, 97, 60, 53, 59, 116, 114, 97, 112, 32, 107, 105, 110, 100, 33, 48, 32, 97, 60, 57, 59, 108, 111, 103, 32, 107, 105, 110, 100, 33, 48, 59, 116, 114, 97, 112, 32, 97, 60, 57, 59, 97, 108, 108, 111, 119] := by decide +kernel
theorem met2t : textP shrtP = [107, 105, 108, 108, 59, 97, 108, 108, 111, 119] := by decide +kernel
theorem met3t : textP excP = [97, 108, 108, 111, 119, 32, 97, 60, 57, 32, 110, 114, 61, 51, 32, 97, 60, 53, 59, 116, 114, 97, 112, 32, 97, 60, 57, 32, 107, 105, 110, 100, 33, 48, 59, 116, 114, 97, 112, 32, 97, 60, 57, 59, 97, 108, 108, 111, 119, 32, 110, 114, 61, 51, 32, 97, 60, 53, 59, 97, 108, 108, 111, 119, 32, 107, 105, 110, 100, 33, 48, 59, 97, 108, 108, 111, 119] := by decide +kernel
theorem met1o : OkPol metP := (okPol_iff _).1 (by decide +kernel)
theorem met2o : OkPol shrtP := (okPol_iff _).1 (by decide +kernel)
theorem met3o : OkPol excP := (okPol_iff _).1 (by decide +kernel)
/-- parts of a tuple, of a struct. -/
def tupAt (v : Value) (i : Nat) : Value := match v with
  | .tuple a => a.getD i undef
  | _ => undef
def aggAt (v : Value) (i : Nat) : Value := match v with
  | .agg a => a.getD i undef
  | _ => undef
theorem InitT.rules {w w' : World} {D : Nat → Prop} {v : Value} {l : List TRule} (h : InitT [] w w') (hr : RdRules w D v l) : RdRules w' D v l :=
  hr.keep (fun _ h _ => h) (fun b _ hb => by
    have := h.keep b w.heap[b] (Array.getElem?_eq_getElem hb) (fun T hT => by cases hT)
    rw [this, Array.getElem?_eq_getElem hb]) h.size
theorem InitT.rulesNP {w w' : World} {ts : List TypeId} {v : Value} {l : List TRule} (h : InitT ts w w') (hts : ∀ T ∈ ts, T = 24) (hr : RdRules w (NotPol w) v l) : RdRules w' (NotPol w') v l := by
  have hsame : ∀ b, NotPol w b → b < w.heap.size → w'.heap[b]? = w.heap[b]? := fun b hn hb => by
    have := h.keep b w.heap[b] (Array.getElem?_eq_getElem hb) (fun T hT => by
      rintro ⟨cs, fr, e⟩
      rw [hts T hT] at e
      exact hn cs fr (by rw [Array.getElem?_eq_getElem hb, e]))
    rw [this, Array.getElem?_eq_getElem hb]
  exact hr.keep (fun b hn hb => hn.keep (hsame b hn hb)) (fun b hn hb => hsame b hn hb) h.size
/-- made's answer, until it is used; the meeting's. -/
def metG (km : Nat) (P : TPol) (k : Nat) (done : Nat → Bool) (vf : Nat → Value) (W : World) : Prop :=
  if k = km then (done 2 = false → ∃ u, vf km = polV u 4 ∧ RdRules W (fun _ => True) u madeP.rules) else if k = 2 ∨ k = 3 ∨ k = 4 then ∃ r, vf 2 = .tuple #[polV r P.dflt, .int .i64 0] ∧ RdRules W (NotPol W) r P.rules else True
theorem metG_keep {km k i : Nat} {P : TPol} {done : Nat → Bool} {vf : Nat → Value} {w w' : World} (hbf : i = 7 → done 2 = true) (hi : InitT (if i = 7 then [24] else []) w w') (h : metG km P k done vf w) : metG km P k (updDone done i) vf w' := by
  unfold metG at h ⊢
  split
  · rename_i e
    rw [if_pos e] at h
    intro hd
    unfold updDone at hd
    split at hd
    · cases hd
    · by_cases hs : i = 7
      · rw [hbf hs] at hd; cases hd
      · rw [if_neg hs] at hi
        obtain ⟨u, h1, h2⟩ := h hd
        exact ⟨u, h1, hi.rules h2⟩
  · rename_i e
    rw [if_neg e] at h
    split
    · rename_i e2
      rw [if_pos e2] at h
      obtain ⟨r, h1, h2⟩ := h
      refine ⟨r, h1, hi.rulesNP (fun T hT => ?_) h2⟩
      split at hT
      · simpa using hT
      · cases hT
    · trivial
theorem metG_proper {km k : Nat} {P : TPol} {done : Nat → Bool} {f g : Nat → Value} {w : World} (_hkm : km ≠ 2) (h2 : k = 3 ∨ k = 4 → f 2 = g 2) (hk : f k = g k) (h : metG km P k done f w) : metG km P k done g w := by
  unfold metG at h ⊢
  split
  · rename_i e; subst e; rw [if_pos rfl] at h; rw [← hk]; exact h
  · rename_i e
    rw [if_neg e] at h
    split
    · rename_i e2
      rw [if_pos e2] at h
      rcases e2 with rfl | e2
      · rw [← hk]; exact h
      · rw [← h2 e2]; exact h
    · trivial
theorem long_rules {W : World} {b : Nat} {T : TypeId} (hb : W.heap[b]? = some (.cells #[.slice none 0 0, .int .i64 0, .slice none 0 0, .int .i64 3] T)) : RdRules W (fun _ => True) (.slice (some ⟨b, 0, none⟩) 2 2) longP.rules :=
  sl_block (xs := longP.rules) (rows := [[.slice none 0 0, .int .i64 0], [.slice none 0 0, .int .i64 3]]) (RowsOf.cons (RowsOf.cons RowsOf.nil ⟨_, rfl, nil_conds _ _⟩ rfl) ⟨_, rfl, nil_conds _ _⟩ rfl) hb rfl trivial (by simp [maxLen, longP])

set_option maxRecDepth 100000 in
set_option maxHeartbeats 8000000 in
theorem met_walk (w : World) (hL : LaidF w) : Calls Tryz.prog 25 #[] w fun e w' => e = .returned (.bool true) ∧ Below w.heap.size w w' := by
  have HL := Lib.hid hL
  clear hL
  go_enter Tryz.func25, Tryz.ntmps25
  go_wp2_with fail
  refine (read_walk ⟨([116, 114, 97, 112, 32, 97, 60, 57, 59, 97, 108, 108, 111, 119] : List UInt8).toArray⟩ _ HL.out.base (by decide) (by decide)).mono ?_
  have hm0 : readP (⟨([116, 114, 97, 112, 32, 97, 60, 57, 59, 97, 108, 108, 111, 119] : List UInt8).toArray⟩ : ByteArray).data.toList = (trapA, 0) := met0
  rw [hm0]
  rintro e w1 ⟨v1, rfl, hr1, hb1⟩
  have Hr1 := Lib.hid (rules_true hr1)
  have Hb1 := Lib.hid hb1
  have hs1 := hb1.size
  obtain ⟨a1, c1, rfl, _⟩ := Sl.form hr1
  clear hr1 hb1 hm0
  have HBX := Lib.hid (Bx.one (w := w1) (o := .cells #[.slice a1 trapA.rules.length c1, .int .i64 trapA.dflt] 24))
  go_wp2_with fail
  revert HBX
  generalize (w1.alloc (.cells #[.slice a1 trapA.rules.length c1, .int .i64 trapA.dflt] 24)) = w2
  intro HBX
  have HS : Hid (∀ W, Cls w2.heap.size w2 W → ∀ j, W.cell? ⟨w1.heap.size, j, none⟩ = (#[.slice a1 trapA.rules.length c1, .int .i64 trapA.dflt] : Array Value)[j]?) := fun W hW => (HBX.out.below hW.2).cells0
  have HLW : Hid (∀ W, Cls w2.heap.size w2 W → LaidF W) := fun W hW => HL.out.below (bel_call Hb1.out (bel_call HBX.out.bel hW.2))
  have HQ : Hid (∀ W, Cls w2.heap.size w2 W → RdRules W (fun _ => True) (.slice a1 trapA.rules.length c1) trapA.rules) := fun W hW => Hr1.out.below (bel_call HBX.out.bel hW.2)
  refine wp_region_init w2.heap.size (Nat.le_refl _) 24 2 (fun _ => []) 6 7 (fun vf => #[aggAt (tupAt (vf 2) 0) 0, aggAt (tupAt (vf 2) 0) 1]) (metG 0 metP)
    (by kernel_rfl) (by kernel_rfl) _ rfl (by decide) (fun _ => by simp) (fun _ => rfl) (fun i k _ _ _ _ _ _ hbf _ hi h => metG_keep (fun e => hbf 2 (by subst e; decide)) hi h) (fun k _ f g _ hfg hk h => metG_proper (by decide) (fun e => hfg 2 (by rcases e with rfl | rfl <;> decide)) hk h) (fun f g h => by show #[aggAt (tupAt (f 2) 0) 0, aggAt (tupAt (f 2) 0) 1] = #[aggAt (tupAt (g 2) 0) 0, aggAt (tupAt (g 2) 0) 1]; rw [h 2 (by decide)]) ?_
  (refine rel_pr (fun K hK => ?_); refine ⟨fun done vf W hI h0 hd hn hf R hR => ?_, ?_⟩; (have hWL := HLW.out W hI; clear h0 hd hn hf; go_simp; go_at_call 33; refine (made_any _ hWL.base).mono ?_; (rintro e w4 ⟨v4, rfl, hr4, hb4⟩; exact ⟨_, rfl, hR _ _ (Cls.step hI hb4) (initT.plain hb4 (by decide)) trivial (fun _ => ⟨v4, rfl, rules_true hr4⟩)⟩)); (go_simp; refine hK _ ?_; clear hK K))
  (refine rel_ex (fun K hK => ?_); apply Exists.intro; refine ⟨fun done vf W hI h0 hd hn hf R hR => ?_, ?_, ?_⟩; (have hcell := HS.out W hI; clear h0 hd hn hf; go_simp; exact hR _ _ (Cls.step hI (Below.refl _ _)) (initT.plain (Below.refl _ _) (by decide)) rfl trivial); exact (fun _ _ _ => rfl); (go_simp; refine hK _ ?_; clear hK K))
  (refine rel_pr (fun K hK => ?_); refine ⟨fun done vf W hI h0 hd hn hf R hR => ?_, ?_⟩; (have h1 : done 2 = false → ∃ u, vf 0 = polV u 4 ∧ RdRules W (fun _ => True) u madeP.rules := hf 0 (hd 0 (by decide)); obtain ⟨u, hu, hru⟩ := h1 h0; have Hru := Lib.hid hru; have HqW := Lib.hid (HQ.out W hI); clear h1 h0 hd hn hf hru; go_simp; go_at_call 23; refine (meet_any u (.slice a1 trapA.rules.length c1) madeP trapA W Hru.out HqW.out).mono ?_; rw [met1]; (rintro e w4 ⟨r4, rfl, hr4, hb4⟩; exact ⟨_, rfl, hR _ _ (Cls.step hI hb4) (initT.plain hb4 (by decide)) trivial ⟨r4, rfl, hr4.keep (fun _ h _ => h.2) (fun _ _ _ => rfl) (Nat.le_refl _)⟩⟩)); (go_simp; refine hK _ ?_; clear hK K))
  (refine rel_ex (fun K hK => ?_); refine ⟨fun vf => vf 2, fun done vf W hI h0 hd hn hf R hR => ?_, ?_, ?_⟩; (have h2 : ∃ r, vf 2 = .tuple #[polV r metP.dflt, .int .i64 0] ∧ RdRules W (NotPol W) r metP.rules := hf 2 (hd 2 (by decide)); clear h0 hd hn hf; go_simp; exact hR _ _ (Cls.step hI (Below.refl _ _)) (initT.plain (Below.refl _ _) (by decide)) rfl h2); exact (fun f g h => h 2 (by decide)); (go_simp; refine hK _ ?_; clear hK K))
  (refine rel_ex (fun K hK => ?_); refine ⟨fun vf => tupAt (vf 2) 0, fun done vf W hI h0 hd hn hf R hR => ?_, ?_, ?_⟩; (have h2 : ∃ r, vf 2 = .tuple #[polV r metP.dflt, .int .i64 0] ∧ RdRules W (NotPol W) r metP.rules := hf 3 (hd 3 (by decide)); have h2k := h2; obtain ⟨r, hr, _⟩ := h2; clear h0 hd hn hf; go_simp; exact hR _ _ (Cls.step hI (Below.refl _ _)) (initT.plain (Below.refl _ _) (by decide)) (by show _ = tupAt (vf 2) 0; rw [hr]; rfl) h2k); exact (fun f g h => by show tupAt (f 2) 0 = tupAt (g 2) 0; rw [h 2 (by decide)]); (go_simp; refine hK _ ?_; clear hK K))
  (refine rel_ex (fun K hK => ?_); refine ⟨fun vf => .int .i64 0, fun done vf W hI h0 hd hn hf R hR => ?_, ?_, ?_⟩; (have h2 : ∃ r, vf 2 = .tuple #[polV r metP.dflt, .int .i64 0] ∧ RdRules W (NotPol W) r metP.rules := hf 3 (hd 3 (by decide)); obtain ⟨r, hr, _⟩ := h2; clear h0 hd hn hf; go_simp; exact hR _ _ (Cls.step hI (Below.refl _ _)) (initT.plain (Below.refl _ _) (by decide)) rfl trivial); exact (fun _ _ _ => rfl); (go_simp; refine hK _ ?_; clear hK K))
  (refine rel_pr (fun K hK => ?_); refine ⟨fun done vf W hI h0 hd hn hf R hR => ?_, ?_⟩; (clear h0 hd hn hf; go_simp; exact hR _ _ (Cls.step hI (bel_alloc (Below.refl _ _) _)) (initT.plain (bel_alloc (Below.refl _ _) _) (by decide)) trivial ⟨_, rfl, hI.1, _, rfl, heap_last _ _⟩); (go_simp; refine hK _ ?_; clear hK K))
  (refine rel_pr (fun K hK => ?_); refine ⟨fun done vf W hI h0 hd hn hf R hR => ?_, ?_⟩; (have h11 : VarAt w2.heap.size 24 2 (vf 6) W := hf 6 (hd 6 (by decide)); obtain ⟨b11, h11, hb11, cs, hcs, hc11⟩ := h11; obtain ⟨c11, d11, rfl⟩ := two_cells hcs; have hce := cells_of hc11; have hfe := not_frozen hc11; have Hc11 := Lib.hid hc11; have h7 : ∃ r, vf 2 = .tuple #[polV r metP.dflt, .int .i64 0] ∧ RdRules W (NotPol W) r metP.rules := hf 4 (hd 4 (by decide)); obtain ⟨r, hr2, hrr⟩ := h7; obtain ⟨a7, c7, hr7, _⟩ := Sl.form hrr; generalize metP.rules.length = n7 at hr7; subst hr7; have htu : tupAt (vf 2) 0 = polV (.slice a7 n7 c7) metP.dflt := (by rw [hr2]; rfl); have Hst : Hid (((W.setCell ⟨b11, 0, none⟩ (.slice a7 n7 c7)).setCell ⟨b11, 1, none⟩ (.int .i64 metP.dflt)).heap[b11]? = some (.cells #[.slice a7 n7 c7, .int .i64 metP.dflt] 24)) := set_at (set_at hc11); have HN : Hid (#[aggAt (tupAt (vf 2) 0) 0, aggAt (tupAt (vf 2) 0) 1] = (#[.slice a7 n7 c7, .int .i64 metP.dflt] : Array Value)) := (by show _ = _; rw [htu]; rfl); clear h0 hd hn hf hc11 hcs hrr hr2; go_simp; exact hR _ _ ⟨by simp only [set_size]; exact hI.1, set_below (set_below hI.2 hb11) hb11⟩ ⟨InitT.trans (.of_set (by simp) Hc11.out) (.of_set (by simp) (set_at Hc11.out)), fun _ => ⟨b11, h11, by show _ = some (Obj.cells #[aggAt (tupAt (vf 2) 0) 0, aggAt (tupAt (vf 2) 0) 1] _); rw [HN.out]; exact Hst.out⟩⟩ trivial ⟨b11, h11, by show _ = some (Obj.cells #[aggAt (tupAt (vf 2) 0) 0, aggAt (tupAt (vf 2) 0) 1] _); rw [HN.out]; exact Hst.out⟩); (go_simp; refine hK _ ?_; clear hK K))
  (refine rel_ex (fun K hK => ?_); apply Exists.intro; refine ⟨fun done vf W hI h0 hd hn hf R hR => ?_, ?_, ?_⟩; (clear h0 hd hn hf; go_simp; exact hR _ _ (Cls.step hI (Below.refl _ _)) (initT.plain (Below.refl _ _) (by decide)) rfl trivial); exact (fun _ _ _ => rfl); (go_simp; refine hK _ ?_; clear hK K))
  intro done vf w3 hd hI hF
  have h12 : VarIs 24 (vf 6) #[aggAt (tupAt (vf 2) 0) 0, aggAt (tupAt (vf 2) 0) 1] w3 := hF 7 (by decide)
  have h4 : ∃ r, vf 2 = .tuple #[polV r metP.dflt, .int .i64 0] ∧ RdRules w3 (NotPol w3) r metP.rules := hF 4 (by decide)
  obtain ⟨bx, h11, hc11⟩ := h12
  obtain ⟨rq, hvq, hrq⟩ := h4
  rw [hvq] at hc11
  have HcQ : Hid (w3.heap[bx]? = some (.cells #[rq, .int .i64 metP.dflt] 24)) := hc11
  have Hrq := Lib.hid (rules_true hrq)
  obtain ⟨aq, cq, rfl, _⟩ := Sl.form hrq
  have Hb3 := Lib.hid hI.2
  have HS3 := Lib.hid (HS.out w3 hI)
  clear hd hI hF hc11 hvq hrq HS HLW HQ
  go_wp2_with fail
  refine (short_any (.slice (some ⟨w3.heap.size, 0, none⟩) 2 2) longP _ (long_rules (heap_last _ _))).mono ?_
  rw [met2]
  rintro e w4 ⟨rs, rfl, hrs, hb4⟩
  have Hrs := Lib.hid (rules_true hrs)
  obtain ⟨as2, cs2, rfl, _⟩ := Sl.form hrs
  have Hb4 := Lib.hid (bel_call (bel_alloc (Below.refl _ w3) (.cells #[.slice none 0 0, .int .i64 0, .slice none 0 0, .int .i64 3] 58)) hb4)
  have HBS := Lib.hid (Bx.one (w := w4) (o := .cells #[.slice as2 shrtP.rules.length cs2, .int .i64 shrtP.dflt] 24))
  clear hrs hb4
  go_wp2_with fail
  revert HBS
  generalize (w4.alloc (.cells #[.slice as2 shrtP.rules.length cs2, .int .i64 shrtP.dflt] 24)) = w5
  intro HBS
  have Hb35 := Lib.hid (bel_call Hb4.out HBS.out.bel)
  have HBX5 := Lib.hid (HBX.out.below (bel_call Hb3.out Hb35.out))
  have HS : Hid (∀ W, Cls w5.heap.size w5 W → ∀ j, W.cell? ⟨w1.heap.size, j, none⟩ = (#[.slice a1 trapA.rules.length c1, .int .i64 trapA.dflt] : Array Value)[j]?) := fun W hW => (HBX5.out.below hW.2).cells0
  have HLW : Hid (∀ W, Cls w5.heap.size w5 W → LaidF W) := fun W hW => HL.out.below (bel_call Hb1.out (bel_call HBX5.out.bel hW.2))
  have HQ : Hid (∀ W, Cls w5.heap.size w5 W → RdRules W (fun _ => True) (.slice a1 trapA.rules.length c1) trapA.rules) := fun W hW => Hr1.out.below (bel_call HBX5.out.bel hW.2)
  refine wp_region_init w5.heap.size (Nat.le_refl _) 24 2 (fun _ => []) 6 7 (fun vf => #[aggAt (tupAt (vf 2) 0) 0, aggAt (tupAt (vf 2) 0) 1]) (metG 1 excP)
    (by kernel_rfl) (by kernel_rfl) _ rfl (by decide) (fun _ => by simp) (fun _ => rfl) (fun i k _ _ _ _ _ _ hbf _ hi h => metG_keep (fun e => hbf 2 (by subst e; decide)) hi h) (fun k _ f g _ hfg hk h => metG_proper (by decide) (fun e => hfg 2 (by rcases e with rfl | rfl <;> decide)) hk h) (fun f g h => by show #[aggAt (tupAt (f 2) 0) 0, aggAt (tupAt (f 2) 0) 1] = #[aggAt (tupAt (g 2) 0) 0, aggAt (tupAt (g 2) 0) 1]; rw [h 2 (by decide)]) ?_
  (refine rel_ex (fun K hK => ?_); apply Exists.intro; refine ⟨fun done vf W hI h0 hd hn hf R hR => ?_, ?_, ?_⟩; (have hcell := HS.out W hI; clear h0 hd hn hf; go_simp; exact hR _ _ (Cls.step hI (Below.refl _ _)) (initT.plain (Below.refl _ _) (by decide)) rfl trivial); exact (fun _ _ _ => rfl); (go_simp; refine hK _ ?_; clear hK K))
  (refine rel_pr (fun K hK => ?_); refine ⟨fun done vf W hI h0 hd hn hf R hR => ?_, ?_⟩; (have hWL := HLW.out W hI; clear h0 hd hn hf; go_simp; go_at_call 33; refine (made_any _ hWL.base).mono ?_; (rintro e w4 ⟨v4, rfl, hr4, hb4⟩; exact ⟨_, rfl, hR _ _ (Cls.step hI hb4) (initT.plain hb4 (by decide)) trivial (fun _ => ⟨v4, rfl, rules_true hr4⟩)⟩)); (go_simp; refine hK _ ?_; clear hK K))
  (refine rel_pr (fun K hK => ?_); refine ⟨fun done vf W hI h0 hd hn hf R hR => ?_, ?_⟩; (have h1 : done 2 = false → ∃ u, vf 1 = polV u 4 ∧ RdRules W (fun _ => True) u madeP.rules := hf 1 (hd 1 (by decide)); obtain ⟨u, hu, hru⟩ := h1 h0; have Hru := Lib.hid hru; have HqW := Lib.hid (HQ.out W hI); clear h1 h0 hd hn hf hru; go_simp; go_at_call 24; refine (exceptPol_any (.slice a1 trapA.rules.length c1) u trapA madeP W HqW.out Hru.out).mono ?_; rw [met3]; (rintro e w4 ⟨r4, rfl, hr4, hb4⟩; exact ⟨_, rfl, hR _ _ (Cls.step hI hb4) (initT.plain hb4 (by decide)) trivial ⟨r4, rfl, hr4.keep (fun _ h _ => h.2) (fun _ _ _ => rfl) (Nat.le_refl _)⟩⟩)); (go_simp; refine hK _ ?_; clear hK K))
  (refine rel_ex (fun K hK => ?_); refine ⟨fun vf => vf 2, fun done vf W hI h0 hd hn hf R hR => ?_, ?_, ?_⟩; (have h2 : ∃ r, vf 2 = .tuple #[polV r excP.dflt, .int .i64 0] ∧ RdRules W (NotPol W) r excP.rules := hf 2 (hd 2 (by decide)); clear h0 hd hn hf; go_simp; exact hR _ _ (Cls.step hI (Below.refl _ _)) (initT.plain (Below.refl _ _) (by decide)) rfl h2); exact (fun f g h => h 2 (by decide)); (go_simp; refine hK _ ?_; clear hK K))
  (refine rel_ex (fun K hK => ?_); refine ⟨fun vf => tupAt (vf 2) 0, fun done vf W hI h0 hd hn hf R hR => ?_, ?_, ?_⟩; (have h2 : ∃ r, vf 2 = .tuple #[polV r excP.dflt, .int .i64 0] ∧ RdRules W (NotPol W) r excP.rules := hf 3 (hd 3 (by decide)); have h2k := h2; obtain ⟨r, hr, _⟩ := h2; clear h0 hd hn hf; go_simp; exact hR _ _ (Cls.step hI (Below.refl _ _)) (initT.plain (Below.refl _ _) (by decide)) (by show _ = tupAt (vf 2) 0; rw [hr]; rfl) h2k); exact (fun f g h => by show tupAt (f 2) 0 = tupAt (g 2) 0; rw [h 2 (by decide)]); (go_simp; refine hK _ ?_; clear hK K))
  (refine rel_ex (fun K hK => ?_); refine ⟨fun vf => .int .i64 0, fun done vf W hI h0 hd hn hf R hR => ?_, ?_, ?_⟩; (have h2 : ∃ r, vf 2 = .tuple #[polV r excP.dflt, .int .i64 0] ∧ RdRules W (NotPol W) r excP.rules := hf 3 (hd 3 (by decide)); obtain ⟨r, hr, _⟩ := h2; clear h0 hd hn hf; go_simp; exact hR _ _ (Cls.step hI (Below.refl _ _)) (initT.plain (Below.refl _ _) (by decide)) rfl trivial); exact (fun _ _ _ => rfl); (go_simp; refine hK _ ?_; clear hK K))
  (refine rel_pr (fun K hK => ?_); refine ⟨fun done vf W hI h0 hd hn hf R hR => ?_, ?_⟩; (clear h0 hd hn hf; go_simp; exact hR _ _ (Cls.step hI (bel_alloc (Below.refl _ _) _)) (initT.plain (bel_alloc (Below.refl _ _) _) (by decide)) trivial ⟨_, rfl, hI.1, _, rfl, heap_last _ _⟩); (go_simp; refine hK _ ?_; clear hK K))
  (refine rel_pr (fun K hK => ?_); refine ⟨fun done vf W hI h0 hd hn hf R hR => ?_, ?_⟩; (have h11 : VarAt w5.heap.size 24 2 (vf 6) W := hf 6 (hd 6 (by decide)); obtain ⟨b11, h11, hb11, cs, hcs, hc11⟩ := h11; obtain ⟨c11, d11, rfl⟩ := two_cells hcs; have hce := cells_of hc11; have hfe := not_frozen hc11; have Hc11 := Lib.hid hc11; have h7 : ∃ r, vf 2 = .tuple #[polV r excP.dflt, .int .i64 0] ∧ RdRules W (NotPol W) r excP.rules := hf 4 (hd 4 (by decide)); obtain ⟨r, hr2, hrr⟩ := h7; obtain ⟨a7, c7, hr7, _⟩ := Sl.form hrr; generalize excP.rules.length = n7 at hr7; subst hr7; have htu : tupAt (vf 2) 0 = polV (.slice a7 n7 c7) excP.dflt := (by rw [hr2]; rfl); have Hst : Hid (((W.setCell ⟨b11, 0, none⟩ (.slice a7 n7 c7)).setCell ⟨b11, 1, none⟩ (.int .i64 excP.dflt)).heap[b11]? = some (.cells #[.slice a7 n7 c7, .int .i64 excP.dflt] 24)) := set_at (set_at hc11); have HN : Hid (#[aggAt (tupAt (vf 2) 0) 0, aggAt (tupAt (vf 2) 0) 1] = (#[.slice a7 n7 c7, .int .i64 excP.dflt] : Array Value)) := (by show _ = _; rw [htu]; rfl); clear h0 hd hn hf hc11 hcs hrr hr2; go_simp; exact hR _ _ ⟨by simp only [set_size]; exact hI.1, set_below (set_below hI.2 hb11) hb11⟩ ⟨InitT.trans (.of_set (by simp) Hc11.out) (.of_set (by simp) (set_at Hc11.out)), fun _ => ⟨b11, h11, by show _ = some (Obj.cells #[aggAt (tupAt (vf 2) 0) 0, aggAt (tupAt (vf 2) 0) 1] _); rw [HN.out]; exact Hst.out⟩⟩ trivial ⟨b11, h11, by show _ = some (Obj.cells #[aggAt (tupAt (vf 2) 0) 0, aggAt (tupAt (vf 2) 0) 1] _); rw [HN.out]; exact Hst.out⟩); (go_simp; refine hK _ ?_; clear hK K))
  (refine rel_ex (fun K hK => ?_); apply Exists.intro; refine ⟨fun done vf W hI h0 hd hn hf R hR => ?_, ?_, ?_⟩; (clear h0 hd hn hf; go_simp; exact hR _ _ (Cls.step hI (Below.refl _ _)) (initT.plain (Below.refl _ _) (by decide)) rfl trivial); exact (fun _ _ _ => rfl); (go_simp; refine hK _ ?_; clear hK K))
  intro done vf' w6 hd hI hF
  have h12 : VarIs 24 (vf' 6) #[aggAt (tupAt (vf' 2) 0) 0, aggAt (tupAt (vf' 2) 0) 1] w6 := hF 7 (by decide)
  have h4 : ∃ r, vf' 2 = .tuple #[polV r excP.dflt, .int .i64 0] ∧ RdRules w6 (NotPol w6) r excP.rules := hF 4 (by decide)
  obtain ⟨by_, h11', hc11⟩ := h12
  obtain ⟨rx, hvx, hrx⟩ := h4
  rw [hvx] at hc11
  have HcX : Hid (w6.heap[by_]? = some (.cells #[rx, .int .i64 excP.dflt] 24)) := hc11
  have Hrx := Lib.hid (rules_true hrx)
  obtain ⟨ax, cx, rfl, _⟩ := Sl.form hrx
  have Hb36 := Lib.hid (bel_call Hb35.out hI.2)
  have HcQ6 := Lib.hid (blk_below HcQ.out Hb36.out)
  have HcS6 := Lib.hid ((HBS.out.below hI.2))
  have HL6 := Lib.hid (HLW.out w6 hI)
  have Hrq6 := Lib.hid (Hrq.out.below Hb36.out)
  have Hrs6 := Lib.hid (Hrs.out.below HcS6.out.bel)
  have hcq := cells_of HcQ6.out
  have Hfull := Lib.hid (bel_call (bel_call Hb1.out (HBX.out.below (bel_call Hb3.out Hb36.out)).bel) (Below.refl _ w6))
  clear hd hI hF hc11 hvx hrx HS HLW HQ
  go_wp2_with fail
  refine (ptext_any (.slice aq metP.rules.length cq) metP (fun _ => True) _ Hrq6.out met1o HL6.out).mono ?_
  rw [met1t]
  rintro e w7 ⟨rfl, hb7⟩
  have hcs := (HcS6.out.below hb7).cells0
  have Hb7 := Lib.hid hb7
  clear hb7
  have e1 : ((bsL [107, 105, 108, 108, 32, 110, 114, 61, 51, 32, 97, 60, 53, 32, 97, 60, 57, 59, 107, 105, 108, 108, 32, 110, 114, 61, 51, 32, 97, 60, 53, 59, 116, 114, 97, 112, 32, 107, 105, 110, 100, 33, 48, 32, 97, 60, 57, 59, 108, 111, 103, 32, 107, 105, 110, 100, 33, 48, 59, 116, 114, 97, 112, 32, 97, 60, 57, 59, 97, 108, 108, 111, 119]).toList == [107, 105, 108, 108, 32, 110, 114, 61, 51, 32, 97, 60, 53, 32, 97, 60, 57, 59, 107, 105, 108, 108, 32, 110, 114, 61, 51, 32, 97, 60, 53, 59, 116, 114, 97, 112, 32, 107, 105, 110, 100, 33, 48, 32, 97, 60, 57, 59, 108, 111, 103, 32, 107, 105, 110, 100, 33, 48, 59, 116, 114, 97, 112, 32, 97, 60, 57, 59, 97, 108, 108, 111, 119]) = true := by decide +kernel
  go_wp2_with fail
  refine (ptext_any (.slice as2 shrtP.rules.length cs2) shrtP (fun _ => True) _ (Hrs6.out.below Hb7.out) met2o (HL6.out.below Hb7.out)).mono ?_
  rw [met2t]
  rintro e w8 ⟨rfl, hb8⟩
  have Hb8 := Lib.hid (bel_call Hb7.out hb8)
  have hcx := cells_of (blk_below HcX.out Hb8.out)
  clear hb8
  have e2 : ((bsL [107, 105, 108, 108, 59, 97, 108, 108, 111, 119]).toList == [107, 105, 108, 108, 59, 97, 108, 108, 111, 119]) = true := by decide +kernel
  go_wp2_with fail
  refine (ptext_any (.slice ax excP.rules.length cx) excP (fun _ => True) _ (Hrx.out.below Hb8.out) met3o (HL6.out.below Hb8.out)).mono ?_
  rw [met3t]
  rintro e w9 ⟨rfl, hb9⟩
  have Hb9 := Lib.hid (bel_call Hfull.out (bel_call Hb8.out hb9))
  clear hb9
  have e3 : ((bsL [97, 108, 108, 111, 119, 32, 97, 60, 57, 32, 110, 114, 61, 51, 32, 97, 60, 53, 59, 116, 114, 97, 112, 32, 97, 60, 57, 32, 107, 105, 110, 100, 33, 48, 59, 116, 114, 97, 112, 32, 97, 60, 57, 59, 97, 108, 108, 111, 119, 32, 110, 114, 61, 51, 32, 97, 60, 53, 59, 97, 108, 108, 111, 119, 32, 107, 105, 110, 100, 33, 48, 59, 97, 108, 108, 111, 119]).toList == [97, 108, 108, 111, 119, 32, 97, 60, 57, 32, 110, 114, 61, 51, 32, 97, 60, 53, 59, 116, 114, 97, 112, 32, 97, 60, 57, 32, 107, 105, 110, 100, 33, 48, 59, 116, 114, 97, 112, 32, 97, 60, 57, 59, 97, 108, 108, 111, 119, 32, 110, 114, 61, 51, 32, 97, 60, 53, 59, 97, 108, 108, 111, 119, 32, 107, 105, 110, 100, 33, 48, 59, 97, 108, 108, 111, 119]) = true := by decide +kernel
  go_wp2
  go_ret
  exact ⟨rfl, Hb9.out⟩
end Go.Proofs.YtioeliocdbckbaaGreatDoor
namespace Go.Proofs.YtioeliocdbckbaaGreatDoor
open Go.RowKit
attribute [local go_sem] gives givesUpon

theorem tmod_small (k n : Int) (hn : 0 < n) : -n < k.tmod n ∧ k.tmod n < n ∧ k % n = if k.tmod n < 0 then k.tmod n + n else k.tmod n := by
  have h1 := Int.tmod_lt_of_pos k hn
  have h2 : -n < k.tmod n := Int.lt_tmod_of_pos k hn
  refine ⟨h2, h1, ?_⟩
  have he := Int.emod_nonneg k (show n ≠ 0 by omega)
  have he2 := Int.emod_lt_of_pos k hn
  have hd := Int.tmod_eq_emod (a := k) (b := n)
  split at hd <;> split <;> omega

set_option maxHeartbeats 1000000 in
theorem at_any (k n : Int) (w : World) (hn : 0 < n) (hb : n ≤ 70000) : Calls Tryz.prog 35 #[.int .i64 k, .int .i64 n] w fun e w' => e = .returned (.int .i64 (k % n)) ∧ w = w' := by
  obtain ⟨h1, h2, h3⟩ := tmod_small k n hn
  have H3 := Lib.hid h3
  clear h3
  go_enter Tryz.func35, Tryz.ntmps35
  by_cases h4 : k.tmod n < 0
  · go_wp2
    go_ret
    exact ⟨ret_int (by rw [H3.out, if_pos h4]), rfl⟩
  · go_wp2
    go_ret
    exact ⟨ret_int (by rw [H3.out, if_neg (by omega)]), rfl⟩

/-- what right makes of a call. -/
def TCall.right (x : TCall) : TCall := ⟨x.a0 % 64, x.a1 % 4, x.a2 % 65536, x.a3 % 65536, x.a4 % 65536⟩
theorem TCall.right_ok (x : TCall) : x.right.ok := by unfold TCall.ok TCall.right; dsimp only; omega
/-- the first k fields brought within bounds. -/
def rightTo (x : TCall) (k : Nat) : Array Value :=
  #[.int .i64 (if 0 < k then x.a0 % 64 else x.a0), .int .i64 (if 1 < k then x.a1 % 4 else x.a1), .int .i64 (if 2 < k then x.a2 % 65536 else x.a2), .int .i64 (if 3 < k then x.a3 % 65536 else x.a3), .int .i64 (if 4 < k then x.a4 % 65536 else x.a4)]
theorem rightTo_get (x : TCall) (k : Nat) (h : k < 5) : (rightTo x k)[k]? = some (.int .i64 (x.get k)) := by
  have hk : k = 0 ∨ k = 1 ∨ k = 2 ∨ k = 3 ∨ k = 4 := by omega
  rcases hk with rfl | rfl | rfl | rfl | rfl <;> rfl
theorem rightTo_set (x : TCall) (k : Nat) (h : k < 5) : (rightTo x k).setIfInBounds k (.int .i64 (x.get k % (mostOf k + 1))) = rightTo x (k + 1) := by
  have hk : k = 0 ∨ k = 1 ∨ k = 2 ∨ k = 3 ∨ k = 4 := by omega
  rcases hk with rfl | rfl | rfl | rfl | rfl <;> rfl

/-- What is told of a world in which one block of ours is written. -/
structure OneBlk (w0 : World) (b : Nat) (T : TypeId) (cs : Array Value) (W : World) : Prop where
  grown : w0.grownBy W (some b)
  here : W.heap[b]? = some (.cells cs T (0, 0))
theorem OneBlk.lt {w0 W : World} {b : Nat} {T : TypeId} {cs : Array Value} (h : OneBlk w0 b T cs W) : b < W.heap.size := (Array.getElem?_eq_some_iff.1 h.here).1
theorem OneBlk.below {w0 W W' : World} {b : Nat} {T : TypeId} {cs : Array Value} (h : OneBlk w0 b T cs W) (hb : Below W.heap.size W W') : OneBlk w0 b T cs W' :=
  ⟨⟨hb.os.trans h.grown.os, hb.tape.trans h.grown.tape, hb.output.trans h.grown.output, Nat.le_trans h.grown.size hb.size, fun i hi hn => (hb.block i (Nat.lt_of_lt_of_le hi h.grown.size)).trans (h.grown.block i hi hn)⟩, (hb.block b h.lt).trans h.here⟩
theorem OneBlk.cell {w0 W : World} {b : Nat} {T : TypeId} {cs : Array Value} (h : OneBlk w0 b T cs W) (k : Nat) : W.cell? ⟨b, k, none⟩ = cs[k]? := by simp [World.cell?, h.here]
theorem OneBlk.frozen {w0 W : World} {b : Nat} {T : TypeId} {cs : Array Value} (h : OneBlk w0 b T cs W) (k : Nat) : W.frozen? ⟨b, k, none⟩ = false := by simp [World.frozen?, h.here]
theorem OneBlk.set {w0 W : World} {b : Nat} {T : TypeId} {cs : Array Value} (h : OneBlk w0 b T cs W) (k : Nat) (v : Value) : OneBlk w0 b T (cs.setIfInBounds k v) (W.setCell ⟨b, k, none⟩ v) := by
  refine ⟨⟨h.grown.os, h.grown.tape, h.grown.output, by simpa [World.setCell] using h.grown.size, fun i hi hn => ?_⟩, ?_⟩
  · rw [Below.heap_setCell _ _ _ _ (fun e => hn (by rw [e]))]
    exact h.grown.block i hi hn
  · simp [World.setCell, Array.getElem?_modify, h.here]
theorem OneBlk.drew {w0 W : World} {b : Nat} {T : TypeId} {cs : Array Value} (h : OneBlk w0 b T cs W) : OneBlk w0 b T cs W.drew := ⟨⟨h.grown.os, h.grown.tape, h.grown.output, h.grown.size, h.grown.block⟩, h.here⟩
theorem OneBlk.alloc {w0 W : World} {b : Nat} {T : TypeId} {cs : Array Value} (h : OneBlk w0 b T cs W) (o : Obj) : OneBlk w0 b T cs (W.alloc o) := h.below ((Below.refl _ _).alloc (Nat.le_refl _) o)
theorem OneBlk.toBelow {w0 W : World} {b B : Nat} {T : TypeId} {cs : Array Value} (h : OneBlk w0 b T cs W) (hB : B ≤ b) (hB' : B ≤ w0.heap.size) : Below B w0 W :=
  ⟨h.grown.os, h.grown.tape, h.grown.output, h.grown.size, fun k hk => h.grown.block k (by omega) (by simp; omega)⟩

set_option maxHeartbeats 1000000 in
theorem right_any (x : TCall) (w : World) : Calls Tryz.prog 15 #[callV x] w fun e w' => e = .returned (callV x.right) ∧ Below w.heap.size w w' := by
  go_enter Tryz.func15, Tryz.ntmps15
  go_wp2_with fail
  go_loopw [4] (fun i wr => ∃ k : Nat, k ≤ 5 ∧ i = .int .i64 k ∧ OneBlk ((w.alloc (.cells #[.int .i64 x.a0, .int .i64 x.a1, .int .i64 x.a2, .int .i64 x.a3, .int .i64 x.a4] 26)).alloc (.cells #[.int .i64 0, .int .i64 0, .int .i64 0, .int .i64 0, .int .i64 0] 26)) w.heap.size 26 (rightTo x k) wr) (fun i _ => 5 - (intOf i).toNat)
  case atStart => exact ⟨0, by omega, rfl, ⟨rfl, rfl, rfl, Nat.le_refl _, fun _ _ _ => rfl⟩, blk_old (blk_at rfl)⟩
  case round =>
    obtain ⟨k, hk, rfl, hO⟩ := hrel
    have HO := Lib.hid hO
    have hlt0 := hO.lt
    clear hO
    by_cases hlt : k < 5
    · have hm0 : 0 < mostOf k + 1 ∧ mostOf k + 1 ≤ 70000 := by unfold mostOf; split <;> (try split) <;> omega
      have hwr : IntKind.i64.wrap (mostOf k + 1) = mostOf k + 1 := IntWalk.i64_in _ (by omega)
      have hgk := rightTo_get x k hlt
      have Hset := Lib.hid (rightTo_set x k hlt)
      go_wp2_with fail
      refine wp_region_stores (fun done W => OneBlk wr w.heap.size 26 (if done 9 then rightTo x (k + 1) else rightTo x k) W) (by kernel_rfl) (by kernel_rfl) ⟨⟨rfl, rfl, rfl, Nat.le_refl _, fun _ _ _ => rfl⟩, HO.out.here⟩ _ rfl ?_
      (refine doneE_step (fun K hK => ?_); apply Exists.intro; refine ⟨fun done W hI h0 hd hn R hR => ?_, ?_⟩; (go_simp; refine hR _ _ ?_ rfl; simpa [updDone] using hI); (go_simp; refine hK _ ?_; clear hK K))
      (refine doneE_step (fun K hK => ?_); apply Exists.intro; refine ⟨fun done W hI h0 hd hn R hR => ?_, ?_⟩; (go_simp; refine hR _ _ ?_ rfl; simpa [updDone] using hI); (go_simp; refine hK _ ?_; clear hK K))
      (refine doneE_step (fun K hK => ?_); apply Exists.intro; refine ⟨fun done W hI h0 hd hn R hR => ?_, ?_⟩; (go_simp; refine hR _ _ ?_ rfl; simpa [updDone] using hI); (go_simp; refine hK _ ?_; clear hK K))
      (refine doneE_step (fun K hK => ?_); apply Exists.intro; refine ⟨fun done W hI h0 hd hn R hR => ?_, ?_⟩; (have h9 : done 9 = false := hn 9 (by decide); have hI' : OneBlk wr w.heap.size 26 (rightTo x k) W := (by simpa [h9] using hI); have hc := (hI'.cell k).trans hgk; clear hI h0 hd hn; go_simp; refine hR _ _ ?_ rfl; simpa [updDone, h9] using hI'); (go_simp; refine hK _ ?_; clear hK K))
      (refine doneE_step (fun K hK => ?_); apply Exists.intro; refine ⟨fun done W hI h0 hd hn R hR => ?_, ?_⟩; (go_simp; refine hR _ _ ?_ rfl; simpa [updDone] using hI); (go_simp; refine hK _ ?_; clear hK K))
      (refine doneE_step (fun K hK => ?_); apply Exists.intro; refine ⟨fun done W hI h0 hd hn R hR => ?_, ?_⟩; (go_simp; go_at_call 36; refine (mostof_any _ _).mono ?_; rintro e w1 ⟨rfl, hb1⟩; refine ⟨_, rfl, hR _ _ ?_ rfl⟩; simpa [updDone] using hI.below hb1); (go_simp; refine hK _ ?_; clear hK K))
      (refine doneE_step (fun K hK => ?_); apply Exists.intro; refine ⟨fun done W hI h0 hd hn R hR => ?_, ?_⟩; (go_simp; refine hR _ _ ?_ rfl; simpa [updDone] using hI); (go_simp; refine hK _ ?_; clear hK K))
      (refine doneE_step (fun K hK => ?_); apply Exists.intro; refine ⟨fun done W hI h0 hd hn R hR => ?_, ?_⟩; (go_simp; go_at_call 35; (with_reducible refine (at_any _ _ _ hm0.1 hm0.2).mono ?_); rintro e w1 ⟨rfl, rfl⟩; refine ⟨_, rfl, hR _ _ ?_ rfl⟩; simpa [updDone] using hI); (go_simp; refine hK _ ?_; clear hK K))
      (refine doneE_step (fun K hK => ?_); apply Exists.intro; refine ⟨fun done W hI h0 hd hn R hR => ?_, ?_⟩; (go_simp; refine hR _ _ ?_ rfl; simpa [updDone] using hI); (go_simp; refine hK _ ?_; clear hK K))
      (refine doneE_step (fun K hK => ?_); apply Exists.intro; refine ⟨fun done W hI h0 hd hn R hR => ?_, ?_⟩; (have hI' : OneBlk wr w.heap.size 26 (rightTo x k) W := (by simpa [h0] using hI); have hc := (hI'.cell k).trans hgk; have hf := hI'.frozen k; have hs := hI'.set k (.int .i64 (x.get k % (mostOf k + 1))); rw [Hset.out] at hs; clear hI h0 hd hn; go_simp; refine hR _ _ ?_ rfl; simpa [updDone] using hs); (go_simp; refine hK _ ?_; clear hK K))
      intro done W hdone hI
      have h9 : done 9 = true := hdone 9 (by decide)
      have hI' : OneBlk wr w.heap.size 26 (rightTo x (k + 1)) W := by simpa [h9] using hI
      clear hI hdone
      have HI := Lib.hid hI'
      clear hI'
      go_wp2
      go_roundw
      case rel => exact ⟨k + 1, by omega, by go_num, ⟨⟨HI.out.grown.os.trans HO.out.grown.os, HI.out.grown.tape.trans HO.out.grown.tape, HI.out.grown.output.trans HO.out.grown.output, Nat.le_trans HO.out.grown.size HI.out.grown.size, fun i hi hn => (HI.out.grown.block i (Nat.lt_of_lt_of_le hi HO.out.grown.size) hn).trans (HO.out.grown.block i hi hn)⟩, HI.out.here⟩⟩
      case measure => simp [intOf]; omega
    · obtain rfl : k = 5 := by omega
      have hcell := HO.out.cell
      have h2 : wr.heap[w.heap.size + 1]? = some (.cells #[.int .i64 0, .int .i64 0, .int .i64 0, .int .i64 0, .int .i64 0] 26 (0, 0)) :=
        (HO.out.grown.block (w.heap.size + 1) (by simp) (by simp)).trans (blk_at (by simp))
      have hc2 : ∀ j, wr.cell? ⟨w.heap.size + 1, j, none⟩ = (#[Value.int .i64 0, .int .i64 0, .int .i64 0, .int .i64 0, .int .i64 0] : Array Value)[j]? := fun j => by simp [World.cell?, h2]
      have hf2 : ∀ j, wr.frozen? ⟨w.heap.size + 1, j, none⟩ = false := fun j => by simp [World.frozen?, h2]
      clear h2
      unfold rightTo at hcell
      have hb : Below w.heap.size w wr := (bel_alloc (bel_alloc (Below.refl _ _) _) _).trans (HO.out.toBelow (Nat.le_refl _) (by simp; omega))
      have Hb := Lib.hid hb
      clear hb
      go_wp2
      exact bodyPost_ret (v := callV x.right) (by simp [results, Tryz.results15, go_sem, hc2]; exact ⟨rfl, rfl, rfl, rfl, rfl⟩) rfl ⟨rfl, ((((Hb.out.setCell (by simp) _).setCell (by simp) _).setCell (by simp) _).setCell (by simp) _).setCell (by simp) _⟩
end Go.Proofs.YtioeliocdbckbaaGreatDoor
namespace Go.Proofs.YtioeliocdbckbaaGreatDoor
open Go.RowKit
attribute [local go_sem] gives givesUpon

theorem take_eq_step' {α : Type} {xs ys : List α} {k : Nat} (hx : k < xs.length) (hy : k < ys.length) (h : xs.take k = ys.take k) (e : xs[k] = ys[k]) : xs.take (k + 1) = ys.take (k + 1) := by
  rw [List.take_succ_eq_append_getElem hx, List.take_succ_eq_append_getElem hy, h, e]
theorem ne_of_get' {α : Type} {xs ys : List α} {k : Nat} (hx : k < xs.length) (hy : k < ys.length) (e : xs[k] ≠ ys[k]) : xs ≠ ys := fun h => e (by subst h; rfl)

theorem run_neq_cond (c d : TCond) (w : World) : (binOp .neq 84 (.agg #[.int .i64 c.f, .int .i64 c.op, .int .i64 c.v]) (.agg #[.int .i64 d.f, .int .i64 d.op, .int .i64 d.v])).run Tryz.prog w = .ok (.bool (!decide (c = d))) w := by
  obtain ⟨f, o, v⟩ := c
  obtain ⟨f', o', v'⟩ := d
  dsimp only
  have hd : decide ((⟨f, o, v⟩ : TCond) = ⟨f', o', v'⟩) = (decide (f = f') && decide (o = o') && decide (v = v')) := by
    rw [Bool.eq_iff_iff]; simp [and_assoc]
  rw [hd]
  clear hd
  by_cases h1 : f = f'
  · have b1 : (f == f') = true := beq_iff_eq.2 h1
    by_cases h2 : o = o'
    · have b2 : (o == o') = true := beq_iff_eq.2 h2
      by_cases h3 : v = v'
      · have b3 : (v == v') = true := beq_iff_eq.2 h3
        rw [decide_eq_true h1, decide_eq_true h2, decide_eq_true h3]
        clear h1 h2 h3
        go_simp
      · have b3 : (v == v') = false := beq_eq_false_iff_ne.2 h3
        rw [decide_eq_true h1, decide_eq_true h2, decide_eq_false h3]
        clear h1 h2 h3
        go_simp
    · have b2 : (o == o') = false := beq_eq_false_iff_ne.2 h2
      rw [decide_eq_true h1, decide_eq_false h2]
      clear h1 h2
      go_simp
  · have b1 : (f == f') = false := beq_eq_false_iff_ne.2 h1
    rw [decide_eq_false h1]
    clear h1
    go_simp

attribute [-go_sem] run_neq_struct
set_option maxHeartbeats 1000000 in
theorem eqconds_any (v u : Value) (xs ys : List TCond) (D : Nat → Prop) (w : World) (h : RdConds w D v xs) (h' : RdConds w D u ys) :
    Calls Tryz.prog 59 #[v, u] w fun e w' => e = .returned (.bool (decide (xs = ys))) ∧ Below w.heap.size w w' := by
  obtain ⟨a, c, rfl, hlc, hcm, hat⟩ := Sl.form h
  obtain ⟨a', c', rfl, hlc', hcm', hat'⟩ := Sl.form h'
  have H := Lib.hid h
  have H' := Lib.hid h'
  clear h h'
  by_cases hl : xs.length = ys.length
  · have b0 : ((xs.length : Int) != (ys.length : Int)) = false := bne_eq_false_iff_eq.2 (by omega)
    have hl' := Lib.hid hl
    have hl1 : xs.length ≤ ys.length := by omega
    have hl2 : ys.length ≤ xs.length := by omega
    clear hl
    go_enter Tryz.func59, Tryz.ntmps59
    go_wp2_with fail
    go_loopw [13] (fun i wr => ∃ k : Nat, k ≤ xs.length ∧ i = .int .i64 k ∧ xs.take k = ys.take k ∧ Below w.heap.size w wr) (fun i _ => xs.length - (intOf i).toNat)
    case atStart => exact ⟨0, by omega, rfl, rfl, Below.refl _ _⟩
    case round =>
      obtain ⟨k, hk, rfl, htk, hbw⟩ := hrel
      have Ht := Lib.hid htk
      have hsz := hbw.size
      clear htk
      by_cases hlt : k < xs.length
      · obtain ⟨b, o, rfl, hDb, hb⟩ := hat (by omega)
        obtain ⟨b', o', rfl, hDb', hb'⟩ := hat' (by omega)
        have hlt' : k < ys.length := by omega
        have hc : ∀ W, Cls w.heap.size wr W → (W.cell? ⟨b, o + k * 3, none⟩ = some (.int .i64 xs[k].f) ∧ W.cell? ⟨b, o + k * 3 + 1, none⟩ = some (.int .i64 xs[k].op) ∧ W.cell? ⟨b, o + k * 3 + 2, none⟩ = some (.int .i64 xs[k].v)) ∧
            (W.cell? ⟨b', o' + k * 3, none⟩ = some (.int .i64 ys[k].f) ∧ W.cell? ⟨b', o' + k * 3 + 1, none⟩ = some (.int .i64 ys[k].op) ∧ W.cell? ⟨b', o' + k * 3 + 2, none⟩ = some (.int .i64 ys[k].v)) := fun W hW =>
          ⟨RdConds.cells (H.out.below (hbw.trans hW.2)) hlt, RdConds.cells (H'.out.below (hbw.trans hW.2)) hlt'⟩
        have Hc := Lib.hid hc
        have hne := run_neq_cond xs[k] ys[k]
        clear hc
        go_wp2_with fail
        refine wp_region_exact3 w.heap.size hsz (by kernel_rfl) (by kernel_rfl) ?_
        repeat (refine monoE_step (fun K hK => ?_); apply Exists.intro; refine ⟨fun W hC R hR => ?_, ?_⟩; (first
          | (have hne' := hne W; clear hne; go_simp; exact hR _ _ (Below.refl _ _) rfl)
          | (have hcc := Hc.out W hC; go_simp; exact hR _ _ (Below.refl _ _) rfl)); (go_simp; refine hK _ ?_; clear hK K))
        intro w2 hC2
        clear hne
        by_cases he : xs[k] = ys[k]
        · have Hn := Lib.hid (take_eq_step' hlt hlt' Ht.out he)
          have d : decide (xs[k] = ys[k]) = true := decide_eq_true he
          clear he
          simp only [d]
          go_wp2
          go_roundw
          case rel => exact ⟨k + 1, by omega, by go_num, Hn.out, hbw.trans hC2.2⟩
          case measure => simp [intOf]; omega
        · have Hn := Lib.hid (ne_of_get' hlt hlt' he)
          have d : decide (xs[k] = ys[k]) = false := decide_eq_false he
          clear he
          simp only [d]
          go_wp2
          go_ret
          exact ⟨ret_bool (decide_eq_false Hn.out).symm, hbw.trans hC2.2⟩
      · obtain rfl : k = xs.length := by omega
        have Hn : Hid (xs = ys) := by
          have := Ht.out
          rw [List.take_length, hl'.out, List.take_length] at this
          exact this
        go_wp2
        go_ret
        exact ⟨ret_bool (decide_eq_true Hn.out).symm, hbw⟩
  · have b0 : ((xs.length : Int) != (ys.length : Int)) = true := bne_iff_ne.2 (by omega)
    have hn : decide (xs = ys) = false := decide_eq_false fun e => hl (by rw [e])
    rw [hn]
    clear hn hl
    go_enter Tryz.func59, Tryz.ntmps59
    go_wp2
    go_ret
    exact ⟨rfl, Below.refl _ _⟩

set_option maxHeartbeats 1000000 in
theorem same1_any (v u : Value) (r q : TRule) (D : Nat → Prop) (w : World) (h : RdConds w D v r.conds) (h' : RdConds w D u q.conds) :
    Calls Tryz.prog 61 #[.agg #[v, .int .i64 r.verdict], .agg #[u, .int .i64 q.verdict]] w fun e w' => e = .returned (.bool (decide (r = q))) ∧ Below w.heap.size w w' := by
  obtain ⟨rc, rv⟩ := r
  obtain ⟨qc, qv⟩ := q
  dsimp only at h h' ⊢
  have H := Lib.hid h
  have H' := Lib.hid h'
  clear h h'
  by_cases hv : rv = qv
  · have b0 : (rv == qv) = true := beq_iff_eq.2 hv
    have hd : decide ((⟨rc, rv⟩ : TRule) = ⟨qc, qv⟩) = decide (rc = qc) := by rw [decide_eq_decide]; simp [hv]
    rw [hd]
    clear hd hv
    go_enter Tryz.func61, Tryz.ntmps61
    go_wp2_with fail
    refine (eqconds_any v u rc qc D _ (RdConds.below H.out (bel_alloc (bel_alloc (Below.refl _ _) _) _)) (RdConds.below H'.out (bel_alloc (bel_alloc (Below.refl _ _) _) _))).mono ?_
    rintro e w1 ⟨rfl, hb1⟩
    have hb1' : Below (w.heap.size + 2) _ w1 := hb1.mono (by simp)
    go_wp2
    go_ret
    exact ⟨rfl, bel_box2 hb1'⟩
  · have b0 : (rv == qv) = false := beq_eq_false_iff_ne.2 hv
    have hd : decide ((⟨rc, rv⟩ : TRule) = ⟨qc, qv⟩) = false := decide_eq_false fun e => hv (by injection e)
    rw [hd]
    clear hd hv
    go_enter Tryz.func61, Tryz.ntmps61
    go_wp2
    go_ret
    exact ⟨rfl, bel_alloc (bel_alloc (Below.refl _ _) _) _⟩

set_option maxHeartbeats 1000000 in
theorem eqrules_any (v u : Value) (xs ys : List TRule) (D : Nat → Prop) (w : World) (h : RdRules w D v xs) (h' : RdRules w D u ys) :
    Calls Tryz.prog 60 #[v, u, .func (.func 61) #[] #[]] w fun e w' => e = .returned (.bool (decide (xs = ys))) ∧ Below w.heap.size w w' := by
  obtain ⟨a, c, rfl, hlc, hcm, hat⟩ := Sl.form h
  obtain ⟨a', c', rfl, hlc', hcm', hat'⟩ := Sl.form h'
  have H := Lib.hid h
  have H' := Lib.hid h'
  clear h h'
  by_cases hl : xs.length = ys.length
  · have b0 : ((xs.length : Int) != (ys.length : Int)) = false := bne_eq_false_iff_eq.2 (by omega)
    have hl' := Lib.hid hl
    have hl1 : xs.length ≤ ys.length := by omega
    have hl2 : ys.length ≤ xs.length := by omega
    clear hl
    go_enter Tryz.func60, Tryz.ntmps60
    go_wp2_with fail
    go_loopw [17] (fun i wr => ∃ k : Nat, k ≤ xs.length ∧ i = .int .i64 k ∧ xs.take k = ys.take k ∧ Below w.heap.size w wr) (fun i _ => xs.length - (intOf i).toNat)
    case atStart => exact ⟨0, by omega, rfl, rfl, Below.refl _ _⟩
    case round =>
      obtain ⟨k, hk, rfl, htk, hbw⟩ := hrel
      have Ht := Lib.hid htk
      have hsz := hbw.size
      clear htk
      by_cases hlt : k < xs.length
      · obtain ⟨b, o, rfl, hDb, hb⟩ := hat (by omega)
        obtain ⟨b', o', rfl, hDb', hb'⟩ := hat' (by omega)
        have hlt' : k < ys.length := by omega
        obtain ⟨ra, rc, k0, k1, hr, hlr, hcr, _⟩ := RdRules.cells (RdRules.below H.out hbw) hlt
        obtain ⟨qa, qc, q0, q1, hq, hlq, hcq, _⟩ := RdRules.cells (RdRules.below H'.out hbw) hlt'
        have Hr := Lib.hid hr
        have Hq := Lib.hid hq
        have hbr : b' < wr.heap.size := by omega
        have q0' : ∀ O, (wr.alloc O).cell? ⟨b', o' + k * 2, none⟩ = some (.slice qa ys[k].conds.length qc) := fun O => (World.cell?_alloc_lt _ _ _ hbr).trans q0
        have q1' : ∀ O, (wr.alloc O).cell? ⟨b', o' + k * 2 + 1, none⟩ = some (.int .i64 ys[k].verdict) := fun O => (World.cell?_alloc_lt _ _ _ hbr).trans q1
        clear hr hq q0 q1
        go_wp2_with fail
        refine (same1_any _ _ xs[k] ys[k] D _ (RdConds.below Hr.out (bel_alloc (bel_alloc (Below.refl _ _) _) _)) (RdConds.below Hq.out (bel_alloc (bel_alloc (Below.refl _ _) _) _))).mono ?_
        rintro e w1 ⟨rfl, hb1⟩
        have hb2 : Below (wr.heap.size + 2) _ w1 := hb1.mono (by simp)
        have Hb := Lib.hid (hbw.trans ((bel_box2 hb2).mono hbw.size))
        clear hb1 hb2 k0 k1 q0' q1'
        by_cases he : xs[k] = ys[k]
        · have Hn := Lib.hid (take_eq_step' hlt hlt' Ht.out he)
          rw [decide_eq_true he]
          clear he
          go_wp2
          go_roundw
          case rel => exact ⟨k + 1, by omega, by go_num, Hn.out, Hb.out⟩
          case measure => simp [intOf]; omega
        · have Hn := Lib.hid (ne_of_get' hlt hlt' he)
          rw [decide_eq_false he]
          clear he
          go_wp2
          go_ret
          exact ⟨ret_bool (decide_eq_false Hn.out).symm, Hb.out⟩
      · obtain rfl : k = xs.length := by omega
        have Hn : Hid (xs = ys) := by
          have := Ht.out
          rw [List.take_length, hl'.out, List.take_length] at this
          exact this
        go_wp2
        go_ret
        exact ⟨ret_bool (decide_eq_true Hn.out).symm, hbw⟩
  · have b0 : ((xs.length : Int) != (ys.length : Int)) = true := bne_iff_ne.2 (by omega)
    have hn : decide (xs = ys) = false := decide_eq_false fun e => hl (by rw [e])
    rw [hn]
    clear hn hl
    go_enter Tryz.func60, Tryz.ntmps60
    go_wp2
    go_ret
    exact ⟨rfl, Below.refl _ _⟩

set_option maxHeartbeats 1000000 in
theorem same_any (v u : Value) (p q : TPol) (D : Nat → Prop) (w : World) (h : RdRules w D v p.rules) (h' : RdRules w D u q.rules) :
    Calls Tryz.prog 30 #[polV v p.dflt, polV u q.dflt] w fun e w' => e = .returned (.bool (decide (p = q))) ∧ Below w.heap.size w w' := by
  obtain ⟨pr, pd⟩ := p
  obtain ⟨qr, qd⟩ := q
  dsimp only at h h' ⊢
  have H := Lib.hid h
  have H' := Lib.hid h'
  have hmk : ∀ (fn : Fn) (first cap : Array Value) (w : World), (Instr.makeFunc fn first cap).run Tryz.prog w = .ok (.func fn first cap) w := fun _ _ _ _ => rfl
  clear h h'
  by_cases hv : pd = qd
  · have b0 : (pd == qd) = true := beq_iff_eq.2 hv
    have hd : decide ((⟨pr, pd⟩ : TPol) = ⟨qr, qd⟩) = decide (pr = qr) := by rw [decide_eq_decide]; simp [hv]
    rw [hd]
    clear hd hv
    go_enter Tryz.func30, Tryz.ntmps30
    go_wp2_with fail
    refine (eqrules_any v u pr qr D _ (RdRules.below H.out (bel_alloc (bel_alloc (Below.refl _ _) _) _)) (RdRules.below H'.out (bel_alloc (bel_alloc (Below.refl _ _) _) _))).mono ?_
    rintro e w1 ⟨rfl, hb1⟩
    have hb1' : Below (w.heap.size + 2) _ w1 := hb1.mono (by simp)
    go_wp2
    go_ret
    exact ⟨rfl, bel_box2 hb1'⟩
  · have b0 : (pd == qd) = false := beq_eq_false_iff_ne.2 hv
    have hd : decide ((⟨pr, pd⟩ : TPol) = ⟨qr, qd⟩) = false := decide_eq_false fun e => hv (by injection e)
    rw [hd]
    clear hd hv
    go_enter Tryz.func30, Tryz.ntmps30
    go_wp2
    go_ret
    exact ⟨rfl, bel_alloc (bel_alloc (Below.refl _ _) _) _⟩
end Go.Proofs.YtioeliocdbckbaaGreatDoor
namespace Go.Proofs.YtioeliocdbckbaaGreatDoor
open Go.ChangeShapes Go.WideShapes Go.ChangeAt Go.RowKit
variable {H : Type} {enc : TypeId × Value → H}

theorem law_wrap {a : Assume} {C : Checked} {os : Os} {f : FuncId} {fn : Func} {s : ChangeSpec} {conds : List PathCond} {apart fresh handsOn again : Bool} {X : World → Array Value → Prop}
    (hX : ∀ (w w' : World) (args : Array Value), w.heap = w'.heap → X w args → X w' args)
    (own : ownKnob C.prog.godebug = none) (started : os.Started) (noInit : C.prog.inits.idxOf? f = none) (hfn : C.prog.funcs[f]? = some fn)
    (witness : ∃ (w : World) (tape : Tape) (i : Input), w.os = os ∧ (w.forCall tape i).Shaped C.prog ∧ i.vars = [] ∧ Input.okWide C.prog (w.forCall tape i) .any w.heap.size f i ∧
      ((s.pre enc C.prog fn conds apart (w.forCall tape i).memory i.args ∧ X (w.forCall tape i).memory i.args) ∧ sizedMet enc C.prog fn (OpenSpec.ofChange s) apart (w.forCall tape i).memory i.args) ∧ a.holds C.prog (lone (Frame.enter C.prog f i.args .normal) [] (w.forCall tape i)))
    (contract : ∀ (W : World) (base : Nat) (args : Array Value) (ds gs : List (DataW H)) (before : List MemPlace),
      (∀ (j : Nat) t v, fn.params[j]? = some t → args[j]? = some v → Value.okWide C.prog W .any base t v) →
      DataW.Whole enc C.prog fn.params.toList s.vars apart W args.toList ds gs before →
      (DataW.weightsEach C.prog (fn.params.toList ++ s.plain.varTypes C.prog) (ds ++ gs)).all (· ≤ reachBytes) = true → X W args → W.ShapedOpen C.prog →
      Calls C.prog f args W fun e W' => ∃ v, e = .returned v ∧ s.post enc C.prog fn apart fresh handsOn again W args v W') :
    ReturnsInHanded a C os f .any (fun w args => (s.pre enc C.prog fn conds apart w args ∧ X w args) ∧ sizedMet enc C.prog fn (OpenSpec.ofChange s) apart w args) (s.post enc C.prog fn apart fresh handsOn again) := by
  refine returnsInHanded_of_calls own started noInit witness ?_
  intro w tape i _ hsh _ hok hpre _
  obtain ⟨_, _, _, fn', hfn', _, _, _, _, hval⟩ := hok
  have e : fn' = fn := Option.some.inj (hfn'.symm.trans hfn)
  subst e
  obtain ⟨⟨⟨ds, gs, before, hw, _⟩, hx⟩, hz⟩ := hpre
  have hw' := DataW.Whole.of_heap (w' := w.forCall tape i) (by rfl) hw
  refine (contract (w.forCall tape i) w.heap.size i.args ds gs before hval hw' (hz.weights hw) (hX _ _ _ (by rfl) hx) hsh).mono fun e W' ⟨v, he, hp⟩ => ?_
  subst he
  exact ChangeSpec.post_blind hp

theorem tabIs_of_reads {P : Program} {W : World} {name : String} {k : IntKind} {zs : List Int} {g : Nat} {t e : TypeId} {n : Nat}
    (hg : P.globalNamed name = some g) (hty : (P.globals[g]?).map (·.type) = some t) (ht : P.underlying t = some (.array n e)) (he : P.underlying e = some (.int k)) (hce : P.cellsOf e = 1) (hct : P.cellsOf t = n)
    (h : Lib.VarReads P W name (Lib.tabData k zs)) : Lib.TabIs P W name k zs := by
  obtain ⟨g', t', cs, fuel, p, hg', ht', hvar, hd⟩ := h
  obtain rfl := Option.some.inj (hg.symm.trans hg')
  obtain rfl := Option.some.inj (hty.symm.trans ht')
  unfold Lib.TabIs
  rw [hvar, ← Lib.cells_of_tab ht he hce hct hd]
theorem iface_of_reads {P : Program} {W : World} {name nm : String} {d : DataW Unit} {g : Nat} {t : TypeId} {ms : Array (String × TypeId)}
    (hg : P.globalNamed name = some g) (hty : (P.globals[g]?).map (·.type) = some t) (ht : P.underlying t = some (.interface ms))
    (h : Lib.VarReads P W name (.iface nm d)) : ∃ te pe, W.cell? ⟨g, 0, none⟩ = some (.iface te pe) := by
  obtain ⟨g', t', cs, fuel, p, hg', ht', hvar, hd⟩ := h
  obtain rfl := Option.some.inj (hg.symm.trans hg')
  obtain rfl := Option.some.inj (hty.symm.trans ht')
  cases fuel with
  | zero => simp [DataW.trod] at hd
  | succ fuel =>
    have : ∃ u v, cs.toList = [.iface u v] := by
      cases hcs : cs.toList with
      | nil => rw [hcs] at hd; simp [DataW.trod, ht] at hd
      | cons c r =>
        rw [hcs] at hd
        cases r with
        | cons _ _ => simp [DataW.trod, ht] at hd
        | nil => cases c <;> first | exact ⟨_, _, rfl⟩ | simp [DataW.trod, ht] at hd
    obtain ⟨u, v, hcs⟩ := this
    refine ⟨u, v, ?_⟩
    rw [World.var?_cell hg hvar 0, Array.eq_one_of_toList hcs]
    rfl

/-- what the listed variables hold, as the walks want it. -/
theorem laid_of {l : List (String × DataW Unit)} (hl : (l.all fun x => x.2.handleName?.isNone) = true) (h1 : ("internal/strconv.uint64pow10", Rows.laid_internal_strconv_uint64pow10) ∈ l)
    (h2 : ("strconv.ErrRange", Rows.laid_strconv_ErrRange) ∈ l) (h3 : ("strconv.ErrSyntax", Rows.laid_strconv_ErrSyntax) ∈ l)
    {W : World} (hL : laidMetH Tryz.prog l W) (hsh : W.ShapedOpen Tryz.prog) : Laid W := by
  rw [MakeChecks.laidMetH_plain _ _ _ hl] at hL
  exact {
    ml := cell_of_shapedOpen_int (zero := #[.int .i64 0]) hsh (by decide +kernel) (by kernel_rfl) (by kernel_rfl) (by kernel_rfl) (by kernel_rfl) Tryz.underlying3
    pow := tabIs_of_reads (g := 5) (t := 204) (n := 20) (by kernel_rfl) (by kernel_rfl) Tryz.underlying204 Tryz.underlying162 (by kernel_rfl) (by kernel_rfl) (Lib.laidMet.reads hL h1)
    syn := iface_of_reads (g := 3) (t := 131) (by kernel_rfl) (by kernel_rfl) Tryz.underlying131 (Lib.laidMet.reads hL h3)
    rng := iface_of_reads (g := 4) (t := 131) (by kernel_rfl) (by kernel_rfl) Tryz.underlying131 (Lib.laidMet.reads hL h2) }
end Go.Proofs.YtioeliocdbckbaaGreatDoor
namespace Go.Proofs.YtioeliocdbckbaaGreatDoor
open Go.ChangeShapes Go.WideShapes Go.ChangeAt Go.RowKit

theorem laidF_of {l : List (String × DataW Unit)} (hl : (l.all fun x => x.2.handleName?.isNone) = true) (h1 : ("internal/strconv.uint64pow10", Rows.laid_internal_strconv_uint64pow10) ∈ l)
    (h2 : ("strconv.ErrRange", Rows.laid_strconv_ErrRange) ∈ l) (h3 : ("strconv.ErrSyntax", Rows.laid_strconv_ErrSyntax) ∈ l) (h4 : ("strings.asciiSpace", Rows.laid_strings_asciiSpace) ∈ l)
    {W : World} (hL : laidMetH Tryz.prog l W) (hsh : W.ShapedOpen Tryz.prog) : LaidF W := by
  refine ⟨laid_of hl h1 h2 h3 hL hsh, ?_⟩
  rw [MakeChecks.laidMetH_plain _ _ _ hl] at hL
  have e : (Rows.laid_strings_asciiSpace : DataW Unit) = Lib.tabData .u8 Lib.asciiSpaceTab := by kernel_rfl
  rw [e] at h4
  exact tabIs_of_reads (g := 0) (t := 135) (n := 256) (by kernel_rfl) (by kernel_rfl) Tryz.underlying135 Tryz.underlying5 (by kernel_rfl) (by kernel_rfl) (Lib.laidMet.reads hL h4)
end Go.Proofs.YtioeliocdbckbaaGreatDoor
namespace Go.Proofs.YtioeliocdbckbaaGreatDoor
open Go.RowKit Go.ChangeShapes Go.WideShapes Go.Deep

theorem list_of_forall {α : Type} {Q : Nat → α → Prop} : ∀ (n : Nat), (∀ i, i < n → ∃ a, Q i a) → ∃ xs : List α, xs.length = n ∧ ∀ i x, xs[i]? = some x → Q i x
  | 0, _ => ⟨[], rfl, fun i x h => by simp at h⟩
  | n + 1, h => by
    obtain ⟨xs, hl, hx⟩ := list_of_forall n (fun i hi => h i (by omega))
    obtain ⟨a, ha⟩ := h n (by omega)
    refine ⟨xs ++ [a], by simp [hl], fun i x hi => ?_⟩
    rw [List.getElem?_append] at hi
    split at hi
    · exact hx i x hi
    · rename_i hge
      have : i - xs.length = 0 := by
        have := (List.getElem?_eq_some_iff.1 hi).1
        simp at this; exact this
      rw [this] at hi
      simp at hi
      have : i = n := by omega
      subst this; subst hi; exact ha

theorem add_form {b o i j : Nat} : ((⟨b, o, none⟩ : Addr).add i).add j = ⟨b, o + (i + j), none⟩ := by
  unfold Addr.add
  by_cases hi : i = 0 <;> by_cases hj : j = 0 <;> simp [hi, hj, Nat.add_assoc]

section
variable {H : Type} {enc : TypeId × Value → H} {P : Program} {w : World} {base : Nat} {spare : Nat → Bool} {held : Bool}
theorem sl_of_trod {α : Type} {t e : TypeId} {sz fuel : Nat} {R : α → List Value → Prop} {cs : List Value} {x : DataW H × List MemPlace} (ht : P.underlying t = some (.slice e)) (hC : P.cellsOf e = sz) (hsz : 0 < sz)
    (hR : ∀ n cs x, cs.length = sz → DataW.trod enc P w base spare held n e cs = some x → ∃ a : α, R a cs) (h : DataW.trod enc P w base spare held fuel t cs = some x) :
    ∃ (v : Value) (xs : List α), cs = [v] ∧ Sl w (fun _ => True) sz R v xs := by
  rcases open_slice ht h with ⟨h0, _⟩ | ⟨a, len, cap, m, n, D, Pl, hcs, hb, hl, hm, hmm, _, hi⟩
  · exact ⟨_, [], h0, none, 0, rfl, by simp, by unfold maxLen; omega, fun _ => rfl, fun h => absurd h (by simp)⟩
  · have hlm : len ≤ m := by rw [hmm]; split <;> omega
    have hel : ∀ i, i < len → ∃ a' : α, ∃ cs' : List Value, cs'.length = sz ∧ R a' cs' ∧ ∀ j, j < sz → w.cell? ((a.add (i * sz)).add j) = cs'[j]? := fun i hlt => by
      obtain ⟨cs', hc, ht'⟩ := hi i (by omega)
      rw [hC] at hc
      obtain ⟨_, hlen, hcell⟩ := World.cells?_some hc
      obtain ⟨a', ha'⟩ := hR _ _ _ hlen ht'
      exact ⟨a', cs', hlen, ha', hcell⟩
    obtain ⟨xs, hxl, hx⟩ := list_of_forall len hel
    refine ⟨_, xs, hcs, some a, cap, by rw [hxl], by omega, hm, (fun h => by cases h), fun h0 => ?_⟩
    have h00 : xs[0]? = some xs[0] := List.getElem?_eq_getElem h0
    obtain ⟨cs0, hl0, _, hc0⟩ := hx 0 _ h00
    have hc00 := hc0 0 hsz
    rw [List.getElem?_eq_getElem (by omega)] at hc00
    have hspot := World.cell?_spot hc00
    simp [Addr.add] at hspot
    obtain ⟨b, o, s⟩ := a
    dsimp only at hspot
    subst hspot
    refine ⟨b, o, rfl, trivial, ?_, fun i y hy => ?_⟩
    · have := World.block_lt_of_cell? _ _ hc00
      simpa [Addr.add] using this
    · obtain ⟨cs', hl', hr', hc'⟩ := hx i y hy
      refine ⟨cs', hl', hr', fun j u hu => ?_⟩
      have hj : j < sz := by rw [← hl']; exact (List.getElem?_eq_some_iff.1 hu).1
      rw [← hu, ← hc' j hj, add_form]

theorem trod_ints5 {t e : TypeId} {fuel : Nat} {cs : List Value} {x : DataW H × List MemPlace} (ht : P.underlying t = some (.array 5 e)) (he : P.underlying e = some (.int .i64)) (hC : P.cellsOf t = 5) (hCe : P.cellsOf e = 1)
    (h : DataW.trod enc P w base spare held fuel t cs = some x) : ∃ y : TCall, cs = [.int .i64 y.a0, .int .i64 y.a1, .int .i64 y.a2, .int .i64 y.a3, .int .i64 y.a4] := by
  obtain ⟨xs, m, _, _, hlen, hxl, hf⟩ := DataW.trod_array ht h
  rw [hC] at hlen
  match cs, hlen with
  | [c0, c1, c2, c3, c4], _ =>
    match xs, hxl with
    | [x0, x1, x2, x3, x4], _ =>
      have g := fun i (hi : i < 5) => by have := hf i hi; rw [hCe] at this; exact this
      obtain ⟨n0, e0, _⟩ := DataW.trod_int he (g 0 (by omega))
      obtain ⟨n1, e1, _⟩ := DataW.trod_int he (g 1 (by omega))
      obtain ⟨n2, e2, _⟩ := DataW.trod_int he (g 2 (by omega))
      obtain ⟨n3, e3, _⟩ := DataW.trod_int he (g 3 (by omega))
      obtain ⟨n4, e4, _⟩ := DataW.trod_int he (g 4 (by omega))
      simp at e0 e1 e2 e3 e4
      exact ⟨⟨n0, n1, n2, n3, n4⟩, by simp [e0, e1, e2, e3, e4]⟩
theorem open_call {r : Reach} {b0 : Nat} {t e : TypeId} {v : Value} {d : DataW H} {ps : List MemPlace} (ht : P.underlying t = some (.array 5 e)) (he : P.underlying e = some (.int .i64)) (hC : P.cellsOf t = 5) (hCe : P.cellsOf e = 1)
    (hv : Value.okWide P w r b0 t v) (h : DataW.Trod enc P w base spare held t v d ps) : ∃ y : TCall, v = callV y := by
  simp only [Value.okWide, ht] at hv
  obtain ⟨cs, rfl, _, _⟩ := hv
  obtain ⟨fuel, hf⟩ := h
  obtain ⟨y, hy⟩ := trod_ints5 ht he hC hCe hf
  obtain ⟨l⟩ := cs
  exact ⟨y, by simp only [Value.cells] at hy; subst hy; rfl⟩

theorem open_code {t e ei : TypeId} {fs : Array Field} {r : Reach} {b0 : Nat} {v : Value} {d : DataW H} {ps : List MemPlace} (ht : P.underlying t = some (.slice e)) (he : P.underlying e = some (.struct fs)) (hC : P.cellsOf e = 4) (hi : P.underlying ei = some (.int .i64)) (hCi : P.cellsOf ei = 1)
    (hfs : fs.map (fun f => (f.type, f.offset)) = #[(ei, 0), (ei, 1), (ei, 2), (ei, 3)])
    (hv : Value.okWide P w r b0 t v) (h : DataW.Trod enc P w base spare held t v d ps) : ∃ l, RdCode w (fun _ => True) v l := by
  obtain ⟨a, len, cap, rfl⟩ := okWide_slice ht hv
  obtain ⟨fuel, hf⟩ := h
  have hR : ∀ n cs x, cs.length = 4 → DataW.trod enc P w base spare held n e cs = some x → ∃ a : TIns, insR a cs := fun n cs x hl hx => by
    obtain ⟨xs, m, _, _, _, hxl, hg⟩ := DataW.trod_struct he hx
    have hsz : fs.size = 4 := by have := congrArg Array.size hfs; simpa using this
    match cs, hl with
    | [c0, c1, c2, c3], _ =>
      have g : ∀ (i : Nat), i < 4 → ∃ n, ([c0, c1, c2, c3].drop i).take 1 = [.int .i64 n] := fun i hi4 => by
        have hfi : fs[i]? = some fs[i] := Array.getElem?_eq_getElem (by omega)
        have h1 := congrArg (fun a => a[i]?) hfs
        simp only [Array.getElem?_map, hfi, Option.map_some] at h1
        have h2 : fs[i].type = ei ∧ fs[i].offset = i := by
          have : i = 0 ∨ i = 1 ∨ i = 2 ∨ i = 3 := by omega
          rcases this with rfl | rfl | rfl | rfl <;> simpa using h1
        have := hg i _ hfi
        rw [h2.1, h2.2, hCi] at this
        rw [List.getElem?_eq_getElem (by omega)] at this
        obtain ⟨n, e, _⟩ := DataW.trod_int hi this
        exact ⟨n, e⟩
      obtain ⟨n0, e0⟩ := g 0 (by omega)
      obtain ⟨n1, e1⟩ := g 1 (by omega)
      obtain ⟨n2, e2⟩ := g 2 (by omega)
      obtain ⟨n3, e3⟩ := g 3 (by omega)
      simp at e0 e1 e2 e3
      exact ⟨⟨n0, n1, n2, n3⟩, by simp [insR, e0, e1, e2, e3]⟩
  obtain ⟨v', xs, hcs, hsl⟩ := sl_of_trod ht hC (by omega) hR hf
  simp [Value.cells] at hcs
  rw [hcs]
  exact ⟨xs, hsl⟩
end
end Go.Proofs.YtioeliocdbckbaaGreatDoor
namespace Go.Proofs.YtioeliocdbckbaaGreatDoor
open Go.RowKit Go.ChangeShapes Go.WideShapes Go.Deep
set_option maxRecDepth 100000

theorem field_at {fs : Array Field} {l : Array (TypeId × Nat)} (hfs : fs.map (fun f => (f.type, f.offset)) = l) {i : Nat} {ty : TypeId} {off : Nat} (h : l[i]? = some (ty, off)) : ∃ f, fs[i]? = some f ∧ f.type = ty ∧ f.offset = off := by
  subst hfs
  rw [Array.getElem?_map] at h
  cases hf : fs[i]? with
  | none => rw [hf] at h; cases h
  | some f => rw [hf] at h; simp only [Option.map_some, Option.some.injEq, Prod.mk.injEq] at h; exact ⟨f, rfl, h.1, h.2⟩
section
variable {H : Type} {enc : TypeId × Value → H} {w : World} {base : Nat} {spare : Nat → Bool} {held : Bool}
theorem trod_field {P : Program} {e : TypeId} {fs : Array Field} {l : Array (TypeId × Nat)} {fuel : Nat} {cs : List Value} {x : DataW H × List MemPlace} (he : P.underlying e = some (.struct fs)) (hfs : fs.map (fun f => (f.type, f.offset)) = l)
    (h : DataW.trod enc P w base spare held fuel e cs = some x) {i : Nat} {ty : TypeId} {off : Nat} (hi : l[i]? = some (ty, off)) : ∃ n y, DataW.trod enc P w base spare held n ty ((cs.drop off).take (P.cellsOf ty)) = some y := by
  obtain ⟨f, hf, rfl, rfl⟩ := field_at hfs hi
  obtain ⟨xs, m, _, _, _, hxl, hg⟩ := DataW.trod_struct he h
  have hlt : i < xs.length := by rw [hxl]; exact (Array.getElem?_eq_some_iff.1 hf).1
  have := hg i f hf
  rw [List.getElem?_eq_getElem hlt] at this
  exact ⟨_, _, this⟩
theorem trod_field_int {P : Program} {e ei : TypeId} {fs : Array Field} {l : Array (TypeId × Nat)} {fuel : Nat} {cs : List Value} {x : DataW H × List MemPlace} (he : P.underlying e = some (.struct fs)) (hfs : fs.map (fun f => (f.type, f.offset)) = l)
    (h : DataW.trod enc P w base spare held fuel e cs = some x) {i : Nat} {off : Nat} (hi : l[i]? = some (ei, off)) (hu : P.underlying ei = some (.int .i64)) (hc : P.cellsOf ei = 1) : ∃ n, (cs.drop off).take 1 = [.int .i64 n] := by
  obtain ⟨n, y, hy⟩ := trod_field he hfs h hi
  rw [hc] at hy
  obtain ⟨z, e, _⟩ := DataW.trod_int hu hy
  exact ⟨z, e⟩

theorem trod_cond {fuel : Nat} {cs : List Value} {x : DataW H × List MemPlace} (hl : cs.length = 3) (h : DataW.trod enc Tryz.prog w base spare held fuel 84 cs = some x) : ∃ a : TCond, condR a cs := by
  have hfs : (Tryz.prog.underlying 84).map (fun d => match d with | .struct fs => fs.map (fun f => (f.type, f.offset)) | _ => #[]) = some #[(3, 0), (3, 1), (3, 2)] := by kernel_rfl
  obtain ⟨fs, he⟩ : ∃ fs, Tryz.prog.underlying 84 = some (.struct fs) := ⟨_, Tryz.underlying84⟩
  rw [he] at hfs
  simp only [Option.map_some, Option.some.injEq] at hfs
  have hc : Tryz.prog.cellsOf 3 = 1 := by kernel_rfl
  obtain ⟨n0, e0⟩ := trod_field_int (i := 0) he hfs h rfl Tryz.underlying3 hc
  obtain ⟨n1, e1⟩ := trod_field_int (i := 1) he hfs h rfl Tryz.underlying3 hc
  obtain ⟨n2, e2⟩ := trod_field_int (i := 2) he hfs h rfl Tryz.underlying3 hc
  match cs, hl with
  | [c0, c1, c2], _ =>
    simp at e0 e1 e2
    exact ⟨⟨n0, n1, n2⟩, by simp [condR, e0, e1, e2]⟩
theorem trod_rule {fuel : Nat} {cs : List Value} {x : DataW H × List MemPlace} (hl : cs.length = 2) (h : DataW.trod enc Tryz.prog w base spare held fuel 58 cs = some x) : ∃ a : TRule, ruleR w (fun _ => True) a cs := by
  have hfs : (Tryz.prog.underlying 58).map (fun d => match d with | .struct fs => fs.map (fun f => (f.type, f.offset)) | _ => #[]) = some #[(56, 0), (3, 1)] := by kernel_rfl
  obtain ⟨fs, he⟩ : ∃ fs, Tryz.prog.underlying 58 = some (.struct fs) := ⟨_, Tryz.underlying58⟩
  rw [he] at hfs
  simp only [Option.map_some, Option.some.injEq] at hfs
  obtain ⟨n1, e1⟩ := trod_field_int (i := 1) he hfs h rfl Tryz.underlying3 (by kernel_rfl)
  obtain ⟨n, y, hy⟩ := trod_field (i := 0) he hfs h rfl
  have hc : Tryz.prog.cellsOf 56 = 1 := by kernel_rfl
  rw [hc] at hy
  obtain ⟨v, xs, hcs, hsl⟩ := sl_of_trod (sz := 3) Tryz.underlying56 (by kernel_rfl) (by omega) (fun _ _ _ hl hx => trod_cond hl hx) hy
  match cs, hl with
  | [c0, c1], _ =>
    simp at e1 hcs
    exact ⟨⟨xs, n1⟩, v, by rw [hcs, e1], hsl⟩
theorem trod_pol {fuel : Nat} {cs : List Value} {x : DataW H × List MemPlace} (hl : cs.length = 2) (h : DataW.trod enc Tryz.prog w base spare held fuel 24 cs = some x) : ∃ a : TPol, polR w (fun _ => True) a cs := by
  have hfs : (Tryz.prog.underlying 24).map (fun d => match d with | .struct fs => fs.map (fun f => (f.type, f.offset)) | _ => #[]) = some #[(22, 0), (3, 1)] := by kernel_rfl
  obtain ⟨fs, he⟩ : ∃ fs, Tryz.prog.underlying 24 = some (.struct fs) := ⟨_, Tryz.underlying24⟩
  rw [he] at hfs
  simp only [Option.map_some, Option.some.injEq] at hfs
  obtain ⟨n1, e1⟩ := trod_field_int (i := 1) he hfs h rfl Tryz.underlying3 (by kernel_rfl)
  obtain ⟨n, y, hy⟩ := trod_field (i := 0) he hfs h rfl
  have hc : Tryz.prog.cellsOf 22 = 1 := by kernel_rfl
  rw [hc] at hy
  obtain ⟨v, xs, hcs, hsl⟩ := sl_of_trod (sz := 2) Tryz.underlying22 (by kernel_rfl) (by omega) (fun _ _ _ hl hx => trod_rule hl hx) hy
  match cs, hl with
  | [c0, c1], _ =>
    simp at e1 hcs
    exact ⟨⟨xs, n1⟩, v, by rw [hcs, e1], hsl⟩

theorem open_pol {r : Reach} {b0 : Nat} {v : Value} {d : DataW H} {ps : List MemPlace}
    (hv : Value.okWide Tryz.prog w r b0 24 v) (h : DataW.Trod enc Tryz.prog w base spare held 24 v d ps) : ∃ (u : Value) (t : TPol), v = polV u t.dflt ∧ RdRules w (fun _ => True) u t.rules := by
  simp only [Value.okWide, Tryz.underlying24] at hv
  obtain ⟨cs, rfl, _⟩ := hv
  obtain ⟨fuel, hf⟩ := h
  obtain ⟨xs, m, _, _, hlen, _, _⟩ := DataW.trod_struct Tryz.underlying24 hf
  have hc : Tryz.prog.cellsOf 24 = 2 := by kernel_rfl
  rw [hc] at hlen
  obtain ⟨t, u, hcs, hr⟩ := trod_pol hlen hf
  obtain ⟨l⟩ := cs
  simp only [Value.cells] at hcs
  subst hcs
  exact ⟨u, t, rfl, hr⟩
theorem open_rules {r : Reach} {b0 : Nat} {v : Value} {d : DataW H} {ps : List MemPlace}
    (hv : Value.okWide Tryz.prog w r b0 22 v) (h : DataW.Trod enc Tryz.prog w base spare held 22 v d ps) : ∃ l, RdRules w (fun _ => True) v l := by
  obtain ⟨a, len, cap, rfl⟩ := okWide_slice Tryz.underlying22 hv
  obtain ⟨fuel, hf⟩ := h
  obtain ⟨v', xs, hcs, hsl⟩ := sl_of_trod (sz := 2) Tryz.underlying22 (by kernel_rfl) (by omega) (fun _ _ _ hl hx => trod_rule hl hx) hf
  simp [Value.cells] at hcs
  rw [hcs]
  exact ⟨xs, hsl⟩
theorem reach_slice {P : Program} {ts : List TypeId} {ds : List (DataW H)} {j bytes : Nat} {t e : TypeId} {d : DataW H} {a : Option Addr} {n c : Nat} {ps : List MemPlace} (hwt : (DataW.weightsEach P ts ds).all (· ≤ reachBytes) = true)
    (ht : ts[j]? = some t) (hd : ds[j]? = some d) (hu : P.underlying t = some (.slice e)) (hb : P.bytesOf e = bytes) (h : DataW.Trod enc P w base spare held t (.slice a n c) d ps) : n * bytes ≤ 140737488351232 := by
  obtain ⟨fuel, hf⟩ := h
  rcases open_slice hu hf with ⟨h0, _⟩ | ⟨a', len, cap, m, k, D, Pl, hcs, _, hl, _, _, hx, _⟩
  · simp [Value.cells] at h0
    obtain ⟨_, rfl, _⟩ := h0
    simp
  · simp [Value.cells] at hcs
    obtain ⟨_, rfl, _⟩ := hcs
    injection hx with hx _
    have := sized_slice hwt ht (hd.trans (congrArg some hx)) hu
    rw [hb] at this
    simp only [List.length_map, List.length_range] at this
    have h1 : n * bytes ≤ (n + (m - n)) * bytes := Nat.mul_le_mul_right _ (by omega)
    unfold reachBytes at this
    omega
end
end Go.Proofs.YtioeliocdbckbaaGreatDoor
