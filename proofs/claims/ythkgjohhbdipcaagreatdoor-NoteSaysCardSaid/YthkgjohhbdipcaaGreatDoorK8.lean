/- Texts laid one behind the other: NPrint, CutC, IndexAny, WordIdx, Number, Prune3, TCond, ParseSpec, BoxRow, App2. No condition beyond theirs. -/
import Derived.Test.YthkgjohhbdipcaaGreatDoorK7
import Derived.Test.YthkgjohhbdipcaaGreatDoorK2
import Derived.Test.YthkgjohhbdipcaaGreatDoorK3
import Derived.Test.YthkgjohhbdipcaaGreatDoorK1
import Derived.Test.YthkgjohhbdipcaaGreatDoorProg
import Derived.Lib.OthersKept
import Derived.Lib.MapLaws
import Derived.Lib.TrimUEq
import Derived.Lib.IndexAny
import Derived.Deep.LoopGhost
import Derived.Stop.FmtQuoteTie
import Derived.KernelRfl
import Derived.Laws.Runes
import Derived.WalkMore
import Derived.Lib.ParseIntBTie
import Derived.Test.YthkgjohhbdipcaaGreatDoorK5
import Derived.Maps.AppendAt
set_option linter.all false
namespace Go.Proofs.YthkgjohhbdipcaaGreatDoor
open Go.RowKit Go.Shelf
attribute [local go_sem] gives givesUpon
attribute [-go_sem] run_string_add_if run_slice_string_if run_slice_string

/-- a slice over a block that is known whole, wherever it lies; the address of a cell of it. -/
def VRowB (cells : Array Value) (T : TypeId) (n : Nat) (v : Value) (W : World) : Prop := ∃ b, v = .slice (some ⟨b, 0, none⟩) n n ∧ W.heap[b]? = some (.cells cells T)
def VAtB (cells : Array Value) (T : TypeId) (k : Nat) (v : Value) (W : World) : Prop := ∃ b, v = .pointer (some ⟨b, k, none⟩) ∧ W.heap[b]? = some (.cells cells T)
theorem VRowB_stable {cells : Array Value} {T : TypeId} {n : Nat} : stableP (VRowB cells T n) := fun _ _ _ hb ⟨b, h1, h2⟩ => ⟨b, h1, blk_below h2 hb⟩
theorem VAtB_stable {cells : Array Value} {T : TypeId} {n : Nat} : stableP (VAtB cells T n) := fun _ _ _ hb ⟨b, h1, h2⟩ => ⟨b, h1, blk_below h2 hb⟩
@[reducible] def wordRow : Array Value := #[Value.string (bsL []), .string (bsL [111, 112, 101, 110]), .string (bsL [116, 105, 103, 104, 116]), .string (bsL [102, 111, 114, 107]), .string (bsL [115, 104, 117, 116])]
theorem word_cell {v : Int} (h0 : 1 ≤ v) (h1 : v ≤ 4) : wordRow[v.toNat]? = some (.string (bsL (kindW v))) := by
  rcases (by omega : v = 1 ∨ v = 2 ∨ v = 3 ∨ v = 4) with rfl | rfl | rfl | rfl <;> rfl
theorem words_any (w : World) : Calls Tryz.prog 64 #[] w fun e w' => e = .returned (.slice (some ⟨w.heap.size, 0, none⟩) 5 5) ∧ w' = w.alloc (.cells wordRow 9) := by
  go_enter Tryz.func64, Tryz.ntmps64
  go_wp2
  go_ret
  exact ⟨rfl, rfl⟩
theorem kindW_len (k : Int) : (kindW k).length ≤ 5 := by unfold kindW; split <;> (try split) <;> (try split) <;> simp
theorem textP_len {p : TPol} (h : OkPol p) : (textP p).length ≤ 34000 := by
  have h1 := headP_len p.rules h.rules
  have h2 := verdictW_len p.dflt
  have h3 := h.len
  have e : textP p = headP p.rules ++ verdictW p.dflt := rfl
  rw [e, List.length_append]; omega
theorem recW_len {r : TRec} (h : recE r = 0) : (recW r).length ≤ 34100 := by
  obtain ⟨_, _, hc0, hc1, hf0, hf1, _, _, hp⟩ := recE_ok h
  have h1 := kindW_len r.kind
  have h2 := Lib.itoa_length_le r.cell (by omega) (by omega)
  have h3 : (tailW r).length ≤ 34001 := by
    unfold tailW
    split
    · have := Lib.itoa_length_le r.from_ (by omega) (by omega)
      simp; omega
    · split
      · simp
      · have := textP_len (hp (by obtain ⟨_, h4, _⟩ := recE_ok h; omega))
        simp; omega
  unfold recW
  simp; omega
/-- chapter 10's Print, errors too. -/
def nprintE (r : TRec) : List UInt8 × Int := if recE r = 0 then (recW r, 0) else ([], recE r)
set_option maxRecDepth 100000 in
set_option maxHeartbeats 16000000 in
theorem nprint_any (v : Value) (r : TRec) (D : Nat → Prop) (w : World) (h : RdRules w D v r.p.rules) (hL : Laid w) :
    Calls Tryz.prog 25 #[recV r v] w fun e w' => e = .returned (.tuple #[.string (bsL (nprintE r).1), .int .i64 (nprintE r).2]) ∧ Below w.heap.size w w' := by
  have H := Lib.hid (RdRules.keep h (D' := fun b => b < w.heap.size) (fun _ _ hl => hl) (fun _ _ _ => rfl) (Nat.le_refl _))
  have HL0 := Lib.hid hL
  obtain ⟨kd, cl, fr, p⟩ := r
  dsimp only at H h ⊢
  obtain ⟨a, c, rfl, hlc, hcm, hat⟩ := Sl.form H.out
  clear h hL hlc hcm hat
  go_enter Tryz.func25, Tryz.ntmps25
  go_wp2_with fail
  have HB0 := Lib.hid (Bx.one (w := w) (o := .cells #[.int .i64 kd, .int .i64 cl, .int .i64 fr, .slice a p.rules.length c, .int .i64 p.dflt] 56))
  refine (notecheck_any _ ⟨kd, cl, fr, p⟩ _ _ (RdRules.below H.out HB0.out.bel)).mono ?_
  rintro e w1 ⟨rfl, hb1⟩
  have HB := Lib.hid (HB0.out.below hb1)
  clear hb1 HB0
  by_cases h0 : recE ⟨kd, cl, fr, p⟩ = 0
  · have HE : Hid (nprintE ⟨kd, cl, fr, p⟩ = (recW ⟨kd, cl, fr, p⟩, 0)) := if_pos h0
    obtain ⟨hk1, hk2, hc0, hc1, hf0, hf1, _, _, hp⟩ := recE_ok h0
    dsimp only at hk1 hk2 hc0 hc1 hf0 hf1 hp
    have Hp := Lib.hid hp
    have HL := Lib.hid (HL0.out.below HB.out.bel)
    rw [h0]
    clear h0 hp
    have hkl := kindW_len kd
    have hil := Lib.itoa_length_le cl (by omega) (by omega)
    obtain ⟨s1, hs1⟩ : ∃ s1, kindW kd ++ [32] = s1 := ⟨_, rfl⟩
    obtain ⟨s2, hs2⟩ : ∃ s2, s1 ++ Lib.itoa cl = s2 := ⟨_, rfl⟩
    have hl1 : s1.length ≤ 6 := by rw [← hs1]; simp; omega
    have hl2 : s2.length ≤ 27 := by rw [← hs2]; simp; omega
    have hb1 : ∀ W : World, (Op.stringOp .add (bsL (kindW kd)) ⟨#[32]⟩).run Tryz.prog W = .ok (.string (bsL s1)) W := fun W => by rw [← hs1]; exact add_bs (kindW kd) [32] (by simp; omega) W
    have hb2 : ∀ W : World, (Op.stringOp .add (bsL s1) (bsL (Lib.itoa cl))).run Tryz.prog W = .ok (.string (bsL s2)) W := fun W => by rw [← hs2]; exact add_bs s1 (Lib.itoa cl) (by omega) W
    have HS : Hid (s2 = kindW kd ++ 32 :: Lib.itoa cl) := by show _ = _; rw [← hs2, ← hs1]; simp
    have Hl2 := Lib.hid hl2
    clear hs1 hs2 hl1
    have hk5 : kd < 5 := by omega
    have hk0 : 0 ≤ kd := by omega
    have hq0 := HB.out.cells0
    go_wp2_with fail
    clear hq0
    refine wp_region_B [pr (VRowB wordRow 9 5), ex (.pointer (some ⟨w.heap.size, 0, none⟩)), ex (.int .i64 kd), pr (VAtB wordRow 9 kd.toNat), ex (.string (bsL (kindW kd))), ex (.string (bsL s1)), ex (.pointer (some ⟨w.heap.size, 1, none⟩)), ex (.int .i64 cl), ex (.string (bsL (Lib.itoa cl))), ex (.string (bsL s2)), ex (.string (bsL s2))] _ (Nat.le_refl _) (by kernel_rfl) (by kernel_rfl) ⟨.inr ⟨_, rfl, VRowB_stable⟩, .inl ⟨_, rfl⟩, .inl ⟨_, rfl⟩, .inr ⟨_, rfl, VAtB_stable⟩, .inl ⟨_, rfl⟩, .inl ⟨_, rfl⟩, .inl ⟨_, rfl⟩, .inl ⟨_, rfl⟩, .inl ⟨_, rfl⟩, .inl ⟨_, rfl⟩, .inl ⟨_, rfl⟩, trivial⟩ ?_
    (refine walkB_pr (fun K hK => ?_); refine ⟨fun W hC hd R hR => ?_, fun v0 => ?_⟩; (clear hd; go_simp; go_at_call 64; refine (words_any W).mono ?_; rintro e w9 ⟨rfl, rfl⟩; exact ⟨_, rfl, hR _ _ (bel_alloc (Below.refl _ _) _) ⟨_, rfl, heap_last _ _⟩⟩); (go_simp; refine hK _ _ ?_; clear hK K))
    (refine walkB_ex (fun K hK => ?_); refine ⟨fun W hC hd R hR => ?_, ?_⟩; (clear hd; go_simp; exact hR _ _ (Below.refl _ _) rfl); (go_simp; refine hK _ ?_; clear hK K))
    (refine walkB_ex (fun K hK => ?_); refine ⟨fun W hC hd R hR => ?_, ?_⟩; (have hqb := (HB.out.below hC.2).cells0; clear hd; go_simp; exact hR _ _ (Below.refl _ _) rfl); (go_simp; refine hK _ ?_; clear hK K))
    (refine walkB_pr (fun K hK => ?_); refine ⟨fun W hC hd R hR => ?_, fun v3 => ?_⟩; (have hv : VRowB wordRow 9 5 v0 W := hd 0 (by decide); obtain ⟨b0, rfl, hc0⟩ := hv; have Hc0 := Lib.hid hc0; clear hc0; clear hd; go_simp; exact hR _ _ (Below.refl _ _) ⟨b0, rfl, Hc0.out⟩); (go_simp; refine hK _ _ ?_; clear hK K))
    (refine walkB_ex (fun K hK => ?_); refine ⟨fun W hC hd R hR => ?_, ?_⟩; (have hv : VAtB wordRow 9 kd.toNat v3 W := hd 3 (by decide); obtain ⟨b0, rfl, hc0⟩ := hv; have hcell := (cells_of hc0 _).trans (word_cell hk1 hk2); clear hc0; clear hd; go_simp; exact hR _ _ (Below.refl _ _) rfl); (go_simp; refine hK _ ?_; clear hK K))
    (refine walkB_ex (fun K hK => ?_); refine ⟨fun W hC hd R hR => ?_, ?_⟩; (clear hd; go_simp; exact hR _ _ (Below.refl _ _) rfl); (go_simp; refine hK _ ?_; clear hK K))
    (refine walkB_ex (fun K hK => ?_); refine ⟨fun W hC hd R hR => ?_, ?_⟩; (clear hd; go_simp; exact hR _ _ (Below.refl _ _) rfl); (go_simp; refine hK _ ?_; clear hK K))
    (refine walkB_ex (fun K hK => ?_); refine ⟨fun W hC hd R hR => ?_, ?_⟩; (have hqb := (HB.out.below hC.2).cells0; clear hd; go_simp; exact hR _ _ (Below.refl _ _) rfl); (go_simp; refine hK _ ?_; clear hK K))
    (refine walkB_ex (fun K hK => ?_); refine ⟨fun W hC hd R hR => ?_, ?_⟩; (have HLW := Lib.hid (HL.out.below hC.2); clear hd; go_simp; go_at_call 65; refine (itoa_any cl (by omega) (by omega) _ HLW.out).mono ?_; rintro e w9 ⟨rfl, hb9⟩; exact ⟨_, rfl, hR _ _ hb9 rfl⟩); (go_simp; refine hK _ ?_; clear hK K))
    (refine walkB_ex (fun K hK => ?_); refine ⟨fun W hC hd R hR => ?_, ?_⟩; (clear hd; go_simp; exact hR _ _ (Below.refl _ _) rfl); (go_simp; refine hK _ ?_; clear hK K))
    (refine walkB_ex (fun K hK => ?_); refine ⟨fun W hC hd R hR => ?_, ?_⟩; (clear hd; go_simp; exact hR _ _ (Below.refl _ _) rfl); (go_simp; refine hK _ ?_; clear hK K))
    intro w2 hC2 _
    have HB2 := Lib.hid (HB.out.below hC2.2)
    have HL2 := Lib.hid (HL.out.below hC2.2)
    clear hC2 hb1 hb2 HB HL hkl hil hl2
    have hq0 := HB2.out.cells0
    have hkd : kd = 1 ∨ kd = 2 ∨ kd = 3 ∨ kd = 4 := by omega
    have hs32 : ∀ (t : List UInt8), t.length ≤ 34100 → ∀ W : World, (Op.stringOp .add (bsL s2) (bsL t)).run Tryz.prog W = .ok (.string (bsL (s2 ++ t))) W := fun t ht W => add_bs s2 t (by have := Hl2.out; omega) W
    have h32 : ∀ W : World, (Op.stringOp .add (bsL s2) ⟨#[32]⟩).run Tryz.prog W = .ok (.string (bsL (s2 ++ [32]))) W := hs32 [32] (by decide)
    clear hk1 hk2 hk5 hk0
    rcases hkd with rfl | rfl | rfl | rfl
    · have Hok := Lib.hid (Hp.out (by decide))
      have HPE : Hid (printE p = (textP p, 0)) := if_pos ((okPol_iff p).2 Hok.out)
      have htl := textP_len Hok.out
      have hadd2 : ∀ W : World, (Op.stringOp .add (bsL (s2 ++ [32])) (bsL (textP p))).run Tryz.prog W = .ok (.string (bsL ((s2 ++ [32]) ++ textP p))) W := fun W => add_bs (s2 ++ [32]) (textP p) (by have := Hl2.out; simp; omega) W
      clear hs32
      go_wp2_with fail
      refine (tprint_any _ p _ _ (RdRules.below H.out HB2.out.bel) HL2.out).mono ?_
      rw [HPE.out]
      rintro e w3 ⟨rfl, hb3⟩
      have HB3 := Lib.hid (HB2.out.below hb3)
      clear hb3 hq0
      dsimp only
      go_wp2
      go_ret2
      exact ⟨by rw [HE.out, HS.out]; simp [recW, tailW], HB3.out.bel⟩
    · have Hok := Lib.hid (Hp.out (by decide))
      have HPE : Hid (printE p = (textP p, 0)) := if_pos ((okPol_iff p).2 Hok.out)
      have htl := textP_len Hok.out
      have hadd2 : ∀ W : World, (Op.stringOp .add (bsL (s2 ++ [32])) (bsL (textP p))).run Tryz.prog W = .ok (.string (bsL ((s2 ++ [32]) ++ textP p))) W := fun W => add_bs (s2 ++ [32]) (textP p) (by have := Hl2.out; simp; omega) W
      clear hs32
      go_wp2_with fail
      refine (tprint_any _ p _ _ (RdRules.below H.out HB2.out.bel) HL2.out).mono ?_
      rw [HPE.out]
      rintro e w3 ⟨rfl, hb3⟩
      have HB3 := Lib.hid (HB2.out.below hb3)
      clear hb3 hq0
      dsimp only
      go_wp2
      go_ret2
      exact ⟨by rw [HE.out, HS.out]; simp [recW, tailW], HB3.out.bel⟩
    · have hfl := Lib.itoa_length_le fr (by omega) (by omega)
      have hadd : ∀ W : World, (Op.stringOp .add ⟨#[32]⟩ (bsL (Lib.itoa fr))).run Tryz.prog W = .ok (.string (bsL (32 :: Lib.itoa fr))) W := fun W => add_bs [32] (Lib.itoa fr) (by simp; omega) W
      have hadd2 := hs32 (32 :: Lib.itoa fr) (by simp; omega)
      clear hs32
      go_wp2_with fail
      refine (itoa_any fr (by omega) (by omega) _ HL2.out).mono ?_
      rintro e w3 ⟨rfl, hb3⟩
      have HB3 := Lib.hid (HB2.out.below hb3)
      clear hb3 hq0
      go_wp2
      go_ret2
      exact ⟨by rw [HE.out, HS.out]; simp [recW, tailW], HB3.out.bel⟩
    · clear hs32
      go_wp2
      go_ret2
      exact ⟨by rw [HE.out, HS.out]; simp [recW, tailW], HB2.out.bel⟩
  · have HE : Hid (nprintE ⟨kd, cl, fr, p⟩ = ([], recE ⟨kd, cl, fr, p⟩)) := if_neg h0
    have hne : (recE ⟨kd, cl, fr, p⟩ != 0) = true := bne_iff_ne.2 h0
    have HBf := Lib.hid HB.out.bel
    generalize recE ⟨kd, cl, fr, p⟩ = E at *
    clear h0
    go_wp2
    go_ret2
    exact ⟨by rw [HE.out]; rfl, HBf.out⟩
end Go.Proofs.YthkgjohhbdipcaaGreatDoor
namespace Go.Proofs.YthkgjohhbdipcaaGreatDoor
open Go.RowKit

theorem cutc_any (c : UInt8) (t : List UInt8) (w : World) (hL : Laid w) (hs : t.length < 4294967281) : Calls Tryz.prog 67 #[.string (bsL t), .string ⟨#[c]⟩] w fun e w' =>
    e = .returned (.tuple #[.string (bsL (Lib.cut t [c]).1), .string (bsL (Lib.cut t [c]).2.1), .bool (Lib.cut t [c]).2.2]) ∧ Below w.heap.size w w' := by
  obtain ⟨m, hm⟩ := hL.ml
  refine (Tryz.strings_Cut (bsL t) ⟨#[c]⟩ m w (by simpa [bsL, ByteArray.size] using hs) hm).mono ?_
  rintro e w1 ⟨rfl, n, rfl⟩
  exact ⟨rfl, Go.Joins.below_draws _ _ _⟩
theorem cut_len (t : List UInt8) (c : UInt8) : (Lib.cut t [c]).1.length ≤ t.length ∧ (Lib.cut t [c]).2.1.length ≤ t.length := by
  unfold Lib.cut
  split
  · simp; omega
  · simp
end Go.Proofs.YthkgjohhbdipcaaGreatDoor
namespace Go.Proofs.YthkgjohhbdipcaaGreatDoor
open Go.RowKit
attribute [local go_sem] gives givesUpon

theorem bytes_of {b : ByteArray} {l : List UInt8} (h : b.data.toList = l) : b = ⟨⟨l⟩⟩ := by
  obtain ⟨⟨d⟩⟩ := b
  simp at h
  subst h
  rfl
theorem cont_high (n : Nat) : 128 ≤ (UInt8.ofNat (128 + n % 64)).toNat := by
  rw [UInt8.toNat_ofNat']
  have := Nat.mod_lt n (show 0 < 64 by decide)
  rw [Nat.mod_eq_of_lt (by omega)]
  omega
set_option maxRecDepth 100000 in
set_option maxHeartbeats 4000000 in
theorem idxrune_valid (r : Nat) (h1 : 128 ≤ r) (h2 : r ≤ 1114111) (hv : r < 55296 ∨ 57344 ≤ r) (w : World) :
    Calls Tryz.prog 177 #[.string ⟨#[61, 33, 60, 62]⟩, .int .i32 r] w fun e w' => e = .returned (.int .i64 (-1)) ∧ Below w.heap.size w w' := by
  by_cases hr : r = 65533
  · subst hr
    go_enter Tryz.func177, Tryz.ntmps177
    go_wp2_with fail
    go_loopg [5, 6] 4 (fun g _ _ wx => ∃ i : Nat, i + g = 4 ∧ wx = w.iter ⟨#[61, 33, 60, 62]⟩ i)
    case atStart => exact ⟨0, by omega, rfl⟩
    case round =>
      obtain ⟨i, hig, rfl⟩ := hrel
      cases gk with
      | zero =>
        obtain rfl : i = 4 := by omega
        have hnx := fun ty => run_next_end (P := Tryz.prog) w ⟨#[61, 33, 60, 62]⟩ 4 ty (by decide)
        go_wp2
        go_ret
        exact ⟨rfl, bel_alloc (Below.refl _ _) _⟩
      | succ g =>
        have hi : i = 0 ∨ i = 1 ∨ i = 2 ∨ i = 3 := by omega
        rcases hi with rfl | rfl | rfl | rfl
        · have hnx := fun ty => run_next_ascii (P := Tryz.prog) w ⟨#[61, 33, 60, 62]⟩ 0 ty (by decide) (by decide)
          rw [show ((⟨#[61, 33, 60, 62]⟩ : ByteArray)[0]'(by decide)) = 61 from rfl] at hnx
          go_wp2
          go_roundg g
          case measure => omega
          case rel => exact ⟨1, by omega, rfl⟩
        · have hnx := fun ty => run_next_ascii (P := Tryz.prog) w ⟨#[61, 33, 60, 62]⟩ 1 ty (by decide) (by decide)
          rw [show ((⟨#[61, 33, 60, 62]⟩ : ByteArray)[1]'(by decide)) = 33 from rfl] at hnx
          go_wp2
          go_roundg g
          case measure => omega
          case rel => exact ⟨2, by omega, rfl⟩
        · have hnx := fun ty => run_next_ascii (P := Tryz.prog) w ⟨#[61, 33, 60, 62]⟩ 2 ty (by decide) (by decide)
          rw [show ((⟨#[61, 33, 60, 62]⟩ : ByteArray)[2]'(by decide)) = 60 from rfl] at hnx
          go_wp2
          go_roundg g
          case measure => omega
          case rel => exact ⟨3, by omega, rfl⟩
        · have hnx := fun ty => run_next_ascii (P := Tryz.prog) w ⟨#[61, 33, 60, 62]⟩ 3 ty (by decide) (by decide)
          rw [show ((⟨#[61, 33, 60, 62]⟩ : ByteArray)[3]'(by decide)) = 62 from rfl] at hnx
          go_wp2
          go_roundg g
          case measure => omega
          case rel => exact ⟨4, by omega, rfl⟩
  · have g0 : (0 : Int) ≤ (r : Int) := by omega
    have g1 : ¬ (r : Int) < 128 := by omega
    have g2 : ((r : Int) == 65533) = false := beq_eq_false_iff_ne.2 (by omega)
    have hval : Hid (Lib.validRune (r : Int) = true) := by show _ = _; unfold Lib.validRune; exact decide_eq_true (by omega)
    go_enter Tryz.func177, Tryz.ntmps177
    go_wp2_with fail
    refine (Tryz.utf8_ValidRune r _).mono ?_
    rw [hval.out]
    rintro e w1 ⟨rfl, rfl⟩
    clear g0 g1 g2 hval
    rcases (by omega : r < 2048 ∨ (2048 ≤ r ∧ r < 65536) ∨ 65536 ≤ r) with hc | hc | hc
    · obtain ⟨b0, b1, hN, hb⟩ : ∃ b0 b1 : UInt8, Utf8.encode (r : Int) = ⟨#[b0, b1]⟩ ∧ 128 ≤ b1.toNat := ⟨_, _, bytes_of (Go.Extern.FmtText.enc2 r (by omega) hc), cont_high _⟩
      have hne : (((33 : Int)) != (b1.toNat : Int)) = true := bne_iff_ne.2 (by omega)
      have hsz : (⟨#[b0, b1]⟩ : ByteArray).size = 2 := rfl
      have hg2 : ∀ h, (⟨#[61, 33, 60, 62]⟩ : ByteArray)[1]'h = 33 := fun _ => rfl
      have hg : ∀ h, (⟨#[b0, b1]⟩ : ByteArray)[1]'h = b1 := fun _ => rfl
      have HR : Hid (Lib.indexByte [60, 62] b1 = -1) := by
        show _ = _
        have e : ∀ c : UInt8, c.toNat < 128 → (c == b1) = false := fun c hc => beq_eq_false_iff_ne.2 (fun e => by rw [e] at hc; omega)
        simp [Lib.indexByte, e]
      go_wp2_with fail
      go_step3
      go_wp2_with fail
      go_loopw [9, 10] (fun iv fv wr => iv = .int .i64 1 ∧ fv = .int .i64 0 ∧ wr = w1) (fun _ _ _ => 0)
      case atStart => exact ⟨rfl, rfl, rfl⟩
      case round =>
        obtain ⟨rfl, rfl, hw⟩ := hrel
        subst hw
        go_wp2_with fail
        go_step3
        go_wp2_with fail
        refine wp_region_exact3 _ (Nat.le_refl _) (by kernel_rfl) (by kernel_rfl) ?_
        repeat (refine monoE_step (fun K hK => ?_); apply Exists.intro; refine ⟨fun W hC R hR => ?_, ?_⟩; (go_simp; exact hR _ _ (Below.refl _ _) rfl); (go_simp; refine hK _ ?_; clear hK K))
        intro w2 hC2
        have H2 := Lib.hid hC2.2
        have Hsz := Lib.hid hsz
        clear hC2 hb hN h1 h2 hv hr hc
        go_wp2_with fail
        refine wp_region_exact3 _ (Nat.le_refl _) (by kernel_rfl) (by kernel_rfl) ?_
        repeat (refine monoE_step (fun K hK => ?_); apply Exists.intro; refine ⟨fun W hC R hR => ?_, ?_⟩; (first | (go_simp; exact hR _ _ (Below.refl _ _) rfl) | (go_simp; go_at_call 205; refine (Tryz.strings_IndexByte _ _ _).mono ?_; rintro e w9 ⟨he, rfl⟩; have he2 : e = .returned (.int .i64 (-1)) := (he.trans (congrArg (fun z => Ending.returned (Value.int .i64 z)) (by first | exact HR.out | (go_simp; exact HR.out)))); subst he2; exact ⟨_, rfl, hR _ _ (Below.refl _ _) rfl⟩)); (go_simp; refine hK _ ?_; clear hK K))
        intro w3 hC3
        have H3 := Lib.hid (bel_call H2.out hC3.2)
        clear hC3
        go_wp2
        simp +zetaDelta only [Exit.noGoto_ret, Exit.inBlock, Exit.then]
        go_ret
        exact ⟨rfl, H3.out⟩
    · obtain ⟨b0, b1, b2, hN, hb⟩ : ∃ b0 b1 b2 : UInt8, Utf8.encode (r : Int) = ⟨#[b0, b1, b2]⟩ ∧ 128 ≤ b2.toNat := ⟨_, _, _, bytes_of (Go.Extern.FmtText.enc3 r (by omega) (by omega) hv), cont_high _⟩
      have hne : (((60 : Int)) != (b2.toNat : Int)) = true := bne_iff_ne.2 (by omega)
      have hsz : (⟨#[b0, b1, b2]⟩ : ByteArray).size = 3 := rfl
      have hg2 : ∀ h, (⟨#[61, 33, 60, 62]⟩ : ByteArray)[2]'h = 60 := fun _ => rfl
      have hg : ∀ h, (⟨#[b0, b1, b2]⟩ : ByteArray)[2]'h = b2 := fun _ => rfl
      have HR : Hid (Lib.indexByte [62] b2 = -1) := by
        show _ = _
        have e : ∀ c : UInt8, c.toNat < 128 → (c == b2) = false := fun c hc => beq_eq_false_iff_ne.2 (fun e => by rw [e] at hc; omega)
        simp [Lib.indexByte, e]
      go_wp2_with fail
      go_step3
      go_wp2_with fail
      go_loopw [9, 10] (fun iv fv wr => iv = .int .i64 2 ∧ fv = .int .i64 0 ∧ wr = w1) (fun _ _ _ => 0)
      case atStart => exact ⟨rfl, rfl, rfl⟩
      case round =>
        obtain ⟨rfl, rfl, hw⟩ := hrel
        subst hw
        go_wp2_with fail
        go_step3
        go_wp2_with fail
        refine wp_region_exact3 _ (Nat.le_refl _) (by kernel_rfl) (by kernel_rfl) ?_
        repeat (refine monoE_step (fun K hK => ?_); apply Exists.intro; refine ⟨fun W hC R hR => ?_, ?_⟩; (go_simp; exact hR _ _ (Below.refl _ _) rfl); (go_simp; refine hK _ ?_; clear hK K))
        intro w2 hC2
        have H2 := Lib.hid hC2.2
        have Hsz := Lib.hid hsz
        clear hC2 hb hN h1 h2 hv hr hc
        go_wp2_with fail
        refine wp_region_exact3 _ (Nat.le_refl _) (by kernel_rfl) (by kernel_rfl) ?_
        repeat (refine monoE_step (fun K hK => ?_); apply Exists.intro; refine ⟨fun W hC R hR => ?_, ?_⟩; (first | (go_simp; exact hR _ _ (Below.refl _ _) rfl) | (go_simp; go_at_call 205; refine (Tryz.strings_IndexByte _ _ _).mono ?_; rintro e w9 ⟨he, rfl⟩; have he2 : e = .returned (.int .i64 (-1)) := (he.trans (congrArg (fun z => Ending.returned (Value.int .i64 z)) (by first | exact HR.out | (go_simp; exact HR.out)))); subst he2; exact ⟨_, rfl, hR _ _ (Below.refl _ _) rfl⟩)); (go_simp; refine hK _ ?_; clear hK K))
        intro w3 hC3
        have H3 := Lib.hid (bel_call H2.out hC3.2)
        clear hC3
        go_wp2
        simp +zetaDelta only [Exit.noGoto_ret, Exit.inBlock, Exit.then]
        go_ret
        exact ⟨rfl, H3.out⟩
    · obtain ⟨b0, b1, b2, b3, hN, hb⟩ : ∃ b0 b1 b2 b3 : UInt8, Utf8.encode (r : Int) = ⟨#[b0, b1, b2, b3]⟩ ∧ 128 ≤ b3.toNat := ⟨_, _, _, _, bytes_of (Go.Extern.FmtText.enc4 r (by omega) h2), cont_high _⟩
      have hne : (((62 : Int)) != (b3.toNat : Int)) = true := bne_iff_ne.2 (by omega)
      have hsz : (⟨#[b0, b1, b2, b3]⟩ : ByteArray).size = 4 := rfl
      have hg2 : ∀ h, (⟨#[61, 33, 60, 62]⟩ : ByteArray)[3]'h = 62 := fun _ => rfl
      have hg : ∀ h, (⟨#[b0, b1, b2, b3]⟩ : ByteArray)[3]'h = b3 := fun _ => rfl
      have HR : Hid (Lib.indexByte [] b3 = -1) := by
        show _ = _
        show Lib.indexByte [] _ = _
        rfl
      go_wp2_with fail
      go_step3
      go_wp2_with fail
      go_loopw [9, 10] (fun iv fv wr => iv = .int .i64 3 ∧ fv = .int .i64 0 ∧ wr = w1) (fun _ _ _ => 0)
      case atStart => exact ⟨rfl, rfl, rfl⟩
      case round =>
        obtain ⟨rfl, rfl, hw⟩ := hrel
        subst hw
        go_wp2_with fail
        go_step3
        go_wp2_with fail
        refine wp_region_exact3 _ (Nat.le_refl _) (by kernel_rfl) (by kernel_rfl) ?_
        repeat (refine monoE_step (fun K hK => ?_); apply Exists.intro; refine ⟨fun W hC R hR => ?_, ?_⟩; (go_simp; exact hR _ _ (Below.refl _ _) rfl); (go_simp; refine hK _ ?_; clear hK K))
        intro w2 hC2
        have H2 := Lib.hid hC2.2
        have Hsz := Lib.hid hsz
        clear hC2 hb hN h1 h2 hv hr hc
        go_wp2_with fail
        refine wp_region_exact3 _ (Nat.le_refl _) (by kernel_rfl) (by kernel_rfl) ?_
        repeat (refine monoE_step (fun K hK => ?_); apply Exists.intro; refine ⟨fun W hC R hR => ?_, ?_⟩; (first | (go_simp; exact hR _ _ (Below.refl _ _) rfl) | (go_simp; go_at_call 205; refine (Tryz.strings_IndexByte _ _ _).mono ?_; rintro e w9 ⟨he, rfl⟩; have he2 : e = .returned (.int .i64 (-1)) := (he.trans (congrArg (fun z => Ending.returned (Value.int .i64 z)) (by first | exact HR.out | (go_simp; exact HR.out)))); subst he2; exact ⟨_, rfl, hR _ _ (Below.refl _ _) rfl⟩)); (go_simp; refine hK _ ?_; clear hK K))
        intro w3 hC3
        have H3 := Lib.hid (bel_call H2.out hC3.2)
        clear hC3
        go_wp2
        simp +zetaDelta only [Exit.noGoto_ret, Exit.inBlock, Exit.then]
        go_ret
        exact ⟨rfl, H3.out⟩

set_option maxRecDepth 100000 in
set_option maxHeartbeats 4000000 in
theorem idxrune_sign (r : Nat) (h1 : 128 ≤ r) (h2 : r ≤ 1114111) (w : World) :
    Calls Tryz.prog 177 #[.string ⟨#[61, 33, 60, 62]⟩, .int .i32 r] w fun e w' => e = .returned (.int .i64 (-1)) ∧ Below w.heap.size w w' := by
  by_cases hv : r < 55296 ∨ 57344 ≤ r
  · exact idxrune_valid r h1 h2 hv w
  · have g0 : (0 : Int) ≤ (r : Int) := by omega
    have g1 : ¬ (r : Int) < 128 := by omega
    have g2 : ((r : Int) == 65533) = false := beq_eq_false_iff_ne.2 (by omega)
    have hval : Hid (Lib.validRune (r : Int) = false) := by show _ = _; unfold Lib.validRune; exact decide_eq_false (by omega)
    go_enter Tryz.func177, Tryz.ntmps177
    go_wp2_with fail
    refine (Tryz.utf8_ValidRune r _).mono ?_
    rw [hval.out]
    rintro e w1 ⟨rfl, rfl⟩
    go_wp2
    go_ret
    exact ⟨rfl, Below.refl _ _⟩
theorem enc_high (r : Int) (h : 128 ≤ r) : ∀ b ∈ Lib.encodeRune r, 128 ≤ b.toNat := by
  have key : ∀ x ∈ Lib.encodeRuneZ r, 128 ≤ x ∧ x < 256 := fun x hx => by
    rcases (by omega : r ≤ 2047 ∨ (2048 ≤ r ∧ r < 55296) ∨ (55296 ≤ r ∧ r ≤ 57343) ∨ (57343 < r ∧ r ≤ 65535) ∨ (65536 ≤ r ∧ r ≤ 1114111) ∨ 1114111 < r) with hc | hc | hc | hc | hc | hc
    · rw [Lib.encodeRuneZ_two h hc] at hx; simp at hx; rcases hx with rfl | rfl <;> omega
    · rw [Lib.encodeRuneZ_three (.inl hc)] at hx; simp at hx; rcases hx with rfl | rfl | rfl <;> omega
    · rw [Lib.encodeRuneZ_bad (.inr (.inl hc))] at hx; simp at hx; rcases hx with rfl | rfl | rfl <;> omega
    · rw [Lib.encodeRuneZ_three (.inr hc)] at hx; simp at hx; rcases hx with rfl | rfl | rfl <;> omega
    · rw [Lib.encodeRuneZ_four hc.1 hc.2] at hx; simp at hx; rcases hx with rfl | rfl | rfl | rfl <;> omega
    · rw [Lib.encodeRuneZ_bad (.inr (.inr hc))] at hx; simp at hx; rcases hx with rfl | rfl | rfl <;> omega
  intro b hb
  unfold Lib.encodeRune at hb
  obtain ⟨x, hx, rfl⟩ := List.mem_map.1 hb
  obtain ⟨h1, h2⟩ := key x hx
  rw [show x.toNat.toUInt8.toNat = x.toNat % 256 from UInt8.toNat_ofNat' ..]
  omega
theorem iter_below {B k p : Nat} {s : ByteArray} {w W : World} (h : Below B w W) (hk : B ≤ k) : Below B w (W.iterAt k s p) :=
  ⟨h.os, h.tape, h.output, by simp [World.iterAt]; exact h.size, fun b hb => by
    rw [← h.block b hb]
    simp only [World.iterAt]
    rw [Array.getElem?_setIfInBounds_ne (by omega)]⟩
/-- the bytes of a rune whose head is no ASCII byte. -/
theorem dec_high (u : ByteArray) (i : Nat) (hi : i < u.size) (ha : 128 ≤ (u[i]'hi).toNat) : 128 ≤ (Utf8.decode u i).1 ∧ (Utf8.decode u i).1 ≤ 1114111 ∧ 1 ≤ (Utf8.decode u i).2 ∧ i + (Utf8.decode u i).2 ≤ u.size ∧
    ∀ (j : Nat) (y : UInt8), i ≤ j → j < i + (Utf8.decode u i).2 → u.data.toList[j]? = some y → 128 ≤ y.toNat := by
  have hh := decode_high u i hi ha
  have hd := Lib.decodeL_drop u i
  have hlen : u.data.toList.length = u.size := (Lib.size_eq u).symm
  have hne : u.data.toList.drop i ≠ [] := fun e => by have := congrArg List.length e; simp at this; rw [← hlen] at hi; simp at hi; omega
  have hr := Lib.decodeL_rune (u.data.toList.drop i)
  have hle := Lib.decodeL_le (u.data.toList.drop i) hne
  rw [hd] at hr hle
  rw [List.length_drop, hlen] at hle
  refine ⟨hh.1, hr, hh.2, by omega, fun j y h1 h2 hy => ?_⟩
  by_cases hs : (Utf8.decode u i).1 = 65533 ∧ (Utf8.decode u i).2 = 1
  · obtain rfl : j = i := by have := hs.2; omega
    have := Lib.data_getElem? u j hi
    rw [this] at hy
    injection hy with hy
    rw [← hy]
    exact ha
  · have he := Lib.encode_decode (u.data.toList.drop i) hne (by rw [hd]; exact hs)
    rw [hd] at he
    have hm : y ∈ (u.data.toList.drop i).take (Utf8.decode u i).2 := by
      rw [List.mem_iff_getElem?]
      refine ⟨j - i, ?_⟩
      rw [List.getElem?_take_of_lt (by omega), List.getElem?_drop, show i + (j - i) = j by omega]
      exact hy
    rw [← he] at hm
    exact enc_high _ (by have := hh.1; omega) y hm
set_option maxRecDepth 100000 in
set_option maxHeartbeats 8000000 in
theorem indexany_any (u : ByteArray) (hu : u.size < 4294967281) (w : World) :
    Calls Tryz.prog 145 #[.string u, .string ⟨#[61, 33, 60, 62]⟩] w fun e w' => e = .returned (.int .i64 (Lib.indexAny u.data.toList [61, 33, 60, 62])) ∧ Below w.heap.size w w' := by
  have h116 : (Tryz.prog.info? 216).map (fun i => (i.zero, i.size)) = some (some (.agg (Array.replicate 256 (.bool false))), 256) := by kernel_rfl
  by_cases h8 : 8 < u.size
  · refine (Tryz.strings_IndexAny_long (zero_of_info h116).1 u ⟨#[61, 33, 60, 62]⟩ w (by decide) h8 hu (by decide) (fun j b hb => ?_)).mono ?_
    · have hb' : [(61 : UInt8), 33, 60, 62][j]? = some b := hb
      match j, hb' with
      | 0, h => simp at h; subst h; decide
      | 1, h => simp at h; subst h; decide
      | 2, h => simp at h; subst h; decide
      | 3, h => simp at h; subst h; decide
      | j + 4, h => simp at h
    · rintro e w' ⟨rfl, rfl⟩
      exact ⟨rfl, bel_alloc (bel_alloc (Below.refl _ _) _) _⟩
  · have h8z : decide ((8 : Int) < (u.size : Int)) = false := decide_eq_false (by omega)
    clear h116 h8
    go_enter Tryz.func145, Tryz.ntmps145
    go_wp2_with fail
    refine (Tryz.strings_shouldUseASCIISet _ _).mono ?_
    rw [h8z]
    rintro e w1 ⟨rfl, rfl⟩
    clear h8z
    go_wp2_with fail
    go_loopg [9, 10] u.size (fun g _ _ wx => ∃ i : Nat, i + g = u.size ∧ wx.heap[w1.heap.size]? = some (.stringIter u i) ∧ Below w1.heap.size w1 wx ∧ Lib.NoAny u.data.toList [61, 33, 60, 62] i)
    case atStart => exact ⟨0, by omega, World.iter_heap _ _ _, bel_alloc (Below.refl _ _) _, Lib.NoAny.zero _ _⟩
    case round =>
      obtain ⟨i, hig, hit, hbw, hno⟩ := hrel
      have HN := Lib.hid hno
      have HI := Lib.hid hit
      have Hb := Lib.hid hbw
      clear hno hbw
      by_cases hi : i < u.size
      · by_cases ha : (u[i]'hi).toNat < 128
        · have hnx := fun (wx : World) (h : wx.heap[w1.heap.size]? = some (.stringIter u i)) ty => Lib.run_next_ascii_at (P := Tryz.prog) wx w1.heap.size u i ty h hi ha
          obtain ⟨x, hx⟩ : ∃ x : UInt8, u[i]'hi = x := ⟨_, rfl⟩
          have hxl : u.data.toList[i]? = some x := by rw [← hx]; exact Lib.data_getElem? u i hi
          rw [hx] at hnx ha
          have hk := hnx wr HI.out
          have Hx := Lib.hid hxl
          have HI2 := Lib.hid (Lib.iterAt_heap wr w1.heap.size u i (i + 1) HI.out)
          have Hb2 := Lib.hid (iter_below (k := w1.heap.size) (s := u) (p := i + 1) Hb.out (Nat.le_refl _))
          have hcon := Lib.contains_iff_indexByte [61, 33, 60, 62] x
          have hback : ((x.toNat : Int)).toNat.toUInt8 = x := by simp
          clear hx hxl hnx hit
          cases hin : ([61, 33, 60, 62] : List UInt8).contains x
          · rw [hin] at hcon
            have hlt : ¬ ((0 : Int) ≤ Lib.indexByte [61, 33, 60, 62] x) := of_decide_eq_false hcon.symm
            have HN2 := Lib.hid (HN.out.succ Hx.out hin)
            clear hcon hin
            go_wp2_with fail
            refine (Tryz.strings_IndexRune_ascii _ _ _ (by omega) (by omega)).mono ?_
            rintro e w3 ⟨rfl, rfl⟩
            rw [hback]
            go_wp2
            go_roundg (u.size - (i + 1))
            case measure => omega
            case rel => exact ⟨i + 1, by omega, HI2.out, Hb2.out, HN2.out⟩
          · rw [hin] at hcon
            have hge : (0 : Int) ≤ Lib.indexByte [61, 33, 60, 62] x := of_decide_eq_true hcon.symm
            have HE := Lib.hid (Lib.indexAny_hit HN.out Hx.out hin)
            clear hcon hin
            go_wp2_with fail
            refine (Tryz.strings_IndexRune_ascii _ _ _ (by omega) (by omega)).mono ?_
            rintro e w3 ⟨rfl, rfl⟩
            rw [hback]
            go_wp2
            go_ret
            exact ⟨by rw [HE.out]; rfl, Hb2.out⟩
        · obtain ⟨d1, d2, d3, d4, d5⟩ := dec_high u i hi (by omega)
          have hk := fun ty => Lib.run_next_any_at (P := Tryz.prog) wr w1.heap.size u i ty HI.out hi
          obtain ⟨⟨r, m⟩, hd⟩ : ∃ d, Utf8.decode u i = d := ⟨_, rfl⟩
          rw [hd] at d1 d2 d3 d4 d5 hk
          dsimp only at d1 d2 d3 d4 d5 hk
          have HI2 := Lib.hid (Lib.iterAt_heap wr w1.heap.size u i (i + m) HI.out)
          have Hb2 := Lib.hid (iter_below (k := w1.heap.size) (s := u) (p := i + m) Hb.out (Nat.le_refl _))
          have HN2 : Hid (Lib.NoAny u.data.toList [61, 33, 60, 62] (i + m)) := fun j y hj hy => by
            by_cases hji : j < i
            · exact HN.out j y hji hy
            · have := d5 j y (by omega) hj hy
              have e : ∀ c : UInt8, c.toNat < 128 → (y == c) = false := fun c hc => beq_eq_false_iff_ne.2 (fun e => by rw [e] at this; omega)
              simp [List.contains, List.elem, e]
          clear hd d5 ha hit
          go_wp2_with fail
          refine (idxrune_sign r d1 d2 _).mono ?_
          rintro e w3 ⟨rfl, hb3⟩
          have HI3 := Lib.hid ((hb3.block w1.heap.size (by have := (Array.getElem?_eq_some_iff.1 HI2.out).1; exact this)).trans HI2.out)
          have Hb3 := Lib.hid (bel_call Hb2.out hb3)
          clear hb3 hk
          go_wp2
          go_roundg (u.size - (i + m))
          case measure => omega
          case rel => exact ⟨i + m, by omega, HI3.out, Hb3.out, HN2.out⟩
      · have hnx := fun ty => Lib.run_next_end_at (P := Tryz.prog) wr w1.heap.size u i ty HI.out hi
        have HE := Lib.hid (Lib.indexAny_none (s := u.data.toList) (chars := [61, 33, 60, 62]) (fun j b hj hb => HN.out j b (by rw [← Lib.size_eq] at hj; omega) hb))
        clear hit
        go_wp2
        go_ret
        exact ⟨by rw [HE.out]; rfl, Hb.out⟩
end Go.Proofs.YthkgjohhbdipcaaGreatDoor
namespace Go.Proofs.YthkgjohhbdipcaaGreatDoor
open Go.RowKit

theorem bsL_inj {l m : List UInt8} : bsL l = bsL m ↔ l = m := ⟨fun h => by
  have := congrArg (fun b => b.data.toList) h
  simpa [bsL] using this, fun h => by rw [h]⟩
theorem sign_mem (b : UInt8) : ([61, 33, 60, 62] : List UInt8).contains b = decide (opOf b ≠ 0) := by
  unfold opOf
  by_cases h1 : b = 61
  · subst h1; rfl
  · by_cases h2 : b = 33
    · subst h2; rfl
    · by_cases h3 : b = 60
      · subst h3; rfl
      · by_cases h4 : b = 62
        · subst h4; rfl
        · simp [h1, h2, h3, h4]
theorem any_op : ∀ l : List UInt8, Lib.indexAny l [61, 33, 60, 62] = if opAt l = l.length then -1 else (opAt l : Int)
  | [] => rfl
  | b :: l => by
    have ih := any_op l
    unfold Lib.indexAny opAt
    rw [sign_mem]
    by_cases h : opOf b = 0
    · rw [if_neg (by simp [h]), if_pos h, ih]
      by_cases h2 : opAt l = l.length
      · rw [if_pos h2, if_pos (by rfl), if_pos (by simp [h2])]
      · have h3 : ¬ opAt l + 1 = (b :: l).length := by simp only [List.length_cons]; omega
        have h4 : ((opAt l : Int) == -1) = false := beq_eq_false_iff_ne.2 (by omega)
        simp only [if_neg h2, h4, if_neg h3, Bool.false_eq_true, if_false]
        omega
    · rw [if_pos (by simp [h]), if_neg h, if_neg (by simp)]
      rfl
def fieldBs : List ByteArray := [bsL [110, 114], bsL [107, 105, 110, 100], bsL [97], bsL [98], bsL [99]]
def opBs : List ByteArray := [bsL [], bsL [61], bsL [33], bsL [60], bsL [62]]
def verdictBs : List ByteArray := [bsL [107, 105, 108, 108], bsL [116, 114, 97, 112], bsL [102, 97, 105, 108], bsL [108, 111, 103], bsL [97, 108, 108, 111, 119]]
theorem idx5 (a b c d e x : List UInt8) : Lib.idxOfS [bsL a, bsL b, bsL c, bsL d, bsL e] (bsL x) = if x = a then 0 else if x = b then 1 else if x = c then 2 else if x = d then 3 else if x = e then 4 else -1 := by
  have h : ∀ y : List UInt8, (bsL y = bsL x) = (x = y) := fun y => propext ⟨fun h => (bsL_inj.1 h).symm, fun h => bsL_inj.2 h.symm⟩
  simp only [Lib.idxOfS, Lib.idxFromS, h]
  repeat' split
  all_goals simp_all
theorem field_idx (x : List UInt8) : Lib.idxOfS (fieldBs.take 5) (bsL x) = match fieldOf x with | some f => f | none => -1 := by
  show Lib.idxOfS [bsL _, bsL _, bsL _, bsL _, bsL _] (bsL x) = _
  rw [idx5]
  unfold fieldOf
  repeat' split
  all_goals simp_all
theorem verdict_idx (x : List UInt8) : Lib.idxOfS (verdictBs.take 5) (bsL x) = match verdictOf x with | some f => f | none => -1 := by
  show Lib.idxOfS [bsL _, bsL _, bsL _, bsL _, bsL _] (bsL x) = _
  rw [idx5]
  unfold verdictOf
  repeat' split
  all_goals simp_all
theorem op_idx (b : UInt8) (h : opOf b ≠ 0) : Lib.idxOfS (opBs.take 5) (bsL [b]) = opOf b := by
  show Lib.idxOfS [bsL _, bsL _, bsL _, bsL _, bsL _] (bsL [b]) = _
  rw [idx5]
  unfold opOf at h ⊢
  by_cases h1 : b = 61
  · subst h1; rfl
  · by_cases h2 : b = 33
    · subst h2; rfl
    · by_cases h3 : b = 60
      · subst h3; rfl
      · by_cases h4 : b = 62
        · subst h4; rfl
        · simp [h1, h2, h3, h4] at h
/-- slices.Index over a row of five words. -/
theorem rowidx_any (a b c d e x : List UInt8) (g : Nat) (W : World) (h : W.heap[g]? = some (.cells #[.string (bsL a), .string (bsL b), .string (bsL c), .string (bsL d), .string (bsL e)] 9)) :
    Calls Tryz.prog 69 #[.slice (some ⟨g, 0, none⟩) 5 5, .string (bsL x)] W fun o w' => o = .returned (.int .i64 (Lib.idxOfS [bsL a, bsL b, bsL c, bsL d, bsL e] (bsL x))) ∧ w' = W :=
  Tryz.slices_Index_string g 0 5 5 [bsL a, bsL b, bsL c, bsL d, bsL e] (bsL x) W (by simp) (by omega) (fun j hj => by
    rw [cells_of h]
    match j, hj with
    | 0, _ => rfl
    | 1, _ => rfl
    | 2, _ => rfl
    | 3, _ => rfl
    | 4, _ => rfl
    | j + 5, hj => exact absurd hj (by simp))
theorem bsL_extract (l : List UInt8) (i j : Nat) : (bsL l).extract i j = bsL ((l.drop i).take (j - i)) := by
  apply ByteArray.ext
  simp [bsL, ByteArray.extract, ByteArray.copySlice]
end Go.Proofs.YthkgjohhbdipcaaGreatDoor
namespace Go.Proofs.YthkgjohhbdipcaaGreatDoor
open Go.RowKit

theorem atoiSat_eq (l : List UInt8) : Lib.atoiSat l = Lib.intSat 64 l := by
  unfold Lib.atoiSat Lib.intSat
  split <;> rfl
/-- how Atoi ends. -/
theorem atoi_any (s : ByteArray) (w : World) (hL : Laid w) (hs : s.size ≤ 281474976710656) :
    Calls Tryz.prog 108 #[.string s] w fun e w' => ∃ err : Value, e = .returned (.tuple #[.int .i64 (wholeS s.data.toList).1, err]) ∧ (((∃ v, Lib.parseIntB 64 s.data.toList = .ok v ∧ wholeS s.data.toList = (v, Lib.itoa v == s.data.toList)) ∧ err = .nilIface) ∨ ((wholeS s.data.toList).2 = false ∧ ∃ t p, err = .iface t p)) ∧ Below w.heap.size w w' := by
  cases hp : Lib.parseIntB 64 s.data.toList
  · rename_i v
    have he : wholeS s.data.toList = (v, Lib.itoa v == s.data.toList) := by unfold wholeS; rw [hp]
    refine (Tryz.strconv_Atoi_ok s (by omega) v (by rw [← Lib.parseIntB_64]; exact hp) w).mono ?_
    rintro e w1 ⟨rfl, hw1⟩
    refine ⟨_, by rw [he], .inl ⟨⟨v, rfl, he⟩, rfl⟩, ?_⟩
    rcases hw1 with rfl | ⟨t, rfl⟩
    · exact Below.refl _ _
    · exact Go.Joins.below_bytesWorld _ _ _ _ (Nat.le_refl _)
  · have he : wholeS s.data.toList = (0, false) := by unfold wholeS; rw [hp]
    obtain ⟨te, pe, hv⟩ := hL.syn
    have c : Calls Tryz.prog 108 #[.string s] w _ := Any.strconv_Atoi_syntax Tryz.laysC172 s hs (by rw [← Lib.parseIntB_64]; exact hp) _ w hv (.inr ⟨te, pe, rfl⟩)
    exact c.mono fun e w' ⟨N, h1, _, _, h4⟩ => ⟨.iface _ (.pointer (some ⟨N, 0, none⟩)), by rw [he]; exact h1, .inr ⟨by rw [he], _, _, rfl⟩, h4⟩
  · have he : wholeS s.data.toList = (Lib.intSat 64 s.data.toList, false) := by unfold wholeS; rw [hp]
    obtain ⟨te, pe, hv⟩ := hL.rng
    refine (Tryz.strconv_Atoi_range s hs (by rw [← Lib.parseIntB_64]; exact hp) _ w hv (.inr ⟨te, pe, rfl⟩)).mono ?_
    rintro e w1 ⟨N, rfl, _, _, hb1⟩
    exact ⟨.iface _ (.pointer (some ⟨N, 0, none⟩)), by rw [he, atoiSat_eq], .inr ⟨by rw [he], _, _, rfl⟩, hb1⟩
set_option maxHeartbeats 2000000 in
theorem number_any (s : ByteArray) (w : World) (hL : Laid w) (hs : s.size ≤ 281474976710656) :
    Calls Tryz.prog 68 #[.string s] w fun e w' => e = .returned (.tuple #[.int .i64 (wholeS s.data.toList).1, .bool (wholeS s.data.toList).2]) ∧ Below w.heap.size w w' := by
  have HL := Lib.hid hL
  clear hL
  go_enter Tryz.func68, Tryz.ntmps68
  go_wp2_with fail
  refine (atoi_any s _ HL.out hs).mono ?_
  rintro e w1 ⟨err, rfl, hc, hb1⟩
  have Hb1 := Lib.hid hb1
  have HC := Lib.hid hc
  clear hb1 hc
  rcases HC.out with ⟨⟨v, hp, he⟩, rfl⟩ | ⟨h2, t, p, rfl⟩
  · obtain ⟨h0, h1⟩ := parse_in hp
    obtain ⟨q, hq⟩ : ∃ q, (Lib.itoa v == s.data.toList) = q := ⟨_, rfl⟩
    rw [hq] at he
    have hcmp : ((bsL (Lib.itoa v)).toList == s.toList) = q := by rw [ByteArray.toList_eq, ByteArray.toList_eq, bsL_toList]; exact hq
    have He := Lib.hid he
    rw [he]
    clear hp he hq HC
    go_wp2_with fail
    refine (itoa_any v h0 h1 _ (HL.out.below Hb1.out)).mono ?_
    rintro e w2 ⟨rfl, hb2⟩
    have Hb2 := Lib.hid (bel_call Hb1.out hb2)
    clear hb2
    go_wp2
    go_ret2
    exact ⟨by rw [He.out]; rfl, Hb2.out⟩
  · have He := Lib.hid h2
    clear h2 HC
    go_wp2
    go_ret2
    exact ⟨by rw [He.out]; rfl, Hb1.out⟩
end Go.Proofs.YthkgjohhbdipcaaGreatDoor
namespace Go.Proofs.YthkgjohhbdipcaaGreatDoor
open Go.RowKit

/-- doneE of the pruned operations, said of the operations as they stand. -/
def doneP (P : Program) (ops : Array Oper) (Inv : (Nat → Bool) → World → Prop) (bs : List (List Nat)) (Q : Act → World → Prop) (n : Nat) : List Oper → Nat → Act → Prop
  | [], _, a => ∀ (done : Nat → Bool) (w : World), (∀ k, k < n → done k = true) → Inv done w → Q a w
  | o :: l, i, a => ∃ x : Value, (∀ (done : Nat → Bool) (w : World), Inv done w → done i = false → (∀ k ∈ (prune o).after.toList.map (fun e => e.on), done k = true) → (∀ k : Nat, i ∈ bs.getD k [] → done k = false) →
      ∀ R : Value → World → Prop, (∀ (v : Value) (w' : World), Inv (updDone done i) w' → v = x → R v w') → if Region.wanted o (yielded ops a.tmps) then gives P o a w R else R undef w) ∧
      doneP P ops Inv bs Q n l (i + 1) (a.put o.dst x)
theorem doneP_step {P : Program} {ops : Array Oper} {Inv : (Nat → Bool) → World → Prop} {bs : List (List Nat)} {Q : Act → World → Prop} {n : Nat} {o : Oper} {l : List Oper} {i : Nat} {a : Act}
    (h : ∀ K : Act → Prop, (∀ a, doneP P ops Inv bs Q n l (i + 1) a → K a) → ∃ x : Value, (∀ (done : Nat → Bool) (w : World), Inv done w → done i = false → (∀ k ∈ (prune o).after.toList.map (fun e => e.on), done k = true) → (∀ k : Nat, i ∈ bs.getD k [] → done k = false) →
      ∀ R : Value → World → Prop, (∀ (v : Value) (w' : World), Inv (updDone done i) w' → v = x → R v w') → if Region.wanted o (yielded ops a.tmps) then gives P o a w R else R undef w) ∧ K (a.put o.dst x)) :
    doneP P ops Inv bs Q n (o :: l) i a := h _ (fun _ h => h)
theorem doneP_prune {P : Program} {ops : List Oper} {Inv : (Nat → Bool) → World → Prop} {bs : List (List Nat)} {Q : Act → World → Prop} {n : Nat} : ∀ (l : List Oper) (i : Nat) (a : Act), doneP P ops.toArray Inv bs Q n l i a → doneE P (ops.map prune).toArray Inv bs Q n (l.map prune) i a
  | [], _, _, h => h
  | o :: l, i, a, ⟨x, h1, h2⟩ => by
    refine ⟨x, fun d w hC h0 hd hn R hR => ?_, doneP_prune l _ _ h2⟩
    have := h1 d w hC h0 hd hn R hR
    rw [← yielded_prune] at this
    exact this
/-- As wp_region_stores: edges that bind no order are left out. -/
theorem wp_region_stores3 {P : Program} {l : List Oper} {Q : Exit → Act → World → Prop} {a : Act} {id : Nat} {w : World} (Inv : (Nat → Bool) → World → Prop) (hm : P.follows .mixedOrders = true) (hB : monoB2 (l.map prune) a.tmps.size = true) (hC : Inv (fun _ => false) w.drew)
    (bs : List (List Nat)) (hbs : befores (l.map prune) [] = bs) (h : doneP P l.toArray Inv bs (Q .normal) l.length l 0 a) : (Code.region id l.toArray true).wp P Q a w := by
  subst hbs
  have h' := doneP_prune (ops := l) l 0 a h
  have hlen : l.length = (l.map prune).length := by simp
  rw [hlen] at h'
  generalize hl : l.map prune = l' at hB h'
  obtain ⟨xs, hx⟩ := doneE_list l' 0 a [] h'
  refine wp_region_any hm (wpAny_prune _ _ _ _ ?_)
  rw [hl]
  refine wpAny_done (Inv := Inv) (T := fun _ _ _ => True) (ss := xs.map ex) hB (fun i k s _ hk v done w1 w2 _ _ _ => ?_) hx _ _ (fun _ => undef) _ _ ?_ ⟨?_, ?_, by simp [← hl], rfl, rfl, ?_, fun _ _ => rfl⟩
  · obtain ⟨x, _, rfl⟩ := List.mem_map.1 (List.mem_of_getElem? hk)
    trivial
  · have := List.length_filter_le (fun i => (Array.replicate l.toArray.size false)[i]? != some true) (List.range l'.length)
    simpa [undone, ← hl] using this
  · refine (congrArg (fun d => Inv d _) ?_).mp hC
    funext k
    rw [Array.getElem?_replicate]
    split <;> simp
  · intro j o hj hl
    rw [Array.getElem?_replicate] at hl
    split at hl <;> simp at hl
  · intro j o s hj _ hl
    rw [Array.getElem?_replicate] at hl
    split at hl <;> simp at hl
end Go.Proofs.YthkgjohhbdipcaaGreatDoor
namespace Go.Proofs.YthkgjohhbdipcaaGreatDoor
open Go.RowKit
attribute [local go_sem] gives givesUpon
attribute [-go_sem] run_string_add_if run_slice_string_if run_slice_string run_slice_string_h run_slice_string_l

/-- a row of words that a call has laid. -/
def rowAt (row : Array Value) (v : Value) (W : World) : Prop := ∃ b, v = .slice (some ⟨b, 0, none⟩) 5 5 ∧ W.heap[b]? = some (.cells row 9)
def condG (k : Nat) (_ : Nat → Bool) (vf : Nat → Value) (W : World) : Prop := if k = 0 then rowAt fieldRow (vf 0) W else if k = 5 then rowAt opRow (vf 5) W else True
theorem rowAt_init {row : Array Value} {v : Value} {w w' : World} {ts : List TypeId} (hT : 9 ∉ ts) (hi : InitT ts w w') (h : rowAt row v w) : rowAt row v w' := by
  obtain ⟨b, h1, h2⟩ := h
  exact ⟨b, h1, blk_init h2 hi hT⟩
theorem condG_keep {k i : Nat} {done d' : Nat → Bool} {vf : Nat → Value} {w w' : World} (hi : InitT (if i = 15 then [153] else []) w w') (h : condG k done vf w) : condG k d' vf w' := by
  have hT : 9 ∉ (if i = 15 then [153] else [] : List TypeId) := by split <;> simp
  unfold condG at h ⊢
  split
  · rename_i e; rw [if_pos e] at h; exact rowAt_init hT hi h
  · rename_i e
    rw [if_neg e] at h
    split
    · rename_i e2; rw [if_pos e2] at h; exact rowAt_init hT hi h
    · trivial
theorem condG_proper {k : Nat} {done : Nat → Bool} {f g : Nat → Value} {w : World} (hk : f k = g k) (h : condG k done f w) : condG k done g w := by
  unfold condG at h ⊢
  split
  · rename_i e; subst e; rw [if_pos rfl] at h; rw [← hk]; exact h
  · rename_i e
    rw [if_neg e] at h
    split
    · rename_i e2; subst e2; rw [if_pos rfl] at h; rw [← hk]; exact h
    · trivial
theorem three_cells {cs : Array Value} (h : cs.size = 3) : ∃ c0 c1 c2, cs = #[c0, c1, c2] := by
  obtain ⟨l⟩ := cs
  match l, h with
  | [a, b, c], _ => exact ⟨a, b, c, rfl⟩
theorem InitT.of_sets3 {T0 : TypeId} {w : World} {b : Nat} {v0 v1 v2 : Value} {cs : Array Value} (h : w.heap[b]? = some (.cells cs T0)) :
    InitT [T0] w (((w.setCell ⟨b, 0, none⟩ v0).setCell ⟨b, 1, none⟩ v1).setCell ⟨b, 2, none⟩ v2) :=
  ((InitT.of_set (by simp) h).trans (InitT.of_set (by simp) (set_at h))).trans (InitT.of_set (by simp) (set_at (set_at h)))

/-- the worlds of condition's last region. -/
structure CondInv (w : World) (g : Nat) (x y z : Value) (done : Nat → Bool) (W : World) : Prop where
  bx : Bx w [.cells (if done 17 then #[x, y, z] else #[.int .i64 0, .int .i64 0, .int .i64 0]) 153] W
  cd : W.heap[g]? = some (.cells #[x, y, z] 153)
theorem CondInv.step {w : World} {bx : Nat} {x y z : Value} {done : Nat → Bool} {W W' : World} {k : Nat} (h : CondInv w bx x y z done W) (hk : 17 ≠ k) (hb : Below W.heap.size W W') : CondInv w bx x y z (updDone done k) W' := by
  refine ⟨?_, blk_below h.cd hb⟩
  unfold updDone
  rw [if_neg hk]
  exact h.bx.below hb
theorem CondInv.store {w : World} {bx : Nat} {x y z : Value} {done : Nat → Bool} {W : World} (h : CondInv w bx x y z done W) (hne : bx ≠ w.heap.size) : CondInv w bx x y z (updDone done 17) (((W.setCell ⟨w.heap.size, 0, none⟩ x).setCell ⟨w.heap.size, 1, none⟩ y).setCell ⟨w.heap.size, 2, none⟩ z) := by
  refine ⟨?_, by rw [set_other hne, set_other hne, set_other hne]; exact h.cd⟩
  rw [show updDone done 17 17 = true from rfl]
  have hb := h.bx
  cases hd : done 17
  · rw [hd] at hb
    exact ((hb.set (i := 0) rfl 0 x).set (i := 0) rfl 1 y).set (i := 0) rfl 2 z
  · rw [hd] at hb
    exact ((hb.set (i := 0) rfl 0 x).set (i := 0) rfl 1 y).set (i := 0) rfl 2 z
set_option maxRecDepth 100000 in
set_option maxHeartbeats 8000000 in
theorem condition_any (L : List UInt8) (w : World) (hL : Laid w) (hu : L.length ≤ 60000) :
    Calls Tryz.prog 110 #[.string (bsL L)] w fun e w' => (∃ (f o n : Int) (b : Bool), e = .returned (.tuple #[.agg #[.int .i64 f, .int .i64 o, .int .i64 n], .bool b]) ∧ (condOf L = if b then some ⟨f, o, n⟩ else none)) ∧ Below w.heap.size w w' := by
  have HL := Lib.hid hL
  have Hu := Lib.hid hu
  have hsz : (bsL L).size = L.length := by simp [bsL, ByteArray.size]
  have HA := Lib.hid (any_op L)
  clear hL hu
  go_enter Tryz.func110, Tryz.ntmps110
  go_wp2_with fail
  have HB := Lib.hid (Bx.one (w := w) (o := .cells #[.int .i64 0, .int .i64 0, .int .i64 0] 153))
  refine (indexany_any (bsL L) (by rw [hsz]; have := Hu.out; omega) _).mono ?_
  rw [show (bsL L).data.toList = L from rfl, HA.out]
  rintro e w1 ⟨rfl, hb1⟩
  have HB1 := Lib.hid (HB.out.below hb1)
  clear hb1 HB
  by_cases hk : opAt L = L.length
  · have HE : Hid (condOf L = none) := by show _ = _; unfold condOf; rw [if_pos hk]
    rw [if_pos hk]
    have hc := HB1.out.cells0
    have hf := HB1.out.free0
    have HS := Lib.hid (((HB1.out.set (i := 0) rfl 0 (.int .i64 0)).set (i := 0) rfl 1 (.int .i64 0)).set (i := 0) rfl 2 (.int .i64 0))
    have hcs := HS.out.cells0
    have HBL : Hid (Below w.heap.size w (((w1.setCell ⟨w.heap.size, 0, none⟩ (.int .i64 0)).setCell ⟨w.heap.size, 1, none⟩ (.int .i64 0)).setCell ⟨w.heap.size, 2, none⟩ (.int .i64 0))) := HS.out.bel
    clear hk HS
    go_wp2
    refine bodyPost_ret (v := .tuple #[.agg #[.int .i64 0, .int .i64 0, .int .i64 0], .bool false]) ?_ rfl ⟨⟨0, 0, 0, false, rfl, HE.out⟩, HBL.out⟩
    rw [results_cell_tmp rfl]
    go_simp
  · obtain ⟨b, hb, hop⟩ := opAt_lt L hk
    obtain ⟨k, hkk⟩ : ∃ k, opAt L = k := ⟨_, rfl⟩
    rw [hkk] at hk hb
    rw [hkk, if_neg hk]
    have hkl : k < L.length := (List.getElem?_eq_some_iff.1 hb).1
    have HK := Lib.hid hkk
    have Hop := Lib.hid hop
    have hw1 : IntKind.i64.wrap ((k : Int) + 1) = (k : Int) + 1 := IntWalk.i64_in _ (by have := Hu.out; omega)
    have hk0 : ¬ (k : Int) < 0 := by omega
    have hs1 : ∀ W : World, (Instr.slice 9 (.string (bsL L)) (some (.int .i64 ((k : Int) + 1))) none none).run Tryz.prog W = .ok (.string (bsL (L.drop (k + 1)))) W := fun W => by
      rw [run_slice_string_l (P := Tryz.prog) (w := W) (t := 9) (s := bsL L) Tryz.underlying9 .i64 ((k : Int) + 1) (by omega) (by rw [hsz]; omega), bsL_extract, hsz, show ((k : Int) + 1).toNat = k + 1 by omega, List.take_of_length_le (by simp)]
    have hs2 : ∀ W : World, (Instr.slice 9 (.string (bsL L)) none (some (.int .i64 (k : Int))) none).run Tryz.prog W = .ok (.string (bsL (L.take k))) W := fun W => by
      rw [run_slice_string_h (P := Tryz.prog) (w := W) (t := 9) (s := bsL L) Tryz.underlying9 .i64 (k : Int) (by omega) (by rw [hsz]; omega), bsL_extract, show ((k : Int)).toNat = k by omega]
      simp
    have hs3 : ∀ W : World, (Instr.slice 9 (.string (bsL L)) (some (.int .i64 (k : Int))) (some (.int .i64 ((k : Int) + 1))) none).run Tryz.prog W = .ok (.string (bsL [b])) W := fun W => by
      rw [run_slice_string (P := Tryz.prog) (w := W) 9 (bsL L) .i64 .i64 (k : Int) ((k : Int) + 1) Tryz.underlying9 (by omega) (by omega) (by rw [hsz]; omega), bsL_extract, show ((k : Int)).toNat = k by omega, show ((k : Int) + 1).toNat - k = 1 by omega, List.drop_eq_getElem_cons hkl]
      have : L[k] = b := (List.getElem?_eq_some_iff.1 hb).2
      rw [this]
      rfl
    have Hb := Lib.hid hb
    clear hb hop hkk hk
    go_wp2_with fail
    have hsd : (bsL (L.drop (k + 1))).size ≤ 281474976710656 := by have := Hu.out; simp [bsL, ByteArray.size]; omega
    refine (atoi_any (bsL (L.drop (k + 1))) _ (HL.out.below HB1.out.bel) hsd).mono ?_
    rw [show (bsL (L.drop (k + 1))).data.toList = L.drop (k + 1) from rfl]
    obtain ⟨⟨n, q⟩, hnq⟩ : ∃ E, wholeS (L.drop (k + 1)) = E := ⟨_, rfl⟩
    rw [hnq]
    rintro e w2 ⟨err, rfl, hc, hb2⟩
    have HB2 := Lib.hid (HB1.out.below hb2)
    have HQ := Lib.hid hnq
    have HC := Lib.hid hc
    obtain ⟨F, hF⟩ : ∃ F, Lib.idxOfS (fieldBs.take 5) (bsL (L.take k)) = F := ⟨_, rfl⟩
    have HF : Hid (Lib.idxOfS [bsL [110, 114], bsL [107, 105, 110, 100], bsL [97], bsL [98], bsL [99]] (bsL (L.take k)) = F) := hF
    have HO : Hid (Lib.idxOfS [bsL [], bsL [61], bsL [33], bsL [60], bsL [62]] (bsL [b]) = opOf b) := op_idx b Hop.out
    clear hb2 hc hnq hF hsd HB1
    dsimp only
    go_wp2_with fail
    refine wp_region_init w2.heap.size (Nat.le_refl _) 153 3 (fun _ => []) 14 15 (fun _ => #[.int .i64 F, .int .i64 (opOf b), .int .i64 n]) condG (by kernel_rfl) (by kernel_rfl) _ rfl (by decide) (fun _ => by simp) (fun _ => rfl) (fun i k _ _ _ _ _ _ _ _ hi h => condG_keep hi h) (fun k _ f g _ _ hk h => condG_proper hk h) (fun f g h => rfl) ?_
    (refine rel_pr (fun K hK => ?_); refine ⟨fun done vf W hI h0 hd hn hf R hR => ?_, ?_⟩; (clear h0 hd hn hf; go_simp; go_at_call 104; refine (fields_any _).mono ?_; (rintro e w4 ⟨rfl, rfl⟩; exact ⟨_, rfl, hR _ _ (Cls.step hI (bel_alloc (Below.refl _ _) _)) (initT.plain (bel_alloc (Below.refl _ _) _) (by decide)) trivial ⟨_, rfl, heap_last _ _⟩⟩)); (go_simp; refine hK _ ?_; clear hK K))
    (refine rel_ex (fun K hK => ?_); apply Exists.intro; refine ⟨fun done vf W hI h0 hd hn hf R hR => ?_, ?_, ?_⟩; (clear h0 hd hn hf; go_simp; exact hR _ _ (Cls.step hI (Below.refl _ _)) (initT.plain (Below.refl _ _) (by decide)) rfl trivial); exact (fun _ _ _ => rfl); (go_simp; refine hK _ ?_; clear hK K))
    (refine rel_ex (fun K hK => ?_); apply Exists.intro; refine ⟨fun done vf W hI h0 hd hn hf R hR => ?_, ?_, ?_⟩; (clear h0 hd hn hf; go_simp; exact hR _ _ (Cls.step hI (Below.refl _ _)) (initT.plain (Below.refl _ _) (by decide)) rfl trivial); exact (fun _ _ _ => rfl); (go_simp; refine hK _ ?_; clear hK K))
    (refine rel_ex (fun K hK => ?_); apply Exists.intro; refine ⟨fun done vf W hI h0 hd hn hf R hR => ?_, ?_, ?_⟩; (clear h0 hd hn hf; go_simp; exact hR _ _ (Cls.step hI (Below.refl _ _)) (initT.plain (Below.refl _ _) (by decide)) rfl trivial); exact (fun _ _ _ => rfl); (go_simp; refine hK _ ?_; clear hK K))
    (refine rel_ex (fun K hK => ?_); apply Exists.intro; refine ⟨fun done vf W hI h0 hd hn hf R hR => ?_, ?_, ?_⟩; (have h1 : rowAt fieldRow (vf 0) W := hf 0 (hd 0 (by decide)); obtain ⟨g, hv, hg⟩ := h1; have Hg := Lib.hid hg; clear h0 hd hn hf hg; go_simp; go_at_call 69; refine (rowidx_any [110, 114] [107, 105, 110, 100] [97] [98] [99] (L.take k) g _ Hg.out).mono ?_; rw [HF.out]; (rintro e w4 ⟨rfl, rfl⟩; exact ⟨_, rfl, hR _ _ (Cls.step hI (Below.refl _ _)) (initT.plain (Below.refl _ _) (by decide)) rfl trivial⟩)); exact (fun _ _ _ => rfl); (go_simp; refine hK _ ?_; clear hK K))
    (refine rel_pr (fun K hK => ?_); refine ⟨fun done vf W hI h0 hd hn hf R hR => ?_, ?_⟩; (clear h0 hd hn hf; go_simp; go_at_call 105; refine (ops_any _).mono ?_; (rintro e w4 ⟨rfl, rfl⟩; exact ⟨_, rfl, hR _ _ (Cls.step hI (bel_alloc (Below.refl _ _) _)) (initT.plain (bel_alloc (Below.refl _ _) _) (by decide)) trivial ⟨_, rfl, heap_last _ _⟩⟩)); (go_simp; refine hK _ ?_; clear hK K))
    (refine rel_ex (fun K hK => ?_); apply Exists.intro; refine ⟨fun done vf W hI h0 hd hn hf R hR => ?_, ?_, ?_⟩; (clear h0 hd hn hf; go_simp; exact hR _ _ (Cls.step hI (Below.refl _ _)) (initT.plain (Below.refl _ _) (by decide)) rfl trivial); exact (fun _ _ _ => rfl); (go_simp; refine hK _ ?_; clear hK K))
    (refine rel_ex (fun K hK => ?_); apply Exists.intro; refine ⟨fun done vf W hI h0 hd hn hf R hR => ?_, ?_, ?_⟩; (clear h0 hd hn hf; go_simp; exact hR _ _ (Cls.step hI (Below.refl _ _)) (initT.plain (Below.refl _ _) (by decide)) rfl trivial); exact (fun _ _ _ => rfl); (go_simp; refine hK _ ?_; clear hK K))
    (refine rel_ex (fun K hK => ?_); apply Exists.intro; refine ⟨fun done vf W hI h0 hd hn hf R hR => ?_, ?_, ?_⟩; (clear h0 hd hn hf; go_simp; exact hR _ _ (Cls.step hI (Below.refl _ _)) (initT.plain (Below.refl _ _) (by decide)) rfl trivial); exact (fun _ _ _ => rfl); (go_simp; refine hK _ ?_; clear hK K))
    (refine rel_ex (fun K hK => ?_); apply Exists.intro; refine ⟨fun done vf W hI h0 hd hn hf R hR => ?_, ?_, ?_⟩; (clear h0 hd hn hf; go_simp; exact hR _ _ (Cls.step hI (Below.refl _ _)) (initT.plain (Below.refl _ _) (by decide)) rfl trivial); exact (fun _ _ _ => rfl); (go_simp; refine hK _ ?_; clear hK K))
    (refine rel_ex (fun K hK => ?_); apply Exists.intro; refine ⟨fun done vf W hI h0 hd hn hf R hR => ?_, ?_, ?_⟩; (clear h0 hd hn hf; go_simp; exact hR _ _ (Cls.step hI (Below.refl _ _)) (initT.plain (Below.refl _ _) (by decide)) rfl trivial); exact (fun _ _ _ => rfl); (go_simp; refine hK _ ?_; clear hK K))
    (refine rel_ex (fun K hK => ?_); apply Exists.intro; refine ⟨fun done vf W hI h0 hd hn hf R hR => ?_, ?_, ?_⟩; (have h1 : rowAt opRow (vf 5) W := hf 5 (hd 5 (by decide)); obtain ⟨g, hv, hg⟩ := h1; have Hg := Lib.hid hg; clear h0 hd hn hf hg; go_simp; go_at_call 69; refine (rowidx_any [] [61] [33] [60] [62] [b] g _ Hg.out).mono ?_; rw [HO.out]; (rintro e w4 ⟨rfl, rfl⟩; exact ⟨_, rfl, hR _ _ (Cls.step hI (Below.refl _ _)) (initT.plain (Below.refl _ _) (by decide)) rfl trivial⟩)); exact (fun _ _ _ => rfl); (go_simp; refine hK _ ?_; clear hK K))
    (refine rel_ex (fun K hK => ?_); apply Exists.intro; refine ⟨fun done vf W hI h0 hd hn hf R hR => ?_, ?_, ?_⟩; (clear h0 hd hn hf; go_simp; exact hR _ _ (Cls.step hI (Below.refl _ _)) (initT.plain (Below.refl _ _) (by decide)) rfl trivial); exact (fun _ _ _ => rfl); (go_simp; refine hK _ ?_; clear hK K))
    (refine rel_ex (fun K hK => ?_); apply Exists.intro; refine ⟨fun done vf W hI h0 hd hn hf R hR => ?_, ?_, ?_⟩; (clear h0 hd hn hf; go_simp; exact hR _ _ (Cls.step hI (Below.refl _ _)) (initT.plain (Below.refl _ _) (by decide)) rfl trivial); exact (fun _ _ _ => rfl); (go_simp; refine hK _ ?_; clear hK K))
    (refine rel_pr (fun K hK => ?_); refine ⟨fun done vf W hI h0 hd hn hf R hR => ?_, ?_⟩; (clear h0 hd hn hf; go_simp; exact hR _ _ (Cls.step hI (bel_alloc (Below.refl _ _) _)) (initT.plain (bel_alloc (Below.refl _ _) _) (by decide)) trivial ⟨_, rfl, hI.1, _, rfl, heap_last _ _⟩); (go_simp; refine hK _ ?_; clear hK K))
    (refine rel_pr (fun K hK => ?_); refine ⟨fun done vf W hI h0 hd hn hf R hR => ?_, ?_⟩; (have h11 : VarAt w2.heap.size 153 3 (vf 14) W := hf 14 (hd 14 (by decide)); obtain ⟨bx, h11, hbx, cs, hcs, hc11⟩ := h11; obtain ⟨d0, d1, d2, rfl⟩ := three_cells hcs; have hce := cells_of hc11; have hfe := not_frozen hc11; have Hc11 := Lib.hid hc11; have Hst : Hid ((((W.setCell ⟨bx, 0, none⟩ (.int .i64 F)).setCell ⟨bx, 1, none⟩ (.int .i64 (opOf b))).setCell ⟨bx, 2, none⟩ (.int .i64 n)).heap[bx]? = some (.cells #[.int .i64 F, .int .i64 (opOf b), .int .i64 n] 153)) := set_at (set_at (set_at hc11)); clear h0 hd hn hf hc11 hcs; go_simp; exact hR _ _ ⟨by simp only [set_size]; exact hI.1, set_below (set_below (set_below hI.2 hbx) hbx) hbx⟩ ⟨InitT.of_sets3 Hc11.out, fun _ => ⟨bx, h11, Hst.out⟩⟩ trivial ⟨bx, h11, Hst.out⟩); (go_simp; refine hK _ ?_; clear hK K))
    intro done vf w3 hd hI hFF
    have h15 : VarIs 153 (vf 14) #[.int .i64 F, .int .i64 (opOf b), .int .i64 n] w3 := hFF 15 (by decide)
    have h14 : VarAt w2.heap.size 153 3 (vf 14) w3 := hFF 14 (by decide)
    obtain ⟨bx, hbv, hbx⟩ := h15
    obtain ⟨b2, hbv2, hb2, _⟩ := h14
    have hbb : b2 = bx := by rw [hbv] at hbv2; injection hbv2 with e; injection e with e; injection e with e; exact e.symm
    subst hbb
    have Hne : Hid (b2 ≠ w.heap.size) := fun e => by have := HB2.out.top; simp at this; omega
    have HB3 := Lib.hid (HB2.out.below hI.2)
    have HI0 : Hid (CondInv w b2 (.int .i64 F) (.int .i64 (opOf b)) (.int .i64 n) (fun _ => false) w3.drew) := ⟨HB3.out.drew, hbx⟩
    have hqx := cells_of hbx
    have HE : Hid (condOf L = match fieldOf (L.take k) with | none => none | some f => if q then some ⟨f, opOf b, n⟩ else none) := by
      show condOf L = _
      unfold condOf
      rw [HK.out, if_neg (by omega), HQ.out, List.getD_eq_getElem?_getD, Hb.out]
      rfl
    have HF2 : Hid (F = match fieldOf (L.take k) with | some f => f | none => -1) := by have := field_idx (L.take k); rw [show Lib.idxOfS (fieldBs.take 5) (bsL (L.take k)) = F from HF.out] at this; exact this
    have Hpos : Hid (∀ f, fieldOf (L.take k) = some f → 0 ≤ f) := fun f hf => by
      unfold fieldOf at hf
      repeat' split at hf
      all_goals first | (injection hf with hf; omega) | cases hf
    clear hbv2 hb2 hd hI hFF hbx
    rcases HC.out with ⟨⟨v, hp, he⟩, rfl⟩ | ⟨h2, t, p, rfl⟩
    · injection he with he1 he2
      subst he1
      obtain ⟨hv0, hv1⟩ := parse_in hp
      have hcmp : ((bsL (Lib.itoa n)).toList == (bsL (L.drop (k + 1))).toList) = q := by rw [ByteArray.toList_eq, ByteArray.toList_eq, bsL_toList, bsL_toList]; exact he2.symm
      clear hp he2 HC
      cases q with
      | true =>
        cases hf : fieldOf (L.take k) with
        | some f =>
          have hF0 : F = f := by have := HF2.out; rw [hf] at this; exact this
          have hpos : 0 ≤ F := by rw [hF0]; exact Hpos.out f hf
          have HR : Hid (condOf L = if true then some ⟨F, opOf b, n⟩ else none) := by show _ = _; rw [HE.out, hf, hF0]; first | done | rfl
          clear hf hF0
          go_wp2_with fail
          refine wp_region_stores3 (CondInv w b2 (.int .i64 F) (.int .i64 (opOf b)) (.int .i64 n)) (by kernel_rfl) (by kernel_rfl) HI0.out _ rfl ?_
          (refine doneP_step (fun K hK => ?_); apply Exists.intro; refine ⟨fun done W hI h0 hd hn R hR => ?_, ?_⟩; (have hqc := cells_of hI.cd; clear h0 hd hn; go_simp; exact hR _ _ (hI.step (by decide) (Below.refl _ _)) rfl); (go_simp; refine hK _ ?_; clear hK K))
          (refine doneP_step (fun K hK => ?_); apply Exists.intro; refine ⟨fun done W hI h0 hd hn R hR => ?_, ?_⟩; (have hqc := cells_of hI.cd; clear h0 hd hn; go_simp; exact hR _ _ (hI.step (by decide) (Below.refl _ _)) rfl); (go_simp; refine hK _ ?_; clear hK K))
          (refine doneP_step (fun K hK => ?_); apply Exists.intro; refine ⟨fun done W hI h0 hd hn R hR => ?_, ?_⟩; (have hqc := cells_of hI.cd; clear h0 hd hn; go_simp; exact hR _ _ (hI.step (by decide) (Below.refl _ _)) rfl); (go_simp; refine hK _ ?_; clear hK K))
          (refine doneP_step (fun K hK => ?_); apply Exists.intro; refine ⟨fun done W hI h0 hd hn R hR => ?_, ?_⟩; (have hqc := cells_of hI.cd; clear h0 hd hn; go_simp; exact hR _ _ (hI.step (by decide) (Below.refl _ _)) rfl); (go_simp; refine hK _ ?_; clear hK K))
          (refine doneP_step (fun K hK => ?_); apply Exists.intro; refine ⟨fun done W hI h0 hd hn R hR => ?_, ?_⟩; (have hqc := cells_of hI.cd; clear h0 hd hn; go_simp; exact hR _ _ (hI.step (by decide) (Below.refl _ _)) rfl); (go_simp; refine hK _ ?_; clear hK K))
          (refine doneP_step (fun K hK => ?_); apply Exists.intro; refine ⟨fun done W hI h0 hd hn R hR => ?_, ?_⟩; (have HLW := Lib.hid (HL.out.below hI.bx.bel); clear h0 hd hn; go_simp; go_at_call 65; refine (itoa_any n hv0 hv1 _ HLW.out).mono ?_; rintro e w9 ⟨rfl, hb9⟩; exact ⟨_, rfl, hR _ _ (hI.step (by decide) hb9) rfl⟩); (go_simp; refine hK _ ?_; clear hK K))
          (refine doneP_step (fun K hK => ?_); apply Exists.intro; refine ⟨fun done W hI h0 hd hn R hR => ?_, ?_⟩; (have hqc := cells_of hI.cd; clear h0 hd hn; go_simp; exact hR _ _ (hI.step (by decide) (Below.refl _ _)) rfl); (go_simp; refine hK _ ?_; clear hK K))
          (refine doneP_step (fun K hK => ?_); apply Exists.intro; refine ⟨fun done W hI h0 hd hn R hR => ?_, ?_⟩; (have hqc := cells_of hI.cd; clear h0 hd hn; go_simp; exact hR _ _ (hI.step (by decide) (Below.refl _ _)) rfl); (go_simp; refine hK _ ?_; clear hK K))
          (refine doneP_step (fun K hK => ?_); apply Exists.intro; refine ⟨fun done W hI h0 hd hn R hR => ?_, ?_⟩; (have hqc := cells_of hI.cd; clear h0 hd hn; go_simp; exact hR _ _ (hI.step (by decide) (Below.refl _ _)) rfl); (go_simp; refine hK _ ?_; clear hK K))
          (refine doneP_step (fun K hK => ?_); apply Exists.intro; refine ⟨fun done W hI h0 hd hn R hR => ?_, ?_⟩; (have hqc := cells_of hI.cd; clear h0 hd hn; go_simp; exact hR _ _ (hI.step (by decide) (Below.refl _ _)) rfl); (go_simp; refine hK _ ?_; clear hK K))
          (refine doneP_step (fun K hK => ?_); apply Exists.intro; refine ⟨fun done W hI h0 hd hn R hR => ?_, ?_⟩; (have hqc := cells_of hI.cd; clear h0 hd hn; go_simp; exact hR _ _ (hI.step (by decide) (Below.refl _ _)) rfl); (go_simp; refine hK _ ?_; clear hK K))
          (refine doneP_step (fun K hK => ?_); apply Exists.intro; refine ⟨fun done W hI h0 hd hn R hR => ?_, ?_⟩; (have hqc := cells_of hI.cd; clear h0 hd hn; go_simp; exact hR _ _ (hI.step (by decide) (Below.refl _ _)) rfl); (go_simp; refine hK _ ?_; clear hK K))
          (refine doneP_step (fun K hK => ?_); apply Exists.intro; refine ⟨fun done W hI h0 hd hn R hR => ?_, ?_⟩; (have hqc := cells_of hI.cd; clear h0 hd hn; go_simp; exact hR _ _ (hI.step (by decide) (Below.refl _ _)) rfl); (go_simp; refine hK _ ?_; clear hK K))
          (refine doneP_step (fun K hK => ?_); apply Exists.intro; refine ⟨fun done W hI h0 hd hn R hR => ?_, ?_⟩; (have hqc := cells_of hI.cd; clear h0 hd hn; go_simp; exact hR _ _ (hI.step (by decide) (Below.refl _ _)) rfl); (go_simp; refine hK _ ?_; clear hK K))
          (refine doneP_step (fun K hK => ?_); apply Exists.intro; refine ⟨fun done W hI h0 hd hn R hR => ?_, ?_⟩; (have hqc := cells_of hI.cd; clear h0 hd hn; go_simp; exact hR _ _ (hI.step (by decide) (Below.refl _ _)) rfl); (go_simp; refine hK _ ?_; clear hK K))
          (refine doneP_step (fun K hK => ?_); apply Exists.intro; refine ⟨fun done W hI h0 hd hn R hR => ?_, ?_⟩; (have hqc := cells_of hI.cd; clear h0 hd hn; go_simp; exact hR _ _ (hI.step (by decide) (Below.refl _ _)) rfl); (go_simp; refine hK _ ?_; clear hK K))
          (refine doneP_step (fun K hK => ?_); apply Exists.intro; refine ⟨fun done W hI h0 hd hn R hR => ?_, ?_⟩; (have hqc := cells_of hI.cd; clear h0 hd hn; go_simp; exact hR _ _ (hI.step (by decide) (Below.refl _ _)) rfl); (go_simp; refine hK _ ?_; clear hK K))
          (refine doneP_step (fun K hK => ?_); apply Exists.intro; refine ⟨fun done W hI h0 hd hn R hR => ?_, ?_⟩; (have hz := hI.bx; rw [h0] at hz; have hqb : ∀ j, W.cell? ⟨w.heap.size, j, none⟩ = (#[Value.int .i64 0, .int .i64 0, .int .i64 0] : Array Value)[j]? := hz.cells0; have hfb := hI.bx.free0; have HS := Lib.hid (hI.store Hne.out); clear h0 hd hn hI hz; go_simp; exact hR _ _ HS.out rfl); (go_simp; refine hK _ ?_; clear hK K))
          (refine doneP_step (fun K hK => ?_); apply Exists.intro; refine ⟨fun done W hI h0 hd hn R hR => ?_, ?_⟩; (have hqc := cells_of hI.cd; clear h0 hd hn; go_simp; exact hR _ _ (hI.step (by decide) (Below.refl _ _)) rfl); (go_simp; refine hK _ ?_; clear hK K))
          intro done W hd hI
          have hz := hI.bx
          rw [hd 17 (by decide)] at hz
          have Hz : Hid (Bx w [.cells #[.int .i64 F, .int .i64 (opOf b), .int .i64 n] 153] W) := hz
          have hcb := Hz.out.cells0
          clear hd hI hz
          go_wp2
          refine bodyPost_ret (v := .tuple #[.agg #[.int .i64 F, .int .i64 (opOf b), .int .i64 n], .bool true]) ?_ rfl ⟨⟨F, opOf b, n, true, rfl, HR.out⟩, Hz.out.bel⟩
          rw [results_cell_tmp rfl]
          go_simp
        | none =>
          have hF0 : F = -1 := by have := HF2.out; rw [hf] at this; exact this
          have hneg : ¬ (0 : Int) ≤ F := by omega
          have HR : Hid (condOf L = if false then some ⟨F, opOf b, n⟩ else none) := by show _ = _; rw [HE.out, hf]; rfl
          clear hf hF0
          go_wp2_with fail
          refine wp_region_stores3 (CondInv w b2 (.int .i64 F) (.int .i64 (opOf b)) (.int .i64 n)) (by kernel_rfl) (by kernel_rfl) HI0.out _ rfl ?_
          (refine doneP_step (fun K hK => ?_); apply Exists.intro; refine ⟨fun done W hI h0 hd hn R hR => ?_, ?_⟩; (have hqc := cells_of hI.cd; clear h0 hd hn; go_simp; exact hR _ _ (hI.step (by decide) (Below.refl _ _)) rfl); (go_simp; refine hK _ ?_; clear hK K))
          (refine doneP_step (fun K hK => ?_); apply Exists.intro; refine ⟨fun done W hI h0 hd hn R hR => ?_, ?_⟩; (have hqc := cells_of hI.cd; clear h0 hd hn; go_simp; exact hR _ _ (hI.step (by decide) (Below.refl _ _)) rfl); (go_simp; refine hK _ ?_; clear hK K))
          (refine doneP_step (fun K hK => ?_); apply Exists.intro; refine ⟨fun done W hI h0 hd hn R hR => ?_, ?_⟩; (have hqc := cells_of hI.cd; clear h0 hd hn; go_simp; exact hR _ _ (hI.step (by decide) (Below.refl _ _)) rfl); (go_simp; refine hK _ ?_; clear hK K))
          (refine doneP_step (fun K hK => ?_); apply Exists.intro; refine ⟨fun done W hI h0 hd hn R hR => ?_, ?_⟩; (have hqc := cells_of hI.cd; clear h0 hd hn; go_simp; exact hR _ _ (hI.step (by decide) (Below.refl _ _)) rfl); (go_simp; refine hK _ ?_; clear hK K))
          (refine doneP_step (fun K hK => ?_); apply Exists.intro; refine ⟨fun done W hI h0 hd hn R hR => ?_, ?_⟩; (have hqc := cells_of hI.cd; clear h0 hd hn; go_simp; exact hR _ _ (hI.step (by decide) (Below.refl _ _)) rfl); (go_simp; refine hK _ ?_; clear hK K))
          (refine doneP_step (fun K hK => ?_); apply Exists.intro; refine ⟨fun done W hI h0 hd hn R hR => ?_, ?_⟩; (have HLW := Lib.hid (HL.out.below hI.bx.bel); clear h0 hd hn; go_simp; go_at_call 65; refine (itoa_any n hv0 hv1 _ HLW.out).mono ?_; rintro e w9 ⟨rfl, hb9⟩; exact ⟨_, rfl, hR _ _ (hI.step (by decide) hb9) rfl⟩); (go_simp; refine hK _ ?_; clear hK K))
          (refine doneP_step (fun K hK => ?_); apply Exists.intro; refine ⟨fun done W hI h0 hd hn R hR => ?_, ?_⟩; (have hqc := cells_of hI.cd; clear h0 hd hn; go_simp; exact hR _ _ (hI.step (by decide) (Below.refl _ _)) rfl); (go_simp; refine hK _ ?_; clear hK K))
          (refine doneP_step (fun K hK => ?_); apply Exists.intro; refine ⟨fun done W hI h0 hd hn R hR => ?_, ?_⟩; (have hqc := cells_of hI.cd; clear h0 hd hn; go_simp; exact hR _ _ (hI.step (by decide) (Below.refl _ _)) rfl); (go_simp; refine hK _ ?_; clear hK K))
          (refine doneP_step (fun K hK => ?_); apply Exists.intro; refine ⟨fun done W hI h0 hd hn R hR => ?_, ?_⟩; (have hqc := cells_of hI.cd; clear h0 hd hn; go_simp; exact hR _ _ (hI.step (by decide) (Below.refl _ _)) rfl); (go_simp; refine hK _ ?_; clear hK K))
          (refine doneP_step (fun K hK => ?_); apply Exists.intro; refine ⟨fun done W hI h0 hd hn R hR => ?_, ?_⟩; (have hqc := cells_of hI.cd; clear h0 hd hn; go_simp; exact hR _ _ (hI.step (by decide) (Below.refl _ _)) rfl); (go_simp; refine hK _ ?_; clear hK K))
          (refine doneP_step (fun K hK => ?_); apply Exists.intro; refine ⟨fun done W hI h0 hd hn R hR => ?_, ?_⟩; (have hqc := cells_of hI.cd; clear h0 hd hn; go_simp; exact hR _ _ (hI.step (by decide) (Below.refl _ _)) rfl); (go_simp; refine hK _ ?_; clear hK K))
          (refine doneP_step (fun K hK => ?_); apply Exists.intro; refine ⟨fun done W hI h0 hd hn R hR => ?_, ?_⟩; (have hqc := cells_of hI.cd; clear h0 hd hn; go_simp; exact hR _ _ (hI.step (by decide) (Below.refl _ _)) rfl); (go_simp; refine hK _ ?_; clear hK K))
          (refine doneP_step (fun K hK => ?_); apply Exists.intro; refine ⟨fun done W hI h0 hd hn R hR => ?_, ?_⟩; (have hqc := cells_of hI.cd; clear h0 hd hn; go_simp; exact hR _ _ (hI.step (by decide) (Below.refl _ _)) rfl); (go_simp; refine hK _ ?_; clear hK K))
          (refine doneP_step (fun K hK => ?_); apply Exists.intro; refine ⟨fun done W hI h0 hd hn R hR => ?_, ?_⟩; (have hqc := cells_of hI.cd; clear h0 hd hn; go_simp; exact hR _ _ (hI.step (by decide) (Below.refl _ _)) rfl); (go_simp; refine hK _ ?_; clear hK K))
          (refine doneP_step (fun K hK => ?_); apply Exists.intro; refine ⟨fun done W hI h0 hd hn R hR => ?_, ?_⟩; (have hqc := cells_of hI.cd; clear h0 hd hn; go_simp; exact hR _ _ (hI.step (by decide) (Below.refl _ _)) rfl); (go_simp; refine hK _ ?_; clear hK K))
          (refine doneP_step (fun K hK => ?_); apply Exists.intro; refine ⟨fun done W hI h0 hd hn R hR => ?_, ?_⟩; (have hqc := cells_of hI.cd; clear h0 hd hn; go_simp; exact hR _ _ (hI.step (by decide) (Below.refl _ _)) rfl); (go_simp; refine hK _ ?_; clear hK K))
          (refine doneP_step (fun K hK => ?_); apply Exists.intro; refine ⟨fun done W hI h0 hd hn R hR => ?_, ?_⟩; (have hqc := cells_of hI.cd; clear h0 hd hn; go_simp; exact hR _ _ (hI.step (by decide) (Below.refl _ _)) rfl); (go_simp; refine hK _ ?_; clear hK K))
          (refine doneP_step (fun K hK => ?_); apply Exists.intro; refine ⟨fun done W hI h0 hd hn R hR => ?_, ?_⟩; (have hz := hI.bx; rw [h0] at hz; have hqb : ∀ j, W.cell? ⟨w.heap.size, j, none⟩ = (#[Value.int .i64 0, .int .i64 0, .int .i64 0] : Array Value)[j]? := hz.cells0; have hfb := hI.bx.free0; have HS := Lib.hid (hI.store Hne.out); clear h0 hd hn hI hz; go_simp; exact hR _ _ HS.out rfl); (go_simp; refine hK _ ?_; clear hK K))
          (refine doneP_step (fun K hK => ?_); apply Exists.intro; refine ⟨fun done W hI h0 hd hn R hR => ?_, ?_⟩; (have hqc := cells_of hI.cd; clear h0 hd hn; go_simp; exact hR _ _ (hI.step (by decide) (Below.refl _ _)) rfl); (go_simp; refine hK _ ?_; clear hK K))
          intro done W hd hI
          have hz := hI.bx
          rw [hd 17 (by decide)] at hz
          have Hz : Hid (Bx w [.cells #[.int .i64 F, .int .i64 (opOf b), .int .i64 n] 153] W) := hz
          have hcb := Hz.out.cells0
          clear hd hI hz
          go_wp2
          refine bodyPost_ret (v := .tuple #[.agg #[.int .i64 F, .int .i64 (opOf b), .int .i64 n], .bool false]) ?_ rfl ⟨⟨F, opOf b, n, false, rfl, HR.out⟩, Hz.out.bel⟩
          rw [results_cell_tmp rfl]
          go_simp
      | false =>
        have HR : Hid (condOf L = if false then some ⟨F, opOf b, n⟩ else none) := by show _ = _; rw [HE.out]; cases fieldOf (L.take k) <;> rfl
        go_wp2_with fail
        refine wp_region_stores3 (CondInv w b2 (.int .i64 F) (.int .i64 (opOf b)) (.int .i64 n)) (by kernel_rfl) (by kernel_rfl) HI0.out _ rfl ?_
        (refine doneP_step (fun K hK => ?_); apply Exists.intro; refine ⟨fun done W hI h0 hd hn R hR => ?_, ?_⟩; (have hqc := cells_of hI.cd; clear h0 hd hn; go_simp; exact hR _ _ (hI.step (by decide) (Below.refl _ _)) rfl); (go_simp; refine hK _ ?_; clear hK K))
        (refine doneP_step (fun K hK => ?_); apply Exists.intro; refine ⟨fun done W hI h0 hd hn R hR => ?_, ?_⟩; (have hqc := cells_of hI.cd; clear h0 hd hn; go_simp; exact hR _ _ (hI.step (by decide) (Below.refl _ _)) rfl); (go_simp; refine hK _ ?_; clear hK K))
        (refine doneP_step (fun K hK => ?_); apply Exists.intro; refine ⟨fun done W hI h0 hd hn R hR => ?_, ?_⟩; (have hqc := cells_of hI.cd; clear h0 hd hn; go_simp; exact hR _ _ (hI.step (by decide) (Below.refl _ _)) rfl); (go_simp; refine hK _ ?_; clear hK K))
        (refine doneP_step (fun K hK => ?_); apply Exists.intro; refine ⟨fun done W hI h0 hd hn R hR => ?_, ?_⟩; (have hqc := cells_of hI.cd; clear h0 hd hn; go_simp; exact hR _ _ (hI.step (by decide) (Below.refl _ _)) rfl); (go_simp; refine hK _ ?_; clear hK K))
        (refine doneP_step (fun K hK => ?_); apply Exists.intro; refine ⟨fun done W hI h0 hd hn R hR => ?_, ?_⟩; (have hqc := cells_of hI.cd; clear h0 hd hn; go_simp; exact hR _ _ (hI.step (by decide) (Below.refl _ _)) rfl); (go_simp; refine hK _ ?_; clear hK K))
        (refine doneP_step (fun K hK => ?_); apply Exists.intro; refine ⟨fun done W hI h0 hd hn R hR => ?_, ?_⟩; (have HLW := Lib.hid (HL.out.below hI.bx.bel); clear h0 hd hn; go_simp; go_at_call 65; refine (itoa_any n hv0 hv1 _ HLW.out).mono ?_; rintro e w9 ⟨rfl, hb9⟩; exact ⟨_, rfl, hR _ _ (hI.step (by decide) hb9) rfl⟩); (go_simp; refine hK _ ?_; clear hK K))
        (refine doneP_step (fun K hK => ?_); apply Exists.intro; refine ⟨fun done W hI h0 hd hn R hR => ?_, ?_⟩; (have hqc := cells_of hI.cd; clear h0 hd hn; go_simp; exact hR _ _ (hI.step (by decide) (Below.refl _ _)) rfl); (go_simp; refine hK _ ?_; clear hK K))
        (refine doneP_step (fun K hK => ?_); apply Exists.intro; refine ⟨fun done W hI h0 hd hn R hR => ?_, ?_⟩; (have hqc := cells_of hI.cd; clear h0 hd hn; go_simp; exact hR _ _ (hI.step (by decide) (Below.refl _ _)) rfl); (go_simp; refine hK _ ?_; clear hK K))
        (refine doneP_step (fun K hK => ?_); apply Exists.intro; refine ⟨fun done W hI h0 hd hn R hR => ?_, ?_⟩; (have hqc := cells_of hI.cd; clear h0 hd hn; go_simp; exact hR _ _ (hI.step (by decide) (Below.refl _ _)) rfl); (go_simp; refine hK _ ?_; clear hK K))
        (refine doneP_step (fun K hK => ?_); apply Exists.intro; refine ⟨fun done W hI h0 hd hn R hR => ?_, ?_⟩; (have hqc := cells_of hI.cd; clear h0 hd hn; go_simp; exact hR _ _ (hI.step (by decide) (Below.refl _ _)) rfl); (go_simp; refine hK _ ?_; clear hK K))
        (refine doneP_step (fun K hK => ?_); apply Exists.intro; refine ⟨fun done W hI h0 hd hn R hR => ?_, ?_⟩; (have hqc := cells_of hI.cd; clear h0 hd hn; go_simp; exact hR _ _ (hI.step (by decide) (Below.refl _ _)) rfl); (go_simp; refine hK _ ?_; clear hK K))
        (refine doneP_step (fun K hK => ?_); apply Exists.intro; refine ⟨fun done W hI h0 hd hn R hR => ?_, ?_⟩; (have hqc := cells_of hI.cd; clear h0 hd hn; go_simp; exact hR _ _ (hI.step (by decide) (Below.refl _ _)) rfl); (go_simp; refine hK _ ?_; clear hK K))
        (refine doneP_step (fun K hK => ?_); apply Exists.intro; refine ⟨fun done W hI h0 hd hn R hR => ?_, ?_⟩; (have hqc := cells_of hI.cd; clear h0 hd hn; go_simp; exact hR _ _ (hI.step (by decide) (Below.refl _ _)) rfl); (go_simp; refine hK _ ?_; clear hK K))
        (refine doneP_step (fun K hK => ?_); apply Exists.intro; refine ⟨fun done W hI h0 hd hn R hR => ?_, ?_⟩; (have hqc := cells_of hI.cd; clear h0 hd hn; go_simp; exact hR _ _ (hI.step (by decide) (Below.refl _ _)) rfl); (go_simp; refine hK _ ?_; clear hK K))
        (refine doneP_step (fun K hK => ?_); apply Exists.intro; refine ⟨fun done W hI h0 hd hn R hR => ?_, ?_⟩; (have hqc := cells_of hI.cd; clear h0 hd hn; go_simp; exact hR _ _ (hI.step (by decide) (Below.refl _ _)) rfl); (go_simp; refine hK _ ?_; clear hK K))
        (refine doneP_step (fun K hK => ?_); apply Exists.intro; refine ⟨fun done W hI h0 hd hn R hR => ?_, ?_⟩; (have hqc := cells_of hI.cd; clear h0 hd hn; go_simp; exact hR _ _ (hI.step (by decide) (Below.refl _ _)) rfl); (go_simp; refine hK _ ?_; clear hK K))
        (refine doneP_step (fun K hK => ?_); apply Exists.intro; refine ⟨fun done W hI h0 hd hn R hR => ?_, ?_⟩; (have hqc := cells_of hI.cd; clear h0 hd hn; go_simp; exact hR _ _ (hI.step (by decide) (Below.refl _ _)) rfl); (go_simp; refine hK _ ?_; clear hK K))
        (refine doneP_step (fun K hK => ?_); apply Exists.intro; refine ⟨fun done W hI h0 hd hn R hR => ?_, ?_⟩; (have hz := hI.bx; rw [h0] at hz; have hqb : ∀ j, W.cell? ⟨w.heap.size, j, none⟩ = (#[Value.int .i64 0, .int .i64 0, .int .i64 0] : Array Value)[j]? := hz.cells0; have hfb := hI.bx.free0; have HS := Lib.hid (hI.store Hne.out); clear h0 hd hn hI hz; go_simp; exact hR _ _ HS.out rfl); (go_simp; refine hK _ ?_; clear hK K))
        (refine doneP_step (fun K hK => ?_); apply Exists.intro; refine ⟨fun done W hI h0 hd hn R hR => ?_, ?_⟩; (have hqc := cells_of hI.cd; clear h0 hd hn; go_simp; exact hR _ _ (hI.step (by decide) (Below.refl _ _)) rfl); (go_simp; refine hK _ ?_; clear hK K))
        intro done W hd hI
        have hz := hI.bx
        rw [hd 17 (by decide)] at hz
        have Hz : Hid (Bx w [.cells #[.int .i64 F, .int .i64 (opOf b), .int .i64 n] 153] W) := hz
        have hcb := Hz.out.cells0
        clear hd hI hz
        go_wp2
        refine bodyPost_ret (v := .tuple #[.agg #[.int .i64 F, .int .i64 (opOf b), .int .i64 n], .bool false]) ?_ rfl ⟨⟨F, opOf b, n, false, rfl, HR.out⟩, Hz.out.bel⟩
        rw [results_cell_tmp rfl]
        go_simp
    · subst h2
      have HR : Hid (condOf L = if false then some ⟨F, opOf b, n⟩ else none) := by show _ = _; rw [HE.out]; cases fieldOf (L.take k) <;> rfl
      clear HC
      go_wp2_with fail
      refine wp_region_stores3 (CondInv w b2 (.int .i64 F) (.int .i64 (opOf b)) (.int .i64 n)) (by kernel_rfl) (by kernel_rfl) HI0.out _ rfl ?_
      (refine doneP_step (fun K hK => ?_); apply Exists.intro; refine ⟨fun done W hI h0 hd hn R hR => ?_, ?_⟩; (have hqc := cells_of hI.cd; clear h0 hd hn; go_simp; exact hR _ _ (hI.step (by decide) (Below.refl _ _)) rfl); (go_simp; refine hK _ ?_; clear hK K))
      (refine doneP_step (fun K hK => ?_); apply Exists.intro; refine ⟨fun done W hI h0 hd hn R hR => ?_, ?_⟩; (have hqc := cells_of hI.cd; clear h0 hd hn; go_simp; exact hR _ _ (hI.step (by decide) (Below.refl _ _)) rfl); (go_simp; refine hK _ ?_; clear hK K))
      (refine doneP_step (fun K hK => ?_); apply Exists.intro; refine ⟨fun done W hI h0 hd hn R hR => ?_, ?_⟩; (have hqc := cells_of hI.cd; clear h0 hd hn; go_simp; exact hR _ _ (hI.step (by decide) (Below.refl _ _)) rfl); (go_simp; refine hK _ ?_; clear hK K))
      (refine doneP_step (fun K hK => ?_); apply Exists.intro; refine ⟨fun done W hI h0 hd hn R hR => ?_, ?_⟩; (have hqc := cells_of hI.cd; clear h0 hd hn; go_simp; exact hR _ _ (hI.step (by decide) (Below.refl _ _)) rfl); (go_simp; refine hK _ ?_; clear hK K))
      (refine doneP_step (fun K hK => ?_); apply Exists.intro; refine ⟨fun done W hI h0 hd hn R hR => ?_, ?_⟩; (have hqc := cells_of hI.cd; clear h0 hd hn; go_simp; exact hR _ _ (hI.step (by decide) (Below.refl _ _)) rfl); (go_simp; refine hK _ ?_; clear hK K))
      (refine doneP_step (fun K hK => ?_); apply Exists.intro; refine ⟨fun done W hI h0 hd hn R hR => ?_, ?_⟩; (have hqc := cells_of hI.cd; clear h0 hd hn; go_simp; exact hR _ _ (hI.step (by decide) (Below.refl _ _)) rfl); (go_simp; refine hK _ ?_; clear hK K))
      (refine doneP_step (fun K hK => ?_); apply Exists.intro; refine ⟨fun done W hI h0 hd hn R hR => ?_, ?_⟩; (have hqc := cells_of hI.cd; clear h0 hd hn; go_simp; exact hR _ _ (hI.step (by decide) (Below.refl _ _)) rfl); (go_simp; refine hK _ ?_; clear hK K))
      (refine doneP_step (fun K hK => ?_); apply Exists.intro; refine ⟨fun done W hI h0 hd hn R hR => ?_, ?_⟩; (have hqc := cells_of hI.cd; clear h0 hd hn; go_simp; exact hR _ _ (hI.step (by decide) (Below.refl _ _)) rfl); (go_simp; refine hK _ ?_; clear hK K))
      (refine doneP_step (fun K hK => ?_); apply Exists.intro; refine ⟨fun done W hI h0 hd hn R hR => ?_, ?_⟩; (have hqc := cells_of hI.cd; clear h0 hd hn; go_simp; exact hR _ _ (hI.step (by decide) (Below.refl _ _)) rfl); (go_simp; refine hK _ ?_; clear hK K))
      (refine doneP_step (fun K hK => ?_); apply Exists.intro; refine ⟨fun done W hI h0 hd hn R hR => ?_, ?_⟩; (have hqc := cells_of hI.cd; clear h0 hd hn; go_simp; exact hR _ _ (hI.step (by decide) (Below.refl _ _)) rfl); (go_simp; refine hK _ ?_; clear hK K))
      (refine doneP_step (fun K hK => ?_); apply Exists.intro; refine ⟨fun done W hI h0 hd hn R hR => ?_, ?_⟩; (have hqc := cells_of hI.cd; clear h0 hd hn; go_simp; exact hR _ _ (hI.step (by decide) (Below.refl _ _)) rfl); (go_simp; refine hK _ ?_; clear hK K))
      (refine doneP_step (fun K hK => ?_); apply Exists.intro; refine ⟨fun done W hI h0 hd hn R hR => ?_, ?_⟩; (have hqc := cells_of hI.cd; clear h0 hd hn; go_simp; exact hR _ _ (hI.step (by decide) (Below.refl _ _)) rfl); (go_simp; refine hK _ ?_; clear hK K))
      (refine doneP_step (fun K hK => ?_); apply Exists.intro; refine ⟨fun done W hI h0 hd hn R hR => ?_, ?_⟩; (have hqc := cells_of hI.cd; clear h0 hd hn; go_simp; exact hR _ _ (hI.step (by decide) (Below.refl _ _)) rfl); (go_simp; refine hK _ ?_; clear hK K))
      (refine doneP_step (fun K hK => ?_); apply Exists.intro; refine ⟨fun done W hI h0 hd hn R hR => ?_, ?_⟩; (have hqc := cells_of hI.cd; clear h0 hd hn; go_simp; exact hR _ _ (hI.step (by decide) (Below.refl _ _)) rfl); (go_simp; refine hK _ ?_; clear hK K))
      (refine doneP_step (fun K hK => ?_); apply Exists.intro; refine ⟨fun done W hI h0 hd hn R hR => ?_, ?_⟩; (have hqc := cells_of hI.cd; clear h0 hd hn; go_simp; exact hR _ _ (hI.step (by decide) (Below.refl _ _)) rfl); (go_simp; refine hK _ ?_; clear hK K))
      (refine doneP_step (fun K hK => ?_); apply Exists.intro; refine ⟨fun done W hI h0 hd hn R hR => ?_, ?_⟩; (have hqc := cells_of hI.cd; clear h0 hd hn; go_simp; exact hR _ _ (hI.step (by decide) (Below.refl _ _)) rfl); (go_simp; refine hK _ ?_; clear hK K))
      (refine doneP_step (fun K hK => ?_); apply Exists.intro; refine ⟨fun done W hI h0 hd hn R hR => ?_, ?_⟩; (have hqc := cells_of hI.cd; clear h0 hd hn; go_simp; exact hR _ _ (hI.step (by decide) (Below.refl _ _)) rfl); (go_simp; refine hK _ ?_; clear hK K))
      (refine doneP_step (fun K hK => ?_); apply Exists.intro; refine ⟨fun done W hI h0 hd hn R hR => ?_, ?_⟩; (have hz := hI.bx; rw [h0] at hz; have hqb : ∀ j, W.cell? ⟨w.heap.size, j, none⟩ = (#[Value.int .i64 0, .int .i64 0, .int .i64 0] : Array Value)[j]? := hz.cells0; have hfb := hI.bx.free0; have HS := Lib.hid (hI.store Hne.out); clear h0 hd hn hI hz; go_simp; exact hR _ _ HS.out rfl); (go_simp; refine hK _ ?_; clear hK K))
      (refine doneP_step (fun K hK => ?_); apply Exists.intro; refine ⟨fun done W hI h0 hd hn R hR => ?_, ?_⟩; (have hqc := cells_of hI.cd; clear h0 hd hn; go_simp; exact hR _ _ (hI.step (by decide) (Below.refl _ _)) rfl); (go_simp; refine hK _ ?_; clear hK K))
      intro done W hd hI
      have hz := hI.bx
      rw [hd 17 (by decide)] at hz
      have Hz : Hid (Bx w [.cells #[.int .i64 F, .int .i64 (opOf b), .int .i64 n] 153] W) := hz
      have hcb := Hz.out.cells0
      clear hd hI hz
      go_wp2
      refine bodyPost_ret (v := .tuple #[.agg #[.int .i64 F, .int .i64 (opOf b), .int .i64 n], .bool false]) ?_ rfl ⟨⟨F, opOf b, n, false, rfl, HR.out⟩, Hz.out.bel⟩
      rw [results_cell_tmp rfl]
      go_simp
end Go.Proofs.YthkgjohhbdipcaaGreatDoor
namespace Go.Proofs.YthkgjohhbdipcaaGreatDoor

def ruleP (t : List UInt8) : Option TRule := match verdictOf ((words t).headD []) with
  | none => none
  | some v => (condsOf (words t).tail).map fun cs => ⟨cs, v⟩
def rulesP : List (List UInt8) → Option (List TRule)
  | [] => some []
  | t :: r => match ruleP t with
    | none => none
    | some x => (rulesP r).map (x :: ·)
def parseL (ps : List (List UInt8)) : Option TPol := match verdictOf (ps.getLastD []) with
  | none => none
  | some d => (rulesP ps.dropLast).map fun rs => ⟨rs, d⟩
theorem split_ne (s : List UInt8) : Lib.split s [59] ≠ [] := by
  by_cases hm : (59 : UInt8) ∈ s
  · obtain ⟨a, r, rfl, ha⟩ := List.eq_append_cons_of_mem hm
    rw [split_app ha]
    simp
  · rw [split_none hm]
    simp
theorem parse_cons (a : List UInt8) (ps : List (List UInt8)) (h : ps ≠ []) : parseL (a :: ps) = match ruleP a with
    | none => none
    | some x => (parseL ps).map fun p => ⟨x :: p.rules, p.dflt⟩ := by
  obtain ⟨b, r, rfl⟩ := List.exists_cons_of_ne_nil h
  unfold parseL
  rw [show (a :: b :: r).getLastD [] = (b :: r).getLastD [] from rfl, show (a :: b :: r).dropLast = a :: (b :: r).dropLast from rfl]
  cases hv : verdictOf ((b :: r).getLastD []) with
  | none => cases ruleP a <;> rfl
  | some d =>
    dsimp only
    conv => lhs; unfold rulesP
    cases hr : ruleP a with
    | none => rfl
    | some x => cases rulesP (b :: r).dropLast <;> rfl
theorem pread_parse : ∀ (n : Nat) (s : List UInt8), s.length < n → pread n s = parseL (Lib.split s [59])
  | 0, _, h => absurd h (Nat.not_lt_zero _)
  | n + 1, s, h => by
    obtain ⟨w0, ws, h1, h2⟩ := text_words _ (Lib.cut s [59]).1 (Nat.le_refl _)
    rw [pread_step h1]
    by_cases hm : (59 : UInt8) ∈ s
    · obtain ⟨a, r, rfl, ha⟩ := List.eq_append_cons_of_mem hm
      rw [cut_app ha] at h1 h2 ⊢
      dsimp only at h1 h2 ⊢
      rw [split_app ha, parse_cons _ _ (split_ne r), ← pread_parse n r (by simp at h; omega)]
      unfold ruleP
      rw [h1]
      simp only [List.headD_cons, List.tail_cons]
      cases verdictOf w0 with
      | none => rfl
      | some v => cases condsOf ws <;> rfl
    · rw [cut_none hm] at h1 h2 ⊢
      dsimp only at h1 h2 ⊢
      rw [split_none hm]
      unfold parseL
      simp only [List.getLastD_cons, List.getLastD_nil, List.dropLast_singleton]
      by_cases hw : ws = []
      · subst hw
        simp only [List.flatMap_nil, List.append_nil] at h2
        subst h2
        cases verdictOf s <;> simp [rulesP]
      · have hmem : (32 : UInt8) ∈ s := by
          obtain ⟨u, r, rfl⟩ := List.exists_cons_of_ne_nil hw
          rw [h2]
          simp
        have hnone : verdictOf s = none := by
          cases hv : verdictOf s with
          | none => rfl
          | some v =>
            rw [verdictOf_some hv] at hmem
            exact absurd hmem (plain_ne (verdictW_plain v) (by decide))
        rw [hnone]
        have hl : 1 < ws.length + 1 := by have := List.length_pos_iff.2 hw; omega
        cases verdictOf w0 with
        | none => rfl
        | some v => simp [hl]
/-- text.Parse. -/
def textE (s : List UInt8) : TPol × Int := if 60000 < s.length then (⟨[], 0⟩, 2) else match parseL (Lib.split s [59]) with
  | none => (⟨[], 0⟩, 1)
  | some p => if polE p = 0 then (p, 0) else (⟨[], 0⟩, polE p)
theorem textE_short {s : List UInt8} (h : s.length ≤ 60000) : textE s = readP s := by
  unfold textE readP
  rw [if_neg (by omega), pread_parse (s.length + 1) s (by omega)]
  cases parseL (Lib.split s [59]) <;> rfl
end Go.Proofs.YthkgjohhbdipcaaGreatDoor
namespace Go.Proofs.YthkgjohhbdipcaaGreatDoor
open Go.RowKit

/-- w0 is the world where the loop begins; block b (older) holds #[v, c]; v is a row of the loop's own. -/
structure BoxRow {α : Type} (w0 W : World) (b : Nat) (T E : TypeId) (sz : Nat) (R : α → List Value → Prop) (c v : Value) (xs : List α) : Prop where
  gr : w0.grownBy W (some b)
  rc : W.heap[b]? = some (.cells #[v, c] T)
  own : OwnSl W w0.heap.size E sz R v xs
section
variable {α : Type} {w0 W W' : World} {b : Nat} {T E : TypeId} {sz : Nat} {R R' : α → List Value → Prop} {c v v' : Value} {xs ys : List α}
theorem BoxRow.start (hb : w0.heap[b]? = some (.cells #[.slice none 0 0, c] T)) : BoxRow (α := α) w0 w0 b T E sz R c (.slice none 0 0) [] :=
  ⟨⟨rfl, rfl, rfl, Nat.le_refl _, fun _ _ _ => rfl⟩, hb, OwnSl.nil⟩
theorem BoxRow.below (h : BoxRow w0 W b T E sz R c v xs) (hb : Below W.heap.size W W') : BoxRow w0 W' b T E sz R c v xs :=
  ⟨⟨hb.os.trans h.gr.os, hb.tape.trans h.gr.tape, hb.output.trans h.gr.output, Nat.le_trans h.gr.size hb.size, fun k hk hn => (hb.block k (Nat.lt_of_lt_of_le hk h.gr.size)).trans (h.gr.block k hk hn)⟩, blk_below h.rc hb, h.own.below hb⟩
theorem BoxRow.monoR (h : BoxRow w0 W b T E sz R c v xs) (hR : ∀ x ∈ xs, ∀ cs, R x cs → R' x cs) : BoxRow w0 W b T E sz R' c v xs := ⟨h.gr, h.rc, h.own.monoR hR⟩
theorem BoxRow.rcg (h : BoxRow w0 W b T E sz R c v xs) (hb : b < w0.heap.size) (hg : W.grownBy W' v.ownBlock) : W'.heap[b]? = some (.cells #[v, c] T) :=
  (hg.block b (Nat.lt_of_lt_of_le hb h.gr.size) (fun e => by have := h.own.block b e.symm; omega)).trans h.rc
/-- the row grown, and put back. -/
theorem BoxRow.app (h : BoxRow w0 W b T E sz R c v xs) (hb : b < w0.heap.size) (hown : OwnSl W' w0.heap.size E sz R' v' ys) (hg : W.grownBy W' v.ownBlock) : BoxRow w0 (W'.setCell ⟨b, 0, none⟩ v') b T E sz R' c v' ys := by
  have hne : ∀ k, k < w0.heap.size → some k ≠ v.ownBlock := fun k hk e => by have := h.own.block k e.symm; omega
  have hW : ∀ k, k < w0.heap.size → W'.heap[k]? = W.heap[k]? := fun k hk => hg.block k (Nat.lt_of_lt_of_le hk h.gr.size) (hne k hk)
  refine ⟨⟨hg.os.trans h.gr.os, hg.tape.trans h.gr.tape, hg.output.trans h.gr.output, by rw [set_size]; exact Nat.le_trans h.gr.size hg.size, fun k hk hn => ?_⟩, ?_, ?_⟩
  · rw [set_other (fun e => hn (by rw [e])), hW k hk, h.gr.block k hk hn]
  · exact set_at ((hW b hb).trans h.rc)
  · exact OwnSl.set hown (a := ⟨b, 0, none⟩) (fun e => by have h1 : w0.heap.size ≤ b := hown.block _ e; omega)
end
/-- rules whose conditions lie elsewhere than their own row. -/
theorem BoxRow.rules {w0 W W' : World} {b B sz : Nat} {T E : TypeId} {c v : Value} {xs : List TRule} (h : BoxRow w0 W b T E sz (ruleR W (fun x => B ≤ x ∧ v.ownBlock ≠ some x)) c v xs) (hb : Below W.heap.size W W') :
    BoxRow w0 W' b T E sz (ruleR W' (fun x => B ≤ x ∧ v.ownBlock ≠ some x)) c v xs :=
  (h.below hb).monoR fun _ _ _ ⟨u, h1, h2⟩ => ⟨u, h1, h2.keep (fun _ hx _ => hx) (fun x _ hl => hb.block x hl) hb.size⟩
/-- older blocks, whole where one block alone was written. -/
theorem Bx.grownB {w w3 wr : World} {bs : List Obj} {b : Nat} (h : Bx w bs w3) (hg : w3.grownBy wr (some b)) (hb : w.heap.size + bs.length ≤ b) : Bx w bs wr :=
  ⟨h.bel.grown hg h.bel.size (fun g e => by injection e with e; omega), fun i o ho => by
    have hi := (List.getElem?_eq_some_iff.1 ho).1
    have hlt := (Array.getElem?_eq_some_iff.1 (h.at_ i o ho)).1
    rw [hg.block _ hlt (fun e => by injection e with e; omega)]
    exact h.at_ i o ho⟩
end Go.Proofs.YthkgjohhbdipcaaGreatDoor
namespace Go.Proofs.YthkgjohhbdipcaaGreatDoor
open Go.RowKit

theorem wpList_app2 {α : Type} {P : Program} {w : World} {ops : Array Oper} {rest : List Oper} {o : Oper} {a : Act} {Q : Exit → Act → World → Prop} {R : α → List Value → Prop} {D : Nat → Prop} (hgd : o.guard = none) (s x : Operand) (t : TypeId)
    (ho : o.op = .call { callee := .builtin .append, args := #[s, x], argTypes := #[t, t] })
    (base : Nat) (e : TypeId) (i : TypeInfo) (z : Value) (size bytes : Nat) (ht : P.underlying t = some (.slice e)) (hi : P.info? e = some i) (hz : i.zero = some z)
    (hsize : i.size = size) (hby : i.bytes = bytes) (hzs : z.cells.size = size) (hsz : 0 < size)
    (v : Value) (xs : List α) (hs : a.eval s = v) (hown : OwnSl w base e size R v xs)
    (u : Value) (ys : List α) (hx : a.eval x = u) (hu : Sl w D size R u ys) (h1 : ∀ y ∈ ys, ∀ cs, R y cs → ∀ c ∈ cs, c.oneCell' = true)
    (h63 : xs.length + ys.length ≤ maxLen) (hbytes : (xs.length + ys.length) * bytes ≤ 140737488355328) (hbase : base ≤ w.heap.size)
    (h : ∀ v' w', OwnSl w' base e size R v' (xs ++ ys) → w.grownBy w' v.ownBlock → (v'.ownBlock = v.ownBlock ∨ v'.ownBlock = some w.heap.size) → wpList P ops Q rest (a.put o.dst v') w') : wpList P ops Q (o :: rest) a w := by
  obtain ⟨au, cu, rows, hv, hr, hcm, hnone, hcell⟩ := hu.rows
  obtain ⟨rows0, hr0, ho0⟩ := hown
  cases au with
  | none =>
    obtain ⟨hc0, hy⟩ := hnone rfl
    subst hc0 hy
    refine wpList_append_own_none hgd s x t ho base e i size ht hi v xs.length rows0.flatten hs ho0 (by rw [hx, hv]; rfl) (h v w ⟨rows0, by simpa using hr0, by simpa using ho0⟩ ⟨rfl, rfl, rfl, Nat.le_refl _, fun _ _ _ => rfl⟩ (.inl rfl))
  | some ad =>
    refine wpList_append_own_at w hgd s x t ho base e i z size bytes ht hi hz hsize hby hzs hsz v xs.length rows0.flatten hs ho0 ad ys.length cu rows.flatten (by rw [hx, hv]) (by rw [flat_len rows hr.size, hr.len]) (hcell ad rfl) ?_ h63 hbytes hbase
      fun v' w' hown' hg _ hat => h v' w' ⟨rows0 ++ rows, hr0.app hr, by simpa using hown'⟩ hg hat
    intro c hc
    obtain ⟨r, hrm, hcr⟩ := List.mem_flatten.1 hc
    obtain ⟨k, hk⟩ := List.getElem?_of_mem hrm
    have hkl : k < ys.length := by rw [← hr.len]; exact (List.getElem?_eq_some_iff.1 hk).1
    exact h1 ys[k] (List.getElem_mem hkl) r (hr.rel k _ r (List.getElem?_eq_getElem hkl) hk) c hcr
end Go.Proofs.YthkgjohhbdipcaaGreatDoor
