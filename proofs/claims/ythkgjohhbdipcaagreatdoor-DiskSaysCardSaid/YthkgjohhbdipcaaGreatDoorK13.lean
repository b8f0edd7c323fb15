/- Texts laid one behind the other: RDisk, DBox, Filed, DSame, OpenKeep, OpenCells, WorldSpec, WorldRd, OpenWorld. No condition beyond theirs. -/
import Derived.Test.YthkgjohhbdipcaaGreatDoorK11
import Derived.Test.YthkgjohhbdipcaaGreatDoorK12
import Derived.Test.YthkgjohhbdipcaaGreatDoorK10
import Derived.Test.YthkgjohhbdipcaaGreatDoorK9
import Derived.Test.YthkgjohhbdipcaaGreatDoorK3
import Derived.Test.YthkgjohhbdipcaaGreatDoorK5
import Derived.Test.YthkgjohhbdipcaaGreatDoorK7
set_option linter.all false
namespace Go.Proofs.YthkgjohhbdipcaaGreatDoor
open Go.RowKit
attribute [local go_sem] gives givesUpon

theorem Bx.set2 {w W : World} {o o' : Obj} {cs : Array Value} {T : TypeId} {r : List Obj} (h : Bx w (o :: o' :: .cells cs T :: r) W) (j : Nat) (v : Value) : Bx w (o :: o' :: .cells (cs.setIfInBounds j v) T :: r) (W.setCell ⟨w.heap.size + 1 + 1, j, none⟩ v) := h.set (i := 2) rfl j v
/-- chapter 11's Sync, of a right disk. -/
def rsyncE (d : TDisk) : TDisk × Int := if diskE ⟨d.safe ++ d.wait, []⟩ = 0 then (⟨d.safe ++ d.wait, []⟩, 0) else (zeroDisk, diskE ⟨d.safe ++ d.wait, []⟩)
theorem rsync_eq {d : TDisk} (h : diskE d = 0) : rsyncE d = syncE d := by
  have e : syncE d = (if diskE ⟨d.safe ++ d.wait, []⟩ ≠ 0 then (zeroDisk, diskE ⟨d.safe ++ d.wait, []⟩) else (⟨d.safe ++ d.wait, []⟩, 0)) := by unfold syncE; exact if_neg (by rw [h]; simp)
  rw [e]
  unfold rsyncE
  by_cases h1 : diskE ⟨d.safe ++ d.wait, []⟩ = 0
  · rw [if_pos h1, if_neg (by rw [h1]; simp)]
  · rw [if_neg h1, if_pos h1]
set_option maxRecDepth 100000 in
set_option maxHeartbeats 16000000 in
theorem rsynced_any (u v : Value) (d : TDisk) (D : Nat → Prop) (w : World) (h : RdDisk w D u v d) (hL : Laid w) (hs : d.safe.length + d.wait.length ≤ 60000) :
    Calls Tryz.prog 43 #[diskV u v] w fun e w' => ∃ u' v', e = .returned (.tuple #[diskV u' v', .int .i64 (rsyncE d).2]) ∧ RdDisk w' (fun b => w.heap.size ≤ b) u' v' (rsyncE d).1 ∧ Below w.heap.size w w' := by
  have HL := Lib.hid hL
  have Hsum := Lib.hid hs
  have Hd := Lib.hid (RdDisk.true h)
  obtain ⟨a1, c1, rfl, hc1⟩ := Sl.form h.1
  obtain ⟨a2, c2, rfl, hc2⟩ := Sl.form h.2
  clear h hL hc1 hc2 hs
  go_enter Tryz.func43, Tryz.ntmps43
  go_wp2_with fail
  have HB := Lib.hid (Bx.two (w := w) (o := .cells #[.slice a1 d.safe.length c1, .slice a2 d.wait.length c2] 25) (o' := .cells #[.slice none 0 0, .slice none 0 0] 25))
  have hA := bel_alloc (Below.refl ((w.alloc (.cells #[.slice a1 d.safe.length c1, .slice a2 d.wait.length c2] 25)).alloc (.cells #[.slice none 0 0, .slice none 0 0] 25)).heap.size ((w.alloc (.cells #[.slice a1 d.safe.length c1, .slice a2 d.wait.length c2] 25)).alloc (.cells #[.slice none 0 0, .slice none 0 0] 25))) (.cells #[.slice a1 d.safe.length c1, .slice a2 d.wait.length c2] 23)
  have HB2 := Lib.hid (HB.out.below hA)
  have Hd2 := Lib.hid (RdDisk.below Hd.out HB2.out.bel)
  have HSL := Lib.hid (two_rows Hd2.out.1 Hd2.out.2 (heap_last ((w.alloc (.cells #[.slice a1 d.safe.length c1, .slice a2 d.wait.length c2] 25)).alloc (.cells #[.slice none 0 0, .slice none 0 0] 25)) (.cells #[.slice a1 d.safe.length c1, .slice a2 d.wait.length c2] 23)))
  have he8 : ((w.alloc (.cells #[.slice a1 d.safe.length c1, .slice a2 d.wait.length c2] 25)).alloc (.cells #[.slice none 0 0, .slice none 0 0] 25)).heap.size = w.heap.size + 1 + 1 := by simp
  rw [he8] at HSL
  clear hA HB he8
  refine (concatByte_any _ [d.safe, d.wait] _ _ HSL.out (by have := Hsum.out; simp [lenTo]; omega)).mono ?_
  rintro e w3 ⟨v3, rfl, ho3, hb3⟩
  rw [show [d.safe, d.wait].flatten = d.safe ++ d.wait by simp] at ho3
  obtain ⟨J, hJ⟩ : ∃ J, d.safe ++ d.wait = J := ⟨_, rfl⟩
  have HJ := Lib.hid hJ
  rw [hJ] at ho3
  have HB3 := Lib.hid (HB2.out.below hb3)
  have Hsz := Lib.hid HB2.out.top
  obtain ⟨a3, c3, rfl⟩ := OwnSl.slice ho3
  have HR3 : Hid (RdBytes w3 (fun b => w.heap.size + 2 ≤ b) (.slice a3 J.length c3) J) := (OwnB.read ho3).keep (fun b hb _ => by have h1 : _ ≤ b := hb; have := Hsz.out; simp at this h1; show _ ≤ _; omega) (fun _ _ _ => rfl) (Nat.le_refl _)
  clear ho3 hb3 hJ HSL HB2 Hd2
  have hq0 := HB3.out.cells0
  have hf0 := HB3.out.free0
  have HS := Lib.hid ((HB3.out.set (i := 0) rfl 0 (.slice a3 J.length c3)).set (i := 0) rfl 1 (.slice none 0 0))
  have hqs := HS.out.cells0
  have HR4 := Lib.hid (RdBytes.keep (w' := (w3.setCell ⟨w.heap.size, 0, none⟩ (.slice a3 J.length c3)).setCell ⟨w.heap.size, 1, none⟩ (.slice none 0 0)) (D' := fun b => w.heap.size + 2 ≤ b) HR3.out (fun _ h _ => h) (fun b hb _ => by
    have h1 : w.heap.size + 2 ≤ b := hb
    rw [set_other (by show b ≠ w.heap.size; omega), set_other (by show b ≠ w.heap.size; omega)]) (by rw [set_size, set_size]; exact Nat.le_refl _))
  go_wp2_with fail
  clear hq0 hf0 hqs
  refine (rdcheck_any _ _ ⟨J, []⟩ _ _ ⟨HR4.out, nil_bytes _ _⟩ (HL.out.below HS.out.bel)).mono ?_
  rintro e w5 ⟨rfl, hb5⟩
  have HB5 := Lib.hid (HS.out.below hb5)
  have HR5 := Lib.hid (RdBytes.below HR4.out hb5)
  clear hb5 HR4 HS
  have hq0 := HB5.out.cells0
  have hq1 := HB5.out.cells1
  have hf1 := HB5.out.free1
  by_cases h1 : diskE ⟨J, []⟩ = 0
  · have HE : Hid (rsyncE d = (⟨J, []⟩, 0)) := by show _ = _; unfold rsyncE; rw [HJ.out, if_pos h1]
    rw [h1]
    clear h1
    have HS := Lib.hid ((HB5.out.set (i := 1) rfl 0 (.slice a3 J.length c3)).set (i := 1) rfl 1 (.slice none 0 0))
    have hqs := HS.out.cells1
    have HBL := Lib.hid HS.out.bel
    have HRD := Lib.hid (disk_off (b := w.heap.size + 1) (B := w.heap.size) (d := ⟨J, []⟩) ⟨HR5.out, nil_bytes _ _⟩ (puts2_grow (.slice a3 J.length c3) (.slice none 0 0)) (by omega))
    clear HS
    go_wp2
    refine bodyPost_ret (v := .tuple #[diskV (.slice a3 J.length c3) (.slice none 0 0), .int .i64 0]) ?_ rfl (by rw [HE.out]; exact ⟨_, _, rfl, HRD.out, HBL.out⟩)
    rw [results_cell_tmp rfl]
    go_simp
  · have HE : Hid (rsyncE d = (zeroDisk, diskE ⟨J, []⟩)) := by show _ = _; unfold rsyncE; rw [HJ.out, if_neg h1]
    have hne : (diskE ⟨J, []⟩ != 0) = true := bne_iff_ne.2 h1
    generalize diskE ⟨J, []⟩ = E at *
    clear h1
    have HS := Lib.hid ((HB5.out.set (i := 1) rfl 0 (.slice none 0 0)).set (i := 1) rfl 1 (.slice none 0 0))
    have hqs := HS.out.cells1
    have HBL := Lib.hid HS.out.bel
    clear HS
    go_wp2
    refine bodyPost_ret (v := .tuple #[diskV (.slice none 0 0) (.slice none 0 0), .int .i64 E]) ?_ rfl (by rw [HE.out]; exact ⟨_, _, rfl, nil_disk _ _, HBL.out⟩)
    rw [results_cell_tmp rfl]
    go_simp
theorem bytes_of_str {W : World} {D : Nat → Prop} {l : List UInt8} {b cap : Nat} {T : TypeId} {fr : Nat × Nat} (hb : W.heap[b]? = some (.cells (bytesRow (bsL l) cap) T fr)) (hD : D b) (_hl0 : 0 ≤ l.length) (_hm : l.length ≤ maxLen) (hc : l.length ≤ cap) (hm : cap ≤ maxLen) : RdBytes W D (.slice (some ⟨b, 0, none⟩) l.length cap) l := by
  refine ⟨some ⟨b, 0, none⟩, cap, rfl, hc, hm, (fun h => by cases h), fun _ => ⟨b, 0, rfl, hD, (Array.getElem?_eq_some_iff.1 hb).1, fun i x hx => ⟨[.int .u8 x.toNat], rfl, rfl, fun j u hu => ?_⟩⟩⟩
  obtain ⟨hi, hx⟩ := List.getElem?_eq_some_iff.1 hx
  cases j with
  | succ j => simp at hu
  | zero =>
    simp at hu
    subst hu
    have h1 := bytesRow_at (bsL l) cap i (by simpa [bsL] using hi)
    have e : ((bsL l).data[i]'(by simpa [bsL] using hi)) = x := by rw [← hx]; simp [bsL]
    rw [e] at h1
    have h2 := (cells_of hb i).trans h1
    simpa using h2
/-- a row of two rows of bytes: one told, one new. -/
def PTwo (B : Nat) (x : Value) (l : List UInt8) (v : Value) (W : World) : Prop := ∃ b y, v = .slice (some ⟨b, 0, none⟩) 2 2 ∧ B ≤ b ∧ W.heap[b]? = some (.cells #[x, y] 23) ∧ PBy B l y W
theorem PTwo_stable {B : Nat} {x : Value} {l : List UInt8} : stableK B (PTwo B x l) := fun _ _ _ hk ⟨b, y, h1, h2, h3, h4⟩ => ⟨b, y, h1, h2, (hk.2 b h2 (Array.getElem?_eq_some_iff.1 h3).1).trans h3, PBy_stable _ _ _ hk h4⟩
def PDs (B : Nat) (x : Value) (l : List UInt8) (v : Value) (W : World) : Prop := ∃ y, v = .agg #[x, y] ∧ PBy B l y W
theorem PDs_stable {B : Nat} {x : Value} {l : List UInt8} : stableK B (PDs B x l) := fun _ _ _ hk ⟨y, h1, h2⟩ => ⟨y, h1, PBy_stable _ _ _ hk h2⟩
def PFinS (w0 : World) (β : Nat) (x : Value) (l : List UInt8) (W : World) : Prop := ∃ y, W.heap[β]? = some (.cells #[x, y] 25) ∧ RdBytes W (fun b => w0.heap.size ≤ b) y l ∧ w0.grownBy W (some β)
theorem put_finS {w0 W : World} {β : Nat} {l : List UInt8} {x y c0 c1 : Value} (hb : Below w0.heap.size w0 W) (hβ : W.heap[β]? = some (.cells #[c0, c1] 25)) (hlt : β < w0.heap.size) (hy : PBy w0.heap.size l y W) :
    PFinS w0 β x l ((W.setCell ⟨β, 0, none⟩ x).setCell ⟨β, 1, none⟩ y) :=
  ⟨y, puts2_at x y hβ, PBy_stable _ _ _ (keep_puts2 hlt) hy, grown_trans_below hb (puts2_grow x y)⟩
/-- chapter 11's Put, of a right disk. -/
def rputE (d : TDisk) (r : TRec) : TDisk × Int := if recE r ≠ 0 then (zeroDisk, recE r) else if 60000 < d.safe.length + d.wait.length + (recW r).length + 1 then (zeroDisk, 2) else (⟨d.safe, d.wait ++ lineW r⟩, 0)
theorem rput_eq {d : TDisk} (h : diskE d = 0) (r : TRec) : rputE d r = putE d r := by
  have e : putE d r = rputE d r := by unfold putE; exact if_neg (by rw [h]; simp)
  exact e.symm
set_option maxRecDepth 100000 in
set_option maxHeartbeats 16000000 in
theorem rputon_any (u v ur : Value) (d : TDisk) (r : TRec) (D D' : Nat → Prop) (w : World) (h : RdDisk w D u v d) (hr : RdRules w D' ur r.p.rules) (hL : LaidF w) (hs : d.safe.length + d.wait.length ≤ 60000) :
    Calls Tryz.prog 42 #[diskV u v, recV r ur] w fun e w' => ∃ u' v', e = .returned (.tuple #[diskV u' v', .int .i64 (rputE d r).2]) ∧ RdDisk w' (fun b => D b ∨ w.heap.size ≤ b) u' v' (rputE d r).1 ∧ Below w.heap.size w w' := by
  have HL := Lib.hid hL
  have Hsum := Lib.hid hs
  have Hd : Hid (RdDisk w (fun b => D b ∧ b < w.heap.size) u v d) := h.keep (fun _ hd hl => ⟨hd, hl⟩) (fun _ _ _ => rfl) (Nat.le_refl _)
  have Hr := Lib.hid hr
  obtain ⟨a1, c1, rfl, hc1⟩ := Sl.form h.1
  obtain ⟨a2, c2, rfl, hc2⟩ := Sl.form h.2
  obtain ⟨a3, c3, rfl, _⟩ := Sl.form hr
  clear h hL hc1 hc2 hs hr
  go_enter Tryz.func42, Tryz.ntmps42
  go_wp2_with fail
  have HB0 := Lib.hid (Bx.three (w := w) (o := .cells #[.slice a1 d.safe.length c1, .slice a2 d.wait.length c2] 25) (o' := .cells #[.int .i64 r.kind, .int .i64 r.cell, .int .i64 r.from_, .slice a3 r.p.rules.length c3, .int .i64 r.p.dflt] 56) (o2 := .cells #[.slice none 0 0, .slice none 0 0] 25))
  refine (rrectext_any _ r _ _ (RdRules.below Hr.out HB0.out.bel) (HL.out.below HB0.out.bel)).mono ?_
  rintro e w1 ⟨rfl, hb1⟩
  have HB := Lib.hid (HB0.out.below hb1)
  clear hb1 HB0
  have hq0 := HB.out.cells0
  have hq2 := HB.out.cells2
  have hf2 := HB.out.free2
  by_cases h0 : recE r = 0
  · have HP : Hid (nprintE r = (recW r, 0)) := if_pos h0
    have hwl := recW_len h0
    obtain ⟨T, hT⟩ : ∃ T, recW r = T := ⟨_, rfl⟩
    have HT := Lib.hid hT
    rw [HP.out]
    rw [hT] at hwl ⊢
    have Hwl := Lib.hid hwl
    have hsz : (bsL T).size = T.length := by simp [bsL, ByteArray.size]
    have hw1 : IntKind.i64.wrap ((d.safe.length : Int) + (d.wait.length : Int)) = (d.safe.length : Int) + (d.wait.length : Int) := IntWalk.i64_in _ (by have := Hsum.out; omega)
    have hw2 : IntKind.i64.wrap ((d.safe.length : Int) + (d.wait.length : Int) + (T.length : Int)) = (d.safe.length : Int) + (d.wait.length : Int) + (T.length : Int) := IntWalk.i64_in _ (by have := Hsum.out; omega)
    have hw3 : IntKind.i64.wrap ((d.safe.length : Int) + (d.wait.length : Int) + (T.length : Int) + 1) = (d.safe.length : Int) + (d.wait.length : Int) + (T.length : Int) + 1 := IntWalk.i64_in _ (by have := Hsum.out; omega)
    obtain ⟨tot, htot⟩ : ∃ tot : Int, (d.safe.length : Int) + (d.wait.length : Int) + (T.length : Int) + 1 = tot := ⟨_, rfl⟩
    have Htot := Lib.hid htot
    replace hw3 := hw3.trans htot
    clear hT htot
    by_cases h1 : 60000 < d.safe.length + d.wait.length + T.length + 1
    · have HE : Hid (rputE d r = (zeroDisk, 2)) := by show _ = _; unfold rputE; rw [if_neg (by rw [h0]; simp), HT.out, if_pos h1]
      have h1' : (60000 : Int) < tot := by have := Htot.out; omega
      clear h0 h1 hwl
      have HS := Lib.hid ((HB.out.set2 0 (.slice none 0 0)).set2 1 (.slice none 0 0))
      have hqs := HS.out.cells2
      have HBL := Lib.hid HS.out.bel
      clear HS
      go_wp2
      refine bodyPost_ret (v := .tuple #[diskV (.slice none 0 0) (.slice none 0 0), .int .i64 2]) ?_ rfl (by rw [HE.out]; exact ⟨_, _, rfl, nil_disk _ _, HBL.out⟩)
      rw [results_cell_tmp rfl]
      go_simp
    · have HE : Hid (rputE d r = (⟨d.safe, d.wait ++ (T ++ [10])⟩, 0)) := by show _ = _; unfold rputE lineW; rw [if_neg (by rw [h0]; simp), HT.out, if_neg h1]
      have h1' : ¬ (60000 : Int) < tot := by have := Htot.out; omega
      have Hadd : Hid (∀ W : World, (Op.stringOp .add (bsL T) ⟨#[10]⟩).run Tryz.prog W = .ok (.string (bsL (T ++ [10]))) W) := fun W => add_bs T [10] (by simp; omega) W
      clear h0 h1 hwl
      obtain ⟨TL, hTL⟩ : ∃ TL, T ++ [10] = TL := ⟨_, rfl⟩
      have HTl : Hid (0 ≤ TL.length ∧ TL.length ≤ maxLen) := by show _ ∧ _; rw [← hTL]; have := Hwl.out; simp [maxLen]; omega
      have HTz : Hid ((bsL TL).size = TL.length) := by show _ = _; simp [bsL, ByteArray.size]
      have HTs : Hid (d.wait.length + TL.length ≤ 60000 + 60000) := by show _ ≤ _; rw [← hTL]; have := Hwl.out; have := Hsum.out; simp; omega
      rw [hTL] at HE Hadd
      obtain ⟨JW, hJW⟩ : ∃ J, d.wait ++ TL = J := ⟨_, rfl⟩
      have HJW := Lib.hid hJW
      rw [hJW] at HE
      clear hTL hJW
      have Hd1 := Lib.hid (RdDisk.below Hd.out HB.out.bel)
      have HX1 : Hid (w1.heap[w.heap.size + 1 + 1]? = some (.cells #[.slice none 0 0, .slice none 0 0] 25)) := HB.out.at_ 2 _ rfl
      have HXl : Hid (w.heap.size + 1 + 1 < w1.heap.size) := (Array.getElem?_eq_some_iff.1 HX1.out).1
      go_wp2_with fail
      clear hq0 hq2 hf2 hw1 hw2 hw3 hsz h1'
      refine wp_region_lastop 10 w1.heap.size [ex (.pointer (some ⟨w.heap.size, 0, none⟩)), ex (.slice a1 d.safe.length c1), ex (.pointer (some ⟨w.heap.size, 1, none⟩)), ex (.slice a2 d.wait.length c2), ex (.string (bsL T)), ex (.string (bsL TL)), pr (PBy w1.heap.size TL), pr (PTwo w1.heap.size (.slice a2 d.wait.length c2) TL), pr (PBy w1.heap.size JW), pr (PDs w1.heap.size (.slice a1 d.safe.length c1) JW), ex (undef), ex (.int .i64 0)] (PFinS w1 (w.heap.size + 1 + 1) (.slice a1 d.safe.length c1) JW) (by kernel_rfl) (by kernel_rfl) ⟨.inl ⟨_, rfl⟩, .inl ⟨_, rfl⟩, .inl ⟨_, rfl⟩, .inl ⟨_, rfl⟩, .inl ⟨_, rfl⟩, .inl ⟨_, rfl⟩, .inr ⟨_, rfl, PBy_stable⟩, .inr ⟨_, rfl, PTwo_stable⟩, .inr ⟨_, rfl, PBy_stable⟩, .inr ⟨_, rfl, PDs_stable⟩, .inl ⟨_, rfl⟩, .inl ⟨_, rfl⟩, trivial⟩ _ rfl ?_
      (refine walkP_ex (fun K hK => ?_); refine ⟨fun done W hI h0 hd hn hf R hR => ?_, ?_⟩; (have hno : done 10 = false := hn 10 (by decide); have hC := hI.before hno; clear h0 hd hn hf; go_simp; exact hR _ _ (hI.step hno (by decide) (Below.refl _ _)) (KeepFrom.of_below (Below.refl _ _)) rfl); (go_simp; refine hK _ ?_; clear hK K))
      (refine walkP_ex (fun K hK => ?_); refine ⟨fun done W hI h0 hd hn hf R hR => ?_, ?_⟩; (have hno : done 10 = false := hn 10 (by decide); have hC := hI.before hno; have hqd := (HB.out.below hC.2).cells0; clear h0 hd hn hf; go_simp; exact hR _ _ (hI.step hno (by decide) (Below.refl _ _)) (KeepFrom.of_below (Below.refl _ _)) rfl); (go_simp; refine hK _ ?_; clear hK K))
      (refine walkP_ex (fun K hK => ?_); refine ⟨fun done W hI h0 hd hn hf R hR => ?_, ?_⟩; (have hno : done 10 = false := hn 10 (by decide); have hC := hI.before hno; clear h0 hd hn hf; go_simp; exact hR _ _ (hI.step hno (by decide) (Below.refl _ _)) (KeepFrom.of_below (Below.refl _ _)) rfl); (go_simp; refine hK _ ?_; clear hK K))
      (refine walkP_ex (fun K hK => ?_); refine ⟨fun done W hI h0 hd hn hf R hR => ?_, ?_⟩; (have hno : done 10 = false := hn 10 (by decide); have hC := hI.before hno; have hqd := (HB.out.below hC.2).cells0; clear h0 hd hn hf; go_simp; exact hR _ _ (hI.step hno (by decide) (Below.refl _ _)) (KeepFrom.of_below (Below.refl _ _)) rfl); (go_simp; refine hK _ ?_; clear hK K))
      (refine walkP_ex (fun K hK => ?_); refine ⟨fun done W hI h0 hd hn hf R hR => ?_, ?_⟩; (have hno : done 10 = false := hn 10 (by decide); have hC := hI.before hno; clear h0 hd hn hf; go_simp; exact hR _ _ (hI.step hno (by decide) (Below.refl _ _)) (KeepFrom.of_below (Below.refl _ _)) rfl); (go_simp; refine hK _ ?_; clear hK K))
      (refine walkP_ex (fun K hK => ?_); refine ⟨fun done W hI h0 hd hn hf R hR => ?_, ?_⟩; (have hno : done 10 = false := hn 10 (by decide); have hC := hI.before hno; have hadd := Hadd.out W; clear h0 hd hn hf; go_simp; exact hR _ _ (hI.step hno (by decide) (Below.refl _ _)) (KeepFrom.of_below (Below.refl _ _)) rfl); (go_simp; refine hK _ ?_; clear hK K))
      (refine walkP_pr (fun K hK => ?_); refine ⟨fun done W hI h0 hd hn hf R hR => ?_, fun v6 => ?_⟩; (have hno : done 10 = false := hn 10 (by decide); have hC := hI.before hno; have hcv := run_bytes_of_string (P := Tryz.prog) W 9 23 5 (bsL TL) Tryz.underlying9 Tryz.underlying23 Tryz.underlying5; have hszT := HTz.out; rw [hszT] at hcv; have hsz0 : w1.heap.size ≤ W.heap.size := hC.1; clear h0 hd hn hf; go_simp; exact hR _ _ (hI.step hno (by decide) (bel_alloc (Below.refl _ _).drew _)) (KeepFrom.of_below (bel_alloc (Below.refl _ _).drew _)) (bytes_of_str (heap_last _ _) hsz0 HTl.out.1 HTl.out.2 (grownCap_ge _ _ _ _) (grownCap_le_maxLen _ _ _ _ HTl.out.2))); (go_simp; refine hK _ _ ?_; clear hK K))
      (refine walkP_pr (fun K hK => ?_); refine ⟨fun done W hI h0 hd hn hf R hR => ?_, fun v7 => ?_⟩; (have hno : done 10 = false := hn 10 (by decide); have hC := hI.before hno; have h6 : PBy w1.heap.size TL v6 W := hf 6 (by decide); have H6 := Lib.hid h6; obtain ⟨f1, f2, rfl, _⟩ := Sl.form h6; have hsz0 : w1.heap.size ≤ W.heap.size := hC.1; have HSZ := Lib.hid hsz0; clear h6 hC hsz0; clear h0 hd hn hf; go_simp; exact hR _ _ (hI.step hno (by decide) (bel_alloc (Below.refl _ _) _)) (KeepFrom.of_below (bel_alloc (Below.refl _ _) _)) ⟨_, _, rfl, HSZ.out, heap_last _ _, RdBytes.below H6.out (bel_alloc (Below.refl _ _) _)⟩); (go_simp; refine hK _ _ ?_; clear hK K))
      (refine walkP_pr (fun K hK => ?_); refine ⟨fun done W hI h0 hd hn hf R hR => ?_, fun v8 => ?_⟩; (have hno : done 10 = false := hn 10 (by decide); have hC := hI.before hno; have h7 : PTwo w1.heap.size (.slice a2 d.wait.length c2) TL v7 W := hf 7 (by decide); obtain ⟨b7, y7, rfl, hb7, hc7, hy7⟩ := h7; have HSL := Lib.hid (two_rows (RdBytes.true (RdBytes.below Hd1.out.2 hC.2)) (RdBytes.true hy7) hc7); have HSZ : Hid (w1.heap.size ≤ W.heap.size) := hC.1; clear hb7 hc7 hy7 hC; clear h0 hd hn hf; go_simp; go_at_call 81; refine (concatByte_any _ [d.wait, TL] _ _ HSL.out (by have := HTs.out; simp [lenTo]; omega)).mono ?_; rintro e w9 ⟨v9, rfl, ho9, hb9⟩; rw [show [d.wait, TL].flatten = JW by rw [← HJW.out]; simp] at ho9; exact ⟨_, rfl, hR _ _ (hI.step hno (by decide) hb9) (KeepFrom.of_below hb9) (show PBy _ _ _ _ from (OwnB.read ho9).keep (fun b hb _ => by have h1 : _ ≤ b := hb; have := HSZ.out; show _ ≤ _; omega) (fun _ _ _ => rfl) (Nat.le_refl _))⟩); (go_simp; refine hK _ _ ?_; clear hK K))
      (refine walkP_pr (fun K hK => ?_); refine ⟨fun done W hI h0 hd hn hf R hR => ?_, fun v9 => ?_⟩; (have hno : done 10 = false := hn 10 (by decide); have hC := hI.before hno; have h8 : PBy w1.heap.size JW v8 W := hf 8 (by decide); have H8 := Lib.hid h8; obtain ⟨f1, f2, rfl, _⟩ := Sl.form h8; clear h8 hC; clear h0 hd hn hf; go_simp; exact hR _ _ (hI.step hno (by decide) (Below.refl _ _)) (KeepFrom.of_below (Below.refl _ _)) ⟨_, rfl, H8.out⟩); (go_simp; refine hK _ _ ?_; clear hK K))
      (refine walkP_ex (fun K hK => ?_); refine ⟨fun done W hI h0 hd hn hf R hR => ?_, ?_⟩; (have hno : done 10 = false := h0; have hC := hI.before hno; have h9 : PDs w1.heap.size (.slice a1 d.safe.length c1) JW v9 W := hf 9 (by decide); obtain ⟨y, rfl, hy⟩ := h9; have HY := Lib.hid hy; obtain ⟨f3, f4, rfl, _⟩ := Sl.form hy; have hbW := blk_below HX1.out hC.2; have hq1 := cells_of hbW; have hf1 := not_frozen hbW; have HFn := Lib.hid (put_finS (x := .slice a1 d.safe.length c1) hC.2 hbW HXl.out HY.out); have HKF : Hid (KeepFrom w1.heap.size W _) := keep_puts2 (W := W) (β := w.heap.size + 1 + 1) (x := .slice a1 d.safe.length c1) (y := .slice f3 JW.length f4) HXl.out; clear hy hbW hC; clear h0 hd hn hf; go_simp; exact hR _ _ (LastI.at_ HFn.out) HKF.out rfl); (go_simp; refine hK _ ?_; clear hK K))
      (refine walkP_ex (fun K hK => ?_); refine ⟨fun done W hI h0 hd hn hf R hR => ?_, ?_⟩; (have hyes : done 10 = true := hd 10 (by decide); clear h0 hd hn hf; go_simp; exact hR _ _ (hI.past hyes (by decide)) (KeepFrom.of_below (Below.refl _ _)) rfl); (go_simp; refine hK _ ?_; clear hK K))
      intro done w6 hdone hI _
      obtain ⟨y6, hbx6, hr6, hg6⟩ := hI.after (hdone 10 (by decide))
      clear hdone hI
      obtain ⟨f1, f2, rfl, _⟩ := Sl.form hr6
      have Hr6 : Hid (RdDisk w6 (fun b => D b ∨ w.heap.size ≤ b) (.slice a1 d.safe.length c1) (.slice f1 JW.length f2) ⟨d.safe, JW⟩) :=
        ⟨RdBytes.keep Hd1.out.1 (fun _ hb _ => .inl hb.1) (fun b hb hl => grow_keep hg6 hl (by have := hb.2; omega)) hg6.size, RdBytes.keep hr6 (fun b hb _ => .inr (by have h1 : w1.heap.size ≤ b := hb; have := HB.out.top; omega)) (fun _ _ _ => rfl) (Nat.le_refl _)⟩
      have HBL : Hid (Below w.heap.size w w6) := below_of_grow HB.out.bel hg6 HB.out.bel.size (by omega)
      have hqs := cells_of hbx6
      clear hr6 hg6
      go_wp2
      refine bodyPost_ret (v := .tuple #[diskV (.slice a1 d.safe.length c1) (.slice f1 JW.length f2), .int .i64 0]) ?_ rfl (by rw [HE.out]; exact ⟨_, _, rfl, Hr6.out, HBL.out⟩)
      rw [results_cell_tmp rfl]
      go_simp
  · have HP : Hid (nprintE r = ([], recE r)) := if_neg h0
    have HE : Hid (rputE d r = (zeroDisk, recE r)) := by show _ = _; unfold rputE; rw [if_pos h0]
    have hne : (recE r != 0) = true := bne_iff_ne.2 h0
    rw [HP.out]
    generalize recE r = E at *
    clear h0
    have HS := Lib.hid ((HB.out.set2 0 (.slice none 0 0)).set2 1 (.slice none 0 0))
    have hqs := HS.out.cells2
    have HBL := Lib.hid HS.out.bel
    clear HS
    go_wp2
    refine bodyPost_ret (v := .tuple #[diskV (.slice none 0 0) (.slice none 0 0), .int .i64 E]) ?_ rfl (by rw [HE.out]; exact ⟨_, _, rfl, nil_disk _ _, HBL.out⟩)
    rw [results_cell_tmp rfl]
    go_simp
def PDn (B : Nat) (l : List UInt8) (v : Value) (W : World) : Prop := ∃ y, v = .agg #[y, .slice none 0 0] ∧ PBy B l y W
theorem PDn_stable {B : Nat} {l : List UInt8} : stableK B (PDn B l) := fun _ _ _ hk ⟨y, h1, h2⟩ => ⟨y, h1, PBy_stable _ _ _ hk h2⟩
/-- a new row of records; what they lead to is as it was in w0. -/
def PRw (w0 : World) (B' : Nat) (l : List TRec) (v : Value) (W : World) : Prop := OwnSl W w0.heap.size 56 5 (recR w0 (fun b => B' ≤ b)) v l
theorem PRw_stable {w0 : World} {B' : Nat} {l : List TRec} : stableK w0.heap.size (PRw w0 B' l) := fun _ _ _ hk h => OwnSl.keepFrom h hk.2
theorem OwnSl.baseR {α : Type} {W : World} {B B' sz : Nat} {T : TypeId} {R : α → List Value → Prop} {v : Value} {l : List α} (h : OwnSl W B T sz R v l) (hB : B' ≤ B) : OwnSl W B' T sz R v l := by
  obtain ⟨rows, hr, h1, h2⟩ := h
  refine ⟨rows, hr, h1, ?_⟩
  rcases h2 with h2 | ⟨g, cap, cur, hv, hg, r⟩
  · exact .inl h2
  · exact .inr ⟨g, cap, cur, hv, Nat.le_trans hB hg, r⟩
def PFinD (w0 : World) (β : Nat) (l : List UInt8) (W : World) : Prop := ∃ x, W.heap[β]? = some (.cells #[x, .slice none 0 0] 25) ∧ RdBytes W (fun b => w0.heap.size ≤ b) x l ∧ w0.grownBy W (some β)
theorem put_finD {w0 W : World} {β : Nat} {l : List UInt8} {x c0 c1 : Value} (hb : Below w0.heap.size w0 W) (hβ : W.heap[β]? = some (.cells #[c0, c1] 25)) (hlt : β < w0.heap.size) (hx : PBy w0.heap.size l x W) :
    PFinD w0 β l ((W.setCell ⟨β, 0, none⟩ x).setCell ⟨β, 1, none⟩ (.slice none 0 0)) :=
  ⟨x, puts2_at x _ hβ, PBy_stable _ _ _ (keep_puts2 hlt) hx, grown_trans_below hb (puts2_grow x _)⟩
theorem recs_fix {w0 W : World} {D : Nat → Prop} {v : Value} {l : List TRec} (h : RdRecs w0 D v l) (hb : Below w0.heap.size w0 W) : Sl W D 5 (recR w0 D) v l := Sl.mono h (fun _ h _ => h) (fun b _ hl => hb.block b hl) hb.size (fun _ _ _ h => h)
theorem two_recs {W w0 : World} {D D' : Nat → Prop} {u v : Value} {l m : List TRec} {b : Nat} {T : TypeId} {fr : Nat × Nat} (h1 : Sl W D 5 (recR w0 D') u l) (h2 : Sl W D 5 (recR w0 D') v m) (hb : W.heap[b]? = some (.cells #[u, v] T fr)) : Sl W (fun _ => True) 1 (rowsRRec (recR w0 D') W (fun _ => True)) (.slice (some ⟨b, 0, none⟩) 2 2) [l, m] :=
  sl_block (sz := 1) (xs := [l, m]) (rows := [[u], [v]]) (RowsOf.cons (RowsOf.cons RowsOf.nil ⟨_, rfl, h2.monoD fun _ _ => trivial⟩ rfl) ⟨_, rfl, h1.monoD fun _ _ => trivial⟩ rfl) hb rfl trivial (by simp [maxLen])
set_option maxRecDepth 100000 in
set_option maxHeartbeats 16000000 in
theorem rrecovered_any (u v : Value) (d : TDisk) (D : Nat → Prop) (w : World) (h : RdDisk w D u v d) (hL : Laid w) (h0 : diskE d = 0) :
    Calls Tryz.prog 44 #[diskV u v] w fun e w' => ∃ u' v' vl, e = .returned (.tuple #[diskV u' v', vl]) ∧ RdDisk w' (fun b => w.heap.size ≤ b) u' v' (recoverE d).1 ∧ RdRecs w' (fun b => w.heap.size ≤ b) vl (recoverE d).2.1 ∧ Below w.heap.size w w' := by
  have HL := Lib.hid hL
  have Hd := Lib.hid (RdDisk.true h)
  have H0 := Lib.hid h0
  have Hsum : Hid (d.safe.length + d.wait.length ≤ 60000) := (diskE_ok h0).1
  obtain ⟨a1, c1, rfl, hc1⟩ := Sl.form h.1
  obtain ⟨a2, c2, rfl, hc2, hc3, hc4⟩ := Sl.form h.2
  clear h hL hc1 hc4 h0
  have HB0 := Lib.hid (Bx.two (w := w) (o := .cells #[.slice a1 d.safe.length c1, .slice a2 d.wait.length c2] 25) (o' := .cells #[.slice none 0 0, .slice none 0 0] 25))
  have hcv := bytes_string (RdBytes.below Hd.out.1 HB0.out.bel)
  go_enter Tryz.func44, Tryz.ntmps44
  go_wp2_with fail
  clear hcv
  refine (rlines_any d.safe 40 _ (HL.out.below HB0.out.bel) (by have := Hsum.out; omega) (by decide)).mono ?_
  obtain ⟨⟨l, nl, el⟩, hl⟩ : ∃ E, linesOf d.safe 40 = E := ⟨_, rfl⟩
  have Hl := Lib.hid hl
  have hl40 : l.length ≤ 40 := by have := (linesOf_spec d.safe 40).2.1; rw [hl] at this; exact this
  rw [hl]
  rintro e w2 ⟨vl, rfl, hol, hb2⟩
  dsimp only at hol
  have HB2 := Lib.hid (HB0.out.below hb2)
  have Hol : Hid (RdRecs w2 (fun b => w.heap.size + 2 ≤ b) vl l) := hol.keep (fun b hb _ => by have h1 : _ ≤ b := hb; have := HB0.out.top; simp at this h1; show _ ≤ _; omega) (fun _ _ _ => rfl) (Nat.le_refl _)
  obtain ⟨al, cl, rfl, _⟩ := Sl.form hol
  have hsub : IntKind.i64.wrap (40 - (l.length : Int)) = ((40 - l.length : Nat) : Int) := by rw [show ((40 - l.length : Nat) : Int) = 40 - (l.length : Int) by omega]; exact IntWalk.i64_in _ (by omega)
  have Hl40 := Lib.hid hl40
  have hq0 := HB2.out.cells0
  have hcv := bytes_string (RdBytes.below Hd.out.2 HB2.out.bel)
  clear hl hol hb2 HB0
  dsimp only
  go_wp2_with fail
  clear hq0 hcv
  refine (rlines_any d.wait (40 - l.length) _ (HL.out.below HB2.out.bel) (by have := Hsum.out; omega) (by omega)).mono ?_
  obtain ⟨⟨m, nw, em⟩, hm⟩ : ∃ E, linesOf d.wait (40 - l.length) = E := ⟨_, rfl⟩
  have Hm := Lib.hid hm
  have hnw : nw ≤ d.wait.length := by
    obtain ⟨_, _, t, h3, h4, _⟩ := linesOf_spec d.wait (40 - l.length)
    rw [hm] at h3 h4
    dsimp only at h3 h4
    have := congrArg List.length h3
    rw [List.length_append] at this
    omega
  have hm40 : m.length ≤ 40 - l.length := by have := (linesOf_spec d.wait (40 - l.length)).2.1; rw [hm] at this; exact this
  rw [hm]
  rintro e w3 ⟨vm, rfl, hom, hb3⟩
  dsimp only at hom
  have HB := Lib.hid (HB2.out.below hb3)
  have Hrl := Lib.hid (RdRecs.below Hol.out hb3)
  have Hrm : Hid (RdRecs w3 (fun b => w.heap.size + 2 ≤ b) vm m) := hom.keep (fun b hb _ => by have h1 : _ ≤ b := hb; have := HB2.out.top; simp at this; show _ ≤ _; omega) (fun _ _ _ => rfl) (Nat.le_refl _)
  obtain ⟨am, cm, rfl, _⟩ := Sl.form hom
  have HE0 : Hid (recoverE d = (⟨d.safe ++ d.wait.take nw, []⟩, l ++ m, 0)) := by
    show _ = _
    unfold recoverE restOf
    rw [if_neg (by rw [H0.out]; simp), Hl.out]
    dsimp only
    rw [Hm.out]
  obtain ⟨JS, hJS⟩ : ∃ J, d.safe ++ d.wait.take nw = J := ⟨_, rfl⟩
  have HJS := Lib.hid hJS
  obtain ⟨LM, hLM⟩ : ∃ J, l ++ m = J := ⟨_, rfl⟩
  have HLM := Lib.hid hLM
  have HE : Hid (recoverE d = (⟨JS, []⟩, LM, 0)) := by show _ = _; rw [HE0.out, hJS, hLM]
  clear hJS hLM HE0
  have Hd3 := Lib.hid (RdDisk.below Hd.out HB.out.bel)
  have HW3 : Hid (RdBytes w3 (fun _ => True) (.slice a2 nw c2) (d.wait.take nw)) := by
    have h1 := Sl.take Hd3.out.2 hnw
    exact h1
  have Hnw : Hid ((nw : Int) ≤ (c2 : Int) ∧ (0 : Int) ≤ (nw : Int) ∧ (c2 : Int) ≤ 9223372036854775807) := by have h9 : c2 ≤ 9223372036854775807 := hc3; show _ ∧ _ ∧ _; omega
  have Hlm : Hid (l.length + m.length ≤ 40) := by show _ ≤ _; have := Hl40.out; omega
  have HX3 : Hid (w3.heap[w.heap.size + 1]? = some (.cells #[.slice none 0 0, .slice none 0 0] 25)) := HB.out.at_ 1 _ rfl
  have HXl : Hid (w.heap.size + 1 < w3.heap.size) := (Array.getElem?_eq_some_iff.1 HX3.out).1
  clear hm hom hb3 hsub hnw hm40 hl40 hc2 hc3 Hol HB2
  dsimp only
  go_wp2_with fail
  refine wp_region_lastop 13 w3.heap.size [ex (.pointer (some ⟨w.heap.size, 0, none⟩)), ex (.slice a1 d.safe.length c1), ex (.pointer (some ⟨w.heap.size, 1, none⟩)), ex (.slice a2 d.wait.length c2), ex (.int .i64 (nw : Int)), ex (.slice a2 nw c2), pr (VRow w3.heap.size 23 #[.slice a1 d.safe.length c1, .slice a2 nw c2] 2), pr (PBy w3.heap.size JS), pr (PDn w3.heap.size JS), ex (.slice al l.length cl), ex (.slice am m.length cm), pr (VRow w3.heap.size 68 #[.slice al l.length cl, .slice am m.length cm] 2), pr (PRw w3 (w.heap.size + 2) LM), ex (undef), pr (PRw w3 (w.heap.size + 2) LM)] (PFinD w3 (w.heap.size + 1) JS) (by kernel_rfl) (by kernel_rfl) ⟨.inl ⟨_, rfl⟩, .inl ⟨_, rfl⟩, .inl ⟨_, rfl⟩, .inl ⟨_, rfl⟩, .inl ⟨_, rfl⟩, .inl ⟨_, rfl⟩, .inr ⟨_, rfl, VRow.stable⟩, .inr ⟨_, rfl, PBy_stable⟩, .inr ⟨_, rfl, PDn_stable⟩, .inl ⟨_, rfl⟩, .inl ⟨_, rfl⟩, .inr ⟨_, rfl, VRow.stable⟩, .inr ⟨_, rfl, PRw_stable⟩, .inl ⟨_, rfl⟩, .inr ⟨_, rfl, PRw_stable⟩, trivial⟩ _ rfl ?_
  (refine walkP_ex (fun K hK => ?_); refine ⟨fun done W hI h0 hd hn hf R hR => ?_, ?_⟩; (have hno : done 13 = false := hn 13 (by decide); have hC := hI.before hno; clear h0 hd hn hf; go_simp; exact hR _ _ (hI.step hno (by decide) (Below.refl _ _)) (KeepFrom.of_below (Below.refl _ _)) rfl); (go_simp; refine hK _ ?_; clear hK K))
  (refine walkP_ex (fun K hK => ?_); refine ⟨fun done W hI h0 hd hn hf R hR => ?_, ?_⟩; (have hno : done 13 = false := hn 13 (by decide); have hC := hI.before hno; have hqd := (HB.out.below hC.2).cells0; clear h0 hd hn hf; go_simp; exact hR _ _ (hI.step hno (by decide) (Below.refl _ _)) (KeepFrom.of_below (Below.refl _ _)) rfl); (go_simp; refine hK _ ?_; clear hK K))
  (refine walkP_ex (fun K hK => ?_); refine ⟨fun done W hI h0 hd hn hf R hR => ?_, ?_⟩; (have hno : done 13 = false := hn 13 (by decide); have hC := hI.before hno; clear h0 hd hn hf; go_simp; exact hR _ _ (hI.step hno (by decide) (Below.refl _ _)) (KeepFrom.of_below (Below.refl _ _)) rfl); (go_simp; refine hK _ ?_; clear hK K))
  (refine walkP_ex (fun K hK => ?_); refine ⟨fun done W hI h0 hd hn hf R hR => ?_, ?_⟩; (have hno : done 13 = false := hn 13 (by decide); have hC := hI.before hno; have hqd := (HB.out.below hC.2).cells0; clear h0 hd hn hf; go_simp; exact hR _ _ (hI.step hno (by decide) (Below.refl _ _)) (KeepFrom.of_below (Below.refl _ _)) rfl); (go_simp; refine hK _ ?_; clear hK K))
  (refine walkP_ex (fun K hK => ?_); refine ⟨fun done W hI h0 hd hn hf R hR => ?_, ?_⟩; (have hno : done 13 = false := hn 13 (by decide); have hC := hI.before hno; clear h0 hd hn hf; go_simp; exact hR _ _ (hI.step hno (by decide) (Below.refl _ _)) (KeepFrom.of_below (Below.refl _ _)) rfl); (go_simp; refine hK _ ?_; clear hK K))
  (refine walkP_ex (fun K hK => ?_); refine ⟨fun done W hI h0 hd hn hf R hR => ?_, ?_⟩; (have hno : done 13 = false := hn 13 (by decide); have hC := hI.before hno; have hk1 := Hnw.out.1; have hk2 := Hnw.out.2.1; have hk3 := Hnw.out.2.2; clear h0 hd hn hf; go_simp; exact hR _ _ (hI.step hno (by decide) (Below.refl _ _)) (KeepFrom.of_below (Below.refl _ _)) rfl); (go_simp; refine hK _ ?_; clear hK K))
  (refine walkP_pr (fun K hK => ?_); refine ⟨fun done W hI h0 hd hn hf R hR => ?_, fun v6 => ?_⟩; (have hno : done 13 = false := hn 13 (by decide); have hC := hI.before hno; have hsz0 : w3.heap.size ≤ W.heap.size := hC.1; have HSZ := Lib.hid hsz0; clear hC hsz0; clear h0 hd hn hf; go_simp; exact hR _ _ (hI.step hno (by decide) (bel_alloc (Below.refl _ _) _)) (KeepFrom.of_below (bel_alloc (Below.refl _ _) _)) ⟨_, rfl, HSZ.out, heap_last _ _⟩); (go_simp; refine hK _ _ ?_; clear hK K))
  (refine walkP_pr (fun K hK => ?_); refine ⟨fun done W hI h0 hd hn hf R hR => ?_, fun v7 => ?_⟩; (have hno : done 13 = false := hn 13 (by decide); have hC := hI.before hno; have h6 : VRow w3.heap.size 23 #[.slice a1 d.safe.length c1, .slice a2 nw c2] 2 v6 W := hf 6 (by decide); obtain ⟨b6, rfl, hb6, hc6⟩ := h6; have HSL := Lib.hid (two_rows (RdBytes.true (RdBytes.below Hd3.out.1 hC.2)) (RdBytes.true (RdBytes.below HW3.out hC.2)) hc6); have HSZ : Hid (w3.heap.size ≤ W.heap.size) := hC.1; clear hb6 hc6 hC; clear h0 hd hn hf; go_simp; go_at_call 81; refine (concatByte_any _ [d.safe, d.wait.take nw] _ _ HSL.out (by have := Hsum.out; simp [lenTo]; omega)).mono ?_; rintro e w9 ⟨v9, rfl, ho9, hb9⟩; rw [show [d.safe, d.wait.take nw].flatten = JS by rw [← HJS.out]; simp] at ho9; exact ⟨_, rfl, hR _ _ (hI.step hno (by decide) hb9) (KeepFrom.of_below hb9) (show PBy _ _ _ _ from (OwnB.read ho9).keep (fun b hb _ => by have h1 : _ ≤ b := hb; have := HSZ.out; show _ ≤ _; omega) (fun _ _ _ => rfl) (Nat.le_refl _))⟩); (go_simp; refine hK _ _ ?_; clear hK K))
  (refine walkP_pr (fun K hK => ?_); refine ⟨fun done W hI h0 hd hn hf R hR => ?_, fun v8 => ?_⟩; (have hno : done 13 = false := hn 13 (by decide); have hC := hI.before hno; have h7 : PBy w3.heap.size JS v7 W := hf 7 (by decide); have H7 := Lib.hid h7; obtain ⟨f1, f2, rfl, _⟩ := Sl.form h7; clear h7 hC; clear h0 hd hn hf; go_simp; exact hR _ _ (hI.step hno (by decide) (Below.refl _ _)) (KeepFrom.of_below (Below.refl _ _)) ⟨_, rfl, H7.out⟩); (go_simp; refine hK _ _ ?_; clear hK K))
  (refine walkP_ex (fun K hK => ?_); refine ⟨fun done W hI h0 hd hn hf R hR => ?_, ?_⟩; (have hno : done 13 = false := hn 13 (by decide); have hC := hI.before hno; clear h0 hd hn hf; go_simp; exact hR _ _ (hI.step hno (by decide) (Below.refl _ _)) (KeepFrom.of_below (Below.refl _ _)) rfl); (go_simp; refine hK _ ?_; clear hK K))
  (refine walkP_ex (fun K hK => ?_); refine ⟨fun done W hI h0 hd hn hf R hR => ?_, ?_⟩; (have hno : done 13 = false := hn 13 (by decide); have hC := hI.before hno; clear h0 hd hn hf; go_simp; exact hR _ _ (hI.step hno (by decide) (Below.refl _ _)) (KeepFrom.of_below (Below.refl _ _)) rfl); (go_simp; refine hK _ ?_; clear hK K))
  (refine walkP_pr (fun K hK => ?_); refine ⟨fun done W hI h0 hd hn hf R hR => ?_, fun v11 => ?_⟩; (have hno : done 13 = false := hn 13 (by decide); have hC := hI.before hno; have hsz0 : w3.heap.size ≤ W.heap.size := hC.1; have HSZ := Lib.hid hsz0; clear hC hsz0; clear h0 hd hn hf; go_simp; exact hR _ _ (hI.step hno (by decide) (bel_alloc (Below.refl _ _) _)) (KeepFrom.of_below (bel_alloc (Below.refl _ _) _)) ⟨_, rfl, HSZ.out, heap_last _ _⟩); (go_simp; refine hK _ _ ?_; clear hK K))
  (refine walkP_pr (fun K hK => ?_); refine ⟨fun done W hI h0 hd hn hf R hR => ?_, fun v12 => ?_⟩; (have hno : done 13 = false := hn 13 (by decide); have hC := hI.before hno; have h11 : VRow w3.heap.size 68 #[.slice al l.length cl, .slice am m.length cm] 2 v11 W := hf 11 (by decide); obtain ⟨b11, rfl, hb11, hc11⟩ := h11; have HSL := Lib.hid (two_recs (recs_fix Hrl.out hC.2) (recs_fix Hrm.out hC.2) hc11); have HSZ : Hid (w3.heap.size ≤ W.heap.size) := hC.1; clear hb11 hc11 hC; clear h0 hd hn hf; go_simp; go_at_call 85; refine (concatRec_any (recR w3 (fun b => w.heap.size + 2 ≤ b)) (fun y cs h => recR_one y cs h) _ [l, m] _ _ HSL.out (by have := Hlm.out; simp [lenTo]; omega)).mono ?_; rintro e w9 ⟨v9, rfl, ho9, hb9⟩; rw [show [l, m].flatten = LM by rw [← HLM.out]; simp] at ho9; exact ⟨_, rfl, hR _ _ (hI.step hno (by decide) hb9) (KeepFrom.of_below hb9) (show PRw _ _ _ _ _ from OwnSl.baseR ho9 HSZ.out)⟩); (go_simp; refine hK _ _ ?_; clear hK K))
  (refine walkP_ex (fun K hK => ?_); refine ⟨fun done W hI h0 hd hn hf R hR => ?_, ?_⟩; (have hno : done 13 = false := h0; have hC := hI.before hno; have h8 : PDn w3.heap.size JS v8 W := hf 8 (by decide); obtain ⟨y, rfl, hy⟩ := h8; have HY := Lib.hid hy; obtain ⟨f3, f4, rfl, _⟩ := Sl.form hy; have hbW := blk_below HX3.out hC.2; have hq1 := cells_of hbW; have hf1 := not_frozen hbW; have HFn := Lib.hid (put_finD hC.2 hbW HXl.out HY.out); have HKF : Hid (KeepFrom w3.heap.size W _) := keep_puts2 (W := W) (β := w.heap.size + 1) (x := .slice f3 JS.length f4) (y := .slice none 0 0) HXl.out; clear hy hbW hC; clear h0 hd hn hf; go_simp; exact hR _ _ (LastI.at_ HFn.out) HKF.out rfl); (go_simp; refine hK _ ?_; clear hK K))
  (refine walkP_pr (fun K hK => ?_); refine ⟨fun done W hI h0 hd hn hf R hR => ?_, fun v14 => ?_⟩; (have hyes : done 13 = true := hd 13 (by decide); have h12 : PRw w3 (w.heap.size + 2) LM v12 W := hf 12 (by decide); clear h0 hd hn hf; go_simp; exact hR _ _ (hI.past hyes (by decide)) (KeepFrom.of_below (Below.refl _ _)) h12); (go_simp; refine hK _ _ ?_; clear hK K))
  intro done w6 hdone hI hF
  obtain ⟨x6, hbx6, hr6, hg6⟩ := hI.after (hdone 13 (by decide))
  have h14 : PRw w3 (w.heap.size + 2) LM v14 w6 := hF.2
  clear hdone hI hF
  obtain ⟨f1, f2, rfl, _⟩ := Sl.form hr6
  obtain ⟨g1, g2, rfl⟩ := OwnSl.slice h14
  have HR6 : Hid (RdRecs w6 (fun b => w.heap.size ≤ b) (.slice g1 LM.length g2) LM) :=
    OwnSl.sl (OwnSl.monoR h14 fun _ _ _ hr => hr.keep (fun b hb _ => by have h1 : w.heap.size + 2 ≤ b := hb; show _ ≤ _; omega) (fun b hb hl => grow_keep hg6 hl (by have h1 : w.heap.size + 2 ≤ b := hb; omega)) hg6.size) (fun b hb => by have := HB.out.top; show _ ≤ _; omega)
  have Hr6 : Hid (RdDisk w6 (fun b => w.heap.size ≤ b) (.slice f1 JS.length f2) (.slice none 0 0) ⟨JS, []⟩) :=
    ⟨RdBytes.keep hr6 (fun b hb _ => by have h1 : w3.heap.size ≤ b := hb; have := HB.out.top; show _ ≤ _; omega) (fun _ _ _ => rfl) (Nat.le_refl _), nil_bytes _ _⟩
  have HBL : Hid (Below w.heap.size w w6) := below_of_grow HB.out.bel hg6 HB.out.bel.size (by omega)
  have hqs := cells_of hbx6
  clear hr6 hg6 h14
  go_wp2
  refine bodyPost_ret (v := .tuple #[diskV (.slice f1 JS.length f2) (.slice none 0 0), .slice g1 LM.length g2]) ?_ rfl (by rw [HE.out]; exact ⟨_, _, _, rfl, Hr6.out, HR6.out, HBL.out⟩)
  rw [results_cell_tmp rfl]
  go_simp
end Go.Proofs.YthkgjohhbdipcaaGreatDoor
namespace Go.Proofs.YthkgjohhbdipcaaGreatDoor
open Go.RowKit

/-- block bx, of the call's own, holds a disk; what it leads to lies elsewhere. -/
structure DBox (w W : World) (bx : Nat) (u v : Value) (d : TDisk) : Prop where
  bel : Below w.heap.size w W
  ge : w.heap.size ≤ bx
  box : W.heap[bx]? = some (.cells #[u, v] 25)
  rd : RdDisk W (fun b => b ≠ bx) u v d
section
variable {w W W' W1 : World} {bx : Nat} {u v u' v' : Value} {d d' : TDisk} {D : Nat → Prop}
theorem DBox.below (h : DBox w W bx u v d) (hb : Below W.heap.size W W') : DBox w W' bx u v d := ⟨bel_call h.bel hb, h.ge, blk_below h.box hb, RdDisk.below h.rd hb⟩
theorem DBox.new (hb : Below w.heap.size w W) (hr : RdDisk W D u v d) : DBox w (W.alloc (.cells #[u, v] 25)) W.heap.size u v d :=
  ⟨bel_alloc hb _, hb.size, heap_last _ _, RdDisk.below (RdDisk.keep hr (fun b _ hl => by show b ≠ _; omega) (fun _ _ _ => rfl) (Nat.le_refl _)) (bel_alloc (Below.refl _ _) _)⟩
theorem DBox.put (h : DBox w W bx u v d) (hb : Below W.heap.size W W1) (hr : RdDisk W1 (fun b => W.heap.size ≤ b) u' v' d') : DBox w ((W1.setCell ⟨bx, 0, none⟩ u').setCell ⟨bx, 1, none⟩ v') bx u' v' d' := by
  have hlt := (Array.getElem?_eq_some_iff.1 h.box).1
  have hg : W1.grownBy ((W1.setCell ⟨bx, 0, none⟩ u').setCell ⟨bx, 1, none⟩ v') (some bx) := puts2_grow u' v'
  have hb1 := bel_call h.bel hb
  exact ⟨below_of_grow hb1 hg hb1.size h.ge, h.ge, puts2_at u' v' (blk_below h.box hb), RdDisk.keep hr (fun b hb' _ => by have h1 : W.heap.size ≤ b := hb'; show b ≠ bx; omega) (fun b hb' hl => grow_keep hg hl (by have h1 : W.heap.size ≤ b := hb'; omega)) hg.size⟩
theorem DBox.true (h : DBox w W bx u v d) : RdDisk W (fun _ => True) u v d := RdDisk.true h.rd
theorem DBox.cells (h : DBox w W bx u v d) (i : Nat) : W.cell? ⟨bx, i, none⟩ = (#[u, v] : Array Value)[i]? := cells_of h.box i
theorem DBox.free (h : DBox w W bx u v d) (i : Nat) : W.frozen? ⟨bx, i, none⟩ = false := not_frozen h.box i
end
theorem form_n {w : World} {D : Nat → Prop} {v : Value} {l : List UInt8} {n : Nat} (h : RdBytes w D v l) (hn : l.length = n) : ∃ a c, v = .slice a n c := by
  subst hn
  obtain ⟨a, c, hv, _⟩ := Sl.form h
  exact ⟨a, c, hv⟩
end Go.Proofs.YthkgjohhbdipcaaGreatDoor
namespace Go.Proofs.YthkgjohhbdipcaaGreatDoor
open Go.RowKit

theorem fl1 : putE zeroDisk ⟨4, 2, 0, ⟨[], 0⟩⟩ = (⟨[], [115, 104, 117, 116, 32, 50, 10]⟩, 0) := by decide +kernel
theorem fl2 : syncE ⟨[], [115, 104, 117, 116, 32, 50, 10]⟩ = (⟨[115, 104, 117, 116, 32, 50, 10], []⟩, 0) := by decide +kernel
theorem fl3 : putE ⟨[115, 104, 117, 116, 32, 50, 10], []⟩ ⟨4, 3, 0, ⟨[], 0⟩⟩ = (⟨[115, 104, 117, 116, 32, 50, 10], [115, 104, 117, 116, 32, 51, 10]⟩, 0) := by decide +kernel
theorem fl4 : crashE ⟨[115, 104, 117, 116, 32, 50, 10], [115, 104, 117, 116, 32, 51, 10]⟩ 4 = (⟨[115, 104, 117, 116, 32, 50, 10], [115, 104, 117, 116]⟩, 0) := by decide +kernel
theorem fl5 : recoverE ⟨[115, 104, 117, 116, 32, 50, 10], [115, 104, 117, 116]⟩ = (⟨[115, 104, 117, 116, 32, 50, 10], []⟩, [⟨4, 2, 0, ⟨[], 0⟩⟩], 0) := by decide +kernel
set_option maxRecDepth 100000 in
set_option maxHeartbeats 16000000 in
theorem filed_walk (w : World) (hL : Laid w) : Calls Tryz.prog 38 #[] w fun e w' => e = .returned (.bool true) ∧ Below w.heap.size w w' := by
  have HL := Lib.hid hL
  clear hL
  go_enter Tryz.func38, Tryz.ntmps38
  go_wp2_with fail
  refine (dput_any (.slice none 0 0) (.slice none 0 0) (.slice none 0 0) zeroDisk ⟨4, 2, 0, ⟨[], 0⟩⟩ (fun _ => True) (fun _ => True) _ (nil_disk _ _) (nil_rulesP _ _) HL.out).mono ?_
  rw [fl1]
  rintro e w1 ⟨u1, v1, rfl, hr1, hb1⟩
  obtain ⟨a1, c1, rfl⟩ := form_n (n := 0) hr1.1 rfl
  obtain ⟨b1, d1, rfl⟩ := form_n (n := 7) hr1.2 rfl
  have HD1 := Lib.hid (DBox.new hb1 hr1)
  clear hr1 hb1
  have hq := HD1.out.cells
  dsimp only
  go_wp2_with fail
  clear hq
  refine (dsync_any _ _ ⟨[], [115, 104, 117, 116, 32, 50, 10]⟩ _ _ HD1.out.rd (HL.out.below HD1.out.bel)).mono ?_
  rw [fl2]
  rintro e w2 ⟨u2, v2, rfl, hr2, hb2⟩
  obtain ⟨a2, c2, rfl⟩ := form_n (n := 7) hr2.1 rfl
  obtain ⟨b2, d2, rfl⟩ := form_n (n := 0) hr2.2 rfl
  have hqo := cells_of (blk_below HD1.out.box hb2)
  have hfo := not_frozen (blk_below HD1.out.box hb2)
  have HD2 := Lib.hid (HD1.out.put hb2 hr2)
  have hq := HD2.out.cells
  clear hr2 hb2
  dsimp only
  go_wp2_with fail
  clear hq hqo hfo
  refine (dput_any _ _ (.slice none 0 0) ⟨[115, 104, 117, 116, 32, 50, 10], []⟩ ⟨4, 3, 0, ⟨[], 0⟩⟩ _ (fun _ => True) _ HD2.out.rd (nil_rulesP _ _) (HL.out.below HD2.out.bel)).mono ?_
  rw [fl3]
  rintro e w3 ⟨u3, v3, rfl, hr3, hb3⟩
  obtain ⟨a3, c3, rfl⟩ := form_n (n := 7) hr3.1 rfl
  obtain ⟨b3, d3, rfl⟩ := form_n (n := 7) hr3.2 rfl
  have hqo := cells_of (blk_below HD2.out.box hb3)
  have hfo := not_frozen (blk_below HD2.out.box hb3)
  have HD3 := Lib.hid (HD2.out.put hb3 hr3)
  have hq := HD3.out.cells
  clear hr3 hb3
  dsimp only
  go_wp2_with fail
  clear hq hqo hfo
  refine (dcrash_any _ _ ⟨[115, 104, 117, 116, 32, 50, 10], [115, 104, 117, 116, 32, 51, 10]⟩ 4 _ _ HD3.out.rd (HL.out.below HD3.out.bel)).mono ?_
  rw [fl4]
  rintro e w4 ⟨u4, v4, rfl, hr4, hb4⟩
  obtain ⟨a4, c4, rfl⟩ := form_n (n := 7) hr4.1 rfl
  obtain ⟨b4, d4, rfl⟩ := form_n (n := 4) hr4.2 rfl
  have hqo := cells_of (blk_below HD3.out.box hb4)
  have hfo := not_frozen (blk_below HD3.out.box hb4)
  have HD4 := Lib.hid (HD3.out.put hb4 hr4)
  have hq := HD4.out.cells
  clear hr4 hb4
  dsimp only
  go_wp2_with fail
  clear hq hqo hfo
  refine (drecover_any _ _ ⟨[115, 104, 117, 116, 32, 50, 10], [115, 104, 117, 116]⟩ _ _ HD4.out.rd (HL.out.below HD4.out.bel)).mono ?_
  rw [fl5]
  rintro e w5 ⟨u5, v5, vl, rfl, hr5, hl5, hb5⟩
  obtain ⟨a5, c5, rfl⟩ := form_n (n := 7) hr5.1 rfl
  obtain ⟨b5, d5, rfl⟩ := form_n (n := 0) hr5.2 rfl
  have hqo := cells_of (blk_below HD4.out.box hb5)
  have hfo := not_frozen (blk_below HD4.out.box hb5)
  have HD5 := Lib.hid (HD4.out.put hb5 hr5)
  have hq := HD5.out.cells
  obtain ⟨al, cl, rfl, _⟩ := Sl.form hl5
  have hlen : ([⟨4, 2, 0, ⟨[], 0⟩⟩] : List TRec).length = 1 := rfl
  obtain ⟨bl, ol, rfl, hbl, _⟩ := Sl.at_ hl5 (by decide)
  have HW5 := Lib.hid hb5
  have hbx4 : w4.heap.size + 0 = w4.heap.size := rfl
  have hcl := (RdRecs.cells hl5 (i := 0) (by decide))
  obtain ⟨ax, cx, _, hk1, _, _, _, _⟩ := hcl
  have hbx : w4.heap.size ≤ w4.heap.size := Nat.le_refl _
  have Hne : Hid (bl ≠ w1.heap.size) := by
    have h1 : _ ≤ bl := hbl
    have h2 := (Array.getElem?_eq_some_iff.1 HD4.out.box).1
    show bl ≠ _
    omega
  have hk2 : (((w5.setCell ⟨w1.heap.size, 0, none⟩ (.slice a5 7 c5)).setCell ⟨w1.heap.size, 1, none⟩ (.slice b5 0 d5))).cell? ⟨bl, ol + 0 * 5 + 1, none⟩ = some (.int .i64 2) := by
    rw [World.cell?_of_block (w := w5)]
    · exact hk1
    · show _ = _
      rw [set_other (by exact Hne.out), set_other (by exact Hne.out)]
  rw [Nat.zero_mul, Nat.add_zero] at hk2
  have hcv := bytes_string HD5.out.rd.1
  have hcmp : ((⟨([115, 104, 117, 116, 32, 50, 10]).toArray⟩ : ByteArray).toList == [115, 104, 117, 116, 32, 50, 10]) = true := by rw [ByteArray.toList_eq]; rfl
  have HBf := Lib.hid HD5.out.bel
  clear hr5 hb5 hl5 hk1 hbl hbx hbx4
  dsimp only
  go_wp2
  go_ret
  exact ⟨rfl, HBf.out⟩
end Go.Proofs.YthkgjohhbdipcaaGreatDoor
namespace Go.Proofs.YthkgjohhbdipcaaGreatDoor
open Go.RowKit

set_option maxRecDepth 100000 in
set_option maxHeartbeats 4000000 in
theorem dsame_any (u v u' v' : Value) (x y : TDisk) (w : World) (h : RdDisk w (fun _ => True) u v x) (h' : RdDisk w (fun _ => True) u' v' y) :
    Calls Tryz.prog 40 #[diskV u v, diskV u' v'] w fun e w' => e = .returned (.bool (decide (x = y))) ∧ Below w.heap.size w w' := by
  have H := Lib.hid h
  have H' := Lib.hid h'
  obtain ⟨a1, c1, rfl, _⟩ := Sl.form h.1
  obtain ⟨a2, c2, rfl, _⟩ := Sl.form h.2
  obtain ⟨b1, d1, rfl, _⟩ := Sl.form h'.1
  obtain ⟨b2, d2, rfl, _⟩ := Sl.form h'.2
  clear h h'
  obtain ⟨xs, xw⟩ := x
  obtain ⟨ys, yw⟩ := y
  dsimp only at H H' ⊢
  obtain ⟨q, hq⟩ : ∃ q, decide ((⟨xs, xw⟩ : TDisk) = ⟨ys, yw⟩) = q := ⟨_, rfl⟩
  have HD : Hid (q = (decide (xs = ys) && decide (xw = yw))) := by show _ = _; rw [← hq]; simp
  rw [hq]
  clear hq
  have HB := Lib.hid (Bx.two (w := w) (o := .cells #[.slice a1 xs.length c1, .slice a2 xw.length c2] 25) (o' := .cells #[.slice b1 ys.length d1, .slice b2 yw.length d2] 25))
  go_enter Tryz.func40, Tryz.ntmps40
  go_wp2_with fail
  refine (eqbytes_any _ _ xs ys _ _ (RdBytes.below H.out.1 HB.out.bel) (RdBytes.below H'.out.1 HB.out.bel)).mono ?_
  rintro e w1 ⟨rfl, hb1⟩
  have HB1 := Lib.hid (HB.out.below hb1)
  clear hb1
  by_cases hs : xs = ys
  · have d1 : decide (xs = ys) = true := decide_eq_true hs
    have HD' : Hid (q = decide (xw = yw)) := by show _ = _; rw [HD.out, d1]; simp
    rw [d1]
    clear hs HD d1
    have hq0 := HB1.out.cells0
    have hq1 := HB1.out.cells1
    go_wp2_with fail
    refine (eqbytes_any _ _ xw yw _ _ (RdBytes.below H.out.2 HB1.out.bel) (RdBytes.below H'.out.2 HB1.out.bel)).mono ?_
    rintro e w2 ⟨rfl, hb2⟩
    have HBf := Lib.hid (HB1.out.below hb2).bel
    clear hq0 hq1 hb2
    go_wp2
    go_ret
    exact ⟨by rw [HD'.out]; rfl, HBf.out⟩
  · have d1 : decide (xs = ys) = false := decide_eq_false hs
    have HD' : Hid (q = false) := by show _ = _; rw [HD.out, d1]; simp
    have HBf := Lib.hid HB1.out.bel
    rw [d1]
    clear hs HD d1
    go_wp2
    go_ret
    exact ⟨by rw [HD'.out]; rfl, HBf.out⟩
set_option maxRecDepth 100000 in
set_option maxHeartbeats 4000000 in
theorem rdsame_any (u v u' v' : Value) (x y : TDisk) (w : World) (h : RdDisk w (fun _ => True) u v x) (h' : RdDisk w (fun _ => True) u' v' y) :
    Calls Tryz.prog 41 #[diskV u v, diskV u' v'] w fun e w' => e = .returned (.bool (decide (x = y))) ∧ Below w.heap.size w w' := by
  have H := Lib.hid h
  have H' := Lib.hid h'
  obtain ⟨a1, c1, rfl, _⟩ := Sl.form h.1
  obtain ⟨a2, c2, rfl, _⟩ := Sl.form h.2
  obtain ⟨b1, d1, rfl, _⟩ := Sl.form h'.1
  obtain ⟨b2, d2, rfl, _⟩ := Sl.form h'.2
  clear h h'
  obtain ⟨xs, xw⟩ := x
  obtain ⟨ys, yw⟩ := y
  dsimp only at H H' ⊢
  obtain ⟨q, hq⟩ : ∃ q, decide ((⟨xs, xw⟩ : TDisk) = ⟨ys, yw⟩) = q := ⟨_, rfl⟩
  have HD : Hid (q = (decide (xs = ys) && decide (xw = yw))) := by show _ = _; rw [← hq]; simp
  rw [hq]
  clear hq
  have HB := Lib.hid (Bx.two (w := w) (o := .cells #[.slice a1 xs.length c1, .slice a2 xw.length c2] 25) (o' := .cells #[.slice b1 ys.length d1, .slice b2 yw.length d2] 25))
  go_enter Tryz.func41, Tryz.ntmps41
  go_wp2_with fail
  refine (eqbytes_any _ _ xs ys _ _ (RdBytes.below H.out.1 HB.out.bel) (RdBytes.below H'.out.1 HB.out.bel)).mono ?_
  rintro e w1 ⟨rfl, hb1⟩
  have HB1 := Lib.hid (HB.out.below hb1)
  clear hb1
  by_cases hs : xs = ys
  · have d1 : decide (xs = ys) = true := decide_eq_true hs
    have HD' : Hid (q = decide (xw = yw)) := by show _ = _; rw [HD.out, d1]; simp
    rw [d1]
    clear hs HD d1
    have hq0 := HB1.out.cells0
    have hq1 := HB1.out.cells1
    go_wp2_with fail
    refine (eqbytes_any _ _ xw yw _ _ (RdBytes.below H.out.2 HB1.out.bel) (RdBytes.below H'.out.2 HB1.out.bel)).mono ?_
    rintro e w2 ⟨rfl, hb2⟩
    have HBf := Lib.hid (HB1.out.below hb2).bel
    clear hq0 hq1 hb2
    go_wp2
    go_ret
    exact ⟨by rw [HD'.out]; rfl, HBf.out⟩
  · have d1 : decide (xs = ys) = false := decide_eq_false hs
    have HD' : Hid (q = false) := by show _ = _; rw [HD.out, d1]; simp
    have HBf := Lib.hid HB1.out.bel
    rw [d1]
    clear hs HD d1
    go_wp2
    go_ret
    exact ⟨by rw [HD'.out]; rfl, HBf.out⟩
end Go.Proofs.YthkgjohhbdipcaaGreatDoor
namespace Go.Proofs.YthkgjohhbdipcaaGreatDoor
open Go.RowKit Go.ChangeShapes Go.WideShapes Go.Deep
set_option maxRecDepth 100000

section
variable {H : Type} {enc : TypeId × Value → H} {w : World} {base : Nat} {spare : Nat → Bool} {held : Bool}
theorem trod_ins {fuel : Nat} {cs : List Value} {x : DataW H × List MemPlace} (hl : cs.length = 4) (h : DataW.trod enc Tryz.prog w base spare held fuel 141 cs = some x) : ∃ a : TIns, insR a cs := by
  have hfs : (Tryz.prog.underlying 141).map (fun d => match d with | .struct fs => fs.map (fun f => (f.type, f.offset)) | _ => #[]) = some #[(3, 0), (3, 1), (3, 2), (3, 3)] := by kernel_rfl
  obtain ⟨fs, he⟩ : ∃ fs, Tryz.prog.underlying 141 = some (.struct fs) := ⟨_, Tryz.underlying141⟩
  rw [he] at hfs
  simp only [Option.map_some, Option.some.injEq] at hfs
  have hc : Tryz.prog.cellsOf 3 = 1 := by kernel_rfl
  obtain ⟨n0, e0⟩ := trod_field_int (i := 0) he hfs h rfl Tryz.underlying3 hc
  obtain ⟨n1, e1⟩ := trod_field_int (i := 1) he hfs h rfl Tryz.underlying3 hc
  obtain ⟨n2, e2⟩ := trod_field_int (i := 2) he hfs h rfl Tryz.underlying3 hc
  obtain ⟨n3, e3⟩ := trod_field_int (i := 3) he hfs h rfl Tryz.underlying3 hc
  match cs, hl with
  | [c0, c1, c2, c3], _ =>
    simp at e0 e1 e2 e3
    exact ⟨⟨n0, n1, n2, n3⟩, by simp [insR, e0, e1, e2, e3]⟩
theorem trod_filter {fuel : Nat} {cs : List Value} {x : DataW H × List MemPlace} (_hl : cs.length = 1) (h : DataW.trod enc Tryz.prog w base spare held fuel 98 cs = some x) : ∃ f, chainR w (fun _ => True) f cs := by
  obtain ⟨v, xs, hcs, hsl⟩ := sl_of_trod (sz := 4) Tryz.underlying98 (by kernel_rfl) (by omega) (fun _ _ _ hl hx => trod_ins hl hx) h
  exact ⟨xs, v, hcs, hsl⟩
theorem open_chain {r : Reach} {b0 : Nat} {v : Value} {d : DataW H} {ps : List MemPlace}
    (hv : Value.okWide Tryz.prog w r b0 50 v) (h : DataW.Trod enc Tryz.prog w base spare held 50 v d ps) : ∃ l, RdChain w (fun _ => True) v l := by
  obtain ⟨a, len, cap, rfl⟩ := okWide_slice Tryz.underlying50 hv
  obtain ⟨fuel, hf⟩ := h
  obtain ⟨v', xs, hcs, hsl⟩ := sl_of_trod (sz := 1) Tryz.underlying50 (by kernel_rfl) (by omega) (fun _ _ _ hl hx => trod_filter hl hx) hf
  simp [Value.cells] at hcs
  rw [hcs]
  exact ⟨xs, hsl⟩
end
end Go.Proofs.YthkgjohhbdipcaaGreatDoor
namespace Go.Proofs.YthkgjohhbdipcaaGreatDoor
open Go.RowKit Go.ChangeShapes Go.WideShapes Go.Deep
set_option maxRecDepth 100000

section
variable {H : Type} {enc : TypeId × Value → H} {w : World} {base : Nat} {spare : Nat → Bool} {held : Bool}
theorem trod_cell {fuel : Nat} {cs : List Value} {x : DataW H × List MemPlace} (hl : cs.length = 4) (h : DataW.trod enc Tryz.prog w base spare held fuel 52 cs = some x) : ∃ a : TCell, cellR w (fun _ => True) a cs := by
  have hfs : (Tryz.prog.underlying 52).map (fun d => match d with | .struct fs => fs.map (fun f => (f.type, f.offset)) | _ => #[]) = some #[(4, 0), (50, 1), (38, 2)] := by kernel_rfl
  obtain ⟨fs, he⟩ : ∃ fs, Tryz.prog.underlying 52 = some (.struct fs) := ⟨_, Tryz.underlying52⟩
  rw [he] at hfs
  simp only [Option.map_some, Option.some.injEq] at hfs
  have hc : Tryz.prog.cellsOf 4 = 1 := by kernel_rfl
  obtain ⟨n0, y0, h0⟩ := trod_field (i := 0) he hfs h rfl
  rw [hc] at h0
  obtain ⟨ob, e0, _⟩ := DataW.trod_bool Tryz.underlying4 h0
  obtain ⟨n1, y1, h1⟩ := trod_field (i := 1) he hfs h rfl
  have hc1 : Tryz.prog.cellsOf 50 = 1 := by kernel_rfl
  rw [hc1] at h1
  obtain ⟨v1, ch, e1, hsl⟩ := sl_of_trod (sz := 1) Tryz.underlying50 (by kernel_rfl) (by omega) (fun _ _ _ hl hx => trod_filter hl hx) h1
  obtain ⟨n2, y2, h2⟩ := trod_field (i := 2) he hfs h rfl
  have hc2 : Tryz.prog.cellsOf 38 = 2 := by kernel_rfl
  rw [hc2] at h2
  match cs, hl with
  | [c0, c1, c2, c3], _ =>
    obtain ⟨p, v, hcs, hr⟩ := trod_pol (by simp) h2
    simp at e0 e1 hcs
    exact ⟨⟨ob, ch, p⟩, v1, v, by simp [e0, e1, hcs], hsl, hr⟩
theorem open_cells {r : Reach} {b0 : Nat} {v : Value} {d : DataW H} {ps : List MemPlace}
    (hv : Value.okWide Tryz.prog w r b0 22 v) (h : DataW.Trod enc Tryz.prog w base spare held 22 v d ps) : ∃ l, RdCells w (fun _ => True) v l := by
  obtain ⟨a, len, cap, rfl⟩ := okWide_slice Tryz.underlying22 hv
  obtain ⟨fuel, hf⟩ := h
  obtain ⟨v', xs, hcs, hsl⟩ := sl_of_trod (sz := 4) Tryz.underlying22 (by kernel_rfl) (by omega) (fun _ _ _ hl hx => trod_cell hl hx) hf
  simp [Value.cells] at hcs
  rw [hcs]
  exact ⟨xs, hsl⟩
end
end Go.Proofs.YthkgjohhbdipcaaGreatDoor
namespace Go.Proofs.YthkgjohhbdipcaaGreatDoor

structure TWorld where
  cells : List TCell
  d : TDisk
  up : Bool
deriving DecidableEq
structure THap where
  kind : Int
  cell : Int
  from_ : Int
  p : TPol
deriving DecidableEq
def newWorld : TWorld := ⟨newCells, zeroDisk, true⟩
def zeroWorld : TWorld := ⟨[], zeroDisk, false⟩
/-- the records that count for what a world's sessions are. -/
def recsOf (w : TWorld) : List TRec := if w.up then (recoverE w.d).2.1 else []
/-- chapter 13's Check. -/
def worldE (w : TWorld) : Int := if (recoverE w.d).2.2 ≠ 0 then (recoverE w.d).2.2 else if w.up = true ∧ w.d.wait ≠ [] then 4 else
  if (replayE (recsOf w)).2 ≠ 0 then (replayE (recsOf w)).2 else if (replayE (recsOf w)).1 = w.cells then 0 else 4
def noteE (w : TWorld) (r : TRec) (tear : Bool) (kept : Int) : TWorld × Int :=
  if (nextE w.cells r).2 ≠ 0 then (w, (nextE w.cells r).2) else if (putE w.d r).2 ≠ 0 then (w, (putE w.d r).2) else
    if tear then
      (if (crashE (putE w.d r).1 (max 0 (min kept (putE w.d r).1.wait.length))).2 ≠ 0 then (w, (crashE (putE w.d r).1 (max 0 (min kept (putE w.d r).1.wait.length))).2)
        else (⟨newCells, (crashE (putE w.d r).1 (max 0 (min kept (putE w.d r).1.wait.length))).1, false⟩, 0))
    else if (syncE (putE w.d r).1).2 ≠ 0 then (w, (syncE (putE w.d r).1).2) else (⟨(nextE w.cells r).1, (syncE (putE w.d r).1).1, w.up⟩, 0)
/-- what a happening does: the world as it was, and an error, where it can't happen. -/
def happenE (w : TWorld) (x : THap) : TWorld × Int :=
  if x.kind < 1 ∨ 7 < x.kind then (w, 4) else if w.up = decide (x.kind = 6) then (w, 6) else
  if x.kind = 5 then (⟨newCells, w.d, false⟩, 0) else
  if x.kind = 6 then (if (recoverE w.d).2.2 ≠ 0 then (w, (recoverE w.d).2.2) else if (replayE (recoverE w.d).2.1).2 ≠ 0 then (w, (replayE (recoverE w.d).2.1).2) else (⟨(replayE (recoverE w.d).2.1).1, (recoverE w.d).1, true⟩, 0)) else
  if x.kind = 7 then noteE w ⟨2, x.cell, 0, x.p⟩ true x.from_ else
  if x.kind = 3 then noteE w ⟨3, x.cell, x.from_, zeroPol⟩ false 0 else
  if x.kind = 4 then noteE w ⟨4, x.cell, 0, zeroPol⟩ false 0 else noteE w ⟨x.kind, x.cell, 0, x.p⟩ false 0
/-- chapter 13's Do. -/
def doE (w : TWorld) (x : THap) : TWorld × Int := if worldE w ≠ 0 then (zeroWorld, worldE w) else if (happenE w x).2 ≠ 0 then (zeroWorld, (happenE w x).2) else ((happenE w x).1, 0)
def wrunGo : TWorld → List THap → TWorld × List Int
  | w, [] => (w, [])
  | w, x :: l => ((wrunGo (happenE w x).1 l).1, (happenE w x).2 :: (wrunGo (happenE w x).1 l).2)
/-- chapter 13's Run. -/
def wrunE (w : TWorld) (l : List THap) : TWorld × List Int × Int := if worldE w ≠ 0 then (zeroWorld, [], worldE w) else if 60 < l.length then (zeroWorld, [], 2) else ((wrunGo w l).1, (wrunGo w l).2, 0)
/-- chapter 13's Ask. -/
def wAskE (w : TWorld) (cell : Int) (x : TCall) : Int × Int := if worldE w ≠ 0 then (0, worldE w) else if cell < 0 ∨ (w.cells.length : Int) ≤ cell then (0, 5) else
  if (cellAt w.cells cell).open_ then askE (cellAt w.cells cell).chain x else (0, 6)

/-! ### a world and its log -/
/-- the log of a right world. -/
structure OkW (w : TWorld) (l : List TRec) : Prop where
  recs : ∀ r ∈ l, recE r = 0
  most : l.length ≤ 40
  safe : w.d.safe = logW l
  size : (logW l).length + w.d.wait.length ≤ 60000
  up : w.up = true → w.d.wait = [] ∧ replayE l = (w.cells, 0)
  down : w.up = false → w.cells = newCells
theorem replay_nil : replayE [] = (newCells, 0) := rfl
theorem OkW.disk {w : TWorld} {l : List TRec} (h : OkW w l) : diskE w.d = 0 ∧ linesOf w.d.safe 40 = (l, (logW l).length, 0) := by
  obtain ⟨a, b⟩ := diskE_log (w := w.d.wait) h.recs h.most h.size
  rw [← h.safe] at a b
  rw [h.safe] at b
  refine ⟨a, ?_⟩
  rw [h.safe]; exact b
theorem OkW.recover {w : TWorld} {l : List TRec} (h : OkW w l) : recoverE w.d = (⟨logW l ++ w.d.wait.take (linesOf w.d.wait (40 - l.length)).2.1, []⟩, l ++ (linesOf w.d.wait (40 - l.length)).1, 0) := by
  obtain ⟨a, b⟩ := h.disk
  unfold recoverE restOf
  rw [if_neg (by rw [a]; simp), b, h.safe]
theorem OkW.recover_up {w : TWorld} {l : List TRec} (h : OkW w l) (hu : w.d.wait = []) : recoverE w.d = (⟨logW l, []⟩, l, 0) := by
  rw [h.recover, hu, lines_nil]; simp
theorem world_ok {w : TWorld} {l : List TRec} (h : OkW w l) : worldE w = 0 := by
  unfold worldE recsOf
  rw [if_neg (by rw [h.recover]; simp)]
  cases hu : w.up with
  | true =>
    obtain ⟨a, b⟩ := h.up hu
    rw [if_neg (by rw [a]; simp), h.recover_up a]
    simp [b]
  | false =>
    rw [if_neg (by simp)]
    simp [replay_nil, h.down hu]
theorem ok_world {w : TWorld} (h : worldE w = 0) : ∃ l, OkW w l := by
  unfold worldE at h
  split at h
  · rename_i h1; exact absurd h h1
  · rename_i h1
    have hd : diskE w.d = 0 := by
      by_cases e : diskE w.d = 0
      · exact e
      · exfalso; apply h1; unfold recoverE; rw [if_pos e]; exact e
    obtain ⟨a, b, c, d⟩ := diskE_ok hd
    split at h
    · simp at h
    · rename_i h2
      split at h
      · rename_i h3; exact absurd h h3
      · rename_i h3
        split at h
        · rename_i h4
          refine ⟨_, b, c, d, by rw [← d]; exact a, fun hu => ?_, fun hu => ?_⟩
          · have hw : w.d.wait = [] := by
              by_cases e : w.d.wait = []
              · exact e
              · exact absurd ⟨hu, e⟩ h2
            have hr : recsOf w = (linesOf w.d.safe 40).1 := by
              unfold recsOf recoverE restOf
              rw [if_pos hu, if_neg (by rw [hd]; simp), hw, lines_nil]; simp
            rw [hr] at h3 h4
            exact ⟨hw, Prod.ext h4 (by simpa using h3)⟩
          · have hr : recsOf w = [] := by unfold recsOf; rw [hu]; rfl
            rw [hr, replay_nil] at h4
            exact h4.symm
        · simp at h
theorem OkW.cellsE {w : TWorld} {l : List TRec} (h : OkW w l) (hu : w.up = true) : cellsE w.cells = 0 ∧ ∀ c ∈ w.cells, Means c := by
  obtain ⟨_, b⟩ := h.up hu
  obtain ⟨_, _, m1, m2⟩ := replayE_ok (l := l) (by rw [b])
  rw [b] at m1 m2
  exact ⟨m2, m1⟩
theorem replay_snoc {l : List TRec} {c : List TCell} (h : replayE l = (c, 0)) (r : TRec) (hl : l.length < 40) : replayE (l ++ [r]) = if (nextE c r).2 ≠ 0 then ([], (nextE c r).2) else ((nextE c r).1, 0) := by
  have h0 : replayGo l newCells = (c, 0) := by
    have := (replayE_ok (l := l) (by rw [h])).2.1
    rw [← this, h]
  unfold replayE
  rw [if_neg (by simp; omega), replayGo_append, h0]
  simp only [ne_eq, not_true_eq_false, if_false]
  unfold replayGo
  split
  · rfl
  · rfl

/-! ### records noted -/
theorem putE_ok {w : TWorld} {l : List TRec} (h : OkW w l) (hu : w.up = true) {r : TRec} (hp : (putE w.d r).2 = 0) : recE r = 0 ∧ (logW l).length + (lineW r).length ≤ 60000 ∧ putE w.d r = (⟨logW l, lineW r⟩, 0) := by
  obtain ⟨a, _⟩ := h.disk
  obtain ⟨b, _⟩ := h.up hu
  unfold putE at hp ⊢
  rw [if_neg (by rw [a]; simp)] at hp ⊢
  split at hp
  · rename_i h1; exact absurd hp h1
  · rename_i h1
    split at hp
    · simp at hp
    · rename_i h2
      rw [if_neg h1, if_neg h2]
      rw [h.safe, b] at h2
      refine ⟨by simpa using h1, ?_, ?_⟩
      · simp [lineW] at h2 ⊢; omega
      · rw [b, h.safe]; rfl
theorem syncE_put {l : List TRec} {r : TRec} (hl : ∀ x ∈ l, recE x = 0) (hm : l.length ≤ 40) (hr : recE r = 0) (hs : (logW l).length + (lineW r).length ≤ 60000) : syncE ⟨logW l, lineW r⟩ = if l.length < 40 then (⟨logW (l ++ [r]), []⟩, 0) else (zeroDisk, 2) := by
  obtain ⟨a, _⟩ := diskE_log (w := lineW r) hl hm hs
  have e : logW (l ++ [r]) = logW l ++ lineW r := by rw [logW_append]; simp [logW]
  unfold syncE
  rw [if_neg (by rw [a]; simp)]
  dsimp only
  split
  · rename_i h
    split
    · rename_i h4
      exfalso
      apply h
      rw [← e]
      exact (diskE_log (l := l ++ [r]) (w := []) (fun x hx => by
        rcases List.mem_append.1 hx with hx | hx
        · exact hl x hx
        · simp at hx; subst hx; exact hr) (by simp; omega) (by rw [e]; simp; omega)).1
    · rename_i h4
      have h40 : l.length = 40 := by omega
      have : diskE ⟨logW l ++ lineW r, []⟩ = 2 := by
        have h0 : linesOf (logW l ++ lineW r) 40 = (l ++ (linesOf (lineW r) (40 - l.length)).1, (logW l).length + (linesOf (lineW r) (40 - l.length)).2.1, (linesOf (lineW r) (40 - l.length)).2.2) := lines_log l (lineW r) 40 hl hm
        have h1 : linesOf (lineW r) 0 = ([], 0, 2) := by
          have e2 : lineW r = recW r ++ 10 :: [] := rfl
          rw [e2, lines_cons (rec_no10 hr), recW_read hr, if_neg (by simp), if_pos rfl]
        unfold diskE
        dsimp only
        rw [if_neg (by simp; omega), h0, h40, h1]
      rw [this]
  · rename_i h
    rw [if_pos]
    · rw [e]
    · rcases Nat.lt_or_ge l.length 40 with h4 | h4
      · exact h4
      · exfalso
        apply h
        have h40 : l.length = 40 := by omega
        have h0 : linesOf (logW l ++ lineW r) 40 = (l ++ (linesOf (lineW r) (40 - l.length)).1, (logW l).length + (linesOf (lineW r) (40 - l.length)).2.1, (linesOf (lineW r) (40 - l.length)).2.2) := lines_log l (lineW r) 40 hl hm
        have h1 : linesOf (lineW r) 0 = ([], 0, 2) := by
          have e2 : lineW r = recW r ++ 10 :: [] := rfl
          rw [e2, lines_cons (rec_no10 hr), recW_read hr, if_neg (by simp), if_pos rfl]
        unfold diskE
        dsimp only
        rw [if_neg (by simp; omega), h0, h40, h1]
        simp
/-- a record noted: the log has it too. -/
theorem note_ok {w : TWorld} {l : List TRec} (h : OkW w l) (hu : w.up = true) {r : TRec} {k : Int} (hn : (noteE w r false k).2 = 0) : (nextE w.cells r).2 = 0 ∧ l.length < 40 ∧ noteE w r false k = (⟨(nextE w.cells r).1, ⟨logW (l ++ [r]), []⟩, true⟩, 0) ∧ OkW (noteE w r false k).1 (l ++ [r]) := by
  unfold noteE at hn ⊢
  split at hn
  · rename_i h1; exact absurd hn h1
  · rename_i h1
    split at hn
    · rename_i h2; exact absurd hn h2
    · rename_i h2
      obtain ⟨p1, p2, p3⟩ := putE_ok h hu (r := r) (by simpa using h2)
      have hs := syncE_put h.recs h.most p1 p2
      rw [if_neg (by simp)] at hn
      rw [if_neg h1, if_neg h2, if_neg (by simp)]
      rw [p3] at hn ⊢
      dsimp only at hn ⊢
      rw [hs] at hn ⊢
      by_cases h4 : l.length < 40
      · rw [if_pos h4] at hn ⊢
        rw [if_neg (by simp), hu]
        refine ⟨by simpa using h1, h4, rfl, ?_⟩
        have e : logW (l ++ [r]) = logW l ++ lineW r := by rw [logW_append]; simp [logW]
        refine ⟨fun x hx => ?_, by simp; omega, rfl, by rw [e]; simp; omega, fun _ => ⟨rfl, ?_⟩, fun h => by simp at h⟩
        · rcases List.mem_append.1 hx with hx | hx
          · exact h.recs x hx
          · simp at hx; subst hx; exact p1
        · rw [replay_snoc (h.up hu).2 r h4, if_neg h1]
      · rw [if_neg h4] at hn
        simp at hn
/-- a record torn: what is there of it is all, or nothing. -/
theorem tear_ok {w : TWorld} {l : List TRec} (h : OkW w l) (hu : w.up = true) {r : TRec} {k : Int} (hn : (noteE w r true k).2 = 0) :
    (nextE w.cells r).2 = 0 ∧ recE r = 0 ∧ ∃ t, noteE w r true k = (⟨newCells, ⟨logW l, t⟩, false⟩, 0) ∧ OkW (noteE w r true k).1 l ∧
      ((linesOf t (40 - l.length)).1 = [] ∧ (linesOf t (40 - l.length)).2.1 = 0 ∨ l.length < 40 ∧ (logW l).length + (lineW r).length ≤ 60000 ∧ (linesOf t (40 - l.length)).1 = [r] ∧ t.take (linesOf t (40 - l.length)).2.1 = lineW r) := by
  unfold noteE at hn ⊢
  split at hn
  · rename_i h1; exact absurd hn h1
  · rename_i h1
    split at hn
    · rename_i h2; exact absurd hn h2
    · rename_i h2
      obtain ⟨p1, p2, p3⟩ := putE_ok h hu (r := r) (by simpa using h2)
      rw [if_pos rfl] at hn
      rw [if_neg h1, if_neg h2, if_pos rfl]
      rw [p3] at hn ⊢
      dsimp only at hn ⊢
      have hkn : ∃ n : Nat, max 0 (min k ((lineW r).length : Int)) = n ∧ n ≤ (lineW r).length := ⟨(max 0 (min k ((lineW r).length : Int))).toNat, by omega, by omega⟩
      obtain ⟨n, hn1, hn2⟩ := hkn
      have hc : crashE ⟨logW l, lineW r⟩ (max 0 (min k ((lineW r).length : Int))) = (⟨logW l, (lineW r).take n⟩, 0) := by
        unfold crashE
        rw [if_neg (by rw [(diskE_log (w := lineW r) h.recs h.most p2).1]; simp), hn1, if_neg (by dsimp only; omega)]
        rfl
      rw [hc] at hn ⊢
      rw [if_neg (by simp)]
      refine ⟨by simpa using h1, p1, (lineW r).take n, rfl, ⟨h.recs, h.most, rfl, by simp; omega, fun h => by simp at h, fun _ => rfl⟩, ?_⟩
      by_cases h4 : l.length < 40
      · have e : logW [r] = lineW r := by simp [logW]
        obtain ⟨j, hj, i1, i2⟩ := lines_take [r] n (40 - l.length) (by simpa using p1) (by simp; omega)
        rw [e] at i1 i2
        simp only [List.length_cons, List.length_nil] at hj
        obtain ⟨_, _, t, i3, i4, _⟩ := linesOf_spec ((lineW r).take n) (40 - l.length)
        rcases Nat.eq_zero_or_pos j with rfl | h0
        · left; rw [i1, i2]; simp [logW]
        · right
          obtain rfl : j = 1 := by omega
          rw [i1] at i3 i4
          refine ⟨h4, p2, by rw [i1]; rfl, ?_⟩
          have e1 : List.take 1 [r] = [r] := rfl
          rw [e1, e] at i3
          rw [i2, e1, e]
          rw [i3, List.take_left']
          rfl
      · left
        have h0 : 40 - l.length = 0 := by omega
        rw [h0]
        obtain ⟨_, i2, t, i3, i4, _⟩ := linesOf_spec ((lineW r).take n) 0
        have e : (linesOf ((lineW r).take n) 0).1 = [] := List.length_eq_zero_iff.1 (by omega)
        refine ⟨e, ?_⟩
        rw [i4, e]; rfl

/-! ### happenings -/
/-- what sessions a world has, when it is up again. -/
def later (w : TWorld) : List TCell × Int := replayE (recoverE w.d).2.1
theorem later_up {w : TWorld} {l : List TRec} (h : OkW w l) (hu : w.up = true) : later w = (w.cells, 0) := by
  obtain ⟨a, b⟩ := h.up hu
  unfold later
  rw [h.recover_up a]; exact b
/-- a power cut and a boot: the world as it was. -/
theorem boot_ok {w : TWorld} {l : List TRec} (h : OkW w l) : (later w).2 = 0 → ∃ l', OkW ⟨(later w).1, (recoverE w.d).1, true⟩ l' := by
  intro hl
  obtain ⟨i1, i2, t, i3, i4, _⟩ := linesOf_spec w.d.wait (40 - l.length)
  have hr := h.recover
  have e : w.d.wait.take (linesOf w.d.wait (40 - l.length)).2.1 = logW (linesOf w.d.wait (40 - l.length)).1 := by
    rw [i4]
    generalize (linesOf w.d.wait (40 - l.length)).1 = L at i3 ⊢
    rw [i3, List.take_left' rfl]
  have hlen : (logW (linesOf w.d.wait (40 - l.length)).1).length ≤ w.d.wait.length := by
    have := congrArg List.length i3
    simp only [List.length_append] at this
    omega
  have hm := h.most
  have hz := h.size
  refine ⟨l ++ (linesOf w.d.wait (40 - l.length)).1, fun r hx => ?_, by simp; omega, ?_, ?_, fun _ => ⟨?_, ?_⟩, fun h => by simp at h⟩
  · rcases List.mem_append.1 hx with hx | hx
    · exact h.recs r hx
    · exact i1 r hx
  · rw [hr]; dsimp only; rw [e, logW_append]
  · rw [hr]; rw [logW_append]; simp; omega
  · rw [hr]
  · have : replayE (l ++ (linesOf w.d.wait (40 - l.length)).1) = later w := by unfold later; rw [hr]
    rw [this]
    exact Prod.ext rfl hl
/-- each happening leaves a right world; it leaves its sessions, as they will be, or one record is added. -/
theorem happen_ok {w : TWorld} (h : worldE w = 0) {x : THap} (hx : (happenE w x).2 = 0) : worldE (happenE w x).1 = 0 ∧ ((later w).2 = 0 → (later (happenE w x).1).2 = 0 ∧ ((later (happenE w x).1).1 = (later w).1 ∨ ∃ r, (nextE (later w).1 r).2 = 0 ∧ (r.kind = 4 → x.kind = 4) ∧ r.cell = x.cell ∧ (later (happenE w x).1).1 = (nextE (later w).1 r).1)) := by
  obtain ⟨l, ok⟩ := ok_world h
  have noted : ∀ (r : TRec) (k : Int), w.up = true → (noteE w r false k).2 = 0 → (r.kind = 4 → x.kind = 4) → r.cell = x.cell → worldE (noteE w r false k).1 = 0 ∧ ((later w).2 = 0 → (later (noteE w r false k).1).2 = 0 ∧ ((later (noteE w r false k).1).1 = (later w).1 ∨ ∃ q, (nextE (later w).1 q).2 = 0 ∧ (q.kind = 4 → x.kind = 4) ∧ q.cell = x.cell ∧ (later (noteE w r false k).1).1 = (nextE (later w).1 q).1)) := by
    intro r k hu hn h4 hc
    obtain ⟨n1, n2, n3, n4⟩ := note_ok ok hu hn
    refine ⟨world_ok n4, fun _ => ?_⟩
    have hl := later_up n4 (by rw [n3])
    rw [later_up ok hu]
    refine ⟨by rw [hl], .inr ⟨r, n1, h4, hc, by rw [hl, n3]⟩⟩
  have torn : ∀ (r : TRec) (k : Int), w.up = true → (noteE w r true k).2 = 0 → (r.kind = 4 → x.kind = 4) → r.cell = x.cell → worldE (noteE w r true k).1 = 0 ∧ ((later w).2 = 0 → (later (noteE w r true k).1).2 = 0 ∧ ((later (noteE w r true k).1).1 = (later w).1 ∨ ∃ q, (nextE (later w).1 q).2 = 0 ∧ (q.kind = 4 → x.kind = 4) ∧ q.cell = x.cell ∧ (later (noteE w r true k).1).1 = (nextE (later w).1 q).1)) := by
    intro r k hu hn h4 hc
    obtain ⟨n1, n2, t, n3, n4, n5⟩ := tear_ok ok hu hn
    refine ⟨world_ok n4, fun _ => ?_⟩
    rw [later_up ok hu]
    have hrec := n4.recover
    have hw : (noteE w r true k).1.d.wait = t := by rw [n3]
    unfold later
    rw [hrec, hw]
    dsimp only
    rcases n5 with ⟨e1, e2⟩ | ⟨e0, _, e1, e2⟩
    · rw [e1, List.append_nil, (ok.up hu).2]
      exact ⟨rfl, .inl rfl⟩
    · rw [e1, replay_snoc (ok.up hu).2 r e0, if_neg (by rw [n1]; simp)]
      exact ⟨rfl, .inr ⟨r, n1, h4, hc, rfl⟩⟩
  revert hx
  unfold happenE
  intro hx
  split at hx
  · simp at hx
  · rename_i h1
    rw [if_neg h1] at *
    split at hx
    · simp at hx
    · rename_i h2
      rw [if_neg h2] at *
      split at hx
      · rename_i h5
        rw [if_pos h5] at *
        have hu : w.up = true := by
          cases hu : w.up with
          | true => rfl
          | false => exact absurd (by rw [hu, h5]; rfl) h2
        have hw : OkW ⟨newCells, w.d, false⟩ l := ⟨ok.recs, ok.most, ok.safe, ok.size, fun h => by simp at h, fun _ => rfl⟩
        exact ⟨world_ok hw, fun hl => ⟨hl, .inl rfl⟩⟩
      · rename_i h5
        rw [if_neg h5] at *
        split at hx
        · rename_i h6
          rw [if_pos h6] at *
          split at hx
          · rename_i h7; exact absurd hx h7
          · rename_i h7
            rw [if_neg h7] at *
            split at hx
            · rename_i h8; exact absurd hx h8
            · rename_i h8
              rw [if_neg h8] at *
              have hl : (later w).2 = 0 := by simpa [later] using h8
              obtain ⟨l', ok'⟩ := boot_ok ok hl
              refine ⟨world_ok ok', fun _ => ?_⟩
              have := later_up ok' rfl
              have e : later ⟨(replayE (recoverE w.d).2.1).1, (recoverE w.d).1, true⟩ = ((later w).1, 0) := this
              dsimp only
              rw [e]
              exact ⟨rfl, .inl rfl⟩
        · rename_i h6
          rw [if_neg h6] at *
          have hu : w.up = true := by
            cases hu : w.up with
            | true => rfl
            | false => exact absurd (by rw [hu]; simp [h6]) h2
          split at hx
          · rename_i h7
            rw [if_pos h7] at *
            exact torn _ _ hu hx (fun e => by simp at e) rfl
          · rename_i h7
            rw [if_neg h7] at *
            split at hx
            · rename_i h3
              rw [if_pos h3] at *
              exact noted _ _ hu hx (fun e => by simp at e) rfl
            · rename_i h3
              rw [if_neg h3] at *
              split at hx
              · rename_i h4
                rw [if_pos h4] at *
                exact noted _ _ hu hx (fun _ => h4) rfl
              · rename_i h4
                rw [if_neg h4] at *
                exact noted _ _ hu hx (fun e => e) rfl
theorem happen_same {w : TWorld} {x : THap} (hx : (happenE w x).2 ≠ 0) : (happenE w x).1 = w := by
  revert hx
  have hn : ∀ r t k, (noteE w r t k).2 ≠ 0 → (noteE w r t k).1 = w := by
    intro r t k
    unfold noteE
    split
    · intro; rfl
    · split
      · intro; rfl
      · split
        · split
          · intro; rfl
          · intro h; simp at h
        · split
          · intro; rfl
          · intro h; simp at h
  unfold happenE
  split
  · intro; rfl
  · split
    · intro; rfl
    · split
      · intro h; simp at h
      · split
        · split
          · intro; rfl
          · split
            · intro; rfl
            · intro h; simp at h
        · split
          · exact hn _ _ _
          · split
            · exact hn _ _ _
            · split
              · exact hn _ _ _
              · exact hn _ _ _
theorem happen_world {w : TWorld} (h : worldE w = 0) (x : THap) : worldE (happenE w x).1 = 0 := by
  by_cases hx : (happenE w x).2 = 0
  · exact (happen_ok h hx).1
  · rw [happen_same hx]; exact h
theorem wrunGo_world : ∀ (l : List THap) {w : TWorld}, worldE w = 0 → worldE (wrunGo w l).1 = 0
  | [], _, h => h
  | x :: l, _, h => wrunGo_world l (happen_world h x)
theorem wrunGo_append : ∀ (l m : List THap) (w : TWorld), wrunGo w (l ++ m) = ((wrunGo (wrunGo w l).1 m).1, (wrunGo w l).2 ++ (wrunGo (wrunGo w l).1 m).2)
  | [], m, w => by simp [wrunGo]
  | x :: l, m, w => by
    show ((wrunGo (happenE w x).1 (l ++ m)).1, (happenE w x).2 :: (wrunGo (happenE w x).1 (l ++ m)).2) = _
    rw [wrunGo_append l m]
    rfl
theorem wrunGo_length : ∀ (l : List THap) (w : TWorld), (wrunGo w l).2.length = l.length
  | [], _ => rfl
  | x :: l, w => by show (wrunGo (happenE w x).1 l).2.length + 1 = _; rw [wrunGo_length l]; rfl
/-- a script in two runs does what it does in one. -/
theorem run_parts {w : TWorld} {l : List THap} (h : (wrunE w l).2.2 = 0) (k : Nat) : (wrunE w (l.take k)).2.2 = 0 ∧ (wrunE (wrunE w (l.take k)).1 (l.drop k)).2.2 = 0 ∧ (wrunE (wrunE w (l.take k)).1 (l.drop k)).1 = (wrunE w l).1 ∧ (wrunE w l).2.1 = (wrunE w (l.take k)).2.1 ++ (wrunE (wrunE w (l.take k)).1 (l.drop k)).2.1 := by
  unfold wrunE at h
  split at h
  · rename_i h1; exact absurd h h1
  · rename_i h1
    split at h
    · simp at h
    · rename_i h2
      have e1 : wrunE w (l.take k) = ((wrunGo w (l.take k)).1, (wrunGo w (l.take k)).2, 0) := by
        unfold wrunE; rw [if_neg h1, if_neg (by simp; omega)]
      have hw : worldE (wrunGo w (l.take k)).1 = 0 := wrunGo_world _ (by simpa using h1)
      have e2 : wrunE (wrunGo w (l.take k)).1 (l.drop k) = ((wrunGo (wrunGo w (l.take k)).1 (l.drop k)).1, (wrunGo (wrunGo w (l.take k)).1 (l.drop k)).2, 0) := by
        unfold wrunE; rw [if_neg (by rw [hw]; simp), if_neg (by simp; omega)]
      have e3 : wrunE w l = ((wrunGo w l).1, (wrunGo w l).2, 0) := by
        unfold wrunE; rw [if_neg h1, if_neg h2]
      have e4 : wrunGo w l = wrunGo w (l.take k ++ l.drop k) := by rw [List.take_append_drop]
      rw [e1]
      dsimp only
      rw [e2, e3, e4, wrunGo_append]
      exact ⟨rfl, rfl, rfl, rfl⟩
/-- A SESSION THAT WAS TIGHTENED STAYS SO, WHENEVER THE POWER GOES. -/
theorem world_stands {w : TWorld} (h : worldE w = 0) (hu : w.up = true) (c f : Int) (p : TPol) (c' f' : Int) (p' : TPol) : doE w ⟨5, c, f, p⟩ = (⟨newCells, w.d, false⟩, 0) ∧ doE ⟨newCells, w.d, false⟩ ⟨6, c', f', p'⟩ = (w, 0) := by
  obtain ⟨l, ok⟩ := ok_world h
  obtain ⟨a, b⟩ := ok.up hu
  have hw : OkW ⟨newCells, w.d, false⟩ l := ⟨ok.recs, ok.most, ok.safe, ok.size, fun h => by simp at h, fun _ => rfl⟩
  have h1 : happenE w ⟨5, c, f, p⟩ = (⟨newCells, w.d, false⟩, 0) := by
    unfold happenE; simp [hu]
  have h2 : happenE ⟨newCells, w.d, false⟩ ⟨6, c', f', p'⟩ = (w, 0) := by
    unfold happenE
    have hr := ok.recover_up a
    rw [if_neg (by simp), if_neg (by simp), if_neg (by simp), if_pos rfl]
    dsimp only
    rw [hr]
    dsimp only
    rw [b, if_neg (by simp), if_neg (by simp)]
    have := ok.safe
    cases w with
    | mk cells d up =>
      cases d
      dsimp only at *
      rw [this, a, hu]
  unfold doE
  rw [h1, h2, if_neg (by rw [h]; simp), if_neg (by simp), if_neg (by rw [world_ok hw]; simp), if_neg (by simp)]
  exact ⟨rfl, rfl⟩
/-- what is torn is there wholly, or not at all. -/
theorem world_torn {w : TWorld} {c n : Int} {p : TPol} (h : (doE w ⟨7, c, n, p⟩).2 = 0) (c' f' : Int) (p' : TPol) (f : Int) : (doE (doE w ⟨7, c, n, p⟩).1 ⟨6, c', f', p'⟩).2 = 0 ∧ ((doE (doE w ⟨7, c, n, p⟩).1 ⟨6, c', f', p'⟩).1 = w ∨ (doE w ⟨2, c, f, p⟩).2 = 0 ∧ (doE (doE w ⟨7, c, n, p⟩).1 ⟨6, c', f', p'⟩).1 = (doE w ⟨2, c, f, p⟩).1) := by
  unfold doE at h
  split at h
  · rename_i h1; exact absurd h h1
  · rename_i h1
    split at h
    · rename_i h2; exact absurd h h2
    · rename_i h2
      have hw : worldE w = 0 := by simpa using h1
      have h2 : (happenE w ⟨7, c, n, p⟩).2 = 0 := by simpa using h2
      obtain ⟨l, ok⟩ := ok_world hw
      have e0 : doE w ⟨7, c, n, p⟩ = ((happenE w ⟨7, c, n, p⟩).1, 0) := by
        unfold doE; rw [if_neg h1, if_neg (by rw [h2]; simp)]
      rw [e0]
      dsimp only
      have hu : w.up = true := by
        cases hu : w.up with
        | true => rfl
        | false => unfold happenE at h2; rw [if_neg (by simp), if_pos (by rw [hu]; simp)] at h2; simp at h2
      have e1 : happenE w ⟨7, c, n, p⟩ = noteE w ⟨2, c, 0, p⟩ true n := by
        unfold happenE
        rw [if_neg (by simp), if_neg (by rw [hu]; simp), if_neg (by simp), if_neg (by simp), if_pos rfl]
      rw [e1] at h2 ⊢
      obtain ⟨n1, n2, t, n3, n4, n5⟩ := tear_ok ok hu h2
      have hrec := n4.recover
      have hwt : (noteE w ⟨2, c, 0, p⟩ true n).1.d.wait = t := by rw [n3]
      have hdn : (noteE w ⟨2, c, 0, p⟩ true n).1.up = false := by rw [n3]
      rw [hwt] at hrec
      have hb : ∀ y, (later (noteE w ⟨2, c, 0, p⟩ true n).1) = (y, 0) → doE (noteE w ⟨2, c, 0, p⟩ true n).1 ⟨6, c', f', p'⟩ = (⟨y, (recoverE (noteE w ⟨2, c, 0, p⟩ true n).1.d).1, true⟩, 0) := by
        intro y hy
        have : happenE (noteE w ⟨2, c, 0, p⟩ true n).1 ⟨6, c', f', p'⟩ = (⟨y, (recoverE (noteE w ⟨2, c, 0, p⟩ true n).1.d).1, true⟩, 0) := by
          unfold later at hy
          unfold happenE
          rw [if_neg (by simp), if_neg (by rw [hdn]; simp), if_neg (by simp), if_pos rfl, hy, hrec]
          dsimp only
          rw [if_neg (by simp), if_neg (by simp)]
        unfold doE
        rw [if_neg (by rw [world_ok n4]; simp), this, if_neg (by simp)]
      rcases n5 with ⟨x1, x2⟩ | ⟨x0, xs, x1, x2⟩
      · have hy : later (noteE w ⟨2, c, 0, p⟩ true n).1 = (w.cells, 0) := by
          unfold later
          rw [hrec]
          dsimp only
          rw [x1, List.append_nil, (ok.up hu).2]
        rw [hb _ hy]
        refine ⟨rfl, .inl ?_⟩
        rw [hrec, x2]
        have := ok.safe
        have ha := (ok.up hu).1
        cases w with
        | mk cells d up =>
          cases d
          dsimp only at *
          rw [this, ha, hu]
          simp
      · have hy : later (noteE w ⟨2, c, 0, p⟩ true n).1 = ((nextE w.cells ⟨2, c, 0, p⟩).1, 0) := by
          unfold later
          rw [hrec]
          dsimp only
          rw [x1, replay_snoc (ok.up hu).2 _ x0, if_neg (by rw [n1]; simp)]
        rw [hb _ hy]
        have e2 : happenE w ⟨2, c, f, p⟩ = noteE w ⟨2, c, 0, p⟩ false 0 := by
          unfold happenE
          rw [if_neg (by simp), if_neg (by rw [hu]; simp), if_neg (by simp), if_neg (by simp), if_neg (by simp), if_neg (by simp), if_neg (by simp)]
        have hp : (putE w.d ⟨2, c, 0, p⟩).2 = 0 := by
          by_cases e : (putE w.d ⟨2, c, 0, p⟩).2 = 0
          · exact e
          · unfold noteE at h2
            rw [if_neg (by rw [n1]; simp), if_pos e] at h2
            exact absurd h2 e
        obtain ⟨p1, p2, p3⟩ := putE_ok ok hu hp
        have e3 : noteE w ⟨2, c, 0, p⟩ false 0 = (⟨(nextE w.cells ⟨2, c, 0, p⟩).1, ⟨logW (l ++ [⟨2, c, 0, p⟩]), []⟩, true⟩, 0) := by
          unfold noteE
          rw [if_neg (by rw [n1]; simp), p3, if_neg (by simp), if_neg (by simp)]
          dsimp only
          rw [syncE_put ok.recs ok.most p1 p2, if_pos x0, if_neg (by simp), hu]
        have e4 : doE w ⟨2, c, f, p⟩ = (⟨(nextE w.cells ⟨2, c, 0, p⟩).1, ⟨logW (l ++ [⟨2, c, 0, p⟩]), []⟩, true⟩, 0) := by
          unfold doE
          rw [if_neg h1, e2, e3, if_neg (by simp)]
        rw [e4]
        refine ⟨rfl, .inr ⟨rfl, ?_⟩⟩
        rw [hrec]
        dsimp only
        rw [x2, logW_append]
        simp [logW]

/-! ### as long as a session is open -/
/-- what the law's loop knows: what was told last bounds what is told later. -/
def Told (w : TWorld) (cell : Int) (x : TCall) (most : Int) : Prop := worldE w = 0 ∧ (later w).2 = 0 ∧ (most = -1 ∨ 0 ≤ most ∧ (cellAt (later w).1 cell).open_ = true ∧ asked (cellAt (later w).1 cell).chain x ≤ most)
theorem later_ok {w : TWorld} (h : (later w).2 = 0) : cellsE (later w).1 = 0 ∧ ∀ c ∈ (later w).1, Means c := by
  obtain ⟨_, _, a, b⟩ := replayE_ok (l := (recoverE w.d).2.1) h
  exact ⟨b, a⟩
theorem told_new (cell : Int) (x : TCall) : Told newWorld cell x (-1) := ⟨by decide, by decide, .inl rfl⟩
theorem told_next {w : TWorld} {cell : Int} {x : TCall} {most : Int} (h : Told w cell x most) (hc : 0 ≤ cell ∧ cell < 4) (hx : x.ok) {y : THap} (hy : (doE w y).2 = 0) : Told (doE w y).1 cell x (if y.kind = 4 ∧ y.cell = cell then -1 else most) := by
  obtain ⟨h1, h2, h3⟩ := h
  unfold doE at hy ⊢
  rw [if_neg (by rw [h1]; simp)] at hy ⊢
  split at hy
  · rename_i e; exact absurd hy e
  · rename_i e
    rw [if_neg e]
    obtain ⟨a, b⟩ := happen_ok h1 (x := y) (by simpa using e)
    obtain ⟨b1, b2⟩ := b h2
    refine ⟨a, b1, ?_⟩
    split
    · exact .inl rfl
    · rename_i hk
      rcases h3 with h3 | ⟨h3, h4, h5⟩
      · exact .inl h3
      · right
        refine ⟨h3, ?_⟩
        rcases b2 with b2 | ⟨r, r1, r2, r3, r4⟩
        · dsimp only; rw [b2]; exact ⟨h4, h5⟩
        · obtain ⟨n1, n2, n3, n4, n5⟩ := nextE_ok r1
          obtain ⟨k0, k1, c0, c1, _⟩ := recE_ok n2
          have hl := ((cellsE_iff _).1 n1).1
          dsimp only
          rw [r4, n5]
          dsimp only
          rw [cellAt_set hl c0 c1]
          split
          · rename_i hj
            have hcell : r.cell = cell := by omega
            rw [hcell] at n3
            have ho : (nextCell (later w).1 r).1.open_ = true := by
              rw [h4] at n3
              have hk2 : ¬ (r.kind = 1 ∨ r.kind = 3) := fun e => n3 (by simp [e])
              have hk4 : r.kind ≠ 4 := fun e => hk ⟨r2 e, by rw [← r3]; exact hcell⟩
              have hk2 : r.kind = 2 := by omega
              unfold nextCell at n4 ⊢
              rw [if_neg (by omega), if_neg (by omega), if_pos hk2] at n4 ⊢
              split at n4
              · rename_i e; exact absurd n4 e
              · rename_i e; rw [if_neg e]
            obtain ⟨s1, s2, _⟩ := next_strict r1 (by rw [hcell]; exact h4) ho
            refine ⟨ho, ?_⟩
            rw [s2]
            have := tight_le s1 hx
            rw [hcell] at this
            dsimp only
            rw [hcell]
            omega
          · exact ⟨h4, h5⟩
/-- what is told when it is asked. -/
theorem told_ask {w : TWorld} {cell : Int} {x : TCall} {most : Int} (h : Told w cell x most) (hc : 0 ≤ cell ∧ cell < 4) (hx : x.ok) (hu : w.up = true) : ((wAskE w cell x).2 = 6 ∧ most = -1) ∨ ((wAskE w cell x).2 = 0 ∧ (most < 0 ∨ (wAskE w cell x).1 ≤ most) ∧ Told w cell x (wAskE w cell x).1) := by
  obtain ⟨h1, h2, h3⟩ := h
  obtain ⟨l, ok⟩ := ok_world h1
  have hl := later_up ok hu
  rw [hl] at h3
  dsimp only at h3
  obtain ⟨hcs, hm⟩ := ok.cellsE hu
  obtain ⟨hlen, _⟩ := (cellsE_iff _).1 hcs
  have e : wAskE w cell x = if (cellAt w.cells cell).open_ then askE (cellAt w.cells cell).chain x else (0, 6) := by
    unfold wAskE
    rw [if_neg (by rw [h1]; simp), if_neg (by rw [hlen]; omega)]
  rw [e]
  cases ho : (cellAt w.cells cell).open_ with
  | false =>
    left
    rcases h3 with h3 | ⟨_, h4, _⟩
    · exact ⟨rfl, h3⟩
    · rw [ho] at h4; cases h4
  | true =>
    right
    obtain ⟨m1, m2, m3, m4⟩ := hm _ (cellAt_mem hlen hc.1 hc.2) ho
    have ea : askE (cellAt w.cells cell).chain x = (asked (cellAt w.cells cell).chain x, 0) := by
      unfold askE; rw [if_neg (by rw [m2]; simp), if_pos hx]
    simp only [if_true]
    rw [ea]
    refine ⟨rfl, ?_, h1, h2, .inr ⟨?_, ?_, ?_⟩⟩
    · rcases h3 with h3 | ⟨h3, _, h5⟩
      · left; omega
      · right; exact h5
    · dsimp only
      rw [m4 x hx]
      have := (says_range m1 x).1
      omega
    · rw [hl]; exact ho
    · rw [hl]; exact Int.le_refl _
end Go.Proofs.YthkgjohhbdipcaaGreatDoor
namespace Go.Proofs.YthkgjohhbdipcaaGreatDoor
open Go.RowKit

/-- a world as a value. -/
@[reducible] def worldV (c u v : Value) (up : Bool) : Value := .agg #[c, u, v, .bool up]
structure RdWorld (w : World) (D : Nat → Prop) (c u v : Value) (t : TWorld) : Prop where
  cells : RdCells w D c t.cells
  disk : RdDisk w D u v t.d
theorem RdWorld.keep {w w' : World} {D D' : Nat → Prop} {c u v : Value} {t : TWorld} (h : RdWorld w D c u v t) (hD : ∀ b, D b → b < w.heap.size → D' b)
    (hw : ∀ b, D b → b < w.heap.size → w'.heap[b]? = w.heap[b]?) (hs : w.heap.size ≤ w'.heap.size) : RdWorld w' D' c u v t := ⟨RdCells.keep h.cells hD hw hs, RdDisk.keep h.disk hD hw hs⟩
theorem RdWorld.below {w w' : World} {D : Nat → Prop} {c u v : Value} {t : TWorld} (h : RdWorld w D c u v t) (hb : Below w.heap.size w w') : RdWorld w' D c u v t := ⟨RdCells.below h.cells hb, RdDisk.below h.disk hb⟩
theorem RdWorld.true {w : World} {D : Nat → Prop} {c u v : Value} {t : TWorld} (h : RdWorld w D c u v t) : RdWorld w (fun _ => True) c u v t := h.keep (fun _ _ _ => trivial) (fun _ _ _ => rfl) (Nat.le_refl _)
theorem RdWorld.lt {w : World} {D : Nat → Prop} {c u v : Value} {t : TWorld} (h : RdWorld w D c u v t) : RdWorld w (fun b => b < w.heap.size) c u v t := h.keep (fun _ _ hl => hl) (fun _ _ _ => rfl) (Nat.le_refl _)
/-- a happening, as an argument. -/
@[reducible] def hapV (r : THap) (v : Value) : Value := .agg #[.int .i64 r.kind, .int .i64 r.cell, .int .i64 r.from_, v, .int .i64 r.p.dflt]
def hapR (w : World) (D : Nat → Prop) (r : THap) (cs : List Value) : Prop := ∃ v, cs = [.int .i64 r.kind, .int .i64 r.cell, .int .i64 r.from_, v, .int .i64 r.p.dflt] ∧ RdRules w D v r.p.rules
def RdHaps (w : World) (D : Nat → Prop) (v : Value) (l : List THap) : Prop := Sl w D 5 (hapR w D) v l
theorem RdHaps.keep {w w' : World} {D D' : Nat → Prop} {v : Value} {l : List THap} (h : RdHaps w D v l) (hD : ∀ b, D b → b < w.heap.size → D' b)
    (hw : ∀ b, D b → b < w.heap.size → w'.heap[b]? = w.heap[b]?) (hs : w.heap.size ≤ w'.heap.size) : RdHaps w' D' v l := Sl.mono h hD hw hs (fun _ _ _ ⟨u, h1, h2⟩ => ⟨u, h1, h2.keep hD hw hs⟩)
theorem RdHaps.below {w w' : World} {D : Nat → Prop} {v : Value} {l : List THap} (h : RdHaps w D v l) (hb : Below w.heap.size w w') : RdHaps w' D v l :=
  h.keep (fun _ h _ => h) (fun b _ hlt => hb.block b hlt) hb.size
theorem RdHaps.cells {w : World} {D : Nat → Prop} {b o n c : Nat} {s : Option Nat} {l : List THap} (h : RdHaps w D (.slice (some ⟨b, o, s⟩) n c) l) {i : Nat} (hi : i < l.length) :
    ∃ (a : Option Addr) (c : Nat), w.cell? ⟨b, o + i * 5, none⟩ = some (.int .i64 l[i].kind) ∧ w.cell? ⟨b, o + i * 5 + 1, none⟩ = some (.int .i64 l[i].cell) ∧ w.cell? ⟨b, o + i * 5 + 2, none⟩ = some (.int .i64 l[i].from_) ∧ w.cell? ⟨b, o + i * 5 + 3, none⟩ = some (.slice a l[i].p.rules.length c) ∧ w.cell? ⟨b, o + i * 5 + 4, none⟩ = some (.int .i64 l[i].p.dflt) ∧
      RdRules w D (.slice a l[i].p.rules.length c) l[i].p.rules := by
  obtain ⟨cs, _, ⟨v, hu, hp⟩, hcell⟩ := Sl.get h hi
  obtain ⟨a1, c1, hv, _⟩ := Sl.form hp
  subst hv hu
  exact ⟨a1, c1, by have := hcell 0 _ rfl; simpa using this, by have := hcell 1 _ rfl; simpa [Nat.add_assoc] using this, by have := hcell 2 _ rfl; simpa [Nat.add_assoc] using this, by have := hcell 3 _ rfl; simpa [Nat.add_assoc] using this, by have := hcell 4 _ rfl; simpa [Nat.add_assoc] using this, hp⟩
end Go.Proofs.YthkgjohhbdipcaaGreatDoor
namespace Go.Proofs.YthkgjohhbdipcaaGreatDoor
open Go.RowKit Go.ChangeShapes Go.WideShapes Go.Deep
set_option maxRecDepth 100000

section
variable {H : Type} {enc : TypeId × Value → H} {w : World} {base : Nat} {spare : Nat → Bool} {held : Bool}
theorem trod_byte {fuel : Nat} {cs : List Value} {x : DataW H × List MemPlace} (h : DataW.trod enc Tryz.prog w base spare held fuel 5 cs = some x) : ∃ a : UInt8, byteR a cs := by
  obtain ⟨n, rfl, _, hw⟩ := DataW.trod_int Tryz.underlying5 h
  have hr : 0 ≤ n ∧ n < 256 := by
    simp [Lit.wf] at hw
    have h1 : IntKind.u8.min = 0 := by decide
    have h2 : IntKind.u8.max = 255 := by decide
    omega
  refine ⟨UInt8.ofNat n.toNat, ?_⟩
  have e : (UInt8.ofNat n.toNat).toNat = n.toNat := by
    rw [UInt8.toNat_ofNat']; omega
  unfold byteR
  rw [e, Int.toNat_of_nonneg hr.1]
theorem trod_bytes {fuel : Nat} {cs : List Value} {x : DataW H × List MemPlace} (h : DataW.trod enc Tryz.prog w base spare held fuel 23 cs = some x) : ∃ (v : Value) (l : List UInt8), cs = [v] ∧ RdBytes w (fun _ => True) v l :=
  sl_of_trod (sz := 1) Tryz.underlying23 (by kernel_rfl) (by omega) (fun _ _ _ _ hx => trod_byte hx) h
theorem trod_disk {fuel : Nat} {cs : List Value} {x : DataW H × List MemPlace} (hl : cs.length = 2) (h : DataW.trod enc Tryz.prog w base spare held fuel 25 cs = some x) : ∃ (d : TDisk) (u v : Value), cs = [u, v] ∧ RdDisk w (fun _ => True) u v d := by
  have hfs : (Tryz.prog.underlying 25).map (fun d => match d with | .struct fs => fs.map (fun f => (f.type, f.offset)) | _ => #[]) = some #[(23, 0), (23, 1)] := by kernel_rfl
  obtain ⟨fs, he⟩ : ∃ fs, Tryz.prog.underlying 25 = some (.struct fs) := ⟨_, Tryz.underlying25⟩
  rw [he] at hfs
  simp only [Option.map_some, Option.some.injEq] at hfs
  have hc : Tryz.prog.cellsOf 23 = 1 := by kernel_rfl
  obtain ⟨n0, y0, h0⟩ := trod_field (i := 0) he hfs h rfl
  obtain ⟨n1, y1, h1⟩ := trod_field (i := 1) he hfs h rfl
  rw [hc] at h0 h1
  obtain ⟨u, l, e0, hu⟩ := trod_bytes h0
  obtain ⟨v, m, e1, hv⟩ := trod_bytes h1
  match cs, hl with
  | [c0, c1], _ =>
    simp at e0 e1
    exact ⟨⟨l, m⟩, u, v, by simp [e0, e1], hu, hv⟩
theorem open_disk {r : Reach} {b0 : Nat} {v : Value} {d : DataW H} {ps : List MemPlace}
    (hv : Value.okWide Tryz.prog w r b0 25 v) (h : DataW.Trod enc Tryz.prog w base spare held 25 v d ps) : ∃ t : TDisk, ∃ u1 u2, v = diskV u1 u2 ∧ RdDisk w (fun _ => True) u1 u2 t := by
  simp only [Value.okWide, Tryz.underlying25] at hv
  obtain ⟨cs, rfl, _⟩ := hv
  obtain ⟨fuel, hf⟩ := h
  obtain ⟨xs, m, _, _, hlen, _, _⟩ := DataW.trod_struct Tryz.underlying25 hf
  have hc : Tryz.prog.cellsOf 25 = 2 := by kernel_rfl
  rw [hc] at hlen
  obtain ⟨t, u1, u2, hcs, hr⟩ := trod_disk hlen hf
  obtain ⟨l⟩ := cs
  simp only [Value.cells] at hcs
  subst hcs
  exact ⟨t, u1, u2, rfl, hr⟩
theorem open_world {r : Reach} {b0 : Nat} {v : Value} {d : DataW H} {ps : List MemPlace}
    (hv : Value.okWide Tryz.prog w r b0 27 v) (h : DataW.Trod enc Tryz.prog w base spare held 27 v d ps) : ∃ t : TWorld, ∃ c u1 u2, v = worldV c u1 u2 t.up ∧ RdWorld w (fun _ => True) c u1 u2 t := by
  simp only [Value.okWide, Tryz.underlying27] at hv
  obtain ⟨cs, rfl, _⟩ := hv
  obtain ⟨fuel, hf⟩ := h
  obtain ⟨xs, m, _, _, hlen, _, _⟩ := DataW.trod_struct Tryz.underlying27 hf
  have hc : Tryz.prog.cellsOf 27 = 4 := by kernel_rfl
  rw [hc] at hlen
  have hfs : (Tryz.prog.underlying 27).map (fun d => match d with | .struct fs => fs.map (fun f => (f.type, f.offset)) | _ => #[]) = some #[(22, 0), (25, 1), (4, 3)] := by kernel_rfl
  obtain ⟨fs, he⟩ : ∃ fs, Tryz.prog.underlying 27 = some (.struct fs) := ⟨_, Tryz.underlying27⟩
  rw [he] at hfs
  simp only [Option.map_some, Option.some.injEq] at hfs
  obtain ⟨n0, y0, h0⟩ := trod_field (i := 0) he hfs hf rfl
  have hc0 : Tryz.prog.cellsOf 22 = 1 := by kernel_rfl
  rw [hc0] at h0
  obtain ⟨v0, l0, e0, hl0⟩ := sl_of_trod (sz := 4) Tryz.underlying22 (by kernel_rfl) (by omega) (fun _ _ _ hl hx => trod_cell hl hx) h0
  obtain ⟨n1, y1, h1⟩ := trod_field (i := 1) he hfs hf rfl
  have hc1 : Tryz.prog.cellsOf 25 = 2 := by kernel_rfl
  rw [hc1] at h1
  obtain ⟨n3, y3, h3⟩ := trod_field (i := 2) he hfs hf rfl
  have hc3 : Tryz.prog.cellsOf 4 = 1 := by kernel_rfl
  rw [hc3] at h3
  obtain ⟨ub, e3, _⟩ := DataW.trod_bool Tryz.underlying4 h3
  obtain ⟨l⟩ := cs
  simp only [Value.cells] at hlen e0 h1 e3
  match l, hlen with
  | [c0, c1, c2, c3], _ =>
    obtain ⟨t, u1, u2, hcs, hr⟩ := trod_disk (by simp) h1
    simp at e0 e3 hcs
    obtain ⟨rfl, rfl⟩ := hcs
    subst e0 e3
    exact ⟨⟨l0, t, ub⟩, _, _, _, rfl, hl0, hr⟩
theorem trod_hap {fuel : Nat} {cs : List Value} {x : DataW H × List MemPlace} (hl : cs.length = 5) (h : DataW.trod enc Tryz.prog w base spare held fuel 40 cs = some x) : ∃ a : THap, hapR w (fun _ => True) a cs := by
  have hfs : (Tryz.prog.underlying 40).map (fun d => match d with | .struct fs => fs.map (fun f => (f.type, f.offset)) | _ => #[]) = some #[(3, 0), (3, 1), (3, 2), (38, 3)] := by kernel_rfl
  obtain ⟨fs, he⟩ : ∃ fs, Tryz.prog.underlying 40 = some (.struct fs) := ⟨_, Tryz.underlying40⟩
  rw [he] at hfs
  simp only [Option.map_some, Option.some.injEq] at hfs
  have hc : Tryz.prog.cellsOf 3 = 1 := by kernel_rfl
  obtain ⟨n0, e0⟩ := trod_field_int (i := 0) he hfs h rfl Tryz.underlying3 hc
  obtain ⟨n1, e1⟩ := trod_field_int (i := 1) he hfs h rfl Tryz.underlying3 hc
  obtain ⟨n2, e2⟩ := trod_field_int (i := 2) he hfs h rfl Tryz.underlying3 hc
  obtain ⟨n, y, hy⟩ := trod_field (i := 3) he hfs h rfl
  have hc2 : Tryz.prog.cellsOf 38 = 2 := by kernel_rfl
  rw [hc2] at hy
  match cs, hl with
  | [c0, c1, c2, c3, c4], _ =>
    obtain ⟨p, v, hcs, hr⟩ := trod_pol (by simp) hy
    simp at e0 e1 e2 hcs
    exact ⟨⟨n0, n1, n2, p⟩, v, by simp [e0, e1, e2, hcs], hr⟩
theorem open_hap {r : Reach} {b0 : Nat} {v : Value} {d : DataW H} {ps : List MemPlace}
    (hv : Value.okWide Tryz.prog w r b0 40 v) (h : DataW.Trod enc Tryz.prog w base spare held 40 v d ps) : ∃ t : THap, ∃ u, v = hapV t u ∧ RdRules w (fun _ => True) u t.p.rules := by
  simp only [Value.okWide, Tryz.underlying40] at hv
  obtain ⟨cs, rfl, _⟩ := hv
  obtain ⟨fuel, hf⟩ := h
  obtain ⟨xs, m, _, _, hlen, _, _⟩ := DataW.trod_struct Tryz.underlying40 hf
  have hc : Tryz.prog.cellsOf 40 = 5 := by kernel_rfl
  rw [hc] at hlen
  obtain ⟨t, u, hcs, hr⟩ := trod_hap hlen hf
  obtain ⟨l⟩ := cs
  simp only [Value.cells] at hcs
  subst hcs
  exact ⟨t, u, rfl, hr⟩
theorem open_haps {r : Reach} {b0 : Nat} {v : Value} {d : DataW H} {ps : List MemPlace}
    (hv : Value.okWide Tryz.prog w r b0 28 v) (h : DataW.Trod enc Tryz.prog w base spare held 28 v d ps) : ∃ l, RdHaps w (fun _ => True) v l := by
  obtain ⟨a, len, cap, rfl⟩ := okWide_slice Tryz.underlying28 hv
  obtain ⟨fuel, hf⟩ := h
  obtain ⟨v', xs, hcs, hsl⟩ := sl_of_trod (sz := 5) Tryz.underlying28 (by kernel_rfl) (by omega) (fun _ _ _ hl hx => trod_hap hl hx) hf
  simp [Value.cells] at hcs
  rw [hcs]
  exact ⟨xs, hsl⟩
end
end Go.Proofs.YthkgjohhbdipcaaGreatDoor
