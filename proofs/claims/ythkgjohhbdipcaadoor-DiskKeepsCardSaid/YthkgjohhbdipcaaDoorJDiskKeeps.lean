/- DiskKeeps returns true at every two rows of records and number. Condition: Laid. -/
import Derived.Test.YthkgjohhbdipcaaDoorK13
import Derived.Test.YthkgjohhbdipcaaDoorK14
import Derived.Test.YthkgjohhbdipcaaDoorK10
namespace Go.Proofs.YthkgjohhbdipcaaDoor
open Go.RowKit
attribute [local go_sem] gives givesUpon

theorem tmod_small2 (k n : Int) (hn : 0 < n) : -n < k.tmod n ∧ k.tmod n < n ∧ k % n = if k.tmod n < 0 then k.tmod n + n else k.tmod n := by
  have h1 : k.tmod n < n := Int.tmod_lt_of_pos k hn
  have h2 : -n < k.tmod n := Int.lt_tmod_of_pos k hn
  refine ⟨h2, h1, ?_⟩
  have he := Int.emod_nonneg k (show n ≠ 0 by omega)
  have he2 := Int.emod_lt_of_pos k hn
  have hd := Int.tmod_eq_emod (a := k) (b := n)
  split at hd <;> split <;> omega
set_option maxHeartbeats 1000000 in
theorem at_bel (n m k : Int) (w : World) (hk : n % m = k) (hn : 0 < m) (hb : m ≤ 70000) : Calls Tryd.prog 20 #[.int .i64 n, .int .i64 m] w fun e w' => e = .returned (.int .i64 k) ∧ Below w.heap.size w w' := by
  subst hk
  obtain ⟨h1, h2, h3⟩ := tmod_small2 n m hn
  have H3 := Lib.hid h3
  clear h3
  go_enter Tryd.func20, Tryd.ntmps20
  by_cases h4 : n.tmod m < 0
  · go_wp2
    go_ret
    exact ⟨ret_int (by rw [H3.out, if_pos h4]), Below.refl _ _⟩
  · go_wp2
    go_ret
    exact ⟨ret_int (by rw [H3.out, if_neg (by omega)]), Below.refl _ _⟩
def PCr (B : Nat) (l m : List UInt8) (v : Value) (W : World) : Prop := ∃ x y, v = .tuple #[.agg #[x, y], .int .i64 0] ∧ RdDisk W (fun b => B ≤ b) x y ⟨l, m⟩
theorem PCr_stable {B : Nat} {l m : List UInt8} : stableK B (PCr B l m) := fun _ _ _ hk ⟨x, y, h1, h2⟩ => ⟨x, y, h1, RdDisk.keep h2 (fun _ hx _ => hx) (fun x hx hl => hk.2 x hx hl) hk.1⟩
theorem LastI.still {n k : Nat} {w0 W : World} {Fin : World → Prop} {done : Nat → Bool} (h : LastI n w0 Fin done W) (hk : n ≠ k) : LastI n w0 Fin (updDone done k) W := by
  unfold LastI updDone at *
  rw [if_neg hk]
  exact h
/-- a row of records that no store into block β reaches. -/
theorem recs_own {W : World} {B n0 β : Nat} {v : Value} {l : List TRec} (h : OwnSl W B 34 5 (recR W (fun b => b < n0)) v l) (hn : n0 ≤ β) (hB : β < B) : RdRecs W (fun b => b ≠ β) v l :=
  OwnSl.sl (OwnSl.monoR h fun _ _ _ hr => hr.keep (fun b hb _ => by have h1 : b < n0 := hb; show b ≠ β; omega) (fun _ _ _ => rfl) (Nat.le_refl _)) (fun b hb => by show b ≠ β; omega)
theorem recs_grown {W W' : World} {β : Nat} {v : Value} {l : List TRec} (h : RdRecs W (fun b => b ≠ β) v l) (hg : W.grownBy W' (some β)) : RdRecs W' (fun b => b ≠ β) v l :=
  h.keep (fun _ hb _ => hb) (fun _ hb hl => grow_keep hg hl hb) hg.size
theorem recs_all {W : World} {D : Nat → Prop} {v : Value} {l : List TRec} (h : RdRecs W D v l) : RdRecs W (fun _ => True) v l := h.keep (fun _ _ _ => trivial) (fun _ _ _ => rfl) (Nat.le_refl _)
theorem two_recsK {W : World} {u v : Value} {l m : List TRec} {b : Nat} {T : TypeId} {fr : Nat × Nat} (h1 : RdRecs W (fun _ => True) u l) (h2 : RdRecs W (fun _ => True) v m) (hb : W.heap[b]? = some (.cells #[u, v] T fr)) : Sl W (fun _ => True) 1 (rowsRRec (recR W (fun _ => True)) W (fun _ => True)) (.slice (some ⟨b, 0, none⟩) 2 2) [l, m] :=
  sl_block (sz := 1) (xs := [l, m]) (rows := [[u], [v]]) (RowsOf.cons (RowsOf.cons RowsOf.nil ⟨_, rfl, h2⟩ rfl) ⟨_, rfl, h1⟩ rfl) hb rfl trivial (by simp [maxLen])
set_option maxRecDepth 100000 in
set_option maxHeartbeats 16000000 in
theorem diskKeeps_walk {w : World} (hL : Laid w) (v0 : Value) (l0 : List TRec) (rd0 : RdRecs w (fun _ => True) v0 l0) (v1 : Value) (l1 : List TRec) (rd1 : RdRecs w (fun _ => True) v1 l1) (n : Int) :
    Calls Tryd.prog 5 #[v0, v1, .int .i64 n] w fun e w' => e = .returned (.bool true) ∧ Below w.heap.size w w' := by
  have HL := Lib.hid hL
  have H0 := Lib.hid (rd0.keep (D' := fun b => b < w.heap.size) (fun _ _ hl => hl) (fun _ _ _ => rfl) (Nat.le_refl _))
  have H1 := Lib.hid (rd1.keep (D' := fun b => b < w.heap.size) (fun _ _ hl => hl) (fun _ _ _ => rfl) (Nat.le_refl _))
  obtain ⟨a, b, p1, p2, p3, p4, p5, p6, p7⟩ := disk_keeps l0 l1
  have P1 := Lib.hid p1
  have P2 := Lib.hid p2
  have P3 := Lib.hid p3
  have P45 : Hid (a.length ≤ 15 ∧ b.length ≤ 15) := ⟨p4, p5⟩
  obtain ⟨SA, hSA⟩ : ∃ S, logW a = S := ⟨_, rfl⟩
  obtain ⟨SB, hSB⟩ : ∃ S, logW b = S := ⟨_, rfl⟩
  rw [hSA] at P1 P2 P3 p6 p7
  rw [hSB] at P3 p6 p7
  have HSB : Hid (SB.length ≤ 60000) := by show _ ≤ _; omega
  obtain ⟨k, hk⟩ : ∃ k : Nat, n % ((SB.length : Int) + 1) = (k : Int) ∧ k ≤ SB.length := by
    have h1 := Int.emod_nonneg n (show (SB.length : Int) + 1 ≠ 0 by omega)
    have h2 := Int.emod_lt_of_pos n (show (0 : Int) < (SB.length : Int) + 1 by omega)
    exact ⟨(n % ((SB.length : Int) + 1)).toNat, by omega, by omega⟩
  have Hk := Lib.hid hk.1
  obtain ⟨j, j1, j2, j3, j4⟩ := p7 k hk.2
  obtain ⟨TK, hTK⟩ : ∃ TK, SB.take k = TK := ⟨_, rfl⟩
  rw [hTK] at j2 j3
  have HCR := Lib.hid j2
  have HR1 := Lib.hid j3
  have HR2 := Lib.hid j4
  have Hadd : Hid (IntKind.i64.wrap ((SB.length : Int) + 1) = (SB.length : Int) + 1) := IntWalk.i64_in _ (by omega)
  have Hj := Lib.hid j1
  clear hTK hL rd0 rd1 p1 p2 p3 p4 p5 p6 p7 hSA hSB hk j1 j2 j3 j4
  go_enter Tryd.func5, Tryd.ntmps5
  go_wp2_with fail
  refine (filed_walk _ HL.out).mono ?_
  rintro e w1 ⟨rfl, hb1⟩
  have Hb1 := Lib.hid hb1
  clear hb1
  go_wp2_with fail
  have hbz : Below w.heap.size w (w1.alloc (.cells #[.slice none 0 0, .slice none 0 0] 43)) := bel_alloc Hb1.out _
  have hbx1 := heap_last w1 (.cells #[.slice none 0 0, .slice none 0 0] 43)
  have hn1 : w.heap.size ≤ w1.heap.size := Hb1.out.size
  have hs1 : w1.heap.size < (w1.alloc (.cells #[.slice none 0 0, .slice none 0 0] 43)).heap.size := (Array.getElem?_eq_some_iff.1 hbx1).1
  refine (putAll_any w _ w1.heap.size _ _ _ l0 zeroDisk HL.out hbz hn1 hbx1 (nil_disk _ _) (RdRecs.below H0.out hbz)).mono ?_
  rw [P1.out]
  rintro e w2 ⟨ov, u2, v2, rfl, hP⟩
  dsimp only at hP
  obtain ⟨oa, oc, rfl⟩ := OwnSl.slice hP.own
  obtain ⟨e1, g1, rfl⟩ := form_n (n := 0) hP.rd.1 rfl
  obtain ⟨e2, g2, rfl⟩ := form_n (n := SA.length) hP.rd.2 rfl
  have HG2 : Hid (Below w.heap.size w w2) := below_of_grow hbz hP.gr hbz.size hn1
  have Hbx2 := Lib.hid hP.box
  have Hrd2 := Lib.hid (RdDisk.true hP.rd)
  have Hra2 := Lib.hid (recs_own hP.own hn1 hs1)
  clear hbz hbx1 hs1 hP
  generalize w1.heap.size = β at *
  have Hβ : Hid (w.heap.size ≤ β) := hn1
  clear hn1
  have hqd := cells_of Hbx2.out
  go_wp2_with fail
  clear hqd
  refine (dsync_any _ _ ⟨[], SA⟩ _ _ Hrd2.out (HL.out.below HG2.out)).mono ?_
  rw [P2.out]
  rintro e w3 ⟨u3, v3, rfl, hr3, hb3⟩
  dsimp only at hr3
  obtain ⟨e1, g1, rfl⟩ := form_n (n := SA.length) hr3.1 rfl
  obtain ⟨e2, g2, rfl⟩ := form_n (n := 0) hr3.2 rfl
  have hbx := blk_below Hbx2.out hb3
  have hqo := cells_of hbx
  have hfo := not_frozen hbx
  have hg := puts2_grow (W := w3) (b := β) (.slice e1 SA.length g1) (.slice e2 0 g2)
  have hb3' := bel_call HG2.out hb3
  have HG4 : Hid (Below w.heap.size w _) := below_of_grow hb3' hg hb3'.size Hβ.out
  have Hbx4 := Lib.hid (puts2_at (.slice e1 SA.length g1) (.slice e2 0 g2) hbx)
  have hβ2 := (Array.getElem?_eq_some_iff.1 Hbx2.out).1
  have Hrd4 := Lib.hid (RdDisk.keep (D' := fun b => w.heap.size ≤ b ∧ b ≠ β) hr3 (fun x hx _ => by have h1 : w2.heap.size ≤ x := hx; have := HG2.out.size; exact ⟨by omega, by omega⟩) (fun x hx hl => grow_keep hg hl (by have h1 : w2.heap.size ≤ x := hx; omega)) hg.size)
  have Hra4 := Lib.hid (recs_grown (RdRecs.below Hra2.out hb3) hg)
  have hq4 := cells_of Hbx4.out
  clear hbx hg hb3' hr3 hb3 hβ2
  dsimp only
  go_wp2_with fail
  clear hqo hfo hq4
  revert HG4 Hbx4 Hrd4 Hra4
  generalize ((w3.setCell ⟨β, 0, none⟩ (.slice e1 SA.length g1)).setCell ⟨β, 1, none⟩ (.slice e2 0 g2)) = w4
  intro HG4 Hbx4 Hrd4 Hra4
  refine (putAll_any w w4 β _ _ _ l1 ⟨SA, []⟩ HL.out HG4.out Hβ.out Hbx4.out Hrd4.out (RdRecs.below H1.out HG4.out)).mono ?_
  rw [P3.out]
  rintro e w5 ⟨ov, u5, v5, rfl, hP⟩
  dsimp only at hP
  obtain ⟨ob, od, rfl⟩ := OwnSl.slice hP.own
  obtain ⟨x1, y1, rfl⟩ := form_n (n := SA.length) hP.rd.1 rfl
  obtain ⟨x2, y2, rfl⟩ := form_n (n := SB.length) hP.rd.2 rfl
  have HG5 : Hid (Below w.heap.size w w5) := below_of_grow HG4.out hP.gr HG4.out.size Hβ.out
  have Hbx5 := Lib.hid hP.box
  have Hrd5 := Lib.hid (RdDisk.true hP.rd)
  have HL5 := Lib.hid (HL.out.below HG5.out)
  have Hra5 := Lib.hid (recs_grown Hra4.out hP.gr)
  have Hrb5 := Lib.hid (recs_own hP.own Hβ.out (Array.getElem?_eq_some_iff.1 Hbx4.out).1)
  have Hβ5 : Hid (β < w5.heap.size) := (Array.getElem?_eq_some_iff.1 hP.box).1
  clear hP
  go_wp2_with fail
  refine wp_region_lastop 11 w5.heap.size [ex (.agg #[.slice x1 SA.length y1, .slice x2 SB.length y2]), ex (.int .i64 n), ex (.pointer (some ⟨β, 1, none⟩)), ex (.slice x2 SB.length y2), ex (.int .i64 SB.length), ex (.int .i64 ((SB.length : Int) + 1)), ex (.int .i64 k), pr (PCr w5.heap.size SA TK), pr (PCr w5.heap.size SA TK), pr (PDk w5.heap.size SA TK), ex (.int .i64 0), ex (undef), ex (.int .i64 0)] (PFin w5 β SA TK) (by kernel_rfl) (by kernel_rfl) ⟨.inl ⟨_, rfl⟩, .inl ⟨_, rfl⟩, .inl ⟨_, rfl⟩, .inl ⟨_, rfl⟩, .inl ⟨_, rfl⟩, .inl ⟨_, rfl⟩, .inl ⟨_, rfl⟩, .inr ⟨_, rfl, PCr_stable⟩, .inr ⟨_, rfl, PCr_stable⟩, .inr ⟨_, rfl, PDk_stable⟩, .inl ⟨_, rfl⟩, .inl ⟨_, rfl⟩, .inl ⟨_, rfl⟩, trivial⟩ _ rfl ?_
  (refine walkP_ex (fun K hK => ?_); refine ⟨fun done W hI h0 hd hn hf R hR => ?_, ?_⟩; (have hno : done 11 = false := hn 11 (by decide); have hC := hI.before hno; have hqd := cells_of (blk_below Hbx5.out hC.2); clear h0 hd hn hf; go_simp; exact hR _ _ (hI.step hno (by decide) (Below.refl _ _)) (KeepFrom.of_below (Below.refl _ _)) rfl); (go_simp; refine hK _ ?_; clear hK K))
  (refine walkP_ex (fun K hK => ?_); refine ⟨fun done W hI h0 hd hn hf R hR => ?_, ?_⟩; (have hno : done 11 = false := hn 11 (by decide); have hC := hI.before hno; clear h0 hd hn hf; go_simp; exact hR _ _ (hI.step hno (by decide) (Below.refl _ _)) (KeepFrom.of_below (Below.refl _ _)) rfl); (go_simp; refine hK _ ?_; clear hK K))
  (refine walkP_ex (fun K hK => ?_); refine ⟨fun done W hI h0 hd hn hf R hR => ?_, ?_⟩; (have hno : done 11 = false := hn 11 (by decide); have hC := hI.before hno; clear h0 hd hn hf; go_simp; exact hR _ _ (hI.step hno (by decide) (Below.refl _ _)) (KeepFrom.of_below (Below.refl _ _)) rfl); (go_simp; refine hK _ ?_; clear hK K))
  (refine walkP_ex (fun K hK => ?_); refine ⟨fun done W hI h0 hd hn hf R hR => ?_, ?_⟩; (have hno : done 11 = false := hn 11 (by decide); have hC := hI.before hno; have hqd := cells_of (blk_below Hbx5.out hC.2); clear h0 hd hn hf; go_simp; exact hR _ _ (hI.step hno (by decide) (Below.refl _ _)) (KeepFrom.of_below (Below.refl _ _)) rfl); (go_simp; refine hK _ ?_; clear hK K))
  (refine walkP_ex (fun K hK => ?_); refine ⟨fun done W hI h0 hd hn hf R hR => ?_, ?_⟩; (have hno : done 11 = false := hn 11 (by decide); have hC := hI.before hno; clear h0 hd hn hf; go_simp; exact hR _ _ (hI.step hno (by decide) (Below.refl _ _)) (KeepFrom.of_below (Below.refl _ _)) rfl); (go_simp; refine hK _ ?_; clear hK K))
  (refine walkP_ex (fun K hK => ?_); refine ⟨fun done W hI h0 hd hn hf R hR => ?_, ?_⟩; (have hno : done 11 = false := hn 11 (by decide); have hC := hI.before hno; have hadd := Hadd.out; clear h0 hd hn hf; go_simp; exact hR _ _ (hI.step hno (by decide) (Below.refl _ _)) (KeepFrom.of_below (Below.refl _ _)) rfl); (go_simp; refine hK _ ?_; clear hK K))
  (refine walkP_ex (fun K hK => ?_); refine ⟨fun done W hI h0 hd hn hf R hR => ?_, ?_⟩; (have hno : done 11 = false := hn 11 (by decide); have hC := hI.before hno; clear h0 hd hn hf; go_simp; go_at_call 20; refine (at_bel n ((SB.length : Int) + 1) k W Hk.out (by have := HSB.out; omega) (by have := HSB.out; omega)).mono ?_; rintro e w9 ⟨rfl, hb9⟩; exact ⟨_, rfl, hR _ _ (hI.step hno (by decide) hb9) (KeepFrom.of_below hb9) rfl⟩); (go_simp; refine hK _ ?_; clear hK K))
  (refine walkP_pr (fun K hK => ?_); refine ⟨fun done W hI h0 hd hn hf R hR => ?_, fun v7 => ?_⟩; (have hno : done 11 = false := hn 11 (by decide); have hC := hI.before hno; have hsz0 : w5.heap.size ≤ W.heap.size := hC.1; have HSZ := Lib.hid hsz0; have HRW := Lib.hid (RdDisk.below Hrd5.out hC.2); have HLW := Lib.hid (HL5.out.below hC.2); clear hsz0; clear h0 hd hn hf; go_simp; go_at_call 19; refine (dcrash_any _ _ ⟨SA, SB⟩ k _ W HRW.out HLW.out).mono ?_; rw [HCR.out]; rintro e w9 ⟨u9, v9, rfl, hr9, hb9⟩; obtain ⟨f1, f2, rfl, _⟩ := Sl.form hr9.1; obtain ⟨f3, f4, rfl, _⟩ := Sl.form hr9.2; exact ⟨_, rfl, hR _ _ (hI.step hno (by decide) hb9) (KeepFrom.of_below hb9) ⟨_, _, rfl, RdDisk.keep hr9 (fun b hb _ => by have h1 : _ ≤ b := hb; have := HSZ.out; show _ ≤ _; omega) (fun _ _ _ => rfl) (Nat.le_refl _)⟩⟩); (go_simp; refine hK _ _ ?_; clear hK K))
  (refine walkP_pr (fun K hK => ?_); refine ⟨fun done W hI h0 hd hn hf R hR => ?_, fun v8 => ?_⟩; (have hno : done 11 = false := hn 11 (by decide); have hC := hI.before hno; have h7 : PCr w5.heap.size SA TK v7 W := hf 7 (by decide); have H7 := Lib.hid h7; clear h7 hC; clear h0 hd hn hf; go_simp; exact hR _ _ (hI.step hno (by decide) (Below.refl _ _)) (KeepFrom.of_below (Below.refl _ _)) H7.out); (go_simp; refine hK _ _ ?_; clear hK K))
  (refine walkP_pr (fun K hK => ?_); refine ⟨fun done W hI h0 hd hn hf R hR => ?_, fun v9 => ?_⟩; (have hno : done 11 = false := hn 11 (by decide); have hC := hI.before hno; have h8 : PCr w5.heap.size SA TK v8 W := hf 8 (by decide); obtain ⟨f1, f2, rfl, h8⟩ := h8; have H8 := Lib.hid h8; clear h8 hC; clear h0 hd hn hf; go_simp; exact hR _ _ (hI.step hno (by decide) (Below.refl _ _)) (KeepFrom.of_below (Below.refl _ _)) ⟨_, _, rfl, H8.out.1, H8.out.2⟩); (go_simp; refine hK _ _ ?_; clear hK K))
  (refine walkP_ex (fun K hK => ?_); refine ⟨fun done W hI h0 hd hn hf R hR => ?_, ?_⟩; (have h8 : PCr w5.heap.size SA TK v8 W := hf 8 (by decide); obtain ⟨f1, f2, rfl, h8⟩ := h8; clear h8; have HI := Lib.hid hI; clear hI; clear h0 hd hn hf; go_simp; exact hR _ _ (LastI.still HI.out (by decide)) (KeepFrom.of_below (Below.refl _ _)) rfl); (go_simp; refine hK _ ?_; clear hK K))
  (refine walkP_ex (fun K hK => ?_); refine ⟨fun done W hI h0 hd hn hf R hR => ?_, ?_⟩; (have hno : done 11 = false := h0; have hC := hI.before hno; have h9 : PDk w5.heap.size SA TK v9 W := hf 9 (by decide); obtain ⟨x, y, rfl, hx, hy⟩ := h9; have HX := Lib.hid hx; have HY := Lib.hid hy; obtain ⟨f1, f2, rfl, _⟩ := Sl.form hx; obtain ⟨f3, f4, rfl, _⟩ := Sl.form hy; have hbW := blk_below Hbx5.out hC.2; have hq1 := cells_of hbW; have hf1 := not_frozen hbW; have HFn := Lib.hid (put_fin (β := β) hC.2 hC.1 hbW Hβ5.out HX.out HY.out); have HKF : Hid (KeepFrom w5.heap.size W _) := keep_puts2 (W := W) (β := β) (x := .slice f1 SA.length f2) (y := .slice f3 TK.length f4) Hβ5.out; clear hx hy hbW hC; clear h0 hd hn hf; go_simp; exact hR _ _ (LastI.at_ HFn.out) HKF.out rfl); (go_simp; refine hK _ ?_; clear hK K))
  (refine walkP_ex (fun K hK => ?_); refine ⟨fun done W hI h0 hd hn hf R hR => ?_, ?_⟩; (have hyes : done 11 = true := hd 11 (by decide); clear h0 hd hn hf; go_simp; exact hR _ _ (hI.past hyes (by decide)) (KeepFrom.of_below (Below.refl _ _)) rfl); (go_simp; refine hK _ ?_; clear hK K))
  intro done w6 hdone hI _
  obtain ⟨u6, v6, hbx6, hr6, hg6⟩ := hI.after (hdone 11 (by decide))
  have HG6 : Hid (Below w.heap.size w w6) := below_of_grow HG5.out hg6 HG5.out.size Hβ.out
  have Hra6 := Lib.hid (recs_all (recs_grown Hra5.out hg6))
  have Hrb6 := Lib.hid (recs_all (recs_grown Hrb5.out hg6))
  have Hrd6 := Lib.hid (RdDisk.true hr6)
  obtain ⟨x6, y6, rfl⟩ := form_n (n := SA.length) hr6.1 rfl
  obtain ⟨z6, q6, rfl⟩ := form_n (n := TK.length) hr6.2 rfl
  have hqd := cells_of hbx6
  obtain ⟨M, hM⟩ : ∃ M, a ++ b.take j = M := ⟨_, rfl⟩
  obtain ⟨SM, hSM⟩ : ∃ S, logW M = S := ⟨_, rfl⟩
  have hMl : M.length = a.length + j := by have := Hj.out; rw [← hM, List.length_append, List.length_take]; omega
  have HMl : Hid (M.length = a.length + j) := hMl
  have HMt : Hid ((a ++ b).take M.length = M) := by show _ = _; rw [hMl, List.take_length_add_append]; exact hM
  rw [hM, hSM] at HR1 HR2
  clear hdone hI hr6 hg6 hM hSM hMl Hra5 Hrb5 HG5 Hrd5 Hbx5 HL5
  (try simp only [Exit.then])
  go_wp2_with fail
  clear hqd
  refine (drecover_any _ _ ⟨SA, TK⟩ _ _ Hrd6.out (HL.out.below HG6.out)).mono ?_
  rw [HR1.out]
  rintro e w7 ⟨u7, v7, vl, rfl, hr7, hl7, hb7⟩
  dsimp only at hr7 hl7
  obtain ⟨x7, y7, rfl⟩ := form_n (n := SM.length) hr7.1 rfl
  obtain ⟨z7, q7, rfl⟩ := form_n (n := 0) hr7.2 rfl
  obtain ⟨lm, cm, rfl, _⟩ := Sl.form hl7
  have hA := bel_alloc (Below.refl w7.heap.size w7) (.cells #[.slice x7 SM.length y7, .slice z7 0 q7] 43)
  have hAB := bel_call hb7 hA
  have HG7 := Lib.hid (bel_call HG6.out hAB)
  have Hra7 := Lib.hid (RdRecs.below Hra6.out hAB)
  have Hrb7 := Lib.hid (RdRecs.below Hrb6.out hAB)
  have Hrl7 := Lib.hid (recs_all (RdRecs.below hl7 hA))
  have Hrd7 := Lib.hid (RdDisk.true (RdDisk.below hr7 hA))
  have HX7 := Lib.hid (heap_last w7 (.cells #[.slice x7 SM.length y7, .slice z7 0 q7] 43))
  have hlt1 : ¬ (M.length : Int) < (a.length : Int) := by have := HMl.out; omega
  have hwab : IntKind.i64.wrap ((a.length : Int) + (b.length : Int)) = (a.length : Int) + (b.length : Int) := IntWalk.i64_in _ (by have := P45.out; omega)
  have hgt1 : ¬ (a.length : Int) + (b.length : Int) < (M.length : Int) := by have := HMl.out; have := Hj.out; omega
  clear hr7 hl7 hb7 hA hAB HG6 Hra6 Hrb6 Hrd6
  dsimp only
  go_wp2_with fail
  have hA8 := bel_alloc (Below.refl (w7.alloc (.cells #[.slice x7 SM.length y7, .slice z7 0 q7] 43)).heap.size (w7.alloc (.cells #[.slice x7 SM.length y7, .slice z7 0 q7] 43))) (.cells #[.slice oa a.length oc, .slice ob b.length od] 40)
  have HG8 := Lib.hid (bel_call HG7.out hA8)
  have Hra8 := Lib.hid (RdRecs.below Hra7.out hA8)
  have Hrb8 := Lib.hid (RdRecs.below Hrb7.out hA8)
  have Hrl8 := Lib.hid (RdRecs.below Hrl7.out hA8)
  have Hrd8 := Lib.hid (RdDisk.below Hrd7.out hA8)
  have HX8 := Lib.hid (blk_below HX7.out hA8)
  have HS8 := Lib.hid (two_recsK Hra8.out Hrb8.out (heap_last (w7.alloc (.cells #[.slice x7 SM.length y7, .slice z7 0 q7] 43)) (.cells #[.slice oa a.length oc, .slice ob b.length od] 40)))
  clear hA8 HG7 Hra7 Hrb7 Hrl7 Hrd7 HX7 Hra8 Hrb8
  revert HG8 Hrl8 Hrd8 HX8 HS8
  generalize hW8 : ((w7.alloc (.cells #[.slice x7 SM.length y7, .slice z7 0 q7] 43)).alloc (.cells #[.slice oa a.length oc, .slice ob b.length od] 40)) = w8
  have Hi8 : Hid ((w7.alloc (.cells #[.slice x7 SM.length y7, .slice z7 0 q7] 43)).heap.size < w8.heap.size) := by show _ < _; rw [← hW8]; simp
  have he8 : (w7.alloc (.cells #[.slice x7 SM.length y7, .slice z7 0 q7] 43)).heap.size = w7.heap.size + 1 := by simp
  clear hW8
  rw [he8] at Hi8 ⊢
  intro HG8 Hrl8 Hrd8 HX8 HS8
  clear he8
  refine (concatRec_any (recR w8 (fun _ => True)) (fun y cs h => recR_one y cs h) _ [a, b] _ _ HS8.out (by have := P45.out; simp [lenTo]; omega)).mono ?_
  rintro e w9 ⟨v9, rfl, ho9, hb9⟩
  rw [show [a, b].flatten = a ++ b by simp] at ho9
  have HS9 : Hid (RdRecs w9 (fun _ => True) v9 (a ++ b)) := Sl.mono (OwnSl.sl ho9 (D := fun _ => True) (fun _ _ => trivial)) (fun _ h _ => h) (fun _ _ _ => rfl) (Nat.le_refl _) (fun _ _ _ hr => hr.keep (fun _ h _ => h) (fun b _ hl => hb9.block b hl) hb9.size)
  obtain ⟨g9, n9, rfl, hn9, hm9, _⟩ := Sl.form HS9.out
  have HT9 : Hid (RdRecs w9 (fun _ => True) (.slice g9 M.length n9) M) := by
    have h1 := Sl.take HS9.out (k := M.length) (by have := HMl.out; have := Hj.out; simp; omega)
    rw [HMt.out] at h1
    exact h1
  have HG9 := Lib.hid (bel_call HG8.out hb9)
  have Hrl9 := Lib.hid (RdRecs.below Hrl8.out hb9)
  have Hrd9 := Lib.hid (RdDisk.below Hrd8.out hb9)
  have HX9 := Lib.hid (blk_below HX8.out hb9)
  have hcap : (M.length : Int) ≤ (n9 : Int) := by have := HMl.out; have := Hj.out; simp at hn9; omega
  have hm0 : (0 : Int) ≤ (M.length : Int) := by omega
  clear ho9 hb9 HG8 Hrl8 Hrd8 HX8 HS8 Hi8 hn9 hm9 HS9
  go_wp2_with fail
  refine (eqrecs_any _ _ M M _ Hrl9.out HT9.out).mono ?_
  rw [decide_eq_true (rfl : M = M)]
  rintro e w10 ⟨rfl, hb10⟩
  have HG10 := Lib.hid (bel_call HG9.out hb10)
  have Hrl10 := Lib.hid (RdRecs.below Hrl9.out hb10)
  have Hrd10 := Lib.hid (RdDisk.below Hrd9.out hb10)
  have HX10 := Lib.hid (blk_below HX9.out hb10)
  have hqx := cells_of HX10.out
  clear hb10 HG9 Hrl9 Hrd9 HX9 HT9 hcap hm0 hlt1 hwab hgt1
  go_wp2_with fail
  clear hqx
  refine (drecover_any _ _ ⟨SM, []⟩ _ _ Hrd10.out (HL.out.below HG10.out)).mono ?_
  rw [HR2.out]
  rintro e w11 ⟨u11, v11, vm, rfl, hr11, hl11, hb11⟩
  dsimp only at hr11 hl11
  obtain ⟨x11, y11, rfl⟩ := form_n (n := SM.length) hr11.1 rfl
  obtain ⟨z11, q11, rfl⟩ := form_n (n := 0) hr11.2 rfl
  obtain ⟨lk, ck, rfl, _⟩ := Sl.form hl11
  have hA := bel_alloc (Below.refl w11.heap.size w11) (.cells #[.slice x11 SM.length y11, .slice z11 0 q11] 43)
  have hAB := bel_call hb11 hA
  have HG11 := Lib.hid (bel_call HG10.out hAB)
  have Hrl11 := Lib.hid (RdRecs.below Hrl10.out hAB)
  have Hrk11 := Lib.hid (recs_all (RdRecs.below hl11 hA))
  have Hrd11 := Lib.hid (RdDisk.below Hrd10.out hAB)
  have Hre11 := Lib.hid (RdDisk.true (RdDisk.below hr11 hA))
  have HX11 := Lib.hid (blk_below HX10.out hAB)
  have HY11 := Lib.hid (heap_last w11 (.cells #[.slice x11 SM.length y11, .slice z11 0 q11] 43))
  have hqx := cells_of HX11.out
  have hqy := cells_of HY11.out
  clear hr11 hl11 hb11 hA hAB HG10 Hrl10 Hrd10 HX10
  dsimp only
  go_wp2_with fail
  clear hqx hqy
  refine (dsame_any _ _ _ _ ⟨SM, []⟩ ⟨SM, []⟩ _ Hre11.out Hrd11.out).mono ?_
  rw [decide_eq_true (rfl : (⟨SM, []⟩ : TDisk) = ⟨SM, []⟩)]
  rintro e w12 ⟨rfl, hb12⟩
  have HG12 := Lib.hid (bel_call HG11.out hb12)
  have Hrl12 := Lib.hid (RdRecs.below Hrl11.out hb12)
  have Hrk12 := Lib.hid (RdRecs.below Hrk11.out hb12)
  have HX12 := Lib.hid (blk_below HX11.out hb12)
  clear hb12 HG11 Hrl11 Hrk11 Hrd11 Hre11 HX11 HY11
  go_wp2_with fail
  refine (eqrecs_any _ _ M M _ Hrk12.out Hrl12.out).mono ?_
  rw [decide_eq_true (rfl : M = M)]
  rintro e w13 ⟨rfl, hb13⟩
  have HG13 := Lib.hid (bel_call HG12.out hb13)
  have hqx := cells_of (blk_below HX12.out hb13)
  clear hb13
  go_wp2
  go_ret
  refine ⟨?_, HG13.out⟩
  simp [go_sem]
end Go.Proofs.YthkgjohhbdipcaaDoor
