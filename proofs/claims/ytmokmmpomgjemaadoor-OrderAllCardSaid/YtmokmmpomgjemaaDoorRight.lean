/- Walks: at, right. Condition of at: 0 < n ≤ 70000. -/
import Derived.Test.YtmokmmpomgjemaaDoorCall
import Derived.Test.YtmokmmpomgjemaaDoorDone
namespace Go.Proofs.YtmokmmpomgjemaaDoor
open Go.RowKit
attribute [local go_sem] gives givesUpon

theorem tmod_small (k n : Int) (hn : 0 < n) : -n < k.tmod n ∧ k.tmod n < n ∧ k % n = if k.tmod n < 0 then k.tmod n + n else k.tmod n := by
  have h1 := Int.tmod_lt_of_pos k hn
  have h2 : -n < k.tmod n := Int.lt_tmod_of_pos k hn
  refine ⟨h2, h1, ?_⟩
  have he := Int.emod_nonneg k (show n ≠ 0 by omega)
  have he2 := Int.emod_lt_of_pos k hn
  have hd := Int.tmod_eq_emod (a := k) (b := n)
  split at hd <;> split <;> omega

set_option maxHeartbeats 1000000 in
theorem at_any (k n : Int) (w : World) (hn : 0 < n) (hb : n ≤ 70000) : Calls Tryd.prog 9 #[.int .i64 k, .int .i64 n] w fun e w' => e = .returned (.int .i64 (k % n)) ∧ w = w' := by
  obtain ⟨h1, h2, h3⟩ := tmod_small k n hn
  have H3 := Lib.hid h3
  clear h3
  go_enter Tryd.func9, Tryd.ntmps9
  by_cases h4 : k.tmod n < 0
  · go_wp2
    go_ret
    exact ⟨ret_int (by rw [H3.out, if_pos h4]), rfl⟩
  · go_wp2
    go_ret
    exact ⟨ret_int (by rw [H3.out, if_neg (by omega)]), rfl⟩

/-- what right makes of a call. -/
def TCall.right (x : TCall) : TCall := ⟨x.a0 % 64, x.a1 % 4, x.a2 % 65536, x.a3 % 65536, x.a4 % 65536⟩
theorem TCall.right_ok (x : TCall) : x.right.ok := by unfold TCall.ok TCall.right; dsimp only; omega
/-- the first k fields brought within bounds. -/
def rightTo (x : TCall) (k : Nat) : Array Value :=
  #[.int .i64 (if 0 < k then x.a0 % 64 else x.a0), .int .i64 (if 1 < k then x.a1 % 4 else x.a1), .int .i64 (if 2 < k then x.a2 % 65536 else x.a2), .int .i64 (if 3 < k then x.a3 % 65536 else x.a3), .int .i64 (if 4 < k then x.a4 % 65536 else x.a4)]
theorem rightTo_get (x : TCall) (k : Nat) (h : k < 5) : (rightTo x k)[k]? = some (.int .i64 (x.get k)) := by
  have hk : k = 0 ∨ k = 1 ∨ k = 2 ∨ k = 3 ∨ k = 4 := by omega
  rcases hk with rfl | rfl | rfl | rfl | rfl <;> rfl
theorem rightTo_set (x : TCall) (k : Nat) (h : k < 5) : (rightTo x k).setIfInBounds k (.int .i64 (x.get k % (mostOf k + 1))) = rightTo x (k + 1) := by
  have hk : k = 0 ∨ k = 1 ∨ k = 2 ∨ k = 3 ∨ k = 4 := by omega
  rcases hk with rfl | rfl | rfl | rfl | rfl <;> rfl

/-- What is told of a world in which one block of ours is written. -/
structure OneBlk (w0 : World) (b : Nat) (T : TypeId) (cs : Array Value) (W : World) : Prop where
  grown : w0.grownBy W (some b)
  here : W.heap[b]? = some (.cells cs T (0, 0))
theorem OneBlk.lt {w0 W : World} {b : Nat} {T : TypeId} {cs : Array Value} (h : OneBlk w0 b T cs W) : b < W.heap.size := (Array.getElem?_eq_some_iff.1 h.here).1
theorem OneBlk.below {w0 W W' : World} {b : Nat} {T : TypeId} {cs : Array Value} (h : OneBlk w0 b T cs W) (hb : Below W.heap.size W W') : OneBlk w0 b T cs W' :=
  ⟨⟨hb.os.trans h.grown.os, hb.tape.trans h.grown.tape, hb.output.trans h.grown.output, Nat.le_trans h.grown.size hb.size, fun i hi hn => (hb.block i (Nat.lt_of_lt_of_le hi h.grown.size)).trans (h.grown.block i hi hn)⟩, (hb.block b h.lt).trans h.here⟩
theorem OneBlk.cell {w0 W : World} {b : Nat} {T : TypeId} {cs : Array Value} (h : OneBlk w0 b T cs W) (k : Nat) : W.cell? ⟨b, k, none⟩ = cs[k]? := by simp [World.cell?, h.here]
theorem OneBlk.frozen {w0 W : World} {b : Nat} {T : TypeId} {cs : Array Value} (h : OneBlk w0 b T cs W) (k : Nat) : W.frozen? ⟨b, k, none⟩ = false := by simp [World.frozen?, h.here]
theorem OneBlk.set {w0 W : World} {b : Nat} {T : TypeId} {cs : Array Value} (h : OneBlk w0 b T cs W) (k : Nat) (v : Value) : OneBlk w0 b T (cs.setIfInBounds k v) (W.setCell ⟨b, k, none⟩ v) := by
  refine ⟨⟨h.grown.os, h.grown.tape, h.grown.output, by simpa [World.setCell] using h.grown.size, fun i hi hn => ?_⟩, ?_⟩
  · rw [Below.heap_setCell _ _ _ _ (fun e => hn (by rw [e]))]
    exact h.grown.block i hi hn
  · simp [World.setCell, Array.getElem?_modify, h.here]
theorem OneBlk.drew {w0 W : World} {b : Nat} {T : TypeId} {cs : Array Value} (h : OneBlk w0 b T cs W) : OneBlk w0 b T cs W.drew := ⟨⟨h.grown.os, h.grown.tape, h.grown.output, h.grown.size, h.grown.block⟩, h.here⟩
theorem OneBlk.alloc {w0 W : World} {b : Nat} {T : TypeId} {cs : Array Value} (h : OneBlk w0 b T cs W) (o : Obj) : OneBlk w0 b T cs (W.alloc o) := h.below ((Below.refl _ _).alloc (Nat.le_refl _) o)
theorem OneBlk.toBelow {w0 W : World} {b B : Nat} {T : TypeId} {cs : Array Value} (h : OneBlk w0 b T cs W) (hB : B ≤ b) (hB' : B ≤ w0.heap.size) : Below B w0 W :=
  ⟨h.grown.os, h.grown.tape, h.grown.output, h.grown.size, fun k hk => h.grown.block k (by omega) (by simp; omega)⟩

set_option maxHeartbeats 1000000 in
theorem right_any (x : TCall) (w : World) : Calls Tryd.prog 5 #[callV x] w fun e w' => e = .returned (callV x.right) ∧ Below w.heap.size w w' := by
  go_enter Tryd.func5, Tryd.ntmps5
  go_wp2_with fail
  go_loopw [4] (fun i wr => ∃ k : Nat, k ≤ 5 ∧ i = .int .i64 k ∧ OneBlk ((w.alloc (.cells #[.int .i64 x.a0, .int .i64 x.a1, .int .i64 x.a2, .int .i64 x.a3, .int .i64 x.a4] 26)).alloc (.cells #[.int .i64 0, .int .i64 0, .int .i64 0, .int .i64 0, .int .i64 0] 26)) w.heap.size 26 (rightTo x k) wr) (fun i _ => 5 - (intOf i).toNat)
  case atStart => exact ⟨0, by omega, rfl, ⟨rfl, rfl, rfl, Nat.le_refl _, fun _ _ _ => rfl⟩, blk_old (blk_at rfl)⟩
  case round =>
    obtain ⟨k, hk, rfl, hO⟩ := hrel
    have HO := Lib.hid hO
    have hlt0 := hO.lt
    clear hO
    by_cases hlt : k < 5
    · have hm0 : 0 < mostOf k + 1 ∧ mostOf k + 1 ≤ 70000 := by unfold mostOf; split <;> (try split) <;> omega
      have hwr : IntKind.i64.wrap (mostOf k + 1) = mostOf k + 1 := IntWalk.i64_in _ (by omega)
      have hgk := rightTo_get x k hlt
      have Hset := Lib.hid (rightTo_set x k hlt)
      go_wp2_with fail
      refine wp_region_stores (fun done W => OneBlk wr w.heap.size 26 (if done 9 then rightTo x (k + 1) else rightTo x k) W) (by kernel_rfl) (by kernel_rfl) ⟨⟨rfl, rfl, rfl, Nat.le_refl _, fun _ _ _ => rfl⟩, HO.out.here⟩ _ rfl ?_
      (refine doneE_step (fun K hK => ?_); apply Exists.intro; refine ⟨fun done W hI h0 hd hn R hR => ?_, ?_⟩; (go_simp; refine hR _ _ ?_ rfl; simpa [updDone] using hI); (go_simp; refine hK _ ?_; clear hK K))
      (refine doneE_step (fun K hK => ?_); apply Exists.intro; refine ⟨fun done W hI h0 hd hn R hR => ?_, ?_⟩; (go_simp; refine hR _ _ ?_ rfl; simpa [updDone] using hI); (go_simp; refine hK _ ?_; clear hK K))
      (refine doneE_step (fun K hK => ?_); apply Exists.intro; refine ⟨fun done W hI h0 hd hn R hR => ?_, ?_⟩; (go_simp; refine hR _ _ ?_ rfl; simpa [updDone] using hI); (go_simp; refine hK _ ?_; clear hK K))
      (refine doneE_step (fun K hK => ?_); apply Exists.intro; refine ⟨fun done W hI h0 hd hn R hR => ?_, ?_⟩; (have h9 : done 9 = false := hn 9 (by decide); have hI' : OneBlk wr w.heap.size 26 (rightTo x k) W := (by simpa [h9] using hI); have hc := (hI'.cell k).trans hgk; clear hI h0 hd hn; go_simp; refine hR _ _ ?_ rfl; simpa [updDone, h9] using hI'); (go_simp; refine hK _ ?_; clear hK K))
      (refine doneE_step (fun K hK => ?_); apply Exists.intro; refine ⟨fun done W hI h0 hd hn R hR => ?_, ?_⟩; (go_simp; refine hR _ _ ?_ rfl; simpa [updDone] using hI); (go_simp; refine hK _ ?_; clear hK K))
      (refine doneE_step (fun K hK => ?_); apply Exists.intro; refine ⟨fun done W hI h0 hd hn R hR => ?_, ?_⟩; (go_simp; go_at_call 10; refine (mostof_any _ _).mono ?_; rintro e w1 ⟨rfl, hb1⟩; refine ⟨_, rfl, hR _ _ ?_ rfl⟩; simpa [updDone] using hI.below hb1); (go_simp; refine hK _ ?_; clear hK K))
      (refine doneE_step (fun K hK => ?_); apply Exists.intro; refine ⟨fun done W hI h0 hd hn R hR => ?_, ?_⟩; (go_simp; refine hR _ _ ?_ rfl; simpa [updDone] using hI); (go_simp; refine hK _ ?_; clear hK K))
      (refine doneE_step (fun K hK => ?_); apply Exists.intro; refine ⟨fun done W hI h0 hd hn R hR => ?_, ?_⟩; (go_simp; go_at_call 9; (with_reducible refine (at_any _ _ _ hm0.1 hm0.2).mono ?_); rintro e w1 ⟨rfl, rfl⟩; refine ⟨_, rfl, hR _ _ ?_ rfl⟩; simpa [updDone] using hI); (go_simp; refine hK _ ?_; clear hK K))
      (refine doneE_step (fun K hK => ?_); apply Exists.intro; refine ⟨fun done W hI h0 hd hn R hR => ?_, ?_⟩; (go_simp; refine hR _ _ ?_ rfl; simpa [updDone] using hI); (go_simp; refine hK _ ?_; clear hK K))
      (refine doneE_step (fun K hK => ?_); apply Exists.intro; refine ⟨fun done W hI h0 hd hn R hR => ?_, ?_⟩; (have hI' : OneBlk wr w.heap.size 26 (rightTo x k) W := (by simpa [h0] using hI); have hc := (hI'.cell k).trans hgk; have hf := hI'.frozen k; have hs := hI'.set k (.int .i64 (x.get k % (mostOf k + 1))); rw [Hset.out] at hs; clear hI h0 hd hn; go_simp; refine hR _ _ ?_ rfl; simpa [updDone] using hs); (go_simp; refine hK _ ?_; clear hK K))
      intro done W hdone hI
      have h9 : done 9 = true := hdone 9 (by decide)
      have hI' : OneBlk wr w.heap.size 26 (rightTo x (k + 1)) W := by simpa [h9] using hI
      clear hI hdone
      have HI := Lib.hid hI'
      clear hI'
      go_wp2
      go_roundw
      case rel => exact ⟨k + 1, by omega, by go_num, ⟨⟨HI.out.grown.os.trans HO.out.grown.os, HI.out.grown.tape.trans HO.out.grown.tape, HI.out.grown.output.trans HO.out.grown.output, Nat.le_trans HO.out.grown.size HI.out.grown.size, fun i hi hn => (HI.out.grown.block i (Nat.lt_of_lt_of_le hi HO.out.grown.size) hn).trans (HO.out.grown.block i hi hn)⟩, HI.out.here⟩⟩
      case measure => simp [intOf]; omega
    · obtain rfl : k = 5 := by omega
      have hcell := HO.out.cell
      have h2 : wr.heap[w.heap.size + 1]? = some (.cells #[.int .i64 0, .int .i64 0, .int .i64 0, .int .i64 0, .int .i64 0] 26 (0, 0)) :=
        (HO.out.grown.block (w.heap.size + 1) (by simp) (by simp)).trans (blk_at (by simp))
      have hc2 : ∀ j, wr.cell? ⟨w.heap.size + 1, j, none⟩ = (#[Value.int .i64 0, .int .i64 0, .int .i64 0, .int .i64 0, .int .i64 0] : Array Value)[j]? := fun j => by simp [World.cell?, h2]
      have hf2 : ∀ j, wr.frozen? ⟨w.heap.size + 1, j, none⟩ = false := fun j => by simp [World.frozen?, h2]
      clear h2
      unfold rightTo at hcell
      have hb : Below w.heap.size w wr := (bel_alloc (bel_alloc (Below.refl _ _) _) _).trans (HO.out.toBelow (Nat.le_refl _) (by simp; omega))
      have Hb := Lib.hid hb
      clear hb
      go_wp2
      exact bodyPost_ret (v := callV x.right) (by simp [results, Tryd.results5, go_sem, hc2]; exact ⟨rfl, rfl, rfl, rfl, rfl⟩) rfl ⟨rfl, ((((Hb.out.setCell (by simp) _).setCell (by simp) _).setCell (by simp) _).setCell (by simp) _).setCell (by simp) _⟩
end Go.Proofs.YtmokmmpomgjemaaDoor
