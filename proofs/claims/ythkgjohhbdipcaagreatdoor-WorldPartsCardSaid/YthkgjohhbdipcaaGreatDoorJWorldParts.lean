/- WorldParts returns true at every world, script and number. Condition: Laid. -/
import Derived.Test.YthkgjohhbdipcaaGreatDoorK14
import Derived.Test.YthkgjohhbdipcaaGreatDoorK15
import Derived.Test.YthkgjohhbdipcaaGreatDoorK13
namespace Go.Proofs.YthkgjohhbdipcaaGreatDoor
open Go.RowKit
attribute [local go_sem] gives givesUpon

theorem add_at (b o n : Nat) : (⟨b, o, none⟩ : Addr).add n = ⟨b, o + n, none⟩ := by
  unfold Addr.add
  split
  · rename_i h; subst h; rfl
  · rfl
/-- a row cut at its start. -/
theorem Sl.drop {α : Type} {w : World} {D : Nat → Prop} {sz : Nat} {R : α → List Value → Prop} {a : Option Addr} {n c k : Nat} {xs : List α} (h : Sl w D sz R (.slice a n c) xs) (hk : k ≤ n) : Sl w D sz R (sliced a k n c sz) (xs.drop k) := by
  obtain ⟨a', c', hv, hl, hm, hn, h⟩ := h
  injection hv with h1 h2 h3
  subst h1 h2 h3
  refine ⟨if c = k then a else a.map (·.add (k * sz)), c - k, by unfold sliced; rw [List.length_drop], by rw [List.length_drop]; omega, by omega, fun h0 => ?_, fun h0 => ?_⟩
  · split at h0
    · have := hn h0; omega
    · cases a with
      | none => have := hn rfl; omega
      | some a => simp at h0
  · rw [List.length_drop] at h0
    obtain ⟨b, o, ha, hDb, hb, hc⟩ := h (by omega)
    subst ha
    rw [if_neg (by omega)]
    refine ⟨b, o + k * sz, by rw [Option.map_some, add_at], hDb, hb, fun i x hx => ?_⟩
    rw [List.getElem?_drop] at hx
    obtain ⟨cs, e1, e2, e3⟩ := hc (k + i) x hx
    refine ⟨cs, e1, e2, fun j y hy => ?_⟩
    rw [← e3 j y hy, Nat.add_mul]
    congr 2
    omega
def fstV3 : Value → Value := fstV
def sndV : Value → Value
  | .tuple a => a.getD 1 undef
  | _ => undef
/-- the region of Run's results: operation 4 calls, 9 lays a variable, 10 stores into it. -/
structure RpI (w0 : World) (t' : TWorld) (sd : List Int) (er : Int) (done : Nat → Bool) (vf : Nat → Value) (W : World) : Prop where
  fr : Below w0.heap.size w0 W
  o5 : done 5 = true → done 4 = true
  o6 : done 6 = true → done 5 = true
  o7 : done 7 = true → done 5 = true
  c4 : done 4 = true → done 10 = false → ∃ x y z sv, vf 4 = .tuple #[worldV x y z t'.up, sv, .int .i64 er] ∧ RdWorld W (fun k => w0.heap.size ≤ k ∧ (done 9 = true → vf 9 ≠ .pointer (some ⟨k, 0, none⟩))) x y z t' ∧ RdInts W (fun k => w0.heap.size ≤ k ∧ (done 9 = true → vf 9 ≠ .pointer (some ⟨k, 0, none⟩))) sv sd
  c4' : done 4 = true → ∃ x y z sv, vf 4 = .tuple #[worldV x y z t'.up, sv, .int .i64 er]
  c9 : done 9 = true → ∃ b, vf 9 = .pointer (some ⟨b, 0, none⟩) ∧ w0.heap.size ≤ b ∧ (done 10 = false → W.heap[b]? = some (.cells #[.slice none 0 0, .slice none 0 0, .slice none 0 0, .bool false] 27))
  c10 : done 10 = true → ∃ b x y z sv, vf 4 = .tuple #[worldV x y z t'.up, sv, .int .i64 er] ∧ vf 9 = .pointer (some ⟨b, 0, none⟩) ∧ w0.heap.size ≤ b ∧ W.heap[b]? = some (.cells #[x, y, z, .bool t'.up] 27) ∧ RdWorld W (fun k => w0.heap.size ≤ k ∧ k ≠ b) x y z t' ∧ RdInts W (fun k => w0.heap.size ≤ k ∧ k ≠ b) sv sd
section
variable {w0 W W' : World} {t' : TWorld} {sd : List Int} {er : Int} {done : Nat → Bool} {vf : Nat → Value} {v : Value} {i : Nat}
theorem RpI.start : RpI w0 t' sd er (fun _ => false) (fun _ => undef) w0.drew := ⟨(Below.refl _ _).drew, (fun h => by cases h), (fun h => by cases h), (fun h => by cases h), (fun h => by cases h), (fun h => by cases h), (fun h => by cases h), (fun h => by cases h)⟩
theorem upd_of {i j k : Nat} (h : done k = true → done j = true) (hi : i = k → done j = true) : updDone done i k = true → updDone done i j = true := by
  intro e
  by_cases e6 : k = i
  · have := hi e6.symm
    unfold updDone
    split
    · rfl
    · exact this
  · have h1 := h (by rw [← e]; exact (if_neg e6).symm)
    unfold updDone
    split
    · rfl
    · exact h1
theorem RpI.same' (h : RpI w0 t' sd er done vf W) (h4 : 4 ≠ i) (h9 : 9 ≠ i) (h10 : 10 ≠ i) (h5 : i = 5 → done 4 = true) (h6 : i = 6 → done 5 = true) (h7 : i = 7 → done 5 = true) : RpI w0 t' sd er (updDone done i) (updVal vf i v) W := by
  have e4 : updDone done i 4 = done 4 := if_neg h4
  have e9 : updDone done i 9 = done 9 := if_neg h9
  have e10 : updDone done i 10 = done 10 := if_neg h10
  have f4 : updVal vf i v 4 = vf 4 := if_neg h4
  have f9 : updVal vf i v 9 = vf 9 := if_neg h9
  refine ⟨h.fr, upd_of h.o5 h5, upd_of h.o6 h6, upd_of h.o7 h7, ?_, ?_, ?_, ?_⟩
  all_goals simp only [e4, e9, e10, f4, f9]
  · exact h.c4
  · exact h.c4'
  · exact h.c9
  · exact h.c10
theorem RpI.call4 {x y z sv : Value} (h : RpI w0 t' sd er done vf W) (n10 : done 10 = false) (hb : Below W.heap.size W W') (hr : RdWorld W' (fun b => W.heap.size ≤ b) x y z t') (hs : RdInts W' (fun b => W.heap.size ≤ b) sv sd) : RpI w0 t' sd er (updDone done 4) (updVal vf 4 (.tuple #[worldV x y z t'.up, sv, .int .i64 er])) W' := by
  have f4 : updVal vf 4 (.tuple #[worldV x y z t'.up, sv, .int .i64 er]) 4 = .tuple #[worldV x y z t'.up, sv, .int .i64 er] := if_pos rfl
  have f9 : updVal vf 4 (.tuple #[worldV x y z t'.up, sv, .int .i64 er]) 9 = vf 9 := if_neg (by decide)
  have e9 : updDone done 4 9 = done 9 := if_neg (by decide)
  have e10 : updDone done 4 10 = done 10 := if_neg (by decide)
  have hdom : ∀ b, W.heap.size ≤ b → w0.heap.size ≤ b ∧ (updDone done 4 9 = true → updVal vf 4 (.tuple #[worldV x y z t'.up, sv, .int .i64 er]) 9 ≠ .pointer (some ⟨b, 0, none⟩)) := fun b hb' => ⟨by have := h.fr.size; omega, fun h9 e => by
    rw [e9] at h9
    rw [f9] at e
    obtain ⟨b9, hb9, _, hc9⟩ := h.c9 h9
    rw [hb9] at e
    injection e with e; injection e with e; injection e with e
    have h2 := (Array.getElem?_eq_some_iff.1 (hc9 n10)).1
    omega⟩
  refine ⟨bel_call h.fr hb, fun _ => by simp [updDone], upd_of h.o6 (fun e => absurd e (by decide)), upd_of h.o7 (fun e => absurd e (by decide)), fun _ _ => ⟨x, y, z, sv, f4, ?_, ?_⟩, fun _ => ⟨x, y, z, sv, f4⟩, fun e => ?_, fun e => by rw [e10, n10] at e; cases e⟩
  · exact RdWorld.keep hr (fun b hb' _ => hdom b hb') (fun _ _ _ => rfl) (Nat.le_refl _)
  · exact Sl.mono hs (fun b hb' _ => hdom b hb') (fun _ _ _ => rfl) (Nat.le_refl _) (fun _ _ _ h => h)
  · rw [e9] at e
    obtain ⟨b9, hb9, hl9, hc9⟩ := h.c9 e
    exact ⟨b9, by rw [f9]; exact hb9, hl9, fun _ => blk_below (hc9 n10) hb⟩
theorem RpI.new9 (h : RpI w0 t' sd er done vf W) (n10 : done 10 = false) : RpI w0 t' sd er (updDone done 9) (updVal vf 9 (.pointer (some ⟨W.heap.size, 0, none⟩))) (W.alloc (.cells #[.slice none 0 0, .slice none 0 0, .slice none 0 0, .bool false] 27)) := by
  have hb : Below W.heap.size W (W.alloc (.cells #[.slice none 0 0, .slice none 0 0, .slice none 0 0, .bool false] 27)) := bel_alloc (Below.refl _ _) _
  have f4 : updVal vf 9 (.pointer (some ⟨W.heap.size, 0, none⟩)) 4 = vf 4 := if_neg (by decide)
  have f9 : updVal vf 9 (.pointer (some ⟨W.heap.size, 0, none⟩)) 9 = .pointer (some ⟨W.heap.size, 0, none⟩) := if_pos rfl
  have e4 : updDone done 9 4 = done 4 := if_neg (by decide)
  have e10 : updDone done 9 10 = done 10 := if_neg (by decide)
  have hdom : ∀ b, (fun k => w0.heap.size ≤ k ∧ (done 9 = true → vf 9 ≠ .pointer (some ⟨k, 0, none⟩))) b → b < W.heap.size → w0.heap.size ≤ b ∧ (updDone done 9 9 = true → updVal vf 9 (.pointer (some ⟨W.heap.size, 0, none⟩)) 9 ≠ .pointer (some ⟨b, 0, none⟩)) := fun b hb' hl => ⟨hb'.1, fun _ e9 => by
    rw [f9] at e9
    injection e9 with e9; injection e9 with e9; injection e9 with e9
    omega⟩
  refine ⟨bel_call h.fr hb, upd_of h.o5 (fun e => absurd e (by decide)), upd_of h.o6 (fun e => absurd e (by decide)), upd_of h.o7 (fun e => absurd e (by decide)), fun e _ => ?_, fun e => ?_, fun _ => ⟨_, f9, h.fr.size, fun _ => heap_last _ _⟩, fun e => by rw [e10, n10] at e; cases e⟩
  · rw [e4] at e
    obtain ⟨x, y, z, sv, h1, h2, h3⟩ := h.c4 e n10
    exact ⟨x, y, z, sv, by rw [f4]; exact h1, RdWorld.keep h2 hdom (fun b _ hl => hb.block b hl) hb.size, Sl.mono h3 hdom (fun b _ hl => hb.block b hl) hb.size (fun _ _ _ h => h)⟩
  · rw [e4] at e
    rw [f4]
    exact h.c4' e
theorem RpI.st10 (h : RpI w0 t' sd er done vf W) (d4 : done 4 = true) (d9 : done 9 = true) (n10 : done 10 = false) : ∀ (b : Nat) (x y z sv : Value), vf 9 = .pointer (some ⟨b, 0, none⟩) → vf 4 = .tuple #[worldV x y z t'.up, sv, .int .i64 er] → RpI w0 t' sd er (updDone done 10) (updVal vf 10 v) ((((W.setCell ⟨b, 0, none⟩ x).setCell ⟨b, 1, none⟩ y).setCell ⟨b, 2, none⟩ z).setCell ⟨b, 3, none⟩ (.bool t'.up)) := by
  intro b x y z sv hb9 h4
  obtain ⟨b', hb', hl, hc⟩ := h.c9 d9
  rw [hb9] at hb'
  injection hb' with hb'; injection hb' with hb'; injection hb' with hb'
  subst hb'
  obtain ⟨x', y', z', sv', h4', hr, hs⟩ := h.c4 d4 n10
  rw [h4] at h4'
  simp only [Value.tuple.injEq, Array.mk.injEq, List.cons.injEq, Value.agg.injEq, and_true] at h4'
  obtain ⟨⟨rfl, rfl, rfl⟩, rfl⟩ := h4'
  have hg := puts4_grow (W := W) (b := b) x y z (.bool t'.up)
  have f4 : updVal vf 10 v 4 = vf 4 := if_neg (by decide)
  have f9 : updVal vf 10 v 9 = vf 9 := if_neg (by decide)
  have hdom : ∀ k, (fun k => w0.heap.size ≤ k ∧ (done 9 = true → vf 9 ≠ .pointer (some ⟨k, 0, none⟩))) k → k < W.heap.size → w0.heap.size ≤ k ∧ k ≠ b := fun k hk _ => ⟨hk.1, fun e => hk.2 d9 (by rw [e]; exact hb9)⟩
  refine ⟨below_of_grow h.fr hg h.fr.size hl, upd_of h.o5 (fun e => absurd e (by decide)), upd_of h.o6 (fun e => absurd e (by decide)), upd_of h.o7 (fun e => absurd e (by decide)), fun _ e => by simp [updDone] at e, fun _ => ⟨x, y, z, sv, by rw [f4]; exact h4⟩, fun _ => ⟨b, by rw [f9]; exact hb9, hl, fun e => by simp [updDone] at e⟩, fun _ => ⟨b, x, y, z, sv, by rw [f4]; exact h4, by rw [f9]; exact hb9, hl, puts4_at x y z (.bool t'.up) (hc n10), ?_, ?_⟩⟩
  · exact RdWorld.keep hr hdom (fun k hk hl' => grow_keep hg hl' (fun e => hk.2 d9 (by rw [e]; exact hb9))) hg.size
  · exact Sl.mono hs hdom (fun k hk hl' => grow_keep hg hl' (fun e => hk.2 d9 (by rw [e]; exact hb9))) hg.size (fun _ _ _ h => h)
end
theorem wrunE_said {t : TWorld} {l : List THap} {x : TWorld} {sd : List Int} (h : wrunE t l = (x, sd, 0)) : sd.length = l.length := by
  unfold wrunE at h
  split at h
  · rename_i h1
    simp only [Prod.mk.injEq] at h
    exact absurd h.2.2 h1
  · split at h
    · simp at h
    · simp only [Prod.mk.injEq] at h
      rw [← h.2.1, wrunGo_length]
set_option maxRecDepth 100000 in
set_option maxHeartbeats 32000000 in
theorem worldParts_walk {w : World} (hL : Laid w) (v0 : Value) (t : TWorld) (rd0 : ∃ c u1 u2, v0 = worldV c u1 u2 t.up ∧ RdWorld w (fun _ => True) c u1 u2 t) (v1 : Value) (l : List THap) (rd1 : RdHaps w (fun _ => True) v1 l) (n : Int) :
    Calls Tryz.prog 7 #[v0, v1, .int .i64 n] w fun e w' => e = .returned (.bool true) ∧ Below w.heap.size w w' := by
  have HL := Lib.hid hL
  obtain ⟨c, u, v, rfl, hr⟩ := rd0
  have Ht := Lib.hid hr
  have Hl := Lib.hid rd1
  obtain ⟨a0, c0, rfl, _⟩ := Sl.form hr.cells
  obtain ⟨a1, c1, rfl, _⟩ := Sl.form hr.disk.1
  obtain ⟨a2, c2, rfl, _⟩ := Sl.form hr.disk.2
  obtain ⟨al, cl, rfl, hlc, hcm, _⟩ := Sl.form rd1
  clear hL hr rd1
  have HB := Lib.hid (Bx.one (w := w) (o := .cells #[.slice a0 t.cells.length c0, .slice a1 t.d.safe.length c1, .slice a2 t.d.wait.length c2, .bool t.up] 27))
  go_enter Tryz.func7, Tryz.ntmps7
  go_wp2_with fail
  refine (wrun_any _ _ _ _ t l _ _ _ (RdWorld.below Ht.out HB.out.bel) (RdHaps.below Hl.out HB.out.bel) (HL.out.below HB.out.bel)).mono ?_
  obtain ⟨⟨x, sd, xe⟩, hx⟩ : ∃ E, wrunE t l = E := ⟨_, rfl⟩
  have HX := Lib.hid hx
  rw [hx]
  rintro e w1 ⟨c', u', v', sv, rfl, hr1, hs1, hb1⟩
  dsimp only at hr1 hs1
  obtain ⟨x0, y0, rfl, _⟩ := Sl.form hr1.cells
  obtain ⟨x1, y1, rfl, _⟩ := Sl.form hr1.disk.1
  obtain ⟨x2, y2, rfl, _⟩ := Sl.form hr1.disk.2
  obtain ⟨as1, cs1, rfl, _⟩ := Sl.form hs1
  have HA1 := Lib.hid (bel_alloc (Below.refl w1.heap.size w1) (.cells #[.slice x0 x.cells.length y0, .slice x1 x.d.safe.length y1, .slice x2 x.d.wait.length y2, .bool x.up] 27))
  have HB1 := Lib.hid ((HB.out.below hb1).below HA1.out)
  have Hx1 := Lib.hid (heap_last w1 (.cells #[.slice x0 x.cells.length y0, .slice x1 x.d.safe.length y1, .slice x2 x.d.wait.length y2, .bool x.up] 27))
  have Hr1 := Lib.hid (RdWorld.below (RdWorld.true hr1) HA1.out)
  have Hs1 : Hid (RdInts _ (fun _ => True) _ _) := RdInts.below (Sl.mono hs1 (fun _ _ _ => trivial) (fun _ _ _ => rfl) (Nat.le_refl _) (fun _ _ _ h => h)) HA1.out
  clear hx hr1 hs1 hb1 HA1 HB
  dsimp only
  go_wp2_with fail
  refine (kept_walk _ (HL.out.below HB1.out.bel)).mono ?_
  rintro e w2 ⟨rfl, hb2⟩
  have HB2 := Lib.hid (HB1.out.below hb2)
  have Hx2 := Lib.hid (blk_below Hx1.out hb2)
  have Hr2 := Lib.hid (RdWorld.below Hr1.out hb2)
  have Hs2 := Lib.hid (RdInts.below Hs1.out hb2)
  clear hb2 HB1 Hx1 Hr1 Hs1
  by_cases h0 : xe = 0
  · subst h0
    have hl60 : l.length ≤ 60 := by
      have := HX.out
      unfold wrunE at this
      split at this
      · rename_i h
        simp only [Prod.mk.injEq] at this
        exact absurd this.2.2 h
      · split at this
        · simp at this
        · omega
    obtain ⟨k, hk, hkl⟩ : ∃ k : Nat, n % ((l.length : Int) + 1) = (k : Int) ∧ k ≤ l.length := by
      have h1 := Int.emod_nonneg n (show (l.length : Int) + 1 ≠ 0 by omega)
      have h2 := Int.emod_lt_of_pos n (show (0 : Int) < (l.length : Int) + 1 by omega)
      exact ⟨(n % ((l.length : Int) + 1)).toNat, by omega, by omega⟩
    have HP := Lib.hid (run_parts (w := t) (l := l) (by rw [HX.out]) k)
    have hadd : IntKind.i64.wrap ((l.length : Int) + 1) = (l.length : Int) + 1 := IntWalk.i64_in _ (by omega)
    obtain ⟨⟨y, sy, ye⟩, hy⟩ : ∃ E, wrunE t (l.take k) = E := ⟨_, rfl⟩
    rw [hy, HX.out] at HP
    obtain ⟨⟨z, sz, ze⟩, hz⟩ : ∃ E, wrunE y (l.drop k) = E := ⟨_, rfl⟩
    dsimp only at HP
    rw [hz] at HP
    dsimp only at HP
    have HY := Lib.hid hy
    have HZ := Lib.hid hz
    obtain ⟨hye, hze, hzx, hsd⟩ := HP.out
    subst hye hze hzx
    clear HP hy hz
    have Hsd : Hid (sd = sy ++ sz) := hsd
    have Hkl := Lib.hid hkl
    have Hl60 := Lib.hid hl60
    have Htk : Hid (RdHaps w (fun _ => True) (.slice al k cl) (l.take k)) := Sl.take Hl.out hkl
    obtain ⟨sa, hsa⟩ : ∃ sa, (if cl = k then al else al.map (·.add (k * 5))) = sa := ⟨_, rfl⟩
    have Hsa := Lib.hid hsa
    have Hdr : Hid (RdHaps w (fun _ => True) (.slice sa (l.length - k) (cl - k)) (l.drop k)) := by
      have h1 : RdHaps w (fun _ => True) (sliced al k l.length cl 5) (l.drop k) := Sl.drop Hl.out hkl
      unfold sliced at h1
      rw [hsa] at h1
      exact h1
    clear hsa
    clear hsd
    go_wp2_with fail
    clear hadd
    refine (at_any n ((l.length : Int) + 1) _ (by omega) (by have := Hl60.out; omega)).mono ?_
    rw [hk]
    rintro e w3 ⟨rfl, rfl⟩
    have hk0 : (0 : Int) ≤ (k : Int) := by omega
    have hkc : (k : Int) ≤ (cl : Int) := by omega
    have hkl' : (k : Int) ≤ (l.length : Int) := by omega
    clear hk
    go_wp2_with fail
    refine RV.wp_region_rel (RpI w2 y sy 0) (fun _ _ _ _ => True) (fun _ _ _ _ => True) (by kernel_rfl) (by kernel_rfl) _ rfl (fun _ _ _ _ _ _ _ _ _ _ _ _ => trivial) (fun _ _ _ _ _ _ _ _ => trivial) RpI.start ?_
    (refine RV.rel_ex (fun K hK => ?_); apply Exists.intro; refine ⟨fun done vf W hI hd0 hd hn hf R hR => ?_, ?_, ?_⟩; (have hq0 := (HB2.out.below hI.fr).cells0; clear hd0 hd hn hf; go_simp; exact hR _ _ (hI.same' (by decide) (by decide) (by decide) (fun e => absurd e (by decide)) (fun e => absurd e (by decide)) (fun e => absurd e (by decide))) trivial rfl trivial); exact (fun _ _ _ => rfl); (go_simp; refine hK _ ?_; clear hK K))
    (refine RV.rel_ex (fun K hK => ?_); apply Exists.intro; refine ⟨fun done vf W hI hd0 hd hn hf R hR => ?_, ?_, ?_⟩; (have HI := Lib.hid hI; clear hI; clear hd0 hd hn hf; go_simp; exact hR _ _ (HI.out.same' (by decide) (by decide) (by decide) (fun e => absurd e (by decide)) (fun e => absurd e (by decide)) (fun e => absurd e (by decide))) trivial rfl trivial); exact (fun _ _ _ => rfl); (go_simp; refine hK _ ?_; clear hK K))
    (refine RV.rel_ex (fun K hK => ?_); apply Exists.intro; refine ⟨fun done vf W hI hd0 hd hn hf R hR => ?_, ?_, ?_⟩; (have HI := Lib.hid hI; clear hI; clear hd0 hd hn hf; go_simp; exact hR _ _ (HI.out.same' (by decide) (by decide) (by decide) (fun e => absurd e (by decide)) (fun e => absurd e (by decide)) (fun e => absurd e (by decide))) trivial rfl trivial); exact (fun _ _ _ => rfl); (go_simp; refine hK _ ?_; clear hK K))
    (refine RV.rel_ex (fun K hK => ?_); apply Exists.intro; refine ⟨fun done vf W hI hd0 hd hn hf R hR => ?_, ?_, ?_⟩; (have HI := Lib.hid hI; clear hI; clear hd0 hd hn hf; go_simp; exact hR _ _ (HI.out.same' (by decide) (by decide) (by decide) (fun e => absurd e (by decide)) (fun e => absurd e (by decide)) (fun e => absurd e (by decide))) trivial rfl trivial); exact (fun _ _ _ => rfl); (go_simp; refine hK _ ?_; clear hK K))
    (refine RV.rel_pr (fun K hK => ?_); refine ⟨fun done vf W hI hd0 hd hn hf R hR => ?_, ?_⟩; (have n10 : done 10 = false := hn 10 (by decide); have HTW := Lib.hid (RdWorld.below Ht.out (HB2.out.below hI.fr).bel); have HHW := Lib.hid (RdHaps.below Htk.out (HB2.out.below hI.fr).bel); have HLW := Lib.hid (HL.out.below (HB2.out.below hI.fr).bel); have HI := Lib.hid hI; clear hI hd hn hf; go_simp; go_at_call 11; refine (wrun_any _ _ _ _ t (l.take k) _ _ W HTW.out HHW.out HLW.out).mono ?_; rw [HY.out]; rintro e w9 ⟨c9, u9, v9, s9, rfl, hr9, hs9, hb9⟩; exact ⟨_, rfl, hR _ _ (HI.out.call4 n10 hb9 hr9 hs9) trivial trivial trivial⟩); (go_simp; refine hK _ ?_; clear hK K))
    (refine RV.rel_ex (fun K hK => ?_); apply Exists.intro; refine ⟨fun done vf W hI hd0 hd hn hf R hR => ?_, ?_, ?_⟩; (have d4 : done 4 = true := hd 4 (by decide); have HI := Lib.hid hI; clear hI; clear hd0 hd hn hf; go_simp; exact hR _ _ (HI.out.same' (by decide) (by decide) (by decide) (fun _ => d4) (fun e => absurd e (by decide)) (fun e => absurd e (by decide))) trivial rfl trivial); exact (fun f g h => h 4 (by decide)); (go_simp; refine hK _ ?_; clear hK K))
    (refine RV.rel_ex (fun K hK => ?_); refine ⟨fun vf => fstV (vf 4), ?_⟩; refine ⟨fun done vf W hI hd0 hd hn hf R hR => ?_, ?_, ?_⟩; (have d5 : done 5 = true := hd 5 (by decide); have d4 : done 4 = true := hI.o5 d5; obtain ⟨x, y, z, sv, h4⟩ := hI.c4' d4; have HI := Lib.hid hI; clear hI; clear hd0 hd hn hf; go_simp; exact hR _ _ (HI.out.same' (by decide) (by decide) (by decide) (fun e => absurd e (by decide)) (fun _ => d5) (fun e => absurd e (by decide))) trivial (by show _ = fstV (vf 4); rw [h4]; rfl) trivial); exact (fun f g h => by show fstV (f 4) = fstV (g 4); rw [h 4 (by decide)]); (go_simp; refine hK _ ?_; clear hK K))
    (refine RV.rel_ex (fun K hK => ?_); refine ⟨fun vf => sndV (vf 4), ?_⟩; refine ⟨fun done vf W hI hd0 hd hn hf R hR => ?_, ?_, ?_⟩; (have d5 : done 5 = true := hd 5 (by decide); have d4 : done 4 = true := hI.o5 d5; obtain ⟨x, y, z, sv, h4⟩ := hI.c4' d4; have HI := Lib.hid hI; clear hI; clear hd0 hd hn hf; go_simp; exact hR _ _ (HI.out.same' (by decide) (by decide) (by decide) (fun e => absurd e (by decide)) (fun e => absurd e (by decide)) (fun _ => d5)) trivial (by show _ = sndV (vf 4); rw [h4]; rfl) trivial); exact (fun f g h => by show sndV (f 4) = sndV (g 4); rw [h 4 (by decide)]); (go_simp; refine hK _ ?_; clear hK K))
    (refine RV.rel_ex (fun K hK => ?_); apply Exists.intro; refine ⟨fun done vf W hI hd0 hd hn hf R hR => ?_, ?_, ?_⟩; (have d5 : done 5 = true := hd 5 (by decide); have d4 : done 4 = true := hI.o5 d5; obtain ⟨x, y, z, sv, h4⟩ := hI.c4' d4; have HI := Lib.hid hI; clear hI; clear hd0 hd hn hf; go_simp; exact hR _ _ (HI.out.same' (by decide) (by decide) (by decide) (fun e => absurd e (by decide)) (fun e => absurd e (by decide)) (fun e => absurd e (by decide))) trivial rfl trivial); exact (fun _ _ _ => rfl); (go_simp; refine hK _ ?_; clear hK K))
    (refine RV.rel_pr (fun K hK => ?_); refine ⟨fun done vf W hI hd0 hd hn hf R hR => ?_, ?_⟩; (have n10 : done 10 = false := hn 10 (by decide); have HNW := Lib.hid (hI.new9 n10); clear hd hn hf hI; go_simp; exact hR _ _ HNW.out trivial trivial trivial); (go_simp; refine hK _ ?_; clear hK K))
    (refine RV.rel_pr (fun K hK => ?_); refine ⟨fun done vf W hI hd0 hd hn hf R hR => ?_, ?_⟩; (have d9 : done 9 = true := hd 9 (by decide); have d4 : done 4 = true := hI.o5 (hI.o6 (hd 6 (by decide))); have hF := (fun v => hI.st10 (v := v) d4 d9 hd0); obtain ⟨b, hb9, hbl, hbc⟩ := hI.c9 d9; obtain ⟨x, y, z, sv, h4, hrx, _⟩ := hI.c4 d4 hd0; obtain ⟨x0, y0, rfl, _⟩ := Sl.form hrx.cells; obtain ⟨x1, y1, rfl, _⟩ := Sl.form hrx.disk.1; obtain ⟨x2, y2, rfl, _⟩ := Sl.form hrx.disk.2; have hF' := hF undef _ _ _ _ _ hb9 h4; have hqc := cells_of (hbc hd0); have hfc := not_frozen (hbc hd0); have HF := Lib.hid hF'; have hfst : fstV (vf 4) = worldV (.slice x0 y.cells.length y0) (.slice x1 y.d.safe.length y1) (.slice x2 y.d.wait.length y2) y.up := (by rw [h4]; rfl); clear hd0 hd hn hf hF hF' hI hrx hbc h4; go_simp; exact hR _ _ HF.out trivial trivial trivial); (go_simp; refine hK _ ?_; clear hK K))
    (refine RV.rel_ex (fun K hK => ?_); refine ⟨fun vf => sndV (vf 4), ?_⟩; refine ⟨fun done vf W hI hd0 hd hn hf R hR => ?_, ?_, ?_⟩; (have HI := Lib.hid hI; clear hI; clear hd0 hd hn hf; go_simp; exact hR _ _ (HI.out.same' (by decide) (by decide) (by decide) (fun e => absurd e (by decide)) (fun e => absurd e (by decide)) (fun e => absurd e (by decide))) trivial rfl trivial); exact (fun f g h => by show sndV (f 4) = sndV (g 4); rw [h 4 (by decide)]); (go_simp; refine hK _ ?_; clear hK K))
    (refine RV.rel_ex (fun K hK => ?_); apply Exists.intro; refine ⟨fun done vf W hI hd0 hd hn hf R hR => ?_, ?_, ?_⟩; (have HI := Lib.hid hI; clear hI; clear hd0 hd hn hf; go_simp; exact hR _ _ (HI.out.same' (by decide) (by decide) (by decide) (fun e => absurd e (by decide)) (fun e => absurd e (by decide)) (fun e => absurd e (by decide))) trivial rfl trivial); exact (fun _ _ _ => rfl); (go_simp; refine hK _ ?_; clear hK K))
    intro done vf w4 hdone hI _
    obtain ⟨bd, yc, yu, yv, ysv, h4, hbd, hbl, hbc, hry, hsy⟩ := hI.c10 (hdone 10 (by decide))
    obtain ⟨d0, g0, rfl, _⟩ := Sl.form hry.cells
    obtain ⟨d1, g1, rfl, _⟩ := Sl.form hry.disk.1
    obtain ⟨d2, g2, rfl, _⟩ := Sl.form hry.disk.2
    obtain ⟨as2, cs2, rfl, _⟩ := Sl.form hsy
    have hsv : sndV (vf 4) = .slice as2 sy.length cs2 := by rw [h4]; rfl
    have HB4 := Lib.hid (HB2.out.below hI.fr)
    have Hx4 := Lib.hid (blk_below Hx2.out hI.fr)
    have Hr4 := Lib.hid (RdWorld.below Hr2.out hI.fr)
    have Hs4 := Lib.hid (RdInts.below Hs2.out hI.fr)
    have Hy4 : Hid (w4.heap[bd]? = some (.cells #[.slice d0 y.cells.length g0, .slice d1 y.d.safe.length g1, .slice d2 y.d.wait.length g2, .bool y.up] 27)) := hbc
    have Hry4 := Lib.hid (RdWorld.true hry)
    have Hsy4 : Hid (RdInts w4 (fun _ => True) (.slice as2 sy.length cs2) sy) := Sl.mono hsy (fun _ _ _ => trivial) (fun _ _ _ => rfl) (Nat.le_refl _) (fun _ _ _ h => h)
    simp only [Exit.then]
    rw [hbd, hsv]
    clear hdone hI h4 hbd hbl hbc hry hsy hsv HB2 Hx2 Hr2 Hs2
    go_wp2_with fail
    refine RV.wp_region_rel (RpI w4 z sz 0) (fun _ _ _ _ => True) (fun _ _ _ _ => True) (by kernel_rfl) (by kernel_rfl) _ rfl (fun _ _ _ _ _ _ _ _ _ _ _ _ => trivial) (fun _ _ _ _ _ _ _ _ => trivial) RpI.start ?_
    (refine RV.rel_ex (fun K hK => ?_); apply Exists.intro; refine ⟨fun done vf W hI hd0 hd hn hf R hR => ?_, ?_, ?_⟩; (have hqy := cells_of (blk_below Hy4.out hI.fr); clear hd0 hd hn hf; go_simp; exact hR _ _ (hI.same' (by decide) (by decide) (by decide) (fun e => absurd e (by decide)) (fun e => absurd e (by decide)) (fun e => absurd e (by decide))) trivial rfl trivial); exact (fun _ _ _ => rfl); (go_simp; refine hK _ ?_; clear hK K))
    (refine RV.rel_ex (fun K hK => ?_); apply Exists.intro; refine ⟨fun done vf W hI hd0 hd hn hf R hR => ?_, ?_, ?_⟩; (have HI := Lib.hid hI; clear hI; clear hd0 hd hn hf; go_simp; exact hR _ _ (HI.out.same' (by decide) (by decide) (by decide) (fun e => absurd e (by decide)) (fun e => absurd e (by decide)) (fun e => absurd e (by decide))) trivial rfl trivial); exact (fun _ _ _ => rfl); (go_simp; refine hK _ ?_; clear hK K))
    (refine RV.rel_ex (fun K hK => ?_); apply Exists.intro; refine ⟨fun done vf W hI hd0 hd hn hf R hR => ?_, ?_, ?_⟩; (have HI := Lib.hid hI; clear hI; clear hd0 hd hn hf; go_simp; exact hR _ _ (HI.out.same' (by decide) (by decide) (by decide) (fun e => absurd e (by decide)) (fun e => absurd e (by decide)) (fun e => absurd e (by decide))) trivial rfl trivial); exact (fun _ _ _ => rfl); (go_simp; refine hK _ ?_; clear hK K))
    (refine RV.rel_ex (fun K hK => ?_); refine ⟨fun _ => .slice sa (l.length - k) (cl - k), ?_⟩; refine ⟨fun done vf W hI hd0 hd hn hf R hR => ?_, ?_, ?_⟩; (have HI := Lib.hid hI; clear hI; clear hd0 hd hn hf; go_simp; exact hR _ _ (HI.out.same' (by decide) (by decide) (by decide) (fun e => absurd e (by decide)) (fun e => absurd e (by decide)) (fun e => absurd e (by decide))) trivial (by rw [← Hsa.out]) trivial); exact (fun _ _ _ => rfl); (go_simp; refine hK _ ?_; clear hK K))
    (refine RV.rel_pr (fun K hK => ?_); refine ⟨fun done vf W hI hd0 hd hn hf R hR => ?_, ?_⟩; (have n10 : done 10 = false := hn 10 (by decide); have HTW := Lib.hid (RdWorld.below Hry4.out hI.fr); have HHW := Lib.hid (RdHaps.below Hdr.out (HB4.out.below hI.fr).bel); have HLW := Lib.hid (HL.out.below (HB4.out.below hI.fr).bel); have HI := Lib.hid hI; clear hI hd hn hf; go_simp; go_at_call 11; refine (wrun_any _ _ _ _ y (l.drop k) _ _ W HTW.out HHW.out HLW.out).mono ?_; rw [HZ.out]; rintro e w9 ⟨c9, u9, v9, s9, rfl, hr9, hs9, hb9⟩; exact ⟨_, rfl, hR _ _ (HI.out.call4 n10 hb9 hr9 hs9) trivial trivial trivial⟩); (go_simp; refine hK _ ?_; clear hK K))
    (refine RV.rel_ex (fun K hK => ?_); apply Exists.intro; refine ⟨fun done vf W hI hd0 hd hn hf R hR => ?_, ?_, ?_⟩; (have d4 : done 4 = true := hd 4 (by decide); have HI := Lib.hid hI; clear hI; clear hd0 hd hn hf; go_simp; exact hR _ _ (HI.out.same' (by decide) (by decide) (by decide) (fun _ => d4) (fun e => absurd e (by decide)) (fun e => absurd e (by decide))) trivial rfl trivial); exact (fun f g h => h 4 (by decide)); (go_simp; refine hK _ ?_; clear hK K))
    (refine RV.rel_ex (fun K hK => ?_); refine ⟨fun vf => fstV (vf 4), ?_⟩; refine ⟨fun done vf W hI hd0 hd hn hf R hR => ?_, ?_, ?_⟩; (have d5 : done 5 = true := hd 5 (by decide); have d4 : done 4 = true := hI.o5 d5; obtain ⟨x, y, z, sv, h4⟩ := hI.c4' d4; have HI := Lib.hid hI; clear hI; clear hd0 hd hn hf; go_simp; exact hR _ _ (HI.out.same' (by decide) (by decide) (by decide) (fun e => absurd e (by decide)) (fun _ => d5) (fun e => absurd e (by decide))) trivial (by show _ = fstV (vf 4); rw [h4]; rfl) trivial); exact (fun f g h => by show fstV (f 4) = fstV (g 4); rw [h 4 (by decide)]); (go_simp; refine hK _ ?_; clear hK K))
    (refine RV.rel_ex (fun K hK => ?_); refine ⟨fun vf => sndV (vf 4), ?_⟩; refine ⟨fun done vf W hI hd0 hd hn hf R hR => ?_, ?_, ?_⟩; (have d5 : done 5 = true := hd 5 (by decide); have d4 : done 4 = true := hI.o5 d5; obtain ⟨x, y, z, sv, h4⟩ := hI.c4' d4; have HI := Lib.hid hI; clear hI; clear hd0 hd hn hf; go_simp; exact hR _ _ (HI.out.same' (by decide) (by decide) (by decide) (fun e => absurd e (by decide)) (fun e => absurd e (by decide)) (fun _ => d5)) trivial (by show _ = sndV (vf 4); rw [h4]; rfl) trivial); exact (fun f g h => by show sndV (f 4) = sndV (g 4); rw [h 4 (by decide)]); (go_simp; refine hK _ ?_; clear hK K))
    (refine RV.rel_ex (fun K hK => ?_); apply Exists.intro; refine ⟨fun done vf W hI hd0 hd hn hf R hR => ?_, ?_, ?_⟩; (have d5 : done 5 = true := hd 5 (by decide); have d4 : done 4 = true := hI.o5 d5; obtain ⟨x, y, z, sv, h4⟩ := hI.c4' d4; have HI := Lib.hid hI; clear hI; clear hd0 hd hn hf; go_simp; exact hR _ _ (HI.out.same' (by decide) (by decide) (by decide) (fun e => absurd e (by decide)) (fun e => absurd e (by decide)) (fun e => absurd e (by decide))) trivial rfl trivial); exact (fun _ _ _ => rfl); (go_simp; refine hK _ ?_; clear hK K))
    (refine RV.rel_pr (fun K hK => ?_); refine ⟨fun done vf W hI hd0 hd hn hf R hR => ?_, ?_⟩; (have n10 : done 10 = false := hn 10 (by decide); have HNW := Lib.hid (hI.new9 n10); clear hd hn hf hI; go_simp; exact hR _ _ HNW.out trivial trivial trivial); (go_simp; refine hK _ ?_; clear hK K))
    (refine RV.rel_pr (fun K hK => ?_); refine ⟨fun done vf W hI hd0 hd hn hf R hR => ?_, ?_⟩; (have d9 : done 9 = true := hd 9 (by decide); have d4 : done 4 = true := hI.o5 (hI.o6 (hd 6 (by decide))); have hF := (fun v => hI.st10 (v := v) d4 d9 hd0); obtain ⟨b, hb9, hbl, hbc⟩ := hI.c9 d9; obtain ⟨x, y, z, sv, h4, hrx, _⟩ := hI.c4 d4 hd0; obtain ⟨x0, y0, rfl, _⟩ := Sl.form hrx.cells; obtain ⟨x1, y1, rfl, _⟩ := Sl.form hrx.disk.1; obtain ⟨x2, y2, rfl, _⟩ := Sl.form hrx.disk.2; have hF' := hF undef _ _ _ _ _ hb9 h4; have hqc := cells_of (hbc hd0); have hfc := not_frozen (hbc hd0); have HF := Lib.hid hF'; have hfst : fstV (vf 4) = worldV (.slice x0 z.cells.length y0) (.slice x1 z.d.safe.length y1) (.slice x2 z.d.wait.length y2) z.up := (by rw [h4]; rfl); clear hd0 hd hn hf hF hF' hI hrx hbc h4; go_simp; exact hR _ _ HF.out trivial trivial trivial); (go_simp; refine hK _ ?_; clear hK K))
    (refine RV.rel_ex (fun K hK => ?_); refine ⟨fun vf => sndV (vf 4), ?_⟩; refine ⟨fun done vf W hI hd0 hd hn hf R hR => ?_, ?_, ?_⟩; (have HI := Lib.hid hI; clear hI; clear hd0 hd hn hf; go_simp; exact hR _ _ (HI.out.same' (by decide) (by decide) (by decide) (fun e => absurd e (by decide)) (fun e => absurd e (by decide)) (fun e => absurd e (by decide))) trivial rfl trivial); exact (fun f g h => by show sndV (f 4) = sndV (g 4); rw [h 4 (by decide)]); (go_simp; refine hK _ ?_; clear hK K))
    (refine RV.rel_ex (fun K hK => ?_); apply Exists.intro; refine ⟨fun done vf W hI hd0 hd hn hf R hR => ?_, ?_, ?_⟩; (have HI := Lib.hid hI; clear hI; clear hd0 hd hn hf; go_simp; exact hR _ _ (HI.out.same' (by decide) (by decide) (by decide) (fun e => absurd e (by decide)) (fun e => absurd e (by decide)) (fun e => absurd e (by decide))) trivial rfl trivial); exact (fun _ _ _ => rfl); (go_simp; refine hK _ ?_; clear hK K))
    intro done vf w5 hdone hI _
    obtain ⟨be, zc, zu, zv, zsv, h4, hbd, hbl, hbc, hrz, hsz⟩ := hI.c10 (hdone 10 (by decide))
    obtain ⟨e0, q0, rfl, _⟩ := Sl.form hrz.cells
    obtain ⟨e1, q1, rfl, _⟩ := Sl.form hrz.disk.1
    obtain ⟨e2, q2, rfl, _⟩ := Sl.form hrz.disk.2
    obtain ⟨as3, cs3, rfl, _⟩ := Sl.form hsz
    have hsv : sndV (vf 4) = .slice as3 sz.length cs3 := by rw [h4]; rfl
    have HB5 := Lib.hid (HB4.out.below hI.fr)
    have Hr5 := Lib.hid (RdWorld.below Hr4.out hI.fr)
    have Hs5 := Lib.hid (RdInts.below Hs4.out hI.fr)
    have Hsy5 := Lib.hid (RdInts.below Hsy4.out hI.fr)
    have Hrz5 := Lib.hid (RdWorld.true hrz)
    have Hsz5 : Hid (RdInts w5 (fun _ => True) (.slice as3 sz.length cs3) sz) := Sl.mono hsz (fun _ _ _ => trivial) (fun _ _ _ => rfl) (Nat.le_refl _) (fun _ _ _ h => h)
    have hqx := cells_of (blk_below Hx4.out hI.fr)
    have hqz := cells_of hbc
    simp only [Exit.then]
    rw [hbd, hsv]
    clear hdone hI h4 hbd hbl hbc hrz hsz hsv HB4 Hx4 Hr4 Hs4 Hy4 Hry4 Hsy4
    go_wp2_with fail
    clear hqx hqz
    refine (wsame_any _ _ _ _ _ _ z z _ Hr5.out Hrz5.out).mono ?_
    rw [decide_eq_true rfl]
    rintro e w6 ⟨rfl, hb6⟩
    have HB6 := Lib.hid (HB5.out.below hb6)
    have Hs6 := Lib.hid (RdInts.below Hs5.out hb6)
    have HA6 := Lib.hid (bel_alloc (Below.refl w6.heap.size w6) (.cells #[.slice as2 sy.length cs2, .slice as3 sz.length cs3] 29))
    have HR6 : Hid (Sl (w6.alloc (.cells #[.slice as2 sy.length cs2, .slice as3 sz.length cs3] 29)) (fun _ => True) 1 (rowsRErr (w6.alloc (.cells #[.slice as2 sy.length cs2, .slice as3 sz.length cs3] 29)) (fun _ => True)) (.slice (some ⟨w6.heap.size, 0, none⟩) 2 2) [sy, sz]) :=
      sl_block (sz := 1) (xs := [sy, sz]) (rows := [[.slice as2 sy.length cs2], [.slice as3 sz.length cs3]]) (RowsOf.cons (RowsOf.cons RowsOf.nil ⟨_, rfl, RdInts.below (RdInts.below Hsz5.out hb6) HA6.out⟩ rfl) ⟨_, rfl, RdInts.below (RdInts.below Hsy5.out hb6) HA6.out⟩ rfl) (heap_last _ _) rfl trivial (by simp [maxLen])
    clear hb6 HB5 Hs5 Hr5 Hsy5 Hsz5 Hrz5
    go_wp2_with fail
    refine (concatErr_any _ [sy, sz] _ _ HR6.out (by
      have h1 := wrunE_said HX.out
      have h2 := congrArg List.length Hsd.out
      have h3 := Hl60.out
      rw [List.length_append] at h2
      simp [lenTo]
      omega)).mono ?_
    rintro e w7 ⟨v7, rfl, ho7, hb7⟩
    have hfl : ([sy, sz] : List (List Int)).flatten = sd := by rw [Hsd.out]; simp
    rw [hfl] at ho7
    obtain ⟨a7, c7, rfl⟩ := OwnSl.slice ho7
    have Ho7 : Hid (RdInts w7 (fun _ => True) (.slice a7 sd.length c7) sd) := OwnSl.sl ho7 (fun _ _ => trivial)
    have HB7 := Lib.hid ((HB6.out.below HA6.out).below hb7)
    have Hs7 := Lib.hid (RdInts.below (RdInts.below Hs6.out HA6.out) hb7)
    clear ho7 hb7 hfl
    go_wp2_with fail
    refine (eqerrs_any _ _ sd sd _ _ Hs7.out Ho7.out).mono ?_
    rw [decide_eq_true rfl]
    rintro e w8 ⟨rfl, hb8⟩
    have HBf := Lib.hid (HB7.out.below hb8).bel
    clear hb8
    go_wp2
    go_ret
    exact ⟨rfl, HBf.out⟩
  · have hnz : (xe != 0) = true := bne_iff_ne.2 h0
    clear h0
    go_wp2_with fail
    refine (kept_walk _ (HL.out.below HB2.out.bel)).mono ?_
    rintro e w9 ⟨rfl, hb9⟩
    have HBf := Lib.hid (bel_call HB2.out.bel hb9)
    clear hb9
    go_wp2
    go_ret
    exact ⟨rfl, HBf.out⟩
end Go.Proofs.YthkgjohhbdipcaaGreatDoor
