/- Texts laid one behind the other: Prune3, TCond, ParseSpec, BoxRow, ReadLib, App2. No condition beyond theirs. -/
import Derived.Test.YthkgjohhbdipcaaDoorK2
import Derived.Test.YthkgjohhbdipcaaDoorK4
import Derived.Test.YthkgjohhbdipcaaDoorK3
import Derived.Lib.SplitLaws
import Derived.Maps.AppendAt
set_option linter.all false
namespace Go.Proofs.YthkgjohhbdipcaaDoor
open Go.RowKit

/-- doneE of the pruned operations, said of the operations as they stand. -/
def doneP (P : Program) (ops : Array Oper) (Inv : (Nat → Bool) → World → Prop) (bs : List (List Nat)) (Q : Act → World → Prop) (n : Nat) : List Oper → Nat → Act → Prop
  | [], _, a => ∀ (done : Nat → Bool) (w : World), (∀ k, k < n → done k = true) → Inv done w → Q a w
  | o :: l, i, a => ∃ x : Value, (∀ (done : Nat → Bool) (w : World), Inv done w → done i = false → (∀ k ∈ (prune o).after.toList.map (fun e => e.on), done k = true) → (∀ k : Nat, i ∈ bs.getD k [] → done k = false) →
      ∀ R : Value → World → Prop, (∀ (v : Value) (w' : World), Inv (updDone done i) w' → v = x → R v w') → if Region.wanted o (yielded ops a.tmps) then gives P o a w R else R undef w) ∧
      doneP P ops Inv bs Q n l (i + 1) (a.put o.dst x)
theorem doneP_step {P : Program} {ops : Array Oper} {Inv : (Nat → Bool) → World → Prop} {bs : List (List Nat)} {Q : Act → World → Prop} {n : Nat} {o : Oper} {l : List Oper} {i : Nat} {a : Act}
    (h : ∀ K : Act → Prop, (∀ a, doneP P ops Inv bs Q n l (i + 1) a → K a) → ∃ x : Value, (∀ (done : Nat → Bool) (w : World), Inv done w → done i = false → (∀ k ∈ (prune o).after.toList.map (fun e => e.on), done k = true) → (∀ k : Nat, i ∈ bs.getD k [] → done k = false) →
      ∀ R : Value → World → Prop, (∀ (v : Value) (w' : World), Inv (updDone done i) w' → v = x → R v w') → if Region.wanted o (yielded ops a.tmps) then gives P o a w R else R undef w) ∧ K (a.put o.dst x)) :
    doneP P ops Inv bs Q n (o :: l) i a := h _ (fun _ h => h)
theorem doneP_prune {P : Program} {ops : List Oper} {Inv : (Nat → Bool) → World → Prop} {bs : List (List Nat)} {Q : Act → World → Prop} {n : Nat} : ∀ (l : List Oper) (i : Nat) (a : Act), doneP P ops.toArray Inv bs Q n l i a → doneE P (ops.map prune).toArray Inv bs Q n (l.map prune) i a
  | [], _, _, h => h
  | o :: l, i, a, ⟨x, h1, h2⟩ => by
    refine ⟨x, fun d w hC h0 hd hn R hR => ?_, doneP_prune l _ _ h2⟩
    have := h1 d w hC h0 hd hn R hR
    rw [← yielded_prune] at this
    exact this
/-- As wp_region_stores: edges that bind no order are left out. -/
theorem wp_region_stores3 {P : Program} {l : List Oper} {Q : Exit → Act → World → Prop} {a : Act} {id : Nat} {w : World} (Inv : (Nat → Bool) → World → Prop) (hm : P.follows .mixedOrders = true) (hB : monoB2 (l.map prune) a.tmps.size = true) (hC : Inv (fun _ => false) w.drew)
    (bs : List (List Nat)) (hbs : befores (l.map prune) [] = bs) (h : doneP P l.toArray Inv bs (Q .normal) l.length l 0 a) : (Code.region id l.toArray true).wp P Q a w := by
  subst hbs
  have h' := doneP_prune (ops := l) l 0 a h
  have hlen : l.length = (l.map prune).length := by simp
  rw [hlen] at h'
  generalize hl : l.map prune = l' at hB h'
  obtain ⟨xs, hx⟩ := doneE_list l' 0 a [] h'
  refine wp_region_any hm (wpAny_prune _ _ _ _ ?_)
  rw [hl]
  refine wpAny_done (Inv := Inv) (T := fun _ _ _ => True) (ss := xs.map ex) hB (fun i k s _ hk v done w1 w2 _ _ _ => ?_) hx _ _ (fun _ => undef) _ _ ?_ ⟨?_, ?_, by simp [← hl], rfl, rfl, ?_, fun _ _ => rfl⟩
  · obtain ⟨x, _, rfl⟩ := List.mem_map.1 (List.mem_of_getElem? hk)
    trivial
  · have := List.length_filter_le (fun i => (Array.replicate l.toArray.size false)[i]? != some true) (List.range l'.length)
    simpa [undone, ← hl] using this
  · refine (congrArg (fun d => Inv d _) ?_).mp hC
    funext k
    rw [Array.getElem?_replicate]
    split <;> simp
  · intro j o hj hl
    rw [Array.getElem?_replicate] at hl
    split at hl <;> simp at hl
  · intro j o s hj _ hl
    rw [Array.getElem?_replicate] at hl
    split at hl <;> simp at hl
end Go.Proofs.YthkgjohhbdipcaaDoor
namespace Go.Proofs.YthkgjohhbdipcaaDoor
open Go.RowKit
attribute [local go_sem] gives givesUpon
attribute [-go_sem] run_string_add_if run_slice_string_if run_slice_string run_slice_string_h run_slice_string_l

/-- a row of words that a call has laid. -/
def rowAt (row : Array Value) (v : Value) (W : World) : Prop := ∃ b, v = .slice (some ⟨b, 0, none⟩) 5 5 ∧ W.heap[b]? = some (.cells row 9)
def condG (k : Nat) (_ : Nat → Bool) (vf : Nat → Value) (W : World) : Prop := if k = 0 then rowAt fieldRow (vf 0) W else if k = 5 then rowAt opRow (vf 5) W else True
theorem rowAt_init {row : Array Value} {v : Value} {w w' : World} {ts : List TypeId} (hT : 9 ∉ ts) (hi : InitT ts w w') (h : rowAt row v w) : rowAt row v w' := by
  obtain ⟨b, h1, h2⟩ := h
  exact ⟨b, h1, blk_init h2 hi hT⟩
theorem condG_keep {k i : Nat} {done d' : Nat → Bool} {vf : Nat → Value} {w w' : World} (hi : InitT (if i = 15 then [72] else []) w w') (h : condG k done vf w) : condG k d' vf w' := by
  have hT : 9 ∉ (if i = 15 then [72] else [] : List TypeId) := by split <;> simp
  unfold condG at h ⊢
  split
  · rename_i e; rw [if_pos e] at h; exact rowAt_init hT hi h
  · rename_i e
    rw [if_neg e] at h
    split
    · rename_i e2; rw [if_pos e2] at h; exact rowAt_init hT hi h
    · trivial
theorem condG_proper {k : Nat} {done : Nat → Bool} {f g : Nat → Value} {w : World} (hk : f k = g k) (h : condG k done f w) : condG k done g w := by
  unfold condG at h ⊢
  split
  · rename_i e; subst e; rw [if_pos rfl] at h; rw [← hk]; exact h
  · rename_i e
    rw [if_neg e] at h
    split
    · rename_i e2; subst e2; rw [if_pos rfl] at h; rw [← hk]; exact h
    · trivial
theorem three_cells {cs : Array Value} (h : cs.size = 3) : ∃ c0 c1 c2, cs = #[c0, c1, c2] := by
  obtain ⟨l⟩ := cs
  match l, h with
  | [a, b, c], _ => exact ⟨a, b, c, rfl⟩
theorem InitT.of_sets3 {T0 : TypeId} {w : World} {b : Nat} {v0 v1 v2 : Value} {cs : Array Value} (h : w.heap[b]? = some (.cells cs T0)) :
    InitT [T0] w (((w.setCell ⟨b, 0, none⟩ v0).setCell ⟨b, 1, none⟩ v1).setCell ⟨b, 2, none⟩ v2) :=
  ((InitT.of_set (by simp) h).trans (InitT.of_set (by simp) (set_at h))).trans (InitT.of_set (by simp) (set_at (set_at h)))

/-- the worlds of condition's last region. -/
structure CondInv (w : World) (g : Nat) (x y z : Value) (done : Nat → Bool) (W : World) : Prop where
  bx : Bx w [.cells (if done 17 then #[x, y, z] else #[.int .i64 0, .int .i64 0, .int .i64 0]) 72] W
  cd : W.heap[g]? = some (.cells #[x, y, z] 72)
theorem CondInv.step {w : World} {bx : Nat} {x y z : Value} {done : Nat → Bool} {W W' : World} {k : Nat} (h : CondInv w bx x y z done W) (hk : 17 ≠ k) (hb : Below W.heap.size W W') : CondInv w bx x y z (updDone done k) W' := by
  refine ⟨?_, blk_below h.cd hb⟩
  unfold updDone
  rw [if_neg hk]
  exact h.bx.below hb
theorem CondInv.store {w : World} {bx : Nat} {x y z : Value} {done : Nat → Bool} {W : World} (h : CondInv w bx x y z done W) (hne : bx ≠ w.heap.size) : CondInv w bx x y z (updDone done 17) (((W.setCell ⟨w.heap.size, 0, none⟩ x).setCell ⟨w.heap.size, 1, none⟩ y).setCell ⟨w.heap.size, 2, none⟩ z) := by
  refine ⟨?_, by rw [set_other hne, set_other hne, set_other hne]; exact h.cd⟩
  rw [show updDone done 17 17 = true from rfl]
  have hb := h.bx
  cases hd : done 17
  · rw [hd] at hb
    exact ((hb.set (i := 0) rfl 0 x).set (i := 0) rfl 1 y).set (i := 0) rfl 2 z
  · rw [hd] at hb
    exact ((hb.set (i := 0) rfl 0 x).set (i := 0) rfl 1 y).set (i := 0) rfl 2 z
set_option maxRecDepth 100000 in
set_option maxHeartbeats 8000000 in
theorem condition_any (L : List UInt8) (w : World) (hL : Laid w) (hu : L.length ≤ 60000) :
    Calls Tryd.prog 42 #[.string (bsL L)] w fun e w' => (∃ (f o n : Int) (b : Bool), e = .returned (.tuple #[.agg #[.int .i64 f, .int .i64 o, .int .i64 n], .bool b]) ∧ (condOf L = if b then some ⟨f, o, n⟩ else none)) ∧ Below w.heap.size w w' := by
  have HL := Lib.hid hL
  have Hu := Lib.hid hu
  have hsz : (bsL L).size = L.length := by simp [bsL, ByteArray.size]
  have HA := Lib.hid (any_op L)
  clear hL hu
  go_enter Tryd.func42, Tryd.ntmps42
  go_wp2_with fail
  have HB := Lib.hid (Bx.one (w := w) (o := .cells #[.int .i64 0, .int .i64 0, .int .i64 0] 72))
  refine (indexany_any (bsL L) (by rw [hsz]; have := Hu.out; omega) _).mono ?_
  rw [show (bsL L).data.toList = L from rfl, HA.out]
  rintro e w1 ⟨rfl, hb1⟩
  have HB1 := Lib.hid (HB.out.below hb1)
  clear hb1 HB
  by_cases hk : opAt L = L.length
  · have HE : Hid (condOf L = none) := by show _ = _; unfold condOf; rw [if_pos hk]
    rw [if_pos hk]
    have hc := HB1.out.cells0
    have hf := HB1.out.free0
    have HS := Lib.hid (((HB1.out.set (i := 0) rfl 0 (.int .i64 0)).set (i := 0) rfl 1 (.int .i64 0)).set (i := 0) rfl 2 (.int .i64 0))
    have hcs := HS.out.cells0
    have HBL : Hid (Below w.heap.size w (((w1.setCell ⟨w.heap.size, 0, none⟩ (.int .i64 0)).setCell ⟨w.heap.size, 1, none⟩ (.int .i64 0)).setCell ⟨w.heap.size, 2, none⟩ (.int .i64 0))) := HS.out.bel
    clear hk HS
    go_wp2
    refine bodyPost_ret (v := .tuple #[.agg #[.int .i64 0, .int .i64 0, .int .i64 0], .bool false]) ?_ rfl ⟨⟨0, 0, 0, false, rfl, HE.out⟩, HBL.out⟩
    rw [results_cell_tmp rfl]
    go_simp
  · obtain ⟨b, hb, hop⟩ := opAt_lt L hk
    obtain ⟨k, hkk⟩ : ∃ k, opAt L = k := ⟨_, rfl⟩
    rw [hkk] at hk hb
    rw [hkk, if_neg hk]
    have hkl : k < L.length := (List.getElem?_eq_some_iff.1 hb).1
    have HK := Lib.hid hkk
    have Hop := Lib.hid hop
    have hw1 : IntKind.i64.wrap ((k : Int) + 1) = (k : Int) + 1 := IntWalk.i64_in _ (by have := Hu.out; omega)
    have hk0 : ¬ (k : Int) < 0 := by omega
    have hs1 : ∀ W : World, (Instr.slice 9 (.string (bsL L)) (some (.int .i64 ((k : Int) + 1))) none none).run Tryd.prog W = .ok (.string (bsL (L.drop (k + 1)))) W := fun W => by
      rw [run_slice_string_l (P := Tryd.prog) (w := W) (t := 9) (s := bsL L) Tryd.underlying9 .i64 ((k : Int) + 1) (by omega) (by rw [hsz]; omega), bsL_extract, hsz, show ((k : Int) + 1).toNat = k + 1 by omega, List.take_of_length_le (by simp)]
    have hs2 : ∀ W : World, (Instr.slice 9 (.string (bsL L)) none (some (.int .i64 (k : Int))) none).run Tryd.prog W = .ok (.string (bsL (L.take k))) W := fun W => by
      rw [run_slice_string_h (P := Tryd.prog) (w := W) (t := 9) (s := bsL L) Tryd.underlying9 .i64 (k : Int) (by omega) (by rw [hsz]; omega), bsL_extract, show ((k : Int)).toNat = k by omega]
      simp
    have hs3 : ∀ W : World, (Instr.slice 9 (.string (bsL L)) (some (.int .i64 (k : Int))) (some (.int .i64 ((k : Int) + 1))) none).run Tryd.prog W = .ok (.string (bsL [b])) W := fun W => by
      rw [run_slice_string (P := Tryd.prog) (w := W) 9 (bsL L) .i64 .i64 (k : Int) ((k : Int) + 1) Tryd.underlying9 (by omega) (by omega) (by rw [hsz]; omega), bsL_extract, show ((k : Int)).toNat = k by omega, show ((k : Int) + 1).toNat - k = 1 by omega, List.drop_eq_getElem_cons hkl]
      have : L[k] = b := (List.getElem?_eq_some_iff.1 hb).2
      rw [this]
      rfl
    have Hb := Lib.hid hb
    clear hb hop hkk hk
    go_wp2_with fail
    have hsd : (bsL (L.drop (k + 1))).size ≤ 281474976710656 := by have := Hu.out; simp [bsL, ByteArray.size]; omega
    refine (atoi_any (bsL (L.drop (k + 1))) _ (HL.out.below HB1.out.bel) hsd).mono ?_
    rw [show (bsL (L.drop (k + 1))).data.toList = L.drop (k + 1) from rfl]
    obtain ⟨⟨n, q⟩, hnq⟩ : ∃ E, wholeS (L.drop (k + 1)) = E := ⟨_, rfl⟩
    rw [hnq]
    rintro e w2 ⟨err, rfl, hc, hb2⟩
    have HB2 := Lib.hid (HB1.out.below hb2)
    have HQ := Lib.hid hnq
    have HC := Lib.hid hc
    obtain ⟨F, hF⟩ : ∃ F, Lib.idxOfS (fieldBs.take 5) (bsL (L.take k)) = F := ⟨_, rfl⟩
    have HF : Hid (Lib.idxOfS [bsL [110, 114], bsL [107, 105, 110, 100], bsL [97], bsL [98], bsL [99]] (bsL (L.take k)) = F) := hF
    have HO : Hid (Lib.idxOfS [bsL [], bsL [61], bsL [33], bsL [60], bsL [62]] (bsL [b]) = opOf b) := op_idx b Hop.out
    clear hb2 hc hnq hF hsd HB1
    dsimp only
    go_wp2_with fail
    refine wp_region_init w2.heap.size (Nat.le_refl _) 72 3 (fun _ => []) 14 15 (fun _ => #[.int .i64 F, .int .i64 (opOf b), .int .i64 n]) condG (by kernel_rfl) (by kernel_rfl) _ rfl (by decide) (fun _ => by simp) (fun _ => rfl) (fun i k _ _ _ _ _ _ _ _ hi h => condG_keep hi h) (fun k _ f g _ _ hk h => condG_proper hk h) (fun f g h => rfl) ?_
    (refine rel_pr (fun K hK => ?_); refine ⟨fun done vf W hI h0 hd hn hf R hR => ?_, ?_⟩; (clear h0 hd hn hf; go_simp; go_at_call 32; refine (fields_any _).mono ?_; (rintro e w4 ⟨rfl, rfl⟩; exact ⟨_, rfl, hR _ _ (Cls.step hI (bel_alloc (Below.refl _ _) _)) (initT.plain (bel_alloc (Below.refl _ _) _) (by decide)) trivial ⟨_, rfl, heap_last _ _⟩⟩)); (go_simp; refine hK _ ?_; clear hK K))
    (refine rel_ex (fun K hK => ?_); apply Exists.intro; refine ⟨fun done vf W hI h0 hd hn hf R hR => ?_, ?_, ?_⟩; (clear h0 hd hn hf; go_simp; exact hR _ _ (Cls.step hI (Below.refl _ _)) (initT.plain (Below.refl _ _) (by decide)) rfl trivial); exact (fun _ _ _ => rfl); (go_simp; refine hK _ ?_; clear hK K))
    (refine rel_ex (fun K hK => ?_); apply Exists.intro; refine ⟨fun done vf W hI h0 hd hn hf R hR => ?_, ?_, ?_⟩; (clear h0 hd hn hf; go_simp; exact hR _ _ (Cls.step hI (Below.refl _ _)) (initT.plain (Below.refl _ _) (by decide)) rfl trivial); exact (fun _ _ _ => rfl); (go_simp; refine hK _ ?_; clear hK K))
    (refine rel_ex (fun K hK => ?_); apply Exists.intro; refine ⟨fun done vf W hI h0 hd hn hf R hR => ?_, ?_, ?_⟩; (clear h0 hd hn hf; go_simp; exact hR _ _ (Cls.step hI (Below.refl _ _)) (initT.plain (Below.refl _ _) (by decide)) rfl trivial); exact (fun _ _ _ => rfl); (go_simp; refine hK _ ?_; clear hK K))
    (refine rel_ex (fun K hK => ?_); apply Exists.intro; refine ⟨fun done vf W hI h0 hd hn hf R hR => ?_, ?_, ?_⟩; (have h1 : rowAt fieldRow (vf 0) W := hf 0 (hd 0 (by decide)); obtain ⟨g, hv, hg⟩ := h1; have Hg := Lib.hid hg; clear h0 hd hn hf hg; go_simp; go_at_call 41; refine (rowidx_any [110, 114] [107, 105, 110, 100] [97] [98] [99] (L.take k) g _ Hg.out).mono ?_; rw [HF.out]; (rintro e w4 ⟨rfl, rfl⟩; exact ⟨_, rfl, hR _ _ (Cls.step hI (Below.refl _ _)) (initT.plain (Below.refl _ _) (by decide)) rfl trivial⟩)); exact (fun _ _ _ => rfl); (go_simp; refine hK _ ?_; clear hK K))
    (refine rel_pr (fun K hK => ?_); refine ⟨fun done vf W hI h0 hd hn hf R hR => ?_, ?_⟩; (clear h0 hd hn hf; go_simp; go_at_call 33; refine (ops_any _).mono ?_; (rintro e w4 ⟨rfl, rfl⟩; exact ⟨_, rfl, hR _ _ (Cls.step hI (bel_alloc (Below.refl _ _) _)) (initT.plain (bel_alloc (Below.refl _ _) _) (by decide)) trivial ⟨_, rfl, heap_last _ _⟩⟩)); (go_simp; refine hK _ ?_; clear hK K))
    (refine rel_ex (fun K hK => ?_); apply Exists.intro; refine ⟨fun done vf W hI h0 hd hn hf R hR => ?_, ?_, ?_⟩; (clear h0 hd hn hf; go_simp; exact hR _ _ (Cls.step hI (Below.refl _ _)) (initT.plain (Below.refl _ _) (by decide)) rfl trivial); exact (fun _ _ _ => rfl); (go_simp; refine hK _ ?_; clear hK K))
    (refine rel_ex (fun K hK => ?_); apply Exists.intro; refine ⟨fun done vf W hI h0 hd hn hf R hR => ?_, ?_, ?_⟩; (clear h0 hd hn hf; go_simp; exact hR _ _ (Cls.step hI (Below.refl _ _)) (initT.plain (Below.refl _ _) (by decide)) rfl trivial); exact (fun _ _ _ => rfl); (go_simp; refine hK _ ?_; clear hK K))
    (refine rel_ex (fun K hK => ?_); apply Exists.intro; refine ⟨fun done vf W hI h0 hd hn hf R hR => ?_, ?_, ?_⟩; (clear h0 hd hn hf; go_simp; exact hR _ _ (Cls.step hI (Below.refl _ _)) (initT.plain (Below.refl _ _) (by decide)) rfl trivial); exact (fun _ _ _ => rfl); (go_simp; refine hK _ ?_; clear hK K))
    (refine rel_ex (fun K hK => ?_); apply Exists.intro; refine ⟨fun done vf W hI h0 hd hn hf R hR => ?_, ?_, ?_⟩; (clear h0 hd hn hf; go_simp; exact hR _ _ (Cls.step hI (Below.refl _ _)) (initT.plain (Below.refl _ _) (by decide)) rfl trivial); exact (fun _ _ _ => rfl); (go_simp; refine hK _ ?_; clear hK K))
    (refine rel_ex (fun K hK => ?_); apply Exists.intro; refine ⟨fun done vf W hI h0 hd hn hf R hR => ?_, ?_, ?_⟩; (clear h0 hd hn hf; go_simp; exact hR _ _ (Cls.step hI (Below.refl _ _)) (initT.plain (Below.refl _ _) (by decide)) rfl trivial); exact (fun _ _ _ => rfl); (go_simp; refine hK _ ?_; clear hK K))
    (refine rel_ex (fun K hK => ?_); apply Exists.intro; refine ⟨fun done vf W hI h0 hd hn hf R hR => ?_, ?_, ?_⟩; (have h1 : rowAt opRow (vf 5) W := hf 5 (hd 5 (by decide)); obtain ⟨g, hv, hg⟩ := h1; have Hg := Lib.hid hg; clear h0 hd hn hf hg; go_simp; go_at_call 41; refine (rowidx_any [] [61] [33] [60] [62] [b] g _ Hg.out).mono ?_; rw [HO.out]; (rintro e w4 ⟨rfl, rfl⟩; exact ⟨_, rfl, hR _ _ (Cls.step hI (Below.refl _ _)) (initT.plain (Below.refl _ _) (by decide)) rfl trivial⟩)); exact (fun _ _ _ => rfl); (go_simp; refine hK _ ?_; clear hK K))
    (refine rel_ex (fun K hK => ?_); apply Exists.intro; refine ⟨fun done vf W hI h0 hd hn hf R hR => ?_, ?_, ?_⟩; (clear h0 hd hn hf; go_simp; exact hR _ _ (Cls.step hI (Below.refl _ _)) (initT.plain (Below.refl _ _) (by decide)) rfl trivial); exact (fun _ _ _ => rfl); (go_simp; refine hK _ ?_; clear hK K))
    (refine rel_ex (fun K hK => ?_); apply Exists.intro; refine ⟨fun done vf W hI h0 hd hn hf R hR => ?_, ?_, ?_⟩; (clear h0 hd hn hf; go_simp; exact hR _ _ (Cls.step hI (Below.refl _ _)) (initT.plain (Below.refl _ _) (by decide)) rfl trivial); exact (fun _ _ _ => rfl); (go_simp; refine hK _ ?_; clear hK K))
    (refine rel_pr (fun K hK => ?_); refine ⟨fun done vf W hI h0 hd hn hf R hR => ?_, ?_⟩; (clear h0 hd hn hf; go_simp; exact hR _ _ (Cls.step hI (bel_alloc (Below.refl _ _) _)) (initT.plain (bel_alloc (Below.refl _ _) _) (by decide)) trivial ⟨_, rfl, hI.1, _, rfl, heap_last _ _⟩); (go_simp; refine hK _ ?_; clear hK K))
    (refine rel_pr (fun K hK => ?_); refine ⟨fun done vf W hI h0 hd hn hf R hR => ?_, ?_⟩; (have h11 : VarAt w2.heap.size 72 3 (vf 14) W := hf 14 (hd 14 (by decide)); obtain ⟨bx, h11, hbx, cs, hcs, hc11⟩ := h11; obtain ⟨d0, d1, d2, rfl⟩ := three_cells hcs; have hce := cells_of hc11; have hfe := not_frozen hc11; have Hc11 := Lib.hid hc11; have Hst : Hid ((((W.setCell ⟨bx, 0, none⟩ (.int .i64 F)).setCell ⟨bx, 1, none⟩ (.int .i64 (opOf b))).setCell ⟨bx, 2, none⟩ (.int .i64 n)).heap[bx]? = some (.cells #[.int .i64 F, .int .i64 (opOf b), .int .i64 n] 72)) := set_at (set_at (set_at hc11)); clear h0 hd hn hf hc11 hcs; go_simp; exact hR _ _ ⟨by simp only [set_size]; exact hI.1, set_below (set_below (set_below hI.2 hbx) hbx) hbx⟩ ⟨InitT.of_sets3 Hc11.out, fun _ => ⟨bx, h11, Hst.out⟩⟩ trivial ⟨bx, h11, Hst.out⟩); (go_simp; refine hK _ ?_; clear hK K))
    intro done vf w3 hd hI hFF
    have h15 : VarIs 72 (vf 14) #[.int .i64 F, .int .i64 (opOf b), .int .i64 n] w3 := hFF 15 (by decide)
    have h14 : VarAt w2.heap.size 72 3 (vf 14) w3 := hFF 14 (by decide)
    obtain ⟨bx, hbv, hbx⟩ := h15
    obtain ⟨b2, hbv2, hb2, _⟩ := h14
    have hbb : b2 = bx := by rw [hbv] at hbv2; injection hbv2 with e; injection e with e; injection e with e; exact e.symm
    subst hbb
    have Hne : Hid (b2 ≠ w.heap.size) := fun e => by have := HB2.out.top; simp at this; omega
    have HB3 := Lib.hid (HB2.out.below hI.2)
    have HI0 : Hid (CondInv w b2 (.int .i64 F) (.int .i64 (opOf b)) (.int .i64 n) (fun _ => false) w3.drew) := ⟨HB3.out.drew, hbx⟩
    have hqx := cells_of hbx
    have HE : Hid (condOf L = match fieldOf (L.take k) with | none => none | some f => if q then some ⟨f, opOf b, n⟩ else none) := by
      show condOf L = _
      unfold condOf
      rw [HK.out, if_neg (by omega), HQ.out, List.getD_eq_getElem?_getD, Hb.out]
      rfl
    have HF2 : Hid (F = match fieldOf (L.take k) with | some f => f | none => -1) := by have := field_idx (L.take k); rw [show Lib.idxOfS (fieldBs.take 5) (bsL (L.take k)) = F from HF.out] at this; exact this
    have Hpos : Hid (∀ f, fieldOf (L.take k) = some f → 0 ≤ f) := fun f hf => by
      unfold fieldOf at hf
      repeat' split at hf
      all_goals first | (injection hf with hf; omega) | cases hf
    clear hbv2 hb2 hd hI hFF hbx
    rcases HC.out with ⟨⟨v, hp, he⟩, rfl⟩ | ⟨h2, t, p, rfl⟩
    · injection he with he1 he2
      subst he1
      obtain ⟨hv0, hv1⟩ := parse_in hp
      have hcmp : ((bsL (Lib.itoa n)).toList == (bsL (L.drop (k + 1))).toList) = q := by rw [ByteArray.toList_eq, ByteArray.toList_eq, bsL_toList, bsL_toList]; exact he2.symm
      clear hp he2 HC
      cases q with
      | true =>
        cases hf : fieldOf (L.take k) with
        | some f =>
          have hF0 : F = f := by have := HF2.out; rw [hf] at this; exact this
          have hpos : 0 ≤ F := by rw [hF0]; exact Hpos.out f hf
          have HR : Hid (condOf L = if true then some ⟨F, opOf b, n⟩ else none) := by show _ = _; rw [HE.out, hf, hF0]; first | done | rfl
          clear hf hF0
          go_wp2_with fail
          refine wp_region_stores3 (CondInv w b2 (.int .i64 F) (.int .i64 (opOf b)) (.int .i64 n)) (by kernel_rfl) (by kernel_rfl) HI0.out _ rfl ?_
          (refine doneP_step (fun K hK => ?_); apply Exists.intro; refine ⟨fun done W hI h0 hd hn R hR => ?_, ?_⟩; (have hqc := cells_of hI.cd; clear h0 hd hn; go_simp; exact hR _ _ (hI.step (by decide) (Below.refl _ _)) rfl); (go_simp; refine hK _ ?_; clear hK K))
          (refine doneP_step (fun K hK => ?_); apply Exists.intro; refine ⟨fun done W hI h0 hd hn R hR => ?_, ?_⟩; (have hqc := cells_of hI.cd; clear h0 hd hn; go_simp; exact hR _ _ (hI.step (by decide) (Below.refl _ _)) rfl); (go_simp; refine hK _ ?_; clear hK K))
          (refine doneP_step (fun K hK => ?_); apply Exists.intro; refine ⟨fun done W hI h0 hd hn R hR => ?_, ?_⟩; (have hqc := cells_of hI.cd; clear h0 hd hn; go_simp; exact hR _ _ (hI.step (by decide) (Below.refl _ _)) rfl); (go_simp; refine hK _ ?_; clear hK K))
          (refine doneP_step (fun K hK => ?_); apply Exists.intro; refine ⟨fun done W hI h0 hd hn R hR => ?_, ?_⟩; (have hqc := cells_of hI.cd; clear h0 hd hn; go_simp; exact hR _ _ (hI.step (by decide) (Below.refl _ _)) rfl); (go_simp; refine hK _ ?_; clear hK K))
          (refine doneP_step (fun K hK => ?_); apply Exists.intro; refine ⟨fun done W hI h0 hd hn R hR => ?_, ?_⟩; (have hqc := cells_of hI.cd; clear h0 hd hn; go_simp; exact hR _ _ (hI.step (by decide) (Below.refl _ _)) rfl); (go_simp; refine hK _ ?_; clear hK K))
          (refine doneP_step (fun K hK => ?_); apply Exists.intro; refine ⟨fun done W hI h0 hd hn R hR => ?_, ?_⟩; (have HLW := Lib.hid (HL.out.below hI.bx.bel); clear h0 hd hn; go_simp; go_at_call 34; refine (itoa_any n hv0 hv1 _ HLW.out).mono ?_; rintro e w9 ⟨rfl, hb9⟩; exact ⟨_, rfl, hR _ _ (hI.step (by decide) hb9) rfl⟩); (go_simp; refine hK _ ?_; clear hK K))
          (refine doneP_step (fun K hK => ?_); apply Exists.intro; refine ⟨fun done W hI h0 hd hn R hR => ?_, ?_⟩; (have hqc := cells_of hI.cd; clear h0 hd hn; go_simp; exact hR _ _ (hI.step (by decide) (Below.refl _ _)) rfl); (go_simp; refine hK _ ?_; clear hK K))
          (refine doneP_step (fun K hK => ?_); apply Exists.intro; refine ⟨fun done W hI h0 hd hn R hR => ?_, ?_⟩; (have hqc := cells_of hI.cd; clear h0 hd hn; go_simp; exact hR _ _ (hI.step (by decide) (Below.refl _ _)) rfl); (go_simp; refine hK _ ?_; clear hK K))
          (refine doneP_step (fun K hK => ?_); apply Exists.intro; refine ⟨fun done W hI h0 hd hn R hR => ?_, ?_⟩; (have hqc := cells_of hI.cd; clear h0 hd hn; go_simp; exact hR _ _ (hI.step (by decide) (Below.refl _ _)) rfl); (go_simp; refine hK _ ?_; clear hK K))
          (refine doneP_step (fun K hK => ?_); apply Exists.intro; refine ⟨fun done W hI h0 hd hn R hR => ?_, ?_⟩; (have hqc := cells_of hI.cd; clear h0 hd hn; go_simp; exact hR _ _ (hI.step (by decide) (Below.refl _ _)) rfl); (go_simp; refine hK _ ?_; clear hK K))
          (refine doneP_step (fun K hK => ?_); apply Exists.intro; refine ⟨fun done W hI h0 hd hn R hR => ?_, ?_⟩; (have hqc := cells_of hI.cd; clear h0 hd hn; go_simp; exact hR _ _ (hI.step (by decide) (Below.refl _ _)) rfl); (go_simp; refine hK _ ?_; clear hK K))
          (refine doneP_step (fun K hK => ?_); apply Exists.intro; refine ⟨fun done W hI h0 hd hn R hR => ?_, ?_⟩; (have hqc := cells_of hI.cd; clear h0 hd hn; go_simp; exact hR _ _ (hI.step (by decide) (Below.refl _ _)) rfl); (go_simp; refine hK _ ?_; clear hK K))
          (refine doneP_step (fun K hK => ?_); apply Exists.intro; refine ⟨fun done W hI h0 hd hn R hR => ?_, ?_⟩; (have hqc := cells_of hI.cd; clear h0 hd hn; go_simp; exact hR _ _ (hI.step (by decide) (Below.refl _ _)) rfl); (go_simp; refine hK _ ?_; clear hK K))
          (refine doneP_step (fun K hK => ?_); apply Exists.intro; refine ⟨fun done W hI h0 hd hn R hR => ?_, ?_⟩; (have hqc := cells_of hI.cd; clear h0 hd hn; go_simp; exact hR _ _ (hI.step (by decide) (Below.refl _ _)) rfl); (go_simp; refine hK _ ?_; clear hK K))
          (refine doneP_step (fun K hK => ?_); apply Exists.intro; refine ⟨fun done W hI h0 hd hn R hR => ?_, ?_⟩; (have hqc := cells_of hI.cd; clear h0 hd hn; go_simp; exact hR _ _ (hI.step (by decide) (Below.refl _ _)) rfl); (go_simp; refine hK _ ?_; clear hK K))
          (refine doneP_step (fun K hK => ?_); apply Exists.intro; refine ⟨fun done W hI h0 hd hn R hR => ?_, ?_⟩; (have hqc := cells_of hI.cd; clear h0 hd hn; go_simp; exact hR _ _ (hI.step (by decide) (Below.refl _ _)) rfl); (go_simp; refine hK _ ?_; clear hK K))
          (refine doneP_step (fun K hK => ?_); apply Exists.intro; refine ⟨fun done W hI h0 hd hn R hR => ?_, ?_⟩; (have hqc := cells_of hI.cd; clear h0 hd hn; go_simp; exact hR _ _ (hI.step (by decide) (Below.refl _ _)) rfl); (go_simp; refine hK _ ?_; clear hK K))
          (refine doneP_step (fun K hK => ?_); apply Exists.intro; refine ⟨fun done W hI h0 hd hn R hR => ?_, ?_⟩; (have hz := hI.bx; rw [h0] at hz; have hqb : ∀ j, W.cell? ⟨w.heap.size, j, none⟩ = (#[Value.int .i64 0, .int .i64 0, .int .i64 0] : Array Value)[j]? := hz.cells0; have hfb := hI.bx.free0; have HS := Lib.hid (hI.store Hne.out); clear h0 hd hn hI hz; go_simp; exact hR _ _ HS.out rfl); (go_simp; refine hK _ ?_; clear hK K))
          (refine doneP_step (fun K hK => ?_); apply Exists.intro; refine ⟨fun done W hI h0 hd hn R hR => ?_, ?_⟩; (have hqc := cells_of hI.cd; clear h0 hd hn; go_simp; exact hR _ _ (hI.step (by decide) (Below.refl _ _)) rfl); (go_simp; refine hK _ ?_; clear hK K))
          intro done W hd hI
          have hz := hI.bx
          rw [hd 17 (by decide)] at hz
          have Hz : Hid (Bx w [.cells #[.int .i64 F, .int .i64 (opOf b), .int .i64 n] 72] W) := hz
          have hcb := Hz.out.cells0
          clear hd hI hz
          go_wp2
          refine bodyPost_ret (v := .tuple #[.agg #[.int .i64 F, .int .i64 (opOf b), .int .i64 n], .bool true]) ?_ rfl ⟨⟨F, opOf b, n, true, rfl, HR.out⟩, Hz.out.bel⟩
          rw [results_cell_tmp rfl]
          go_simp
        | none =>
          have hF0 : F = -1 := by have := HF2.out; rw [hf] at this; exact this
          have hneg : ¬ (0 : Int) ≤ F := by omega
          have HR : Hid (condOf L = if false then some ⟨F, opOf b, n⟩ else none) := by show _ = _; rw [HE.out, hf]; rfl
          clear hf hF0
          go_wp2_with fail
          refine wp_region_stores3 (CondInv w b2 (.int .i64 F) (.int .i64 (opOf b)) (.int .i64 n)) (by kernel_rfl) (by kernel_rfl) HI0.out _ rfl ?_
          (refine doneP_step (fun K hK => ?_); apply Exists.intro; refine ⟨fun done W hI h0 hd hn R hR => ?_, ?_⟩; (have hqc := cells_of hI.cd; clear h0 hd hn; go_simp; exact hR _ _ (hI.step (by decide) (Below.refl _ _)) rfl); (go_simp; refine hK _ ?_; clear hK K))
          (refine doneP_step (fun K hK => ?_); apply Exists.intro; refine ⟨fun done W hI h0 hd hn R hR => ?_, ?_⟩; (have hqc := cells_of hI.cd; clear h0 hd hn; go_simp; exact hR _ _ (hI.step (by decide) (Below.refl _ _)) rfl); (go_simp; refine hK _ ?_; clear hK K))
          (refine doneP_step (fun K hK => ?_); apply Exists.intro; refine ⟨fun done W hI h0 hd hn R hR => ?_, ?_⟩; (have hqc := cells_of hI.cd; clear h0 hd hn; go_simp; exact hR _ _ (hI.step (by decide) (Below.refl _ _)) rfl); (go_simp; refine hK _ ?_; clear hK K))
          (refine doneP_step (fun K hK => ?_); apply Exists.intro; refine ⟨fun done W hI h0 hd hn R hR => ?_, ?_⟩; (have hqc := cells_of hI.cd; clear h0 hd hn; go_simp; exact hR _ _ (hI.step (by decide) (Below.refl _ _)) rfl); (go_simp; refine hK _ ?_; clear hK K))
          (refine doneP_step (fun K hK => ?_); apply Exists.intro; refine ⟨fun done W hI h0 hd hn R hR => ?_, ?_⟩; (have hqc := cells_of hI.cd; clear h0 hd hn; go_simp; exact hR _ _ (hI.step (by decide) (Below.refl _ _)) rfl); (go_simp; refine hK _ ?_; clear hK K))
          (refine doneP_step (fun K hK => ?_); apply Exists.intro; refine ⟨fun done W hI h0 hd hn R hR => ?_, ?_⟩; (have HLW := Lib.hid (HL.out.below hI.bx.bel); clear h0 hd hn; go_simp; go_at_call 34; refine (itoa_any n hv0 hv1 _ HLW.out).mono ?_; rintro e w9 ⟨rfl, hb9⟩; exact ⟨_, rfl, hR _ _ (hI.step (by decide) hb9) rfl⟩); (go_simp; refine hK _ ?_; clear hK K))
          (refine doneP_step (fun K hK => ?_); apply Exists.intro; refine ⟨fun done W hI h0 hd hn R hR => ?_, ?_⟩; (have hqc := cells_of hI.cd; clear h0 hd hn; go_simp; exact hR _ _ (hI.step (by decide) (Below.refl _ _)) rfl); (go_simp; refine hK _ ?_; clear hK K))
          (refine doneP_step (fun K hK => ?_); apply Exists.intro; refine ⟨fun done W hI h0 hd hn R hR => ?_, ?_⟩; (have hqc := cells_of hI.cd; clear h0 hd hn; go_simp; exact hR _ _ (hI.step (by decide) (Below.refl _ _)) rfl); (go_simp; refine hK _ ?_; clear hK K))
          (refine doneP_step (fun K hK => ?_); apply Exists.intro; refine ⟨fun done W hI h0 hd hn R hR => ?_, ?_⟩; (have hqc := cells_of hI.cd; clear h0 hd hn; go_simp; exact hR _ _ (hI.step (by decide) (Below.refl _ _)) rfl); (go_simp; refine hK _ ?_; clear hK K))
          (refine doneP_step (fun K hK => ?_); apply Exists.intro; refine ⟨fun done W hI h0 hd hn R hR => ?_, ?_⟩; (have hqc := cells_of hI.cd; clear h0 hd hn; go_simp; exact hR _ _ (hI.step (by decide) (Below.refl _ _)) rfl); (go_simp; refine hK _ ?_; clear hK K))
          (refine doneP_step (fun K hK => ?_); apply Exists.intro; refine ⟨fun done W hI h0 hd hn R hR => ?_, ?_⟩; (have hqc := cells_of hI.cd; clear h0 hd hn; go_simp; exact hR _ _ (hI.step (by decide) (Below.refl _ _)) rfl); (go_simp; refine hK _ ?_; clear hK K))
          (refine doneP_step (fun K hK => ?_); apply Exists.intro; refine ⟨fun done W hI h0 hd hn R hR => ?_, ?_⟩; (have hqc := cells_of hI.cd; clear h0 hd hn; go_simp; exact hR _ _ (hI.step (by decide) (Below.refl _ _)) rfl); (go_simp; refine hK _ ?_; clear hK K))
          (refine doneP_step (fun K hK => ?_); apply Exists.intro; refine ⟨fun done W hI h0 hd hn R hR => ?_, ?_⟩; (have hqc := cells_of hI.cd; clear h0 hd hn; go_simp; exact hR _ _ (hI.step (by decide) (Below.refl _ _)) rfl); (go_simp; refine hK _ ?_; clear hK K))
          (refine doneP_step (fun K hK => ?_); apply Exists.intro; refine ⟨fun done W hI h0 hd hn R hR => ?_, ?_⟩; (have hqc := cells_of hI.cd; clear h0 hd hn; go_simp; exact hR _ _ (hI.step (by decide) (Below.refl _ _)) rfl); (go_simp; refine hK _ ?_; clear hK K))
          (refine doneP_step (fun K hK => ?_); apply Exists.intro; refine ⟨fun done W hI h0 hd hn R hR => ?_, ?_⟩; (have hqc := cells_of hI.cd; clear h0 hd hn; go_simp; exact hR _ _ (hI.step (by decide) (Below.refl _ _)) rfl); (go_simp; refine hK _ ?_; clear hK K))
          (refine doneP_step (fun K hK => ?_); apply Exists.intro; refine ⟨fun done W hI h0 hd hn R hR => ?_, ?_⟩; (have hqc := cells_of hI.cd; clear h0 hd hn; go_simp; exact hR _ _ (hI.step (by decide) (Below.refl _ _)) rfl); (go_simp; refine hK _ ?_; clear hK K))
          (refine doneP_step (fun K hK => ?_); apply Exists.intro; refine ⟨fun done W hI h0 hd hn R hR => ?_, ?_⟩; (have hqc := cells_of hI.cd; clear h0 hd hn; go_simp; exact hR _ _ (hI.step (by decide) (Below.refl _ _)) rfl); (go_simp; refine hK _ ?_; clear hK K))
          (refine doneP_step (fun K hK => ?_); apply Exists.intro; refine ⟨fun done W hI h0 hd hn R hR => ?_, ?_⟩; (have hz := hI.bx; rw [h0] at hz; have hqb : ∀ j, W.cell? ⟨w.heap.size, j, none⟩ = (#[Value.int .i64 0, .int .i64 0, .int .i64 0] : Array Value)[j]? := hz.cells0; have hfb := hI.bx.free0; have HS := Lib.hid (hI.store Hne.out); clear h0 hd hn hI hz; go_simp; exact hR _ _ HS.out rfl); (go_simp; refine hK _ ?_; clear hK K))
          (refine doneP_step (fun K hK => ?_); apply Exists.intro; refine ⟨fun done W hI h0 hd hn R hR => ?_, ?_⟩; (have hqc := cells_of hI.cd; clear h0 hd hn; go_simp; exact hR _ _ (hI.step (by decide) (Below.refl _ _)) rfl); (go_simp; refine hK _ ?_; clear hK K))
          intro done W hd hI
          have hz := hI.bx
          rw [hd 17 (by decide)] at hz
          have Hz : Hid (Bx w [.cells #[.int .i64 F, .int .i64 (opOf b), .int .i64 n] 72] W) := hz
          have hcb := Hz.out.cells0
          clear hd hI hz
          go_wp2
          refine bodyPost_ret (v := .tuple #[.agg #[.int .i64 F, .int .i64 (opOf b), .int .i64 n], .bool false]) ?_ rfl ⟨⟨F, opOf b, n, false, rfl, HR.out⟩, Hz.out.bel⟩
          rw [results_cell_tmp rfl]
          go_simp
      | false =>
        have HR : Hid (condOf L = if false then some ⟨F, opOf b, n⟩ else none) := by show _ = _; rw [HE.out]; cases fieldOf (L.take k) <;> rfl
        go_wp2_with fail
        refine wp_region_stores3 (CondInv w b2 (.int .i64 F) (.int .i64 (opOf b)) (.int .i64 n)) (by kernel_rfl) (by kernel_rfl) HI0.out _ rfl ?_
        (refine doneP_step (fun K hK => ?_); apply Exists.intro; refine ⟨fun done W hI h0 hd hn R hR => ?_, ?_⟩; (have hqc := cells_of hI.cd; clear h0 hd hn; go_simp; exact hR _ _ (hI.step (by decide) (Below.refl _ _)) rfl); (go_simp; refine hK _ ?_; clear hK K))
        (refine doneP_step (fun K hK => ?_); apply Exists.intro; refine ⟨fun done W hI h0 hd hn R hR => ?_, ?_⟩; (have hqc := cells_of hI.cd; clear h0 hd hn; go_simp; exact hR _ _ (hI.step (by decide) (Below.refl _ _)) rfl); (go_simp; refine hK _ ?_; clear hK K))
        (refine doneP_step (fun K hK => ?_); apply Exists.intro; refine ⟨fun done W hI h0 hd hn R hR => ?_, ?_⟩; (have hqc := cells_of hI.cd; clear h0 hd hn; go_simp; exact hR _ _ (hI.step (by decide) (Below.refl _ _)) rfl); (go_simp; refine hK _ ?_; clear hK K))
        (refine doneP_step (fun K hK => ?_); apply Exists.intro; refine ⟨fun done W hI h0 hd hn R hR => ?_, ?_⟩; (have hqc := cells_of hI.cd; clear h0 hd hn; go_simp; exact hR _ _ (hI.step (by decide) (Below.refl _ _)) rfl); (go_simp; refine hK _ ?_; clear hK K))
        (refine doneP_step (fun K hK => ?_); apply Exists.intro; refine ⟨fun done W hI h0 hd hn R hR => ?_, ?_⟩; (have hqc := cells_of hI.cd; clear h0 hd hn; go_simp; exact hR _ _ (hI.step (by decide) (Below.refl _ _)) rfl); (go_simp; refine hK _ ?_; clear hK K))
        (refine doneP_step (fun K hK => ?_); apply Exists.intro; refine ⟨fun done W hI h0 hd hn R hR => ?_, ?_⟩; (have HLW := Lib.hid (HL.out.below hI.bx.bel); clear h0 hd hn; go_simp; go_at_call 34; refine (itoa_any n hv0 hv1 _ HLW.out).mono ?_; rintro e w9 ⟨rfl, hb9⟩; exact ⟨_, rfl, hR _ _ (hI.step (by decide) hb9) rfl⟩); (go_simp; refine hK _ ?_; clear hK K))
        (refine doneP_step (fun K hK => ?_); apply Exists.intro; refine ⟨fun done W hI h0 hd hn R hR => ?_, ?_⟩; (have hqc := cells_of hI.cd; clear h0 hd hn; go_simp; exact hR _ _ (hI.step (by decide) (Below.refl _ _)) rfl); (go_simp; refine hK _ ?_; clear hK K))
        (refine doneP_step (fun K hK => ?_); apply Exists.intro; refine ⟨fun done W hI h0 hd hn R hR => ?_, ?_⟩; (have hqc := cells_of hI.cd; clear h0 hd hn; go_simp; exact hR _ _ (hI.step (by decide) (Below.refl _ _)) rfl); (go_simp; refine hK _ ?_; clear hK K))
        (refine doneP_step (fun K hK => ?_); apply Exists.intro; refine ⟨fun done W hI h0 hd hn R hR => ?_, ?_⟩; (have hqc := cells_of hI.cd; clear h0 hd hn; go_simp; exact hR _ _ (hI.step (by decide) (Below.refl _ _)) rfl); (go_simp; refine hK _ ?_; clear hK K))
        (refine doneP_step (fun K hK => ?_); apply Exists.intro; refine ⟨fun done W hI h0 hd hn R hR => ?_, ?_⟩; (have hqc := cells_of hI.cd; clear h0 hd hn; go_simp; exact hR _ _ (hI.step (by decide) (Below.refl _ _)) rfl); (go_simp; refine hK _ ?_; clear hK K))
        (refine doneP_step (fun K hK => ?_); apply Exists.intro; refine ⟨fun done W hI h0 hd hn R hR => ?_, ?_⟩; (have hqc := cells_of hI.cd; clear h0 hd hn; go_simp; exact hR _ _ (hI.step (by decide) (Below.refl _ _)) rfl); (go_simp; refine hK _ ?_; clear hK K))
        (refine doneP_step (fun K hK => ?_); apply Exists.intro; refine ⟨fun done W hI h0 hd hn R hR => ?_, ?_⟩; (have hqc := cells_of hI.cd; clear h0 hd hn; go_simp; exact hR _ _ (hI.step (by decide) (Below.refl _ _)) rfl); (go_simp; refine hK _ ?_; clear hK K))
        (refine doneP_step (fun K hK => ?_); apply Exists.intro; refine ⟨fun done W hI h0 hd hn R hR => ?_, ?_⟩; (have hqc := cells_of hI.cd; clear h0 hd hn; go_simp; exact hR _ _ (hI.step (by decide) (Below.refl _ _)) rfl); (go_simp; refine hK _ ?_; clear hK K))
        (refine doneP_step (fun K hK => ?_); apply Exists.intro; refine ⟨fun done W hI h0 hd hn R hR => ?_, ?_⟩; (have hqc := cells_of hI.cd; clear h0 hd hn; go_simp; exact hR _ _ (hI.step (by decide) (Below.refl _ _)) rfl); (go_simp; refine hK _ ?_; clear hK K))
        (refine doneP_step (fun K hK => ?_); apply Exists.intro; refine ⟨fun done W hI h0 hd hn R hR => ?_, ?_⟩; (have hqc := cells_of hI.cd; clear h0 hd hn; go_simp; exact hR _ _ (hI.step (by decide) (Below.refl _ _)) rfl); (go_simp; refine hK _ ?_; clear hK K))
        (refine doneP_step (fun K hK => ?_); apply Exists.intro; refine ⟨fun done W hI h0 hd hn R hR => ?_, ?_⟩; (have hqc := cells_of hI.cd; clear h0 hd hn; go_simp; exact hR _ _ (hI.step (by decide) (Below.refl _ _)) rfl); (go_simp; refine hK _ ?_; clear hK K))
        (refine doneP_step (fun K hK => ?_); apply Exists.intro; refine ⟨fun done W hI h0 hd hn R hR => ?_, ?_⟩; (have hqc := cells_of hI.cd; clear h0 hd hn; go_simp; exact hR _ _ (hI.step (by decide) (Below.refl _ _)) rfl); (go_simp; refine hK _ ?_; clear hK K))
        (refine doneP_step (fun K hK => ?_); apply Exists.intro; refine ⟨fun done W hI h0 hd hn R hR => ?_, ?_⟩; (have hz := hI.bx; rw [h0] at hz; have hqb : ∀ j, W.cell? ⟨w.heap.size, j, none⟩ = (#[Value.int .i64 0, .int .i64 0, .int .i64 0] : Array Value)[j]? := hz.cells0; have hfb := hI.bx.free0; have HS := Lib.hid (hI.store Hne.out); clear h0 hd hn hI hz; go_simp; exact hR _ _ HS.out rfl); (go_simp; refine hK _ ?_; clear hK K))
        (refine doneP_step (fun K hK => ?_); apply Exists.intro; refine ⟨fun done W hI h0 hd hn R hR => ?_, ?_⟩; (have hqc := cells_of hI.cd; clear h0 hd hn; go_simp; exact hR _ _ (hI.step (by decide) (Below.refl _ _)) rfl); (go_simp; refine hK _ ?_; clear hK K))
        intro done W hd hI
        have hz := hI.bx
        rw [hd 17 (by decide)] at hz
        have Hz : Hid (Bx w [.cells #[.int .i64 F, .int .i64 (opOf b), .int .i64 n] 72] W) := hz
        have hcb := Hz.out.cells0
        clear hd hI hz
        go_wp2
        refine bodyPost_ret (v := .tuple #[.agg #[.int .i64 F, .int .i64 (opOf b), .int .i64 n], .bool false]) ?_ rfl ⟨⟨F, opOf b, n, false, rfl, HR.out⟩, Hz.out.bel⟩
        rw [results_cell_tmp rfl]
        go_simp
    · subst h2
      have HR : Hid (condOf L = if false then some ⟨F, opOf b, n⟩ else none) := by show _ = _; rw [HE.out]; cases fieldOf (L.take k) <;> rfl
      clear HC
      go_wp2_with fail
      refine wp_region_stores3 (CondInv w b2 (.int .i64 F) (.int .i64 (opOf b)) (.int .i64 n)) (by kernel_rfl) (by kernel_rfl) HI0.out _ rfl ?_
      (refine doneP_step (fun K hK => ?_); apply Exists.intro; refine ⟨fun done W hI h0 hd hn R hR => ?_, ?_⟩; (have hqc := cells_of hI.cd; clear h0 hd hn; go_simp; exact hR _ _ (hI.step (by decide) (Below.refl _ _)) rfl); (go_simp; refine hK _ ?_; clear hK K))
      (refine doneP_step (fun K hK => ?_); apply Exists.intro; refine ⟨fun done W hI h0 hd hn R hR => ?_, ?_⟩; (have hqc := cells_of hI.cd; clear h0 hd hn; go_simp; exact hR _ _ (hI.step (by decide) (Below.refl _ _)) rfl); (go_simp; refine hK _ ?_; clear hK K))
      (refine doneP_step (fun K hK => ?_); apply Exists.intro; refine ⟨fun done W hI h0 hd hn R hR => ?_, ?_⟩; (have hqc := cells_of hI.cd; clear h0 hd hn; go_simp; exact hR _ _ (hI.step (by decide) (Below.refl _ _)) rfl); (go_simp; refine hK _ ?_; clear hK K))
      (refine doneP_step (fun K hK => ?_); apply Exists.intro; refine ⟨fun done W hI h0 hd hn R hR => ?_, ?_⟩; (have hqc := cells_of hI.cd; clear h0 hd hn; go_simp; exact hR _ _ (hI.step (by decide) (Below.refl _ _)) rfl); (go_simp; refine hK _ ?_; clear hK K))
      (refine doneP_step (fun K hK => ?_); apply Exists.intro; refine ⟨fun done W hI h0 hd hn R hR => ?_, ?_⟩; (have hqc := cells_of hI.cd; clear h0 hd hn; go_simp; exact hR _ _ (hI.step (by decide) (Below.refl _ _)) rfl); (go_simp; refine hK _ ?_; clear hK K))
      (refine doneP_step (fun K hK => ?_); apply Exists.intro; refine ⟨fun done W hI h0 hd hn R hR => ?_, ?_⟩; (have hqc := cells_of hI.cd; clear h0 hd hn; go_simp; exact hR _ _ (hI.step (by decide) (Below.refl _ _)) rfl); (go_simp; refine hK _ ?_; clear hK K))
      (refine doneP_step (fun K hK => ?_); apply Exists.intro; refine ⟨fun done W hI h0 hd hn R hR => ?_, ?_⟩; (have hqc := cells_of hI.cd; clear h0 hd hn; go_simp; exact hR _ _ (hI.step (by decide) (Below.refl _ _)) rfl); (go_simp; refine hK _ ?_; clear hK K))
      (refine doneP_step (fun K hK => ?_); apply Exists.intro; refine ⟨fun done W hI h0 hd hn R hR => ?_, ?_⟩; (have hqc := cells_of hI.cd; clear h0 hd hn; go_simp; exact hR _ _ (hI.step (by decide) (Below.refl _ _)) rfl); (go_simp; refine hK _ ?_; clear hK K))
      (refine doneP_step (fun K hK => ?_); apply Exists.intro; refine ⟨fun done W hI h0 hd hn R hR => ?_, ?_⟩; (have hqc := cells_of hI.cd; clear h0 hd hn; go_simp; exact hR _ _ (hI.step (by decide) (Below.refl _ _)) rfl); (go_simp; refine hK _ ?_; clear hK K))
      (refine doneP_step (fun K hK => ?_); apply Exists.intro; refine ⟨fun done W hI h0 hd hn R hR => ?_, ?_⟩; (have hqc := cells_of hI.cd; clear h0 hd hn; go_simp; exact hR _ _ (hI.step (by decide) (Below.refl _ _)) rfl); (go_simp; refine hK _ ?_; clear hK K))
      (refine doneP_step (fun K hK => ?_); apply Exists.intro; refine ⟨fun done W hI h0 hd hn R hR => ?_, ?_⟩; (have hqc := cells_of hI.cd; clear h0 hd hn; go_simp; exact hR _ _ (hI.step (by decide) (Below.refl _ _)) rfl); (go_simp; refine hK _ ?_; clear hK K))
      (refine doneP_step (fun K hK => ?_); apply Exists.intro; refine ⟨fun done W hI h0 hd hn R hR => ?_, ?_⟩; (have hqc := cells_of hI.cd; clear h0 hd hn; go_simp; exact hR _ _ (hI.step (by decide) (Below.refl _ _)) rfl); (go_simp; refine hK _ ?_; clear hK K))
      (refine doneP_step (fun K hK => ?_); apply Exists.intro; refine ⟨fun done W hI h0 hd hn R hR => ?_, ?_⟩; (have hqc := cells_of hI.cd; clear h0 hd hn; go_simp; exact hR _ _ (hI.step (by decide) (Below.refl _ _)) rfl); (go_simp; refine hK _ ?_; clear hK K))
      (refine doneP_step (fun K hK => ?_); apply Exists.intro; refine ⟨fun done W hI h0 hd hn R hR => ?_, ?_⟩; (have hqc := cells_of hI.cd; clear h0 hd hn; go_simp; exact hR _ _ (hI.step (by decide) (Below.refl _ _)) rfl); (go_simp; refine hK _ ?_; clear hK K))
      (refine doneP_step (fun K hK => ?_); apply Exists.intro; refine ⟨fun done W hI h0 hd hn R hR => ?_, ?_⟩; (have hqc := cells_of hI.cd; clear h0 hd hn; go_simp; exact hR _ _ (hI.step (by decide) (Below.refl _ _)) rfl); (go_simp; refine hK _ ?_; clear hK K))
      (refine doneP_step (fun K hK => ?_); apply Exists.intro; refine ⟨fun done W hI h0 hd hn R hR => ?_, ?_⟩; (have hqc := cells_of hI.cd; clear h0 hd hn; go_simp; exact hR _ _ (hI.step (by decide) (Below.refl _ _)) rfl); (go_simp; refine hK _ ?_; clear hK K))
      (refine doneP_step (fun K hK => ?_); apply Exists.intro; refine ⟨fun done W hI h0 hd hn R hR => ?_, ?_⟩; (have hqc := cells_of hI.cd; clear h0 hd hn; go_simp; exact hR _ _ (hI.step (by decide) (Below.refl _ _)) rfl); (go_simp; refine hK _ ?_; clear hK K))
      (refine doneP_step (fun K hK => ?_); apply Exists.intro; refine ⟨fun done W hI h0 hd hn R hR => ?_, ?_⟩; (have hz := hI.bx; rw [h0] at hz; have hqb : ∀ j, W.cell? ⟨w.heap.size, j, none⟩ = (#[Value.int .i64 0, .int .i64 0, .int .i64 0] : Array Value)[j]? := hz.cells0; have hfb := hI.bx.free0; have HS := Lib.hid (hI.store Hne.out); clear h0 hd hn hI hz; go_simp; exact hR _ _ HS.out rfl); (go_simp; refine hK _ ?_; clear hK K))
      (refine doneP_step (fun K hK => ?_); apply Exists.intro; refine ⟨fun done W hI h0 hd hn R hR => ?_, ?_⟩; (have hqc := cells_of hI.cd; clear h0 hd hn; go_simp; exact hR _ _ (hI.step (by decide) (Below.refl _ _)) rfl); (go_simp; refine hK _ ?_; clear hK K))
      intro done W hd hI
      have hz := hI.bx
      rw [hd 17 (by decide)] at hz
      have Hz : Hid (Bx w [.cells #[.int .i64 F, .int .i64 (opOf b), .int .i64 n] 72] W) := hz
      have hcb := Hz.out.cells0
      clear hd hI hz
      go_wp2
      refine bodyPost_ret (v := .tuple #[.agg #[.int .i64 F, .int .i64 (opOf b), .int .i64 n], .bool false]) ?_ rfl ⟨⟨F, opOf b, n, false, rfl, HR.out⟩, Hz.out.bel⟩
      rw [results_cell_tmp rfl]
      go_simp
end Go.Proofs.YthkgjohhbdipcaaDoor
namespace Go.Proofs.YthkgjohhbdipcaaDoor

def ruleP (t : List UInt8) : Option TRule := match verdictOf ((words t).headD []) with
  | none => none
  | some v => (condsOf (words t).tail).map fun cs => ⟨cs, v⟩
def rulesP : List (List UInt8) → Option (List TRule)
  | [] => some []
  | t :: r => match ruleP t with
    | none => none
    | some x => (rulesP r).map (x :: ·)
def parseL (ps : List (List UInt8)) : Option TPol := match verdictOf (ps.getLastD []) with
  | none => none
  | some d => (rulesP ps.dropLast).map fun rs => ⟨rs, d⟩
theorem split_ne (s : List UInt8) : Lib.split s [59] ≠ [] := by
  by_cases hm : (59 : UInt8) ∈ s
  · obtain ⟨a, r, rfl, ha⟩ := List.eq_append_cons_of_mem hm
    rw [split_app ha]
    simp
  · rw [split_none hm]
    simp
theorem parse_cons (a : List UInt8) (ps : List (List UInt8)) (h : ps ≠ []) : parseL (a :: ps) = match ruleP a with
    | none => none
    | some x => (parseL ps).map fun p => ⟨x :: p.rules, p.dflt⟩ := by
  obtain ⟨b, r, rfl⟩ := List.exists_cons_of_ne_nil h
  unfold parseL
  rw [show (a :: b :: r).getLastD [] = (b :: r).getLastD [] from rfl, show (a :: b :: r).dropLast = a :: (b :: r).dropLast from rfl]
  cases hv : verdictOf ((b :: r).getLastD []) with
  | none => cases ruleP a <;> rfl
  | some d =>
    dsimp only
    conv => lhs; unfold rulesP
    cases hr : ruleP a with
    | none => rfl
    | some x => cases rulesP (b :: r).dropLast <;> rfl
theorem pread_parse : ∀ (n : Nat) (s : List UInt8), s.length < n → pread n s = parseL (Lib.split s [59])
  | 0, _, h => absurd h (Nat.not_lt_zero _)
  | n + 1, s, h => by
    obtain ⟨w0, ws, h1, h2⟩ := text_words _ (Lib.cut s [59]).1 (Nat.le_refl _)
    rw [pread_step h1]
    by_cases hm : (59 : UInt8) ∈ s
    · obtain ⟨a, r, rfl, ha⟩ := List.eq_append_cons_of_mem hm
      rw [cut_app ha] at h1 h2 ⊢
      dsimp only at h1 h2 ⊢
      rw [split_app ha, parse_cons _ _ (split_ne r), ← pread_parse n r (by simp at h; omega)]
      unfold ruleP
      rw [h1]
      simp only [List.headD_cons, List.tail_cons]
      cases verdictOf w0 with
      | none => rfl
      | some v => cases condsOf ws <;> rfl
    · rw [cut_none hm] at h1 h2 ⊢
      dsimp only at h1 h2 ⊢
      rw [split_none hm]
      unfold parseL
      simp only [List.getLastD_cons, List.getLastD_nil, List.dropLast_singleton]
      by_cases hw : ws = []
      · subst hw
        simp only [List.flatMap_nil, List.append_nil] at h2
        subst h2
        cases verdictOf s <;> simp [rulesP]
      · have hmem : (32 : UInt8) ∈ s := by
          obtain ⟨u, r, rfl⟩ := List.exists_cons_of_ne_nil hw
          rw [h2]
          simp
        have hnone : verdictOf s = none := by
          cases hv : verdictOf s with
          | none => rfl
          | some v =>
            rw [verdictOf_some hv] at hmem
            exact absurd hmem (plain_ne (verdictW_plain v) (by decide))
        rw [hnone]
        have hl : 1 < ws.length + 1 := by have := List.length_pos_iff.2 hw; omega
        cases verdictOf w0 with
        | none => rfl
        | some v => simp [hl]
/-- text.Parse. -/
def textE (s : List UInt8) : TPol × Int := if 60000 < s.length then (⟨[], 0⟩, 2) else match parseL (Lib.split s [59]) with
  | none => (⟨[], 0⟩, 1)
  | some p => if polE p = 0 then (p, 0) else (⟨[], 0⟩, polE p)
theorem textE_short {s : List UInt8} (h : s.length ≤ 60000) : textE s = readP s := by
  unfold textE readP
  rw [if_neg (by omega), pread_parse (s.length + 1) s (by omega)]
  cases parseL (Lib.split s [59]) <;> rfl
end Go.Proofs.YthkgjohhbdipcaaDoor
namespace Go.Proofs.YthkgjohhbdipcaaDoor
open Go.RowKit

/-- w0 is the world where the loop begins; block b (older) holds #[v, c]; v is a row of the loop's own. -/
structure BoxRow {α : Type} (w0 W : World) (b : Nat) (T E : TypeId) (sz : Nat) (R : α → List Value → Prop) (c v : Value) (xs : List α) : Prop where
  gr : w0.grownBy W (some b)
  rc : W.heap[b]? = some (.cells #[v, c] T)
  own : OwnSl W w0.heap.size E sz R v xs
section
variable {α : Type} {w0 W W' : World} {b : Nat} {T E : TypeId} {sz : Nat} {R R' : α → List Value → Prop} {c v v' : Value} {xs ys : List α}
theorem BoxRow.start (hb : w0.heap[b]? = some (.cells #[.slice none 0 0, c] T)) : BoxRow (α := α) w0 w0 b T E sz R c (.slice none 0 0) [] :=
  ⟨⟨rfl, rfl, rfl, Nat.le_refl _, fun _ _ _ => rfl⟩, hb, OwnSl.nil⟩
theorem BoxRow.below (h : BoxRow w0 W b T E sz R c v xs) (hb : Below W.heap.size W W') : BoxRow w0 W' b T E sz R c v xs :=
  ⟨⟨hb.os.trans h.gr.os, hb.tape.trans h.gr.tape, hb.output.trans h.gr.output, Nat.le_trans h.gr.size hb.size, fun k hk hn => (hb.block k (Nat.lt_of_lt_of_le hk h.gr.size)).trans (h.gr.block k hk hn)⟩, blk_below h.rc hb, h.own.below hb⟩
theorem BoxRow.monoR (h : BoxRow w0 W b T E sz R c v xs) (hR : ∀ x ∈ xs, ∀ cs, R x cs → R' x cs) : BoxRow w0 W b T E sz R' c v xs := ⟨h.gr, h.rc, h.own.monoR hR⟩
theorem BoxRow.rcg (h : BoxRow w0 W b T E sz R c v xs) (hb : b < w0.heap.size) (hg : W.grownBy W' v.ownBlock) : W'.heap[b]? = some (.cells #[v, c] T) :=
  (hg.block b (Nat.lt_of_lt_of_le hb h.gr.size) (fun e => by have := h.own.block b e.symm; omega)).trans h.rc
/-- the row grown, and put back. -/
theorem BoxRow.app (h : BoxRow w0 W b T E sz R c v xs) (hb : b < w0.heap.size) (hown : OwnSl W' w0.heap.size E sz R' v' ys) (hg : W.grownBy W' v.ownBlock) : BoxRow w0 (W'.setCell ⟨b, 0, none⟩ v') b T E sz R' c v' ys := by
  have hne : ∀ k, k < w0.heap.size → some k ≠ v.ownBlock := fun k hk e => by have := h.own.block k e.symm; omega
  have hW : ∀ k, k < w0.heap.size → W'.heap[k]? = W.heap[k]? := fun k hk => hg.block k (Nat.lt_of_lt_of_le hk h.gr.size) (hne k hk)
  refine ⟨⟨hg.os.trans h.gr.os, hg.tape.trans h.gr.tape, hg.output.trans h.gr.output, by rw [set_size]; exact Nat.le_trans h.gr.size hg.size, fun k hk hn => ?_⟩, ?_, ?_⟩
  · rw [set_other (fun e => hn (by rw [e])), hW k hk, h.gr.block k hk hn]
  · exact set_at ((hW b hb).trans h.rc)
  · exact OwnSl.set hown (a := ⟨b, 0, none⟩) (fun e => by have h1 : w0.heap.size ≤ b := hown.block _ e; omega)
end
/-- rules whose conditions lie elsewhere than their own row. -/
theorem BoxRow.rules {w0 W W' : World} {b B sz : Nat} {T E : TypeId} {c v : Value} {xs : List TRule} (h : BoxRow w0 W b T E sz (ruleR W (fun x => B ≤ x ∧ v.ownBlock ≠ some x)) c v xs) (hb : Below W.heap.size W W') :
    BoxRow w0 W' b T E sz (ruleR W' (fun x => B ≤ x ∧ v.ownBlock ≠ some x)) c v xs :=
  (h.below hb).monoR fun _ _ _ ⟨u, h1, h2⟩ => ⟨u, h1, h2.keep (fun _ hx _ => hx) (fun x _ hl => hb.block x hl) hb.size⟩
/-- older blocks, whole where one block alone was written. -/
theorem Bx.grownB {w w3 wr : World} {bs : List Obj} {b : Nat} (h : Bx w bs w3) (hg : w3.grownBy wr (some b)) (hb : w.heap.size + bs.length ≤ b) : Bx w bs wr :=
  ⟨h.bel.grown hg h.bel.size (fun g e => by injection e with e; omega), fun i o ho => by
    have hi := (List.getElem?_eq_some_iff.1 ho).1
    have hlt := (Array.getElem?_eq_some_iff.1 (h.at_ i o ho)).1
    rw [hg.block _ hlt (fun e => by injection e with e; omega)]
    exact h.at_ i o ho⟩
end Go.Proofs.YthkgjohhbdipcaaDoor
namespace Go.Proofs.YthkgjohhbdipcaaDoor
open Go.RowKit

theorem splitB_words (t : ByteArray) : (Lib.splitB ⟨#[32]⟩ 0 (Lib.countB t ⟨#[32]⟩) t).map (·.data.toList) = words t.data.toList := by
  rw [Lib.splitB_data]; rfl
theorem splitB_sizes (sep : ByteArray) : ∀ (k : Nat) (t : ByteArray), ∀ u ∈ Lib.splitB sep 0 k t, u.size ≤ t.size
  | 0, t, u, h => by simp [Lib.splitB_zero] at h; subst h; exact Nat.le_refl _
  | k + 1, t, u, h => by
    unfold Lib.splitB at h
    split at h
    · simp at h; subst h; exact Nat.le_refl _
    · rcases List.mem_cons.1 h with h | h
      · subst h; simp [ByteArray.size_extract]; omega
      · have := splitB_sizes sep k _ u h
        simp [ByteArray.size_extract] at this; omega

theorem split_any (t : ByteArray) (w : World) (hL : Laid w) (hs : t.size < 4294967281) : Calls Tryd.prog 40 #[.string t, .string ⟨#[32]⟩] w fun e w' =>
    ∃ ws : List ByteArray, e = .returned (.slice (some ⟨w.heap.size, 0, none⟩) ws.length ws.length) ∧ w' = w.alloc (.cells (ws.map Value.string).toArray 9) ∧ ws.map (·.data.toList) = words t.data.toList ∧ 0 < ws.length ∧ ws.length ≤ t.size + 1 ∧ ∀ u ∈ ws, u.size ≤ t.size := by
  obtain ⟨m, hm⟩ := hL.ml
  refine (Tryd.strings_Split t ⟨#[32]⟩ m w hs hm (by decide)).mono ?_
  rintro e w1 ⟨rfl, rfl⟩
  have hl := Lib.splitB_all ⟨#[32]⟩ (by decide) 0 _ t rfl
  have hc := Lib.countB_le ⟨#[32]⟩ (by decide) _ t (Nat.le_refl _)
  exact ⟨_, by rw [hl], rfl, splitB_words t, by omega, by omega, splitB_sizes _ _ t⟩

theorem cut_any (t : ByteArray) (w : World) (hL : Laid w) (hs : t.size < 4294967281) : Calls Tryd.prog 45 #[.string t, .string ⟨#[59]⟩] w fun e w' =>
    ∃ (a r : ByteArray) (more : Bool), e = .returned (.tuple #[.string a, .string r, .bool more]) ∧ a.data.toList = (Lib.cut t.data.toList [59]).1 ∧ r.data.toList = (Lib.cut t.data.toList [59]).2.1 ∧ more = (Lib.cut t.data.toList [59]).2.2 ∧ a.size ≤ t.size ∧ (more = true → r.size < t.size) ∧ Below w.heap.size w w' := by
  obtain ⟨m, hm⟩ := hL.ml
  refine (Tryd.strings_Cut t ⟨#[59]⟩ m w hs hm).mono ?_
  rintro e w1 ⟨rfl, n, rfl⟩
  refine ⟨_, _, _, rfl, by simp, by simp, rfl, ?_, ?_, Go.Joins.below_draws _ _ _⟩
  · show ((Lib.cut t.data.toList [59]).1.toArray).size ≤ t.data.size
    unfold Lib.cut
    split
    · simp; omega
    · simp
  · intro h
    show ((Lib.cut t.data.toList [59]).2.1.toArray).size < t.data.size
    revert h
    show (Lib.cut t.data.toList [59]).2.2 = true → _
    unfold Lib.cut
    split
    · rename_i h0
      intro _
      have hne : t.data.toList ≠ [] := fun e => by rw [e] at h0; simp [Lib.index] at h0
      have : 0 < t.data.toList.length := List.length_pos_iff.2 hne
      simp at this ⊢
      omega
    · intro h; cases h
end Go.Proofs.YthkgjohhbdipcaaDoor
namespace Go.Proofs.YthkgjohhbdipcaaDoor
open Go.RowKit

theorem wpList_app2 {α : Type} {P : Program} {w : World} {ops : Array Oper} {rest : List Oper} {o : Oper} {a : Act} {Q : Exit → Act → World → Prop} {R : α → List Value → Prop} {D : Nat → Prop} (hgd : o.guard = none) (s x : Operand) (t : TypeId)
    (ho : o.op = .call { callee := .builtin .append, args := #[s, x], argTypes := #[t, t] })
    (base : Nat) (e : TypeId) (i : TypeInfo) (z : Value) (size bytes : Nat) (ht : P.underlying t = some (.slice e)) (hi : P.info? e = some i) (hz : i.zero = some z)
    (hsize : i.size = size) (hby : i.bytes = bytes) (hzs : z.cells.size = size) (hsz : 0 < size)
    (v : Value) (xs : List α) (hs : a.eval s = v) (hown : OwnSl w base e size R v xs)
    (u : Value) (ys : List α) (hx : a.eval x = u) (hu : Sl w D size R u ys) (h1 : ∀ y ∈ ys, ∀ cs, R y cs → ∀ c ∈ cs, c.oneCell' = true)
    (h63 : xs.length + ys.length ≤ maxLen) (hbytes : (xs.length + ys.length) * bytes ≤ 140737488355328) (hbase : base ≤ w.heap.size)
    (h : ∀ v' w', OwnSl w' base e size R v' (xs ++ ys) → w.grownBy w' v.ownBlock → (v'.ownBlock = v.ownBlock ∨ v'.ownBlock = some w.heap.size) → wpList P ops Q rest (a.put o.dst v') w') : wpList P ops Q (o :: rest) a w := by
  obtain ⟨au, cu, rows, hv, hr, hcm, hnone, hcell⟩ := hu.rows
  obtain ⟨rows0, hr0, ho0⟩ := hown
  cases au with
  | none =>
    obtain ⟨hc0, hy⟩ := hnone rfl
    subst hc0 hy
    refine wpList_append_own_none hgd s x t ho base e i size ht hi v xs.length rows0.flatten hs ho0 (by rw [hx, hv]; rfl) (h v w ⟨rows0, by simpa using hr0, by simpa using ho0⟩ ⟨rfl, rfl, rfl, Nat.le_refl _, fun _ _ _ => rfl⟩ (.inl rfl))
  | some ad =>
    refine wpList_append_own_at w hgd s x t ho base e i z size bytes ht hi hz hsize hby hzs hsz v xs.length rows0.flatten hs ho0 ad ys.length cu rows.flatten (by rw [hx, hv]) (by rw [flat_len rows hr.size, hr.len]) (hcell ad rfl) ?_ h63 hbytes hbase
      fun v' w' hown' hg _ hat => h v' w' ⟨rows0 ++ rows, hr0.app hr, by simpa using hown'⟩ hg hat
    intro c hc
    obtain ⟨r, hrm, hcr⟩ := List.mem_flatten.1 hc
    obtain ⟨k, hk⟩ := List.getElem?_of_mem hrm
    have hkl : k < ys.length := by rw [← hr.len]; exact (List.getElem?_eq_some_iff.1 hk).1
    exact h1 ys[k] (List.getElem_mem hkl) r (hr.rel k _ r (List.getElem?_eq_getElem hkl) hk) c hcr
end Go.Proofs.YthkgjohhbdipcaaDoor
