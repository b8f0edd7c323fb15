/- Texts laid one behind the other: TParse, Mark, Puts, NParse. No condition beyond theirs. -/
import Derived.Test.YthkgjohhbdipcaaGreatDoorK8
import Derived.Test.YthkgjohhbdipcaaGreatDoorK6
import Derived.Test.YthkgjohhbdipcaaGreatDoorK2
import Derived.Test.YthkgjohhbdipcaaGreatDoorK5
import Derived.Test.YthkgjohhbdipcaaGreatDoorK3
set_option linter.all false
namespace Go.Proofs.YthkgjohhbdipcaaGreatDoor
open Go.RowKit
attribute [local go_sem] gives givesUpon

theorem nil_rulesP (w : World) (D : Nat → Prop) : RdRules w D (.slice none 0 0) [] := ⟨none, 0, rfl, Nat.le_refl _, by unfold maxLen; simp, fun _ => rfl, fun h => by cases h⟩
theorem infoCondP : (Tryz.prog.info? 153).map (fun i => (i.zero, i.size, i.bytes)) = some (some (.agg #[.int .i64 0, .int .i64 0, .int .i64 0]), 3, 24) := by kernel_rfl
theorem infoRuleP : (Tryz.prog.info? 147).map (fun i => (i.zero, i.size, i.bytes)) = some (some (.agg #[.slice none 0 0, .int .i64 0]), 2, 32) := by kernel_rfl
theorem condR_oneP (y : TCond) (cs : List Value) (h : condR y cs) : ∀ c ∈ cs, c.oneCell' = true := by
  unfold condR at h; subst h; intro c hc; simp at hc; rcases hc with rfl | rfl | rfl <;> rfl
theorem ruleR_oneP {w : World} {D : Nat → Prop} (y : TRule) (cs : List Value) (h : ruleR w D y cs) : ∀ c ∈ cs, c.oneCell' = true := by
  obtain ⟨v, rfl, h1⟩ := h
  obtain ⟨a, c, rfl, _⟩ := Sl.form h1
  simp [Value.oneCell']
def verG (k : Nat) (_ : Nat → Bool) (vf : Nat → Value) (W : World) : Prop := if k = 0 then rowAt verdictRow (vf 0) W else True
theorem verG_keep {T0 : TypeId} {k i is : Nat} {done d' : Nat → Bool} {vf : Nat → Value} {w w' : World} (hne : T0 ≠ 9) (hi : InitT (if i = is then [T0] else []) w w') (h : verG k done vf w) : verG k d' vf w' := by
  have hT : 9 ∉ (if i = is then [T0] else [] : List TypeId) := by split <;> simp [Ne.symm hne]
  unfold verG at h ⊢
  split
  · rename_i e; rw [if_pos e] at h; exact rowAt_init hT hi h
  · trivial
theorem verG_proper {k : Nat} {done : Nat → Bool} {f g : Nat → Value} {w : World} (hk : f k = g k) (h : verG k done f w) : verG k done g w := by
  unfold verG at h ⊢
  split
  · rename_i e; subst e; rw [if_pos rfl] at h; rw [← hk]; exact h
  · trivial
theorem InitT.of_sets2 {T0 : TypeId} {w : World} {b : Nat} {v0 v1 : Value} {cs : Array Value} (h : w.heap[b]? = some (.cells cs T0)) :
    InitT [T0] w ((w.setCell ⟨b, 0, none⟩ v0).setCell ⟨b, 1, none⟩ v1) := (InitT.of_set (by simp) h).trans (InitT.of_set (by simp) (set_at h))
/-- a row of strings. -/
@[reducible] def strRow (ps : List (List UInt8)) : Array Value := (ps.map fun u => Value.string (bsL u)).toArray
theorem strRow_get (ps : List (List UInt8)) (i : Nat) (h : i < ps.length) : (strRow ps)[i]? = some (.string (bsL ps[i])) := by simp [h]
theorem splitc_any (c : UInt8) (t : List UInt8) (w : World) (hL : Laid w) (hs : t.length < 4294967281) : Calls Tryz.prog 109 #[.string (bsL t), .string ⟨#[c]⟩] w fun e w' =>
    e = .returned (.slice (some ⟨w.heap.size, 0, none⟩) (Lib.split t [c]).length (Lib.split t [c]).length) ∧ w' = w.alloc (.cells (strRow (Lib.split t [c])) 9) := by
  obtain ⟨m, hm⟩ := hL.ml
  refine (Tryz.strings_Split (bsL t) ⟨#[c]⟩ m w (by simpa [bsL, ByteArray.size] using hs) hm (show 1 ≤ 1 from Nat.le_refl 1)).mono ?_
  rintro e w1 ⟨rfl, rfl⟩
  have hl := Lib.splitB_all ⟨#[c]⟩ (by show 1 ≤ 1; decide) 0 _ (bsL t) rfl
  have hd : (Lib.splitB ⟨#[c]⟩ 0 (Lib.countB (bsL t) ⟨#[c]⟩) (bsL t)).map (·.data.toList) = Lib.split t [c] := by rw [Lib.splitB_data]; rfl
  obtain ⟨ws, hws⟩ : ∃ ws, Lib.splitB ⟨#[c]⟩ 0 (Lib.countB (bsL t) ⟨#[c]⟩) (bsL t) = ws := ⟨_, rfl⟩
  rw [hws] at hl hd
  have hmap : ws = (Lib.split t [c]).map bsL := by
    rw [← hd, List.map_map]
    conv => lhs; rw [← List.map_id ws]
    apply List.map_congr_left
    intro u _
    exact (bytes_of rfl)
  have hlen : ws.length = (Lib.split t [c]).length := by rw [hmap, List.length_map]
  refine ⟨?_, ?_⟩
  · rw [← hlen, hl]
  · rw [hws, hmap, List.map_map]
    rfl
theorem split_small (c : UInt8) (t : List UInt8) : (Lib.split t [c]).length ≤ t.length + 1 ∧ ∀ u ∈ Lib.split t [c], u.length ≤ t.length := by
  have hd : (Lib.splitB ⟨#[c]⟩ 0 (Lib.countB (bsL t) ⟨#[c]⟩) (bsL t)).map (·.data.toList) = Lib.split t [c] := by rw [Lib.splitB_data]; rfl
  have hl := Lib.splitB_all ⟨#[c]⟩ (by show 1 ≤ 1; decide) 0 _ (bsL t) rfl
  have hc := Lib.countB_le ⟨#[c]⟩ (by show 1 ≤ 1; decide) _ (bsL t) (Nat.le_refl _)
  have hsz : (bsL t).size = t.length := by simp [bsL, ByteArray.size]
  rw [← hd]
  refine ⟨by rw [List.length_map]; omega, fun u hu => ?_⟩
  obtain ⟨x, hx, rfl⟩ := List.mem_map.1 hu
  have := splitB_sizes _ _ _ x hx
  rw [hsz, Lib.size_eq] at this
  exact this

set_option maxRecDepth 100000 in
set_option maxHeartbeats 16000000 in
theorem parse_any (L : List UInt8) (w : World) (hL : Laid w) :
    Calls Tryz.prog 70 #[.string (bsL L)] w fun e w' => ∃ v, e = .returned (.tuple #[polV v (textE L).1.dflt, .int .i64 (textE L).2]) ∧ RdRules w' (fun b => w.heap.size ≤ b) v (textE L).1.rules ∧ Below w.heap.size w w' := by
  have HL := Lib.hid hL
  have hsz : (bsL L).size = L.length := by simp [bsL, ByteArray.size]
  clear hL
  have HB := Lib.hid (Bx.one (w := w) (o := .cells #[.slice none 0 0, .int .i64 0] 38))
  by_cases hlen : 60000 < L.length
  · have HE : Hid (textE L = (⟨[], 0⟩, 2)) := by show _ = _; unfold textE; rw [if_pos hlen]
    have hlz : (60000 : Int) < (L.length : Int) := by omega
    clear hlen
    go_enter Tryz.func70, Tryz.ntmps70
    go_wp2
    refine bodyPost_ret (v := .tuple #[polV (.slice none 0 0) 0, .int .i64 2]) ?_ rfl (by rw [HE.out]; exact ⟨_, rfl, nil_rulesP _ _, HB.out.bel⟩)
    rw [results_cell_tmp rfl]
    go_simp
  · have HE : Hid (textE L = match parseL (Lib.split L [59]) with
        | none => (⟨[], 0⟩, 1)
        | some p => if polE p = 0 then (p, 0) else (⟨[], 0⟩, polE p)) := by show _ = _; unfold textE; rw [if_neg hlen]; cases parseL (Lib.split L [59]) <;> rfl
    have hlz : ¬ (60000 : Int) < (L.length : Int) := by omega
    have Hlen := Lib.hid hlen
    obtain ⟨hsl, hsu⟩ := split_small 59 L
    have hpos : 0 < (Lib.split L [59]).length := List.length_pos_iff.2 (split_ne L)
    obtain ⟨ps, hps⟩ : ∃ ps, Lib.split L [59] = ps := ⟨_, rfl⟩
    have HPS := Lib.hid hps
    rw [hps] at HE hsl hsu hpos
    have Hsu := Lib.hid hsu
    clear hlen hsu
    go_enter Tryz.func70, Tryz.ntmps70
    go_wp2_with fail
    refine (splitc_any 59 L _ (HL.out.below HB.out.bel) (by have := Hlen.out; omega)).mono ?_
    rw [hps]
    rintro e w1 ⟨rfl, rfl⟩
    clear hps
    obtain ⟨n, hn⟩ : ∃ n, ps.length = n + 1 := ⟨ps.length - 1, by omega⟩
    have Hn := Lib.hid hn
    have HBs := Lib.hid (Bx.two (w := w) (o := .cells #[.slice none 0 0, .int .i64 0] 38) (o' := .cells (strRow ps) 9))
    rw [hn]
    have hw1 : IntKind.i64.wrap (((n + 1 : Nat) : Int) - 1) = (n : Int) := by rw [show ((n + 1 : Nat) : Int) - 1 = (n : Int) by omega]; exact IntWalk.i64_in _ (by have := Hlen.out; omega)
    obtain ⟨N, hN⟩ : ∃ N : Nat, n + 1 = N := ⟨_, rfl⟩
    rw [hN] at hw1 hn ⊢
    have hnN : (n : Int) < (N : Int) := by omega
    have hn0 : (0 : Int) ≤ (n : Int) := by omega
    have hnw : IntKind.i64.wrap (n : Int) = (n : Int) := IntWalk.i64_in _ (by have := Hlen.out; omega)
    have HN := Lib.hid hN
    clear hN hn hsl hpos
    go_wp2_with fail
    revert HBs
    generalize ((w.alloc (.cells #[.slice none 0 0, .int .i64 0] 38)).alloc (.cells (strRow ps) 9)) = wS
    intro HBs
    have hnl : n < ps.length := by have := Hn.out; omega
    obtain ⟨u, hu⟩ : ∃ u, ps[n] = u := ⟨_, rfl⟩
    have HCW : Hid (∀ W, Cls wS.heap.size wS W → W.cell? ⟨w.heap.size + 1, n, none⟩ = some (.string (bsL u))) := fun W hW => by rw [(HBs.out.below hW.2).cells1, strRow_get ps n hnl, hu]
    have Hlast : Hid (ps.getLastD [] = u) := by
      show _ = _
      rw [← hu, List.getLastD_eq_getLast?, List.getLast?_eq_getElem?, show ps.length - 1 = n by have := Hn.out; omega, List.getElem?_eq_getElem hnl]
      rfl
    obtain ⟨D, hD⟩ : ∃ D, Lib.idxOfS (verdictBs.take 5) (bsL u) = D := ⟨_, rfl⟩
    have HV : Hid (Lib.idxOfS [bsL [107, 105, 108, 108], bsL [116, 114, 97, 112], bsL [102, 97, 105, 108], bsL [108, 111, 103], bsL [97, 108, 108, 111, 119]] (bsL u) = D) := hD
    have HD : Hid (D = match verdictOf u with | some f => f | none => -1) := by show _ = _; rw [← hD, verdict_idx]; cases verdictOf u <;> rfl
    clear hD hu HB
    refine wp_region_init (wS.heap.size) (Nat.le_refl _) 38 2 (fun _ => []) 7 8 (fun _ => #[.slice none 0 0, .int .i64 D]) verG (by kernel_rfl) (by kernel_rfl) _ rfl (by decide) (fun _ => by simp) (fun _ => rfl) (fun i k _ _ _ _ _ _ _ _ hi h => verG_keep (by decide) hi h) (fun k _ f g _ _ hk h => verG_proper hk h) (fun f g h => rfl) ?_
    (refine rel_pr (fun K hK => ?_); refine ⟨fun done vf W hI h0 hd hn hf R hR => ?_, ?_⟩; (clear h0 hd hn hf; go_simp; go_at_call 103; refine (verdicts_any _).mono ?_; (rintro e w4 ⟨rfl, rfl⟩; exact ⟨_, rfl, hR _ _ (Cls.step hI (bel_alloc (Below.refl _ _) _)) (initT.plain (bel_alloc (Below.refl _ _) _) (by decide)) trivial ⟨_, rfl, heap_last _ _⟩⟩)); (go_simp; refine hK _ ?_; clear hK K))
    (refine rel_ex (fun K hK => ?_); apply Exists.intro; refine ⟨fun done vf W hI h0 hd hn hf R hR => ?_, ?_, ?_⟩; (have hcw := HCW.out W hI; clear h0 hd hn hf; go_simp; exact hR _ _ (Cls.step hI (Below.refl _ _)) (initT.plain (Below.refl _ _) (by decide)) rfl trivial); exact (fun _ _ _ => rfl); (go_simp; refine hK _ ?_; clear hK K))
    (refine rel_ex (fun K hK => ?_); apply Exists.intro; refine ⟨fun done vf W hI h0 hd hn hf R hR => ?_, ?_, ?_⟩; (have hcw := HCW.out W hI; clear h0 hd hn hf; go_simp; exact hR _ _ (Cls.step hI (Below.refl _ _)) (initT.plain (Below.refl _ _) (by decide)) rfl trivial); exact (fun _ _ _ => rfl); (go_simp; refine hK _ ?_; clear hK K))
    (refine rel_ex (fun K hK => ?_); apply Exists.intro; refine ⟨fun done vf W hI h0 hd hn hf R hR => ?_, ?_, ?_⟩; (have hcw := HCW.out W hI; clear h0 hd hn hf; go_simp; exact hR _ _ (Cls.step hI (Below.refl _ _)) (initT.plain (Below.refl _ _) (by decide)) rfl trivial); exact (fun _ _ _ => rfl); (go_simp; refine hK _ ?_; clear hK K))
    (refine rel_ex (fun K hK => ?_); apply Exists.intro; refine ⟨fun done vf W hI h0 hd hn hf R hR => ?_, ?_, ?_⟩; (have hcw := HCW.out W hI; clear h0 hd hn hf; go_simp; exact hR _ _ (Cls.step hI (Below.refl _ _)) (initT.plain (Below.refl _ _) (by decide)) rfl trivial); exact (fun _ _ _ => rfl); (go_simp; refine hK _ ?_; clear hK K))
    (refine rel_ex (fun K hK => ?_); apply Exists.intro; refine ⟨fun done vf W hI h0 hd hn hf R hR => ?_, ?_, ?_⟩; (have h1 : rowAt verdictRow (vf 0) W := hf 0 (hd 0 (by decide)); obtain ⟨g, hv, hg⟩ := h1; have Hg := Lib.hid hg; clear h0 hd hn hf hg; go_simp; go_at_call 69; refine (rowidx_any [107, 105, 108, 108] [116, 114, 97, 112] [102, 97, 105, 108] [108, 111, 103] [97, 108, 108, 111, 119] (u) g _ Hg.out).mono ?_; rw [HV.out]; (rintro e w4 ⟨rfl, rfl⟩; exact ⟨_, rfl, hR _ _ (Cls.step hI (Below.refl _ _)) (initT.plain (Below.refl _ _) (by decide)) rfl trivial⟩)); exact (fun _ _ _ => rfl); (go_simp; refine hK _ ?_; clear hK K))
    (refine rel_ex (fun K hK => ?_); apply Exists.intro; refine ⟨fun done vf W hI h0 hd hn hf R hR => ?_, ?_, ?_⟩; (have hcw := HCW.out W hI; clear h0 hd hn hf; go_simp; exact hR _ _ (Cls.step hI (Below.refl _ _)) (initT.plain (Below.refl _ _) (by decide)) rfl trivial); exact (fun _ _ _ => rfl); (go_simp; refine hK _ ?_; clear hK K))
    (refine rel_pr (fun K hK => ?_); refine ⟨fun done vf W hI h0 hd hn hf R hR => ?_, ?_⟩; (clear h0 hd hn hf; go_simp; exact hR _ _ (Cls.step hI (bel_alloc (Below.refl _ _) _)) (initT.plain (bel_alloc (Below.refl _ _) _) (by decide)) trivial ⟨_, rfl, hI.1, _, rfl, heap_last _ _⟩); (go_simp; refine hK _ ?_; clear hK K))
    (refine rel_pr (fun K hK => ?_); refine ⟨fun done vf W hI h0 hd hn hf R hR => ?_, ?_⟩; (have h11 : VarAt (wS.heap.size) 38 2 (vf 7) W := hf 7 (hd 7 (by decide)); obtain ⟨bx, h11, hbx, cs, hcs, hc11⟩ := h11; obtain ⟨d0, d1, rfl⟩ := two_cells hcs; have hce := cells_of hc11; have hfe := not_frozen hc11; have Hc11 := Lib.hid hc11; have Hst : Hid (((W.setCell ⟨bx, 0, none⟩ (.slice none 0 0)).setCell ⟨bx, 1, none⟩ (.int .i64 D)).heap[bx]? = some (.cells #[.slice none 0 0, .int .i64 D] 38)) := set_at (set_at hc11); clear h0 hd hn hf hc11 hcs; go_simp; exact hR _ _ ⟨by simp only [set_size]; exact hI.1, set_below (set_below hI.2 hbx) hbx⟩ ⟨InitT.of_sets2 Hc11.out, fun _ => ⟨bx, h11, Hst.out⟩⟩ trivial ⟨bx, h11, Hst.out⟩); (go_simp; refine hK _ ?_; clear hK K))
    intro done vf w3 hd hI hFF
    have h15 : VarIs 38 (vf 7) #[.slice none 0 0, .int .i64 D] w3 := hFF 8 (by decide)
    have h14 : VarAt wS.heap.size 38 2 (vf 7) w3 := hFF 7 (by decide)
    obtain ⟨bx, hbv, hbx⟩ := h15
    obtain ⟨bp, hbv2, hbp, _⟩ := h14
    have hbb : bp = bx := by rw [hbv] at hbv2; injection hbv2 with e; injection e with e; injection e with e; exact e.symm
    subst hbb
    have HB3 := Lib.hid (HBs.out.below hI.2)
    have Hbx := Lib.hid hbx
    have Hbp := Lib.hid hbp
    have hqx := cells_of hbx
    clear hbv2 hbp hd hI hFF hbx HCW
    cases hv : verdictOf u with
    | none =>
      have hD1 : D = -1 := by have := HD.out; rw [hv] at this; exact this
      subst hD1
      have HP : Hid (textE L = (⟨[], 0⟩, 1)) := by show _ = _; rw [HE.out]; unfold parseL; rw [Hlast.out, hv]
      have hq0 := HB3.out.cells0
      have hf0 := HB3.out.free0
      have HS := Lib.hid ((HB3.out.set (i := 0) rfl 0 (.slice none 0 0)).set (i := 0) rfl 1 (.int .i64 0))
      have hqs := HS.out.cells0
      have HBL : Hid (Below w.heap.size w ((w3.setCell ⟨w.heap.size, 0, none⟩ (.slice none 0 0)).setCell ⟨w.heap.size, 1, none⟩ (.int .i64 0))) := HS.out.bel
      clear hv HS
      go_wp2
      refine bodyPost_ret (v := .tuple #[polV (.slice none 0 0) 0, .int .i64 1]) ?_ rfl (by rw [HP.out]; exact ⟨_, rfl, nil_rulesP _ _, HBL.out⟩)
      rw [results_cell_tmp rfl]
      go_simp
    | some d =>
      have hD1 : D = d := by have := HD.out; rw [hv] at this; exact this
      subst hD1
      have hd0 : ¬ D < 0 := by
        unfold verdictOf at hv
        repeat' split at hv
        all_goals first | (injection hv with hv; omega) | cases hv
      have HPL : Hid (parseL ps = (rulesP ps.dropLast).map fun rs => ⟨rs, D⟩) := by show _ = _; unfold parseL; rw [Hlast.out, hv]
      clear hv
      go_wp2_with fail
      have Hns : Hid (n ≤ 60001) := by have := (split_small 59 L).1; rw [HPS.out] at this; show n ≤ _; have := Hn.out; have := Hlen.out; omega
      go_loopw [40] (fun kv wr => ∃ (k : Nat) (rs : List TRule) (pv : Value), kv = .int .i64 k ∧ k ≤ n ∧ rs.length = k ∧ rulesP ps.dropLast = (rulesP (ps.dropLast.drop k)).map (rs ++ ·) ∧ BoxRow w3 wr bp 38 147 2 (ruleR wr (fun b => w3.heap.size ≤ b ∧ pv.ownBlock ≠ some b)) (.int .i64 D) pv rs) (fun kv _ => n - (intOf kv).toNat)
      case atStart => exact ⟨0, [], _, rfl, Nat.zero_le _, rfl, by simp, BoxRow.start Hbx.out⟩
      case round =>
        obtain ⟨k, rs, pv, rfl, hk, hrl, hrul, hbr⟩ := hrel
        have Hrl := Lib.hid hrl
        have hnsz : n ≤ 60001 := Hns.out
        clear hrl
        obtain ⟨wo, rfl⟩ : ∃ wo, wo = wr := ⟨_, rfl⟩
        have Hrul := Lib.hid hrul
        have HR := Lib.hid hbr
        have HBr := Lib.hid (Bx.grownB HB3.out hbr.gr (by have h1 : wS.heap.size ≤ bp := Hbp.out; have h2 := HBs.out.top; simp at h2 ⊢; omega))
        clear hrul hbr hqx
        by_cases hkn : k < n
        · have hkl : k < ps.length := by have := Hn.out; omega
          obtain ⟨t, ht⟩ : ∃ t, ps[k] = t := ⟨_, rfl⟩
          have htl : t.length ≤ L.length := by rw [← ht]; exact Hsu.out _ (List.getElem_mem hkl)
          have htd : Hid (rulesP (ps.dropLast.drop k) = match ruleP t with | none => none | some x => (rulesP (ps.dropLast.drop (k + 1))).map (x :: ·)) := by
            show _ = _
            have h1 : k < ps.dropLast.length := by rw [List.length_dropLast]; have := Hn.out; omega
            rw [List.drop_eq_getElem_cons h1]
            have h2 : ps.dropLast[k] = t := by rw [List.getElem_dropLast]; exact ht
            rw [h2]
            rfl
          have hct : wo.cell? ⟨w.heap.size + 1, k, none⟩ = some (.string (bsL t)) := by rw [HBr.out.cells1, strRow_get ps k hkl, ht]
          have Htl := Lib.hid htl
          clear ht htl hkl
          go_wp2_with fail
          refine (splitc_any 32 t _ (HL.out.below HBr.out.bel) (by have := Htl.out; have := Hlen.out; omega)).mono ?_
          obtain ⟨u0, us, hus, _⟩ := text_words _ t (Nat.le_refl _)
          rw [show Lib.split t [32] = u0 :: us from hus]
          rintro e w4 ⟨rfl, rfl⟩
          have HZ := Lib.hid (Bx.one (w := wo) (o := .cells (strRow (u0 :: us)) 9))
          have HR4 := Lib.hid (HR.out.rules HZ.out.bel)
          have HB4 := Lib.hid (HBr.out.below HZ.out.bel)
          revert HZ HR4 HB4
          generalize (wo.alloc (.cells (strRow (u0 :: us)) 9)) = w4
          intro HZ HR4 HB4
          obtain ⟨N2, hN2⟩ : ∃ N2 : Nat, (u0 :: us).length = N2 := ⟨_, rfl⟩
          have HN2 := Lib.hid hN2
          rw [hN2]
          have hpos3 : 0 < N2 := by rw [← hN2]; simp
          have HCW : Hid (∀ W, Cls w4.heap.size w4 W → W.cell? ⟨wo.heap.size, 0, none⟩ = some (.string (bsL u0))) := fun W hW => by rw [(HZ.out.below hW.2).cells0]; rfl
          obtain ⟨V, hV⟩ : ∃ V, Lib.idxOfS (verdictBs.take 5) (bsL u0) = V := ⟨_, rfl⟩
          have HV : Hid (Lib.idxOfS [bsL [107, 105, 108, 108], bsL [116, 114, 97, 112], bsL [102, 97, 105, 108], bsL [108, 111, 103], bsL [97, 108, 108, 111, 119]] (bsL u0) = V) := hV
          have HVD : Hid (V = match verdictOf u0 with | some f => f | none => -1) := by show _ = _; rw [← hV, verdict_idx]; cases verdictOf u0 <;> rfl
          have Hrp : Hid (ruleP t = match verdictOf u0 with | none => none | some v => (condsOf us).map fun cs => ⟨cs, v⟩) := by show _ = _; unfold ruleP; rw [hus]; cases hvv : verdictOf u0 <;> simp [hvv]
          have Hus := Lib.hid hus
          have Hw4 := Lib.hid HB4.out.top
          have Hz4 := Lib.hid HZ.out.top
          clear hV hN2 hct hus
          go_wp2_with fail
          refine wp_region_init (w4.heap.size) (Nat.le_refl _) 147 2 (fun _ => []) 6 7 (fun _ => #[.slice none 0 0, .int .i64 V]) verG (by kernel_rfl) (by kernel_rfl) _ rfl (by decide) (fun _ => by simp) (fun _ => rfl) (fun i k _ _ _ _ _ _ _ _ hi h => verG_keep (by decide) hi h) (fun k _ f g _ _ hk h => verG_proper hk h) (fun f g h => rfl) ?_
          (refine rel_pr (fun K hK => ?_); refine ⟨fun done vf W hI h0 hd hn hf R hR => ?_, ?_⟩; (clear h0 hd hn hf; go_simp; go_at_call 103; refine (verdicts_any _).mono ?_; (rintro e w4 ⟨rfl, rfl⟩; exact ⟨_, rfl, hR _ _ (Cls.step hI (bel_alloc (Below.refl _ _) _)) (initT.plain (bel_alloc (Below.refl _ _) _) (by decide)) trivial ⟨_, rfl, heap_last _ _⟩⟩)); (go_simp; refine hK _ ?_; clear hK K))
          (refine rel_ex (fun K hK => ?_); apply Exists.intro; refine ⟨fun done vf W hI h0 hd hn hf R hR => ?_, ?_, ?_⟩; (have hcw := HCW.out W hI; clear h0 hd hn hf; go_simp; exact hR _ _ (Cls.step hI (Below.refl _ _)) (initT.plain (Below.refl _ _) (by decide)) rfl trivial); exact (fun _ _ _ => rfl); (go_simp; refine hK _ ?_; clear hK K))
          (refine rel_ex (fun K hK => ?_); apply Exists.intro; refine ⟨fun done vf W hI h0 hd hn hf R hR => ?_, ?_, ?_⟩; (have hcw := HCW.out W hI; clear h0 hd hn hf; go_simp; exact hR _ _ (Cls.step hI (Below.refl _ _)) (initT.plain (Below.refl _ _) (by decide)) rfl trivial); exact (fun _ _ _ => rfl); (go_simp; refine hK _ ?_; clear hK K))
          (refine rel_ex (fun K hK => ?_); apply Exists.intro; refine ⟨fun done vf W hI h0 hd hn hf R hR => ?_, ?_, ?_⟩; (have hcw := HCW.out W hI; clear h0 hd hn hf; go_simp; exact hR _ _ (Cls.step hI (Below.refl _ _)) (initT.plain (Below.refl _ _) (by decide)) rfl trivial); exact (fun _ _ _ => rfl); (go_simp; refine hK _ ?_; clear hK K))
          (refine rel_ex (fun K hK => ?_); apply Exists.intro; refine ⟨fun done vf W hI h0 hd hn hf R hR => ?_, ?_, ?_⟩; (have h1 : rowAt verdictRow (vf 0) W := hf 0 (hd 0 (by decide)); obtain ⟨g, hv, hg⟩ := h1; have Hg := Lib.hid hg; clear h0 hd hn hf hg; go_simp; go_at_call 69; refine (rowidx_any [107, 105, 108, 108] [116, 114, 97, 112] [102, 97, 105, 108] [108, 111, 103] [97, 108, 108, 111, 119] (u0) g _ Hg.out).mono ?_; rw [HV.out]; (rintro e w4 ⟨rfl, rfl⟩; exact ⟨_, rfl, hR _ _ (Cls.step hI (Below.refl _ _)) (initT.plain (Below.refl _ _) (by decide)) rfl trivial⟩)); exact (fun _ _ _ => rfl); (go_simp; refine hK _ ?_; clear hK K))
          (refine rel_ex (fun K hK => ?_); apply Exists.intro; refine ⟨fun done vf W hI h0 hd hn hf R hR => ?_, ?_, ?_⟩; (have hcw := HCW.out W hI; clear h0 hd hn hf; go_simp; exact hR _ _ (Cls.step hI (Below.refl _ _)) (initT.plain (Below.refl _ _) (by decide)) rfl trivial); exact (fun _ _ _ => rfl); (go_simp; refine hK _ ?_; clear hK K))
          (refine rel_pr (fun K hK => ?_); refine ⟨fun done vf W hI h0 hd hn hf R hR => ?_, ?_⟩; (clear h0 hd hn hf; go_simp; exact hR _ _ (Cls.step hI (bel_alloc (Below.refl _ _) _)) (initT.plain (bel_alloc (Below.refl _ _) _) (by decide)) trivial ⟨_, rfl, hI.1, _, rfl, heap_last _ _⟩); (go_simp; refine hK _ ?_; clear hK K))
          (refine rel_pr (fun K hK => ?_); refine ⟨fun done vf W hI h0 hd hn hf R hR => ?_, ?_⟩; (have h11 : VarAt (w4.heap.size) 147 2 (vf 6) W := hf 6 (hd 6 (by decide)); obtain ⟨bx, h11, hbx, cs, hcs, hc11⟩ := h11; obtain ⟨d0, d1, rfl⟩ := two_cells hcs; have hce := cells_of hc11; have hfe := not_frozen hc11; have Hc11 := Lib.hid hc11; have Hst : Hid (((W.setCell ⟨bx, 0, none⟩ (.slice none 0 0)).setCell ⟨bx, 1, none⟩ (.int .i64 V)).heap[bx]? = some (.cells #[.slice none 0 0, .int .i64 V] 147)) := set_at (set_at hc11); clear h0 hd hn hf hc11 hcs; go_simp; exact hR _ _ ⟨by simp only [set_size]; exact hI.1, set_below (set_below hI.2 hbx) hbx⟩ ⟨InitT.of_sets2 Hc11.out, fun _ => ⟨bx, h11, Hst.out⟩⟩ trivial ⟨bx, h11, Hst.out⟩); (go_simp; refine hK _ ?_; clear hK K))
          intro done2 vf2 w5 hd hI hFF
          have h15 : VarIs 147 (vf2 6) #[.slice none 0 0, .int .i64 V] w5 := hFF 7 (by decide)
          have h14 : VarAt w4.heap.size 147 2 (vf2 6) w5 := hFF 6 (by decide)
          obtain ⟨b5, hbv5, hbx5⟩ := h15
          obtain ⟨br, hbv6, hbr5, _⟩ := h14
          have hbb : br = b5 := by rw [hbv5] at hbv6; injection hbv6 with e; injection e with e; injection e with e; exact e.symm
          subst hbb
          have HB5 := Lib.hid (HB4.out.below hI.2)
          have HR5 := Lib.hid (HR4.out.rules hI.2)
          have HZ5 := Lib.hid (HZ.out.below hI.2)
          have Hb5 := Lib.hid hbx5
          have Hbr := Lib.hid hbr5
          have hqx5 := cells_of hbx5
          have Hb45 := Lib.hid hI.2
          clear hbv6 hbr5 hd hI hFF hbx5 HCW HB4 HZ
          cases hv : verdictOf u0 with
          | none =>
            have hD1 : V = -1 := by have := HVD.out; rw [hv] at this; exact this
            subst hD1
            have HPE : Hid (textE L = (⟨[], 0⟩, 1)) := by show _ = _; rw [HE.out, HPL.out, Hrul.out, htd.out, Hrp.out, hv]; rfl
            have hq0 := HB5.out.cells0
            have hf0 := HB5.out.free0
            have HS := Lib.hid ((HB5.out.set (i := 0) rfl 0 (.slice none 0 0)).set (i := 0) rfl 1 (.int .i64 0))
            have hqs := HS.out.cells0
            have HBL : Hid (Below w.heap.size w ((w5.setCell ⟨w.heap.size, 0, none⟩ (.slice none 0 0)).setCell ⟨w.heap.size, 1, none⟩ (.int .i64 0))) := HS.out.bel
            clear hv HS
            go_wp2
            refine bodyPost_ret (v := .tuple #[polV (.slice none 0 0) 0, .int .i64 1]) ?_ rfl (by rw [HPE.out]; exact ⟨_, rfl, nil_rulesP _ _, HBL.out⟩)
            rw [results_cell_tmp rfl]
            go_simp
          | some v =>
            have hD1 : V = v := by have := HVD.out; rw [hv] at this; exact this
            subst hD1
            have hV0 : ¬ V < 0 := by
              unfold verdictOf at hv
              repeat' split at hv
              all_goals first | (injection hv with hv; omega) | cases hv
            have Hru : Hid (ruleP t = (condsOf us).map fun cs => ⟨cs, V⟩) := by show _ = _; rw [Hrp.out, hv]
            clear hv
            have Hul : Hid (∀ u ∈ us, u.length ≤ t.length) := fun u hu => (split_small 32 t).2 u (by rw [show Lib.split t [32] = u0 :: us from Hus.out]; exact List.mem_cons_of_mem _ hu)
            rcases Nat.eq_zero_or_pos us.length with hm0 | hm0
            · obtain rfl : N2 = 1 := by have h1 : (u0 :: us).length = N2 := HN2.out; simp only [List.length_cons] at h1; omega
              have Hm0 := Lib.hid hm0
              clear hm0
              go_wp2_with fail
              go_loopw [59] (fun jv wx => ∃ (j : Nat) (cs : List TCond) (cv : Value), jv = .int .i64 j ∧ j ≤ us.length ∧ cs.length = j ∧ condsOf us = (condsOf (us.drop j)).map (cs ++ ·) ∧ BoxRow w5 wx br 147 153 3 condR (.int .i64 V) cv cs) (fun jv _ => us.length - (intOf jv).toNat)
              case atStart => exact ⟨0, [], _, rfl, Nat.zero_le _, rfl, by simp, BoxRow.start Hb5.out⟩
              case round =>
                obtain ⟨j, cs, cv, rfl, hj, hcl, hcs, hbc⟩ := hrel
                obtain ⟨wx, rfl⟩ : ∃ wx, wx = wr := ⟨_, rfl⟩
                have Hcs := Lib.hid hcs
                have HC := Lib.hid hbc
                have Hcl := Lib.hid hcl
                have HBx := Lib.hid (Bx.grownB HB5.out hbc.gr (by have h1 : w4.heap.size ≤ br := Hbr.out; have h2 := Hw4.out; simp at h2 ⊢; omega))
                have HZx := Lib.hid (Bx.grownB HZ5.out hbc.gr (by have h1 : w4.heap.size ≤ br := Hbr.out; have h2 := Hz4.out; simp at h2 ⊢; omega))
                clear hcs hbc hcl
                have husl : us.length ≤ 60001 := by have h1 := (split_small 32 t).1; rw [show Lib.split t [32] = u0 :: us from Hus.out] at h1; simp only [List.length_cons] at h1; have := Htl.out; have := Hlen.out; omega
                by_cases hjl : j < us.length
                · exact absurd hjl (by have := Hm0.out; omega)
                · obtain rfl : j = us.length := by omega
                  have hcs0 : us.drop us.length = [] := List.drop_length
                  have Hcs3 : Hid (condsOf us = some cs) := by show _ = _; rw [Hcs.out, hcs0]; simp [condsOf]
                  have Hrt : Hid (ruleP t = some ⟨cs, V⟩) := by show _ = _; rw [Hru.out, Hcs3.out]; rfl
                  have Hrul2 : Hid (rulesP ps.dropLast = (rulesP (ps.dropLast.drop (k + 1))).map ((rs ++ [⟨cs, V⟩]) ++ ·)) := by show _ = _; rw [Hrul.out, htd.out, Hrt.out]; cases rulesP (ps.dropLast.drop (k + 1)) <;> simp
                  obtain ⟨ac, cc, rfl⟩ := HC.out.own.slice
                  have Hb4x : Hid (Below w4.heap.size w4 wx) := Below.grown Hb45.out HC.out.gr Hb45.out.size (fun g e => by injection e with e; have h1 : w4.heap.size ≤ br := Hbr.out; omega)
                  have HRx := Lib.hid (HR4.out.rules Hb4x.out)
                  have Hplt : Hid (∀ g, pv.ownBlock = some g → g < w4.heap.size) := fun g hg => by obtain ⟨o, h1, _⟩ := OwnSl.typed HR4.out.own g hg; exact (Array.getElem?_eq_some_iff.1 h1).1
                  have H35 : Hid (w3.heap.size ≤ w4.heap.size ∧ w4.heap.size ≤ w5.heap.size ∧ w5.heap.size ≤ wx.heap.size) := ⟨HR4.out.gr.size, Hb45.out.size, HC.out.gr.size⟩
                  have Hbpl : Hid (bp < w3.heap.size) := (Array.getElem?_eq_some_iff.1 Hbx.out).1
                  have HCd : Hid (RdConds wx (fun b => w5.heap.size ≤ b) (.slice ac cs.length cc) cs) := OwnSl.sl HC.out.own (fun _ hb => hb)
                  obtain ⟨ap, cp, rfl⟩ := HRx.out.own.slice
                  have hrc := cells_of HC.out.rc
                  have hpc := cells_of HRx.out.rc
                  have HA := Lib.hid (bel_alloc (Below.refl wx.heap.size wx) (.cells #[.slice ac cs.length cc, .int .i64 V] 147))
                  have HRy := Lib.hid (HRx.out.rules HA.out)
                  have HR1 : Hid (Sl (wx.alloc (.cells #[.slice ac cs.length cc, .int .i64 V] 147)) (fun _ => True) 2 (ruleR (wx.alloc (.cells #[.slice ac cs.length cc, .int .i64 V] 147)) (fun x => w3.heap.size ≤ x ∧ (Value.slice ap rs.length cp).ownBlock ≠ some x)) (.slice (some ⟨wx.heap.size, 0, none⟩) 1 1) [(⟨cs, V⟩ : TRule)]) :=
                    sl_block (sz := 2) (xs := [(⟨cs, V⟩ : TRule)]) (rows := [[.slice ac cs.length cc, .int .i64 V]]) (RowsOf.cons RowsOf.nil ⟨_, rfl, HCd.out.keep (fun b hb _ => by
                      have h1 : w5.heap.size ≤ b := hb
                      obtain ⟨h2, h3, _⟩ := H35.out
                      exact ⟨by omega, fun e => by have := Hplt.out b e; omega⟩) (fun b _ hl => HA.out.block b hl) HA.out.size⟩ rfl) (heap_last _ _) rfl trivial (by simp [maxLen])
                  have hpc7 := cells_of HRy.out.rc
                  obtain ⟨i0, hi, hz0, hz1, hz2⟩ := info_parts infoRuleP
                  have Hi := Lib.hid hi
                  have Hks : Hid (rs.length ≤ 60001) := by show _ ≤ _; rw [Hrl.out]; have := Hns.out; omega
                  clear hi
                  go_wp2_with (at_builtin; (
                    refine wpList_app2 rfl _ _ 36 rfl w3.heap.size 147 i0 _ 2 32 Tryz.underlying36 Hi.out hz0 hz1 hz2 rfl (by decide) _ _ rfl HRy.out.own _ _ rfl HR1.out (fun y _ cs h => ruleR_oneP y cs h) (by have := Hks.out; show _ + 1 ≤ maxLen; unfold maxLen; omega) (by have := Hks.out; show (_ + 1) * 32 ≤ _; omega) HRy.out.gr.size ?_
                    intro v8 w8 hown8 hg8 hat8
                    obtain ⟨a8, c8, rfl⟩ := hown8.slice
                    have HC8 := Lib.hid (HRy.out.app (R' := ruleR (w8.setCell ⟨bp, 0, none⟩ (.slice a8 (rs ++ [(⟨cs, V⟩ : TRule)]).length c8)) (fun x => w3.heap.size ≤ x ∧ (Value.slice a8 (rs ++ [(⟨cs, V⟩ : TRule)]).length c8).ownBlock ≠ some x)) Hbpl.out (hown8.monoR fun _ _ _ ⟨u, h1, h2⟩ => ⟨u, h1, h2.keep (fun x hx hl => ⟨hx.1, fun e => by
                      rcases hat8 with h9 | h9
                      · exact hx.2 (h9.symm.trans e)
                      · rw [h9] at e; injection e with e; omega⟩) (fun x hx hl => by
                        rw [set_other (by have h1 : w3.heap.size ≤ x := hx.1; have := Hbpl.out; show x ≠ bp; omega)]
                        exact hg8.block x hl (fun e => hx.2 e.symm)) (by rw [set_size]; exact hg8.size)⟩) hg8)
                    have hrc8 := cells_of (HRy.out.rcg Hbpl.out hg8)
                    have hfr8 := not_frozen (HRy.out.rcg Hbpl.out hg8)
                    clear hown8 hg8 hat8))
                  go_roundw
                  case rel => exact ⟨k + 1, rs ++ [⟨cs, V⟩], _, by go_num, by omega, by rw [List.length_append, Hrl.out]; rfl, Hrul2.out, by first | exact HC8.out | simpa using HC8.out⟩
                  case measure => simp [intOf]; omega
            · have hN1 : ¬ N2 = 1 := by have h1 : (u0 :: us).length = N2 := HN2.out; simp only [List.length_cons] at h1; omega
              have hNm : (N2 : Int) - 1 = (us.length : Int) := by have h1 : (u0 :: us).length = N2 := HN2.out; simp only [List.length_cons] at h1; omega
              have hNn : N2 - 1 = us.length := by have h1 : (u0 :: us).length = N2 := HN2.out; simp only [List.length_cons] at h1; omega
              clear hm0
              go_wp2_with fail
              go_loopw [59] (fun jv wx => ∃ (j : Nat) (cs : List TCond) (cv : Value), jv = .int .i64 j ∧ j ≤ us.length ∧ cs.length = j ∧ condsOf us = (condsOf (us.drop j)).map (cs ++ ·) ∧ BoxRow w5 wx br 147 153 3 condR (.int .i64 V) cv cs) (fun jv _ => us.length - (intOf jv).toNat)
              case atStart => exact ⟨0, [], _, rfl, Nat.zero_le _, rfl, by simp, BoxRow.start Hb5.out⟩
              case round =>
                obtain ⟨j, cs, cv, rfl, hj, hcl, hcs, hbc⟩ := hrel
                obtain ⟨wx, rfl⟩ : ∃ wx, wx = wr := ⟨_, rfl⟩
                have Hcs := Lib.hid hcs
                have HC := Lib.hid hbc
                have Hcl := Lib.hid hcl
                have HBx := Lib.hid (Bx.grownB HB5.out hbc.gr (by have h1 : w4.heap.size ≤ br := Hbr.out; have h2 := Hw4.out; simp at h2 ⊢; omega))
                have HZx := Lib.hid (Bx.grownB HZ5.out hbc.gr (by have h1 : w4.heap.size ≤ br := Hbr.out; have h2 := Hz4.out; simp at h2 ⊢; omega))
                clear hcs hbc hcl
                have husl : us.length ≤ 60001 := by have h1 := (split_small 32 t).1; rw [show Lib.split t [32] = u0 :: us from Hus.out] at h1; simp only [List.length_cons] at h1; have := Htl.out; have := Hlen.out; omega
                by_cases hjl : j < us.length
                · obtain ⟨x, hx⟩ : ∃ x, us[j] = x := ⟨_, rfl⟩
                  have hcw : wx.cell? ⟨wo.heap.size, 1 + j, none⟩ = some (.string (bsL x)) := by rw [HZx.out.cells0, strRow_get (u0 :: us) (1 + j) (by simp; omega)]; simp only [Nat.add_comm 1 j, List.getElem_cons_succ]; rw [hx]
                  have hxl : x.length ≤ 60000 := by have := Hul.out x (by rw [← hx]; exact List.getElem_mem hjl); have := Htl.out; have := Hlen.out; omega
                  have Hcd0 : Hid (condsOf (us.drop j) = match condOf x with | none => none | some c => (condsOf (us.drop (j + 1))).map (c :: ·)) := by show _ = _; rw [List.drop_eq_getElem_cons hjl, hx]; rfl
                  clear hx
                  go_wp2_with fail
                  refine (condition_any x _ (HL.out.below HBx.out.bel) hxl).mono ?_
                  rintro e w6 ⟨⟨f, o, nn, b, rfl, hco⟩, hb6⟩
                  have HC6 := Lib.hid (HC.out.below hb6)
                  have HBy := Lib.hid (HBx.out.below hb6)
                  have HK0 := Lib.hid (Bx.one (w := w6) (o := .cells #[.int .i64 0, .int .i64 0, .int .i64 0] 153))
                  have HK := Lib.hid (Bx.one (w := w6) (o := .cells #[.int .i64 f, .int .i64 o, .int .i64 nn] 153))
                  have Hco := Lib.hid hco
                  clear hb6 hco hcw hxl
                  cases b with
                  | false =>
                    have Hcd : Hid (condsOf (us.drop j) = none) := by show _ = _; rw [Hcd0.out, Hco.out]; rfl
                    have HBx6 := Lib.hid (HBy.out.below HK.out.bel)
                    have hk0 := HK0.out.cells0
                    have hk1 := HK0.out.free0
                    revert HBx6
                    generalize hwk : (w6.alloc (.cells #[.int .i64 f, .int .i64 o, .int .i64 nn] 153)) = wk
                    intro HBx6
                    have HPE : Hid (textE L = (⟨[], 0⟩, 1)) := by show _ = _; rw [HE.out, HPL.out, Hrul.out, htd.out, Hru.out, Hcs.out, Hcd.out]; rfl
                    have hq0 := HBx6.out.cells0
                    have hf0 := HBx6.out.free0
                    have HS := Lib.hid ((HBx6.out.set (i := 0) rfl 0 (.slice none 0 0)).set (i := 0) rfl 1 (.int .i64 0))
                    have hqs := HS.out.cells0
                    have HBL : Hid (Below w.heap.size w ((wk.setCell ⟨w.heap.size, 0, none⟩ (.slice none 0 0)).setCell ⟨w.heap.size, 1, none⟩ (.int .i64 0))) := HS.out.bel
                    clear HS
                    go_wp2
                    refine bodyPost_ret (v := .tuple #[polV (.slice none 0 0) 0, .int .i64 1]) ?_ rfl (by rw [HPE.out]; exact ⟨_, rfl, nil_rulesP _ _, HBL.out⟩)
                    rw [results_cell_tmp rfl]
                    go_simp
                  | true =>
                    have Hcd : Hid (condsOf (us.drop j) = (condsOf (us.drop (j + 1))).map (⟨f, o, nn⟩ :: ·)) := by show _ = _; rw [Hcd0.out, Hco.out]; rfl
                    have Hcs2 : Hid (condsOf us = (condsOf (us.drop (j + 1))).map ((cs ++ [⟨f, o, nn⟩]) ++ ·)) := by show _ = _; rw [Hcs.out, Hcd.out]; cases condsOf (us.drop (j + 1)) <;> simp
                    obtain ⟨ac, cc, rfl⟩ := HC6.out.own.slice
                    have HCk := Lib.hid (HC6.out.below HK.out.bel)
                    have hk0 := HK0.out.cells0
                    have hk1 := HK0.out.free0
                    have hkc := HK.out.cells0
                    have Hk6 := Lib.hid HK.out.bel.size
                    revert HCk hkc Hk6
                    generalize hwk : (w6.alloc (.cells #[.int .i64 f, .int .i64 o, .int .i64 nn] 153)) = wk
                    intro HCk hkc Hk6
                    have hrc := cells_of HCk.out.rc
                    have HR1 : Hid (RdConds (wk.alloc (.cells #[.int .i64 f, .int .i64 o, .int .i64 nn] 153)) (fun _ => True) (.slice (some ⟨wk.heap.size, 0, none⟩) 1 1) [⟨f, o, nn⟩]) := sl_block (R := condR) (sz := 3) (xs := [(⟨f, o, nn⟩ : TCond)]) (rows := [[.int .i64 f, .int .i64 o, .int .i64 nn]]) (RowsOf.cons RowsOf.nil rfl rfl) (heap_last _ _) rfl trivial (by simp [maxLen])
                    have HC7 := Lib.hid (HCk.out.below (bel_alloc (Below.refl wk.heap.size wk) (.cells #[.int .i64 f, .int .i64 o, .int .i64 nn] 153)))
                    have hrc7 := cells_of HC7.out.rc
                    obtain ⟨i0, hi, hz0, hz1, hz2⟩ := info_parts infoCondP
                    have Hi := Lib.hid hi
                    have Hjs : Hid (cs.length ≤ 60001) := by show _ ≤ _; rw [Hcl.out]; have h1 := (split_small 32 t).1; rw [show Lib.split t [32] = u0 :: us from Hus.out] at h1; simp only [List.length_cons] at h1; have := Htl.out; have := Hlen.out; omega
                    have Hbrl : Hid (br < w5.heap.size) := (Array.getElem?_eq_some_iff.1 Hb5.out).1
                    clear hi
                    go_wp2_with (at_builtin; (
                      refine wpList_app2 rfl _ _ 145 rfl w5.heap.size 153 i0 _ 3 24 Tryz.underlying145 Hi.out hz0 hz1 hz2 rfl (by decide) _ _ rfl HC7.out.own _ _ rfl HR1.out (fun y _ cs h => condR_oneP y cs h) (by have := Hjs.out; show _ + 1 ≤ maxLen; unfold maxLen; omega) (by have := Hjs.out; show (_ + 1) * 24 ≤ _; omega) HC7.out.gr.size ?_
                      intro v8 w8 hown8 hg8 hat8
                      obtain ⟨a8, c8, rfl⟩ := hown8.slice
                      have HC8 := Lib.hid (HC7.out.app Hbrl.out hown8 hg8)
                      have hrc8 := cells_of (HC7.out.rcg Hbrl.out hg8)
                      have hfr8 := not_frozen (HC7.out.rcg Hbrl.out hg8)
                      clear hown8 hg8 hat8))
                    go_roundw
                    case rel => exact ⟨j + 1, cs ++ [⟨f, o, nn⟩], _, by go_num, by omega, by rw [List.length_append, Hcl.out]; rfl, Hcs2.out, by first | exact HC8.out | simpa using HC8.out⟩
                    case measure => simp [intOf]; omega
                · obtain rfl : j = us.length := by omega
                  have hcs0 : us.drop us.length = [] := List.drop_length
                  have Hcs3 : Hid (condsOf us = some cs) := by show _ = _; rw [Hcs.out, hcs0]; simp [condsOf]
                  have Hrt : Hid (ruleP t = some ⟨cs, V⟩) := by show _ = _; rw [Hru.out, Hcs3.out]; rfl
                  have Hrul2 : Hid (rulesP ps.dropLast = (rulesP (ps.dropLast.drop (k + 1))).map ((rs ++ [⟨cs, V⟩]) ++ ·)) := by show _ = _; rw [Hrul.out, htd.out, Hrt.out]; cases rulesP (ps.dropLast.drop (k + 1)) <;> simp
                  obtain ⟨ac, cc, rfl⟩ := HC.out.own.slice
                  have Hb4x : Hid (Below w4.heap.size w4 wx) := Below.grown Hb45.out HC.out.gr Hb45.out.size (fun g e => by injection e with e; have h1 : w4.heap.size ≤ br := Hbr.out; omega)
                  have HRx := Lib.hid (HR4.out.rules Hb4x.out)
                  have Hplt : Hid (∀ g, pv.ownBlock = some g → g < w4.heap.size) := fun g hg => by obtain ⟨o, h1, _⟩ := OwnSl.typed HR4.out.own g hg; exact (Array.getElem?_eq_some_iff.1 h1).1
                  have H35 : Hid (w3.heap.size ≤ w4.heap.size ∧ w4.heap.size ≤ w5.heap.size ∧ w5.heap.size ≤ wx.heap.size) := ⟨HR4.out.gr.size, Hb45.out.size, HC.out.gr.size⟩
                  have Hbpl : Hid (bp < w3.heap.size) := (Array.getElem?_eq_some_iff.1 Hbx.out).1
                  have HCd : Hid (RdConds wx (fun b => w5.heap.size ≤ b) (.slice ac cs.length cc) cs) := OwnSl.sl HC.out.own (fun _ hb => hb)
                  obtain ⟨ap, cp, rfl⟩ := HRx.out.own.slice
                  have hrc := cells_of HC.out.rc
                  have hpc := cells_of HRx.out.rc
                  have HA := Lib.hid (bel_alloc (Below.refl wx.heap.size wx) (.cells #[.slice ac cs.length cc, .int .i64 V] 147))
                  have HRy := Lib.hid (HRx.out.rules HA.out)
                  have HR1 : Hid (Sl (wx.alloc (.cells #[.slice ac cs.length cc, .int .i64 V] 147)) (fun _ => True) 2 (ruleR (wx.alloc (.cells #[.slice ac cs.length cc, .int .i64 V] 147)) (fun x => w3.heap.size ≤ x ∧ (Value.slice ap rs.length cp).ownBlock ≠ some x)) (.slice (some ⟨wx.heap.size, 0, none⟩) 1 1) [(⟨cs, V⟩ : TRule)]) :=
                    sl_block (sz := 2) (xs := [(⟨cs, V⟩ : TRule)]) (rows := [[.slice ac cs.length cc, .int .i64 V]]) (RowsOf.cons RowsOf.nil ⟨_, rfl, HCd.out.keep (fun b hb _ => by
                      have h1 : w5.heap.size ≤ b := hb
                      obtain ⟨h2, h3, _⟩ := H35.out
                      exact ⟨by omega, fun e => by have := Hplt.out b e; omega⟩) (fun b _ hl => HA.out.block b hl) HA.out.size⟩ rfl) (heap_last _ _) rfl trivial (by simp [maxLen])
                  have hpc7 := cells_of HRy.out.rc
                  obtain ⟨i0, hi, hz0, hz1, hz2⟩ := info_parts infoRuleP
                  have Hi := Lib.hid hi
                  have Hks : Hid (rs.length ≤ 60001) := by show _ ≤ _; rw [Hrl.out]; have := Hns.out; omega
                  clear hi
                  go_wp2_with (at_builtin; (
                    refine wpList_app2 rfl _ _ 36 rfl w3.heap.size 147 i0 _ 2 32 Tryz.underlying36 Hi.out hz0 hz1 hz2 rfl (by decide) _ _ rfl HRy.out.own _ _ rfl HR1.out (fun y _ cs h => ruleR_oneP y cs h) (by have := Hks.out; show _ + 1 ≤ maxLen; unfold maxLen; omega) (by have := Hks.out; show (_ + 1) * 32 ≤ _; omega) HRy.out.gr.size ?_
                    intro v8 w8 hown8 hg8 hat8
                    obtain ⟨a8, c8, rfl⟩ := hown8.slice
                    have HC8 := Lib.hid (HRy.out.app (R' := ruleR (w8.setCell ⟨bp, 0, none⟩ (.slice a8 (rs ++ [(⟨cs, V⟩ : TRule)]).length c8)) (fun x => w3.heap.size ≤ x ∧ (Value.slice a8 (rs ++ [(⟨cs, V⟩ : TRule)]).length c8).ownBlock ≠ some x)) Hbpl.out (hown8.monoR fun _ _ _ ⟨u, h1, h2⟩ => ⟨u, h1, h2.keep (fun x hx hl => ⟨hx.1, fun e => by
                      rcases hat8 with h9 | h9
                      · exact hx.2 (h9.symm.trans e)
                      · rw [h9] at e; injection e with e; omega⟩) (fun x hx hl => by
                        rw [set_other (by have h1 : w3.heap.size ≤ x := hx.1; have := Hbpl.out; show x ≠ bp; omega)]
                        exact hg8.block x hl (fun e => hx.2 e.symm)) (by rw [set_size]; exact hg8.size)⟩) hg8)
                    have hrc8 := cells_of (HRy.out.rcg Hbpl.out hg8)
                    have hfr8 := not_frozen (HRy.out.rcg Hbpl.out hg8)
                    clear hown8 hg8 hat8))
                  go_roundw
                  case rel => exact ⟨k + 1, rs ++ [⟨cs, V⟩], _, by go_num, by omega, by rw [List.length_append, Hrl.out]; rfl, Hrul2.out, by first | exact HC8.out | simpa using HC8.out⟩
                  case measure => simp [intOf]; omega
        · obtain rfl : k = n := by omega
          have hdl : ps.dropLast.drop k = [] := List.drop_eq_nil_of_le (by rw [List.length_dropLast]; have := Hn.out; omega)
          have hpf : parseL ps = some ⟨rs, D⟩ := by rw [HPL.out, Hrul.out, hdl]; simp [rulesP]
          have HPF := Lib.hid hpf
          obtain ⟨ap, cp, rfl⟩ := HR.out.own.slice
          have hrd : RdRules wo (fun b => w3.heap.size ≤ b) (.slice ap rs.length cp) rs := OwnSl.sl (HR.out.own.monoR (R' := ruleR wo (fun b => w3.heap.size ≤ b)) fun _ _ _ ⟨u, h1, h2⟩ => ⟨u, h1, h2.keep (fun _ hb _ => hb.1) (fun _ _ _ => rfl) (Nat.le_refl _)⟩) (fun _ hb => hb)
          have HRd := Lib.hid hrd
          have hqp := cells_of HR.out.rc
          have Hw3 : Hid (w.heap.size + 2 ≤ w3.heap.size) := by show _ ≤ _; have := HB3.out.top; simpa using this
          clear hdl hpf hrd
          go_wp2_with fail
          refine (polcheck_any _ ⟨rs, D⟩ _ _ HRd.out).mono ?_
          rintro e w4 ⟨rfl, hb4⟩
          have HB4 := Lib.hid (HBr.out.below hb4)
          have HR4 := Lib.hid (HRd.out.below hb4)
          have hqp4 := cells_of (blk_below HR.out.rc hb4)
          have hq0 := HB4.out.cells0
          have hf0 := HB4.out.free0
          clear hb4 hqp
          by_cases hp : polE ⟨rs, D⟩ = 0
          · have HPE : Hid (textE L = (⟨rs, D⟩, 0)) := by show _ = _; rw [HE.out, HPF.out]; show (if _ then _ else _) = _; rw [if_pos hp]
            have HS := Lib.hid ((HB4.out.set (i := 0) rfl 0 (.slice ap rs.length cp)).set (i := 0) rfl 1 (.int .i64 D))
            have hqs := HS.out.cells0
            have HBL : Hid (Below w.heap.size w ((w4.setCell ⟨w.heap.size, 0, none⟩ (.slice ap rs.length cp)).setCell ⟨w.heap.size, 1, none⟩ (.int .i64 D))) := HS.out.bel
            have HRF : Hid (RdRules ((w4.setCell ⟨w.heap.size, 0, none⟩ (.slice ap rs.length cp)).setCell ⟨w.heap.size, 1, none⟩ (.int .i64 D)) (fun b => w.heap.size ≤ b) (.slice ap rs.length cp) rs) := HR4.out.keep (fun b hb _ => by have h1 : w3.heap.size ≤ b := hb; have := Hw3.out; show w.heap.size ≤ b; omega) (fun b hb _ => by
              have h1 : w3.heap.size ≤ b := hb
              have := Hw3.out
              rw [set_other (by show b ≠ w.heap.size; omega), set_other (by show b ≠ w.heap.size; omega)]) (by rw [set_size, set_size]; exact Nat.le_refl _)
            rw [hp]
            clear hp HS
            go_wp2
            refine bodyPost_ret (v := .tuple #[polV (.slice ap rs.length cp) D, .int .i64 0]) ?_ rfl (by rw [HPE.out]; exact ⟨_, rfl, HRF.out, HBL.out⟩)
            rw [results_cell_tmp rfl]
            go_simp
          · have HPE : Hid (textE L = (⟨[], 0⟩, polE ⟨rs, D⟩)) := by show _ = _; rw [HE.out, HPF.out]; show (if _ then _ else _) = _; rw [if_neg hp]
            have hne : (polE ⟨rs, D⟩ != 0) = true := bne_iff_ne.2 hp
            have HS := Lib.hid ((HB4.out.set (i := 0) rfl 0 (.slice none 0 0)).set (i := 0) rfl 1 (.int .i64 0))
            have hqs := HS.out.cells0
            have HBL : Hid (Below w.heap.size w ((w4.setCell ⟨w.heap.size, 0, none⟩ (.slice none 0 0)).setCell ⟨w.heap.size, 1, none⟩ (.int .i64 0))) := HS.out.bel
            generalize polE ⟨rs, D⟩ = pe at *
            clear hp HS
            go_wp2
            refine bodyPost_ret (v := .tuple #[polV (.slice none 0 0) 0, .int .i64 pe]) ?_ rfl (by rw [HPE.out]; exact ⟨_, rfl, nil_rulesP _ _, HBL.out⟩)
            rw [results_cell_tmp rfl]
            go_simp
end Go.Proofs.YthkgjohhbdipcaaGreatDoor
namespace Go.Proofs.YthkgjohhbdipcaaGreatDoor
open Go.RowKit

section
variable {α β : Type}
/-- the outer k bear t, the others f. -/
def marks (l : List α) (k : Nat) (t f : β) : List (α × β) := (l.take k).map (fun a => (a, t)) ++ (l.drop k).map (fun a => (a, f))
/-- as marks, but that number k bears m. -/
def markm (l : List α) (k : Nat) (x : α) (t m f : β) : List (α × β) := (l.take k).map (fun a => (a, t)) ++ (x, m) :: (l.drop (k + 1)).map (fun a => (a, f))
variable {l : List α} {k : Nat} {x : α} {t m m' f : β}
theorem marks_len (h : k ≤ l.length) : (marks l k t f).length = l.length := by simp [marks]; omega
theorem markm_len (h : k < l.length) : (markm l k x t m f).length = l.length := by simp [markm]; omega
theorem markm_get (h : k < l.length) : (markm l k x t m f)[k]? = some (x, m) := by
  unfold markm
  rw [List.getElem?_append_right (by simp; omega)]
  have : k - ((l.take k).map fun a => (a, t)).length = 0 := by simp; omega
  rw [this]
  rfl
theorem markm_set (h : k < l.length) : (markm l k x t m f).set k (x, m') = markm l k x t m' f := by
  unfold markm
  have e : ((l.take k).map fun a => (a, t)).length = k := by simp; omega
  rw [List.set_append_right _ _ (by rw [e]; exact Nat.le_refl _), e, Nat.sub_self, List.set_cons_zero]
theorem markm_lo (hx : l[k]? = some x) : markm l k x t f f = marks l k t f := by
  obtain ⟨h, rfl⟩ := List.getElem?_eq_some_iff.1 hx
  unfold markm marks
  rw [List.drop_eq_getElem_cons h, List.map_cons]
theorem markm_hi (hx : l[k]? = some x) : markm l k x t t f = marks l (k + 1) t f := by
  obtain ⟨h, rfl⟩ := List.getElem?_eq_some_iff.1 hx
  unfold markm marks
  rw [List.take_succ_eq_append_getElem h, List.map_append]
  simp
theorem marks_zero : marks l 0 t f = l.map fun a => (a, f) := by simp [marks]
theorem marks_all : marks l l.length t f = l.map fun a => (a, t) := by simp [marks]
theorem OwnSl.unmark' {w : World} {base sz : Nat} {e : TypeId} {v : Value} {R' : α × β → List Value → Prop} {R : α → List Value → Prop} (h : OwnSl w base e sz R' v (l.map fun a => (a, t))) (hR : ∀ x cs, R' (x, t) cs → R x cs) : OwnSl w base e sz R v l := by
  obtain ⟨rows, hr, ho⟩ := h
  refine ⟨rows, ⟨by simpa using hr.len, hr.size, fun i x r hx hk => ?_⟩, by simpa using ho⟩
  exact hR _ _ (hr.rel i (x, t) r (by rw [List.getElem?_map, hx]; rfl) hk)
theorem OwnSl.mark' {w : World} {base sz : Nat} {e : TypeId} {v : Value} {R' : α × β → List Value → Prop} {R : α → List Value → Prop} (h : OwnSl w base e sz R v l) (hR : ∀ x cs, R x cs → R' (x, f) cs) : OwnSl w base e sz R' v (l.map fun a => (a, f)) := by
  obtain ⟨rows, hr, ho⟩ := h
  refine ⟨rows, ⟨by simpa using hr.len, hr.size, fun i x r hx hk => ?_⟩, by simpa using ho⟩
  rw [List.getElem?_map] at hx
  cases hy : l[i]? with
  | none => rw [hy] at hx; cases hx
  | some y =>
    rw [hy] at hx
    injection hx with hx
    subst hx
    exact hR _ _ (hr.rel i y r hy hk)
end

theorem OwnSl.kept {α : Type} {w w' : World} {base sz : Nat} {e : TypeId} {R : α → List Value → Prop} {v : Value} {xs : List α} (h : OwnSl w base e sz R v xs) (hb : ∀ b, base ≤ b → b < w.heap.size → w'.heap[b]? = w.heap[b]?) : OwnSl w' base e sz R v xs := by
  obtain ⟨rows, hr, ho⟩ := h
  exact ⟨rows, hr, ownsRow_keep ho hb⟩
theorem grow_below {w0 w w' : World} {g : Option Nat} (h : w0.grownBy w g) (hb : Below w.heap.size w w') : w0.grownBy w' g :=
  ⟨hb.os.trans h.os, hb.tape.trans h.tape, hb.output.trans h.output, Nat.le_trans h.size hb.size, fun k hk hn => (hb.block k (Nat.lt_of_lt_of_le hk h.size)).trans (h.block k hk hn)⟩
theorem below_grow {w w' : World} (hb : Below w.heap.size w w') (g : Option Nat) : w.grownBy w' g := ⟨hb.os, hb.tape, hb.output, hb.size, fun k hk _ => hb.block k hk⟩
theorem grow_set (W : World) (g i : Nat) (v : Value) : W.grownBy (W.setCell ⟨g, i, none⟩ v) (some g) :=
  ⟨rfl, rfl, rfl, by rw [set_size]; exact Nat.le_refl _, fun k _ hn => set_other (fun e => hn (by rw [e]))⟩
theorem grow_trans {w0 w w' : World} {g : Option Nat} (h : w0.grownBy w g) (h' : w.grownBy w' g) : w0.grownBy w' g :=
  ⟨h'.os.trans h.os, h'.tape.trans h.tape, h'.output.trans h.output, Nat.le_trans h.size h'.size, fun k hk hn => (h'.block k (Nat.lt_of_lt_of_le hk h.size) hn).trans (h.block k hk hn)⟩
theorem grow_drew (W : World) (g : Option Nat) : W.grownBy W.drew g := ⟨rfl, rfl, rfl, Nat.le_refl _, fun _ _ _ => rfl⟩
theorem below_of_grow {B g : Nat} {w0 w w' : World} (hb : Below B w0 w) (h : w.grownBy w' (some g)) (hB : B ≤ w.heap.size) (hg : B ≤ g) : Below B w0 w' :=
  hb.grown h hB fun k hk => by injection hk with hk; omega

/-- The worlds of a region that stores into a row of the call's own: what the row reads as, by which operations are done. -/
structure PutInv {α : Type} (w0 : World) (base : Nat) (T : TypeId) (sz g n c : Nat) (R : World → α → List Value → Prop) (A : (Nat → Bool) → List α) (done : Nat → Bool) (W : World) : Prop where
  own : OwnSl W base T sz (R W) (.slice (some ⟨g, 0, none⟩) n c) (A done)
  gr : w0.grownBy W (some g)
section
variable {α : Type} {w0 W W' : World} {base sz g n c k : Nat} {T : TypeId} {R : World → α → List Value → Prop} {A : (Nat → Bool) → List α} {done : Nat → Bool}
theorem PutInv.step (hR : ∀ W W' y cs, Below W.heap.size W W' → R W y cs → R W' y cs) (h : PutInv w0 base T sz g n c R A done W) (hb : Below W.heap.size W W') (hA : A (updDone done k) = A done) : PutInv w0 base T sz g n c R A (updDone done k) W' :=
  ⟨by rw [hA]; exact (h.own.below hb).monoR fun y _ cs hy => hR W W' y cs hb hy, grow_below h.gr hb⟩
theorem PutInv.blk (h : PutInv w0 base T sz g n c R A done W) (hl : 0 < (A done).length) : base ≤ g ∧ g < W.heap.size ∧ ∃ cur, W.heap[g]? = some (.cells cur T) := by
  obtain ⟨b, e, hb, hlt, cur, hc⟩ := OwnSl.addr h.own hl
  injection e with e
  injection e with e
  subst e
  exact ⟨hb, hlt, cur, hc⟩
theorem PutInv.frz (h : PutInv w0 base T sz g n c R A done W) (hl : 0 < (A done).length) (j : Nat) : W.frozen? ⟨g, j, none⟩ = false := by
  obtain ⟨_, _, cur, hc⟩ := h.blk hl
  exact not_frozen hc j
/-- the cells of one element. -/
theorem PutInv.cells (h : PutInv w0 base T sz g n c R A done W) {i : Nat} {y : α} (hi : (A done)[i]? = some y) : ∃ cs, cs.length = sz ∧ R W y cs ∧ ∀ j u, cs[j]? = some u → W.cell? ⟨g, i * sz + j, none⟩ = some u := by
  obtain ⟨hlt, rfl⟩ := List.getElem?_eq_some_iff.1 hi
  have hs := OwnSl.sl h.own (D := fun _ => True) (fun _ _ => trivial)
  obtain ⟨a', c'', hv, hf⟩ := Sl.form hs
  injection hv with h1 h2 h3
  subst h1 h2 h3
  obtain ⟨cs, hl, hr, hc⟩ := Sl.get hs hlt
  exact ⟨cs, hl, hr, fun j u hu => by have := hc j u hu; simpa using this⟩
/-- a store: element i is y from now on y'. -/
theorem PutInv.put (h : PutInv w0 base T sz g n c R A done W) {i j : Nat} (hj : j < sz) {y y' : α} {u : Value} (hi : (A done)[i]? = some y) (hR : ∀ r, R (W.setCell ⟨g, i * sz + j, none⟩ u) y r → R (W.setCell ⟨g, i * sz + j, none⟩ u) y' (r.set j u))
    (hk : ∀ z cs, R W z cs → R (W.setCell ⟨g, i * sz + j, none⟩ u) z cs) {done' : Nat → Bool} (hA : (A done).set i y' = A done') : PutInv w0 base T sz g n c R A done' (W.setCell ⟨g, i * sz + j, none⟩ u) := by
  obtain ⟨hlt, rfl⟩ := List.getElem?_eq_some_iff.1 hi
  have hp := OwnSl.put (y := y') (u := u) (i := i) (j := j) (h.own.monoR (R' := R (W.setCell ⟨g, i * sz + j, none⟩ u)) fun z _ cs hz => hk z cs hz) hlt hj hR
  rw [hA] at hp
  exact ⟨hp, grow_trans h.gr (grow_set W g _ u)⟩
end

/-- facts that stores into block g leave alone. -/
def stableG (g : Nat) (p : Value → World → Prop) : Prop := ∀ v w w', w.grownBy w' (some g) → p v w → p v w'
def stablesG (g : Nat) : List Spec → Prop
  | [] => True
  | s :: r => ((∃ x, s = ex x) ∨ ∃ p, s = pr p ∧ stableG g p) ∧ stablesG g r
theorem stablesG_get {g : Nat} : ∀ (ss : List Spec), stablesG g ss → ∀ s ∈ ss, ∀ v w w', w.grownBy w' (some g) → s.fact v w → s.fact v w'
  | [], _, s, h => by cases h
  | s0 :: r, h, s, hm => by
    rcases List.mem_cons.1 hm with rfl | hm
    · rcases h.1 with ⟨x, rfl⟩ | ⟨p, rfl, hp⟩
      · exact fun _ _ _ _ _ => trivial
      · exact fun v w w' hg hf => hp v w w' hg hf
    · exact stablesG_get r h.2 s hm
/-- THE LAW. -/
theorem wp_region_put {P : Program} {l : List Oper} {Q : Exit → Act → World → Prop} {a : Act} {id : Nat} {w : World} (g : Nat) (ss : List Spec) (Inv : (Nat → Bool) → World → Prop) (hm : P.follows .mixedOrders = true) (hB : monoB2 (l.map prune) a.tmps.size = true)
    (hst : stablesG g ss) (hC : Inv (fun _ => false) w.drew) (bs : List (List Nat)) (hbs : befores (l.map prune) [] = bs) (h : walkP P l.toArray Inv (fun _ W W' => W.grownBy W' (some g)) bs (Q .normal) l.length l ss 0 a [] (fun _ => True)) : (Code.region id l.toArray true).wp P Q a w :=
  wp_region_done3 ss Inv (fun _ W W' => W.grownBy W' (some g)) hm hB (fun _ _ s _ hk v _ w1 w2 _ hT hf => stablesG_get ss hst s (List.mem_of_getElem? hk) v w1 w2 hT hf) hC bs hbs h
end Go.Proofs.YthkgjohhbdipcaaGreatDoor
namespace Go.Proofs.YthkgjohhbdipcaaGreatDoor
open Go.RowKit

section
variable {w W : World} {b : Nat} {T : TypeId} {fr : Nat × Nat} {c0 c1 c2 c3 c4 : Value} {r : List Obj}
theorem puts2_at (v0 v1 : Value) (h : W.heap[b]? = some (.cells #[c0, c1] T fr)) : ((W.setCell ⟨b, 0, none⟩ v0).setCell ⟨b, 1, none⟩ v1).heap[b]? = some (.cells #[v0, v1] T fr) := set_at (set_at h)
theorem puts4_at (v0 v1 v2 v3 : Value) (h : W.heap[b]? = some (.cells #[c0, c1, c2, c3] T fr)) : ((((W.setCell ⟨b, 0, none⟩ v0).setCell ⟨b, 1, none⟩ v1).setCell ⟨b, 2, none⟩ v2).setCell ⟨b, 3, none⟩ v3).heap[b]? = some (.cells #[v0, v1, v2, v3] T fr) :=
  set_at (set_at (set_at (set_at h)))
theorem puts5_at (v0 v1 v2 v3 v4 : Value) (h : W.heap[b]? = some (.cells #[c0, c1, c2, c3, c4] T fr)) : (((((W.setCell ⟨b, 0, none⟩ v0).setCell ⟨b, 1, none⟩ v1).setCell ⟨b, 2, none⟩ v2).setCell ⟨b, 3, none⟩ v3).setCell ⟨b, 4, none⟩ v4).heap[b]? = some (.cells #[v0, v1, v2, v3, v4] T fr) :=
  set_at (set_at (set_at (set_at (set_at h))))
theorem puts2_grow (v0 v1 : Value) : W.grownBy ((W.setCell ⟨b, 0, none⟩ v0).setCell ⟨b, 1, none⟩ v1) (some b) := grow_trans (grow_set _ _ _ _) (grow_set _ _ _ _)
theorem puts4_grow (v0 v1 v2 v3 : Value) : W.grownBy ((((W.setCell ⟨b, 0, none⟩ v0).setCell ⟨b, 1, none⟩ v1).setCell ⟨b, 2, none⟩ v2).setCell ⟨b, 3, none⟩ v3) (some b) :=
  grow_trans (puts2_grow _ _) (grow_trans (grow_set _ _ _ _) (grow_set _ _ _ _))
theorem puts5_grow (v0 v1 v2 v3 v4 : Value) : W.grownBy (((((W.setCell ⟨b, 0, none⟩ v0).setCell ⟨b, 1, none⟩ v1).setCell ⟨b, 2, none⟩ v2).setCell ⟨b, 3, none⟩ v3).setCell ⟨b, 4, none⟩ v4) (some b) :=
  grow_trans (puts4_grow _ _ _ _) (grow_set _ _ _ _)
end
/-- blocks other than b stay. -/
theorem grow_keep {W W' : World} {b k : Nat} (h : W.grownBy W' (some b)) (hk : k < W.heap.size) (hb : k ≠ b) : W'.heap[k]? = W.heap[k]? := h.block k hk (fun e => hb (by injection e))
/-- the first box is stored into. -/
theorem Bx.put2 {w W W' : World} {T : TypeId} {c0 c1 : Value} {r : List Obj} (v0 v1 : Value) (h : Bx w (.cells #[c0, c1] T :: r) W) (hW : W' = ((W.setCell ⟨w.heap.size, 0, none⟩ v0).setCell ⟨w.heap.size, 1, none⟩ v1)) : Bx w (.cells #[v0, v1] T :: r) W' := by
  subst hW; exact (h.set (i := 0) rfl 0 v0).set (i := 0) rfl 1 v1
theorem Bx.put4 {w W W' : World} {T : TypeId} {c0 c1 c2 c3 : Value} {r : List Obj} (v0 v1 v2 v3 : Value) (h : Bx w (.cells #[c0, c1, c2, c3] T :: r) W) (hW : W' = ((((W.setCell ⟨w.heap.size, 0, none⟩ v0).setCell ⟨w.heap.size, 1, none⟩ v1).setCell ⟨w.heap.size, 2, none⟩ v2).setCell ⟨w.heap.size, 3, none⟩ v3)) : Bx w (.cells #[v0, v1, v2, v3] T :: r) W' := by
  subst hW; exact (((h.set (i := 0) rfl 0 v0).set (i := 0) rfl 1 v1).set (i := 0) rfl 2 v2).set (i := 0) rfl 3 v3
theorem Bx.put5 {w W W' : World} {T : TypeId} {c0 c1 c2 c3 c4 : Value} {r : List Obj} (v0 v1 v2 v3 v4 : Value) (h : Bx w (.cells #[c0, c1, c2, c3, c4] T :: r) W) (hW : W' = (((((W.setCell ⟨w.heap.size, 0, none⟩ v0).setCell ⟨w.heap.size, 1, none⟩ v1).setCell ⟨w.heap.size, 2, none⟩ v2).setCell ⟨w.heap.size, 3, none⟩ v3).setCell ⟨w.heap.size, 4, none⟩ v4)) : Bx w (.cells #[v0, v1, v2, v3, v4] T :: r) W' := by
  subst hW; exact ((((h.set (i := 0) rfl 0 v0).set (i := 0) rfl 1 v1).set (i := 0) rfl 2 v2).set (i := 0) rfl 3 v3).set (i := 0) rfl 4 v4
end Go.Proofs.YthkgjohhbdipcaaGreatDoor
namespace Go.Proofs.YthkgjohhbdipcaaGreatDoor
open Go.RowKit Go.Shelf

/-- chapter 10's Parse, long texts too. -/
def nreadE (s : List UInt8) : TRec × Int := if 60000 < s.length then (zeroRec, 2) else readRec s
theorem nreadE_short {s : List UInt8} (h : s.length ≤ 60000) : nreadE s = readRec s := if_neg (by omega)
theorem readGo_bad {k : Int} {B R : List UInt8} {m : Bool} (h : k = 0 ∨ (wholeS B).2 = false ∨ m ≠ decide (k ≠ 4)) : readGo k (B, R, m) = (zeroRec, 1) := if_pos h
theorem readGo_fork {B R : List UInt8} {n f : Int} {ok : Bool} (h : wholeS B = (n, true)) (h' : wholeS R = (f, ok)) : readGo 3 (B, R, true) = if ok then checkedRec ⟨3, n, f, ⟨[], 0⟩⟩ else (zeroRec, 1) := by
  unfold readGo
  dsimp only
  rw [h, h']
  rw [if_neg (by simp), if_pos rfl]
  rfl
theorem readGo_shut {B R : List UInt8} {n : Int} (h : wholeS B = (n, true)) : readGo 4 (B, R, false) = checkedRec ⟨4, n, 0, ⟨[], 0⟩⟩ := by
  unfold readGo
  dsimp only
  rw [h]
  rw [if_neg (by simp), if_neg (by decide), if_pos rfl]
  rfl
theorem readGo_pol {B R : List UInt8} {k n : Int} (hk : k = 1 ∨ k = 2) (h : wholeS B = (n, true)) : readGo k (B, R, true) = if (readP R).2 ≠ 0 then (zeroRec, (readP R).2) else checkedRec ⟨k, n, 0, (readP R).1⟩ := by
  unfold readGo
  dsimp only
  rw [h]
  rw [if_neg (by rcases hk with rfl | rfl <;> simp), if_neg (by omega), if_neg (by omega)]
theorem rules_off {b : Nat} {W W' : World} {v : Value} {l : List TRule} (h : RdRules W (fun x => b + 1 ≤ x) v l) (hg : W.grownBy W' (some b)) : RdRules W' (fun x => b ≤ x) v l :=
  h.keep (fun x hx _ => by have h1 : b + 1 ≤ x := hx; show b ≤ x; omega) (fun x hx hl => grow_keep hg hl (by have h1 : b + 1 ≤ x := hx; omega)) hg.size
theorem kind_idx (x : List UInt8) : ∃ K : Int, Lib.idxOfS [bsL [], bsL [111, 112, 101, 110], bsL [116, 105, 103, 104, 116], bsL [102, 111, 114, 107], bsL [115, 104, 117, 116]] (bsL x) = K ∧ (kindOf x = 0 → K < 1) ∧ (kindOf x ≠ 0 → K = kindOf x) := by
  refine ⟨_, rfl, ?_, ?_⟩ <;> rw [idx5] <;> unfold kindOf
  · repeat' split
    all_goals simp_all
  · repeat' split
    all_goals simp_all
set_option maxRecDepth 100000 in
set_option maxHeartbeats 16000000 in
theorem nparse_any (L : List UInt8) (w : World) (hL : Laid w) :
    Calls Tryz.prog 26 #[.string (bsL L)] w fun e w' => ∃ v, e = .returned (.tuple #[recV (nreadE L).1 v, .int .i64 (nreadE L).2]) ∧ RdRules w' (fun b => w.heap.size ≤ b) v (nreadE L).1.p.rules ∧ Below w.heap.size w w' := by
  have HL := Lib.hid hL
  have hsz : (bsL L).size = L.length := by simp [bsL, ByteArray.size]
  clear hL
  have HB := Lib.hid (Bx.one (w := w) (o := .cells #[.int .i64 0, .int .i64 0, .int .i64 0, .slice none 0 0, .int .i64 0] 56))
  by_cases hlen : 60000 < L.length
  · have HE : Hid (nreadE L = (⟨0, 0, 0, ⟨[], 0⟩⟩, 2)) := if_pos hlen
    have hlz : (60000 : Int) < (L.length : Int) := by omega
    clear hlen
    go_enter Tryz.func26, Tryz.ntmps26
    go_wp2
    refine bodyPost_ret (v := .tuple #[recV ⟨0, 0, 0, ⟨[], 0⟩⟩ (.slice none 0 0), .int .i64 2]) ?_ rfl (by rw [HE.out]; exact ⟨_, rfl, nil_rulesP _ _, HB.out.bel⟩)
    rw [results_cell_tmp rfl]
    go_simp
  · have hlz : ¬ (60000 : Int) < (L.length : Int) := by omega
    have Hlen : Hid (L.length ≤ 60000) := by show _ ≤ _; omega
    have HE0 : Hid (nreadE L = readGo (kindOf (Lib.cut L [32]).1) (Lib.cut (Lib.cut L [32]).2.1 [32])) := if_neg hlen
    obtain ⟨hla, hlb⟩ := cut_len L 32
    obtain ⟨⟨A, S, m0⟩, hA⟩ : ∃ E, Lib.cut L [32] = E := ⟨_, rfl⟩
    have HA := Lib.hid hA
    rw [hA] at HE0 hla hlb
    obtain ⟨hlc, hld⟩ := cut_len S 32
    obtain ⟨⟨B, R, m⟩, hB⟩ : ∃ E, Lib.cut S [32] = E := ⟨_, rfl⟩
    have HB2 := Lib.hid hB
    dsimp only at HE0 hla hlb
    rw [hB] at HE0 hlc hld
    dsimp only at hlc hld
    have Hlb : Hid (S.length ≤ 60000 ∧ B.length ≤ 60000 ∧ R.length ≤ 60000) := ⟨by omega, by omega, by omega⟩
    obtain ⟨⟨n, okb⟩, hn⟩ : ∃ E, wholeS B = E := ⟨_, rfl⟩
    have Hn := Lib.hid hn
    obtain ⟨K, hK, hK0, hK1⟩ := kind_idx A
    have HKi := Lib.hid hK
    clear hA hB hn hlen hla hlb hlc hld hK
    go_enter Tryz.func26, Tryz.ntmps26
    go_wp2_with fail
    refine (cutc_any 32 L _ (HL.out.below HB.out.bel) (by have := Hlen.out; omega)).mono ?_
    rw [HA.out]
    rintro e w1 ⟨rfl, hb1⟩
    have HB1 := Lib.hid (HB.out.below hb1)
    clear hb1
    dsimp only
    go_wp2_with fail
    refine (cutc_any 32 S _ (HL.out.below HB1.out.bel) (by have := Hlb.out.1; omega)).mono ?_
    rw [HB2.out]
    rintro e w2 ⟨rfl, hb2⟩
    have HBb := Lib.hid (HB1.out.below hb2)
    clear hb2
    dsimp only
    go_wp2_with fail
    refine (number_any (bsL B) _ (HL.out.below HBb.out.bel) (by have := Hlb.out.2.1; simp [bsL, ByteArray.size]; omega)).mono ?_
    rw [bsL_toList, Hn.out]
    rintro e w3 ⟨rfl, hb3⟩
    have HB3 := Lib.hid (HBb.out.below hb3)
    clear hb3
    dsimp only
    go_wp2_with fail
    refine (words_any _).mono ?_
    rintro e w4' ⟨rfl, hw4⟩
    have Hwr : Hid (w4'.heap[w3.heap.size]? = some (.cells wordRow 9)) := by show _ = _; rw [hw4]; exact heap_last _ _
    have HB4 : Hid (Bx w [.cells #[.int .i64 0, .int .i64 0, .int .i64 0, .slice none 0 0, .int .i64 0] 56] w4') := by rw [hw4]; exact HB3.out.alloc _
    clear hw4
    obtain ⟨w4, rfl⟩ : ∃ w4 : World, w4 = w4' := ⟨_, rfl⟩
    go_wp2_with fail
    refine (rowidx_any [] [111, 112, 101, 110] [116, 105, 103, 104, 116] [102, 111, 114, 107] [115, 104, 117, 116] A w3.heap.size w4 Hwr.out).mono ?_
    rw [HKi.out]
    rintro e w5 ⟨rfl, rfl⟩
    obtain ⟨w4, rfl⟩ : ∃ w4 : World, w4 = w5 := ⟨_, rfl⟩
    have HBx := Lib.hid (HB4.out.alloc (.cells #[.int .i64 K, .int .i64 n, .int .i64 0, .slice none 0 0, .int .i64 0] 56))
    have HXx : Hid (_ = some _) := heap_last w4 (.cells #[.int .i64 K, .int .i64 n, .int .i64 0, .slice none 0 0, .int .i64 0] 56)
    have Hbx : Hid (w.heap.size + 1 ≤ w4.heap.size) := HB4.out.top
    by_cases hk0 : kindOf A = 0
    · have HE1 : Hid (nreadE L = (⟨0, 0, 0, ⟨[], 0⟩⟩, 1)) := by show _ = _; rw [HE0.out]; exact readGo_bad (.inl hk0)
      have hKlt := hK0 hk0
      clear hk0 hK0 hK1
      have hq0 := HBx.out.cells0
      have hf0 := HBx.out.free0
      have HS := Lib.hid (HBx.out.put5 (.int .i64 0) (.int .i64 0) (.int .i64 0) (.slice none 0 0) (.int .i64 0) rfl)
      have hqs := HS.out.cells0
      have HBL := Lib.hid HS.out.bel
      clear HS
      go_wp2
      refine bodyPost_ret (v := .tuple #[recV ⟨0, 0, 0, ⟨[], 0⟩⟩ (.slice none 0 0), .int .i64 1]) ?_ rfl (by rw [HE1.out]; exact ⟨_, rfl, nil_rulesP _ _, HBL.out⟩)
      rw [results_cell_tmp rfl]
      go_simp
    · have hKe := hK1 hk0
      obtain ⟨k, hk⟩ : ∃ k, kindOf A = k := ⟨_, rfl⟩
      have hkr : k = 1 ∨ k = 2 ∨ k = 3 ∨ k = 4 := by
        rw [← hk]
        obtain ⟨_, h1, h2⟩ := kindW_of hk0
        omega
      rw [hk] at hKe HE0
      subst hKe
      clear hk0 hK0 hK1 HKi hk
      cases okb with
      | false =>
        have HE1 : Hid (nreadE L = (⟨0, 0, 0, ⟨[], 0⟩⟩, 1)) := by show _ = _; rw [HE0.out]; exact readGo_bad (.inr (.inl (by rw [Hn.out])))
        rcases hkr with rfl | rfl | rfl | rfl
        · have hq0 := HBx.out.cells0
          have hf0 := HBx.out.free0
          have HS := Lib.hid (HBx.out.put5 (.int .i64 0) (.int .i64 0) (.int .i64 0) (.slice none 0 0) (.int .i64 0) rfl)
          have hqs := HS.out.cells0
          have HBL := Lib.hid HS.out.bel
          clear HS
          go_wp2
          refine bodyPost_ret (v := .tuple #[recV ⟨0, 0, 0, ⟨[], 0⟩⟩ (.slice none 0 0), .int .i64 1]) ?_ rfl (by rw [HE1.out]; exact ⟨_, rfl, nil_rulesP _ _, HBL.out⟩)
          rw [results_cell_tmp rfl]
          go_simp
        · have hq0 := HBx.out.cells0
          have hf0 := HBx.out.free0
          have HS := Lib.hid (HBx.out.put5 (.int .i64 0) (.int .i64 0) (.int .i64 0) (.slice none 0 0) (.int .i64 0) rfl)
          have hqs := HS.out.cells0
          have HBL := Lib.hid HS.out.bel
          clear HS
          go_wp2
          refine bodyPost_ret (v := .tuple #[recV ⟨0, 0, 0, ⟨[], 0⟩⟩ (.slice none 0 0), .int .i64 1]) ?_ rfl (by rw [HE1.out]; exact ⟨_, rfl, nil_rulesP _ _, HBL.out⟩)
          rw [results_cell_tmp rfl]
          go_simp
        · have hq0 := HBx.out.cells0
          have hf0 := HBx.out.free0
          have HS := Lib.hid (HBx.out.put5 (.int .i64 0) (.int .i64 0) (.int .i64 0) (.slice none 0 0) (.int .i64 0) rfl)
          have hqs := HS.out.cells0
          have HBL := Lib.hid HS.out.bel
          clear HS
          go_wp2
          refine bodyPost_ret (v := .tuple #[recV ⟨0, 0, 0, ⟨[], 0⟩⟩ (.slice none 0 0), .int .i64 1]) ?_ rfl (by rw [HE1.out]; exact ⟨_, rfl, nil_rulesP _ _, HBL.out⟩)
          rw [results_cell_tmp rfl]
          go_simp
        · have hq0 := HBx.out.cells0
          have hf0 := HBx.out.free0
          have HS := Lib.hid (HBx.out.put5 (.int .i64 0) (.int .i64 0) (.int .i64 0) (.slice none 0 0) (.int .i64 0) rfl)
          have hqs := HS.out.cells0
          have HBL := Lib.hid HS.out.bel
          clear HS
          go_wp2
          refine bodyPost_ret (v := .tuple #[recV ⟨0, 0, 0, ⟨[], 0⟩⟩ (.slice none 0 0), .int .i64 1]) ?_ rfl (by rw [HE1.out]; exact ⟨_, rfl, nil_rulesP _ _, HBL.out⟩)
          rw [results_cell_tmp rfl]
          go_simp
      | true =>
        cases m with
        | false =>
          rcases hkr with rfl | rfl | rfl | rfl
          · have HE1 : Hid (nreadE L = (⟨0, 0, 0, ⟨[], 0⟩⟩, 1)) := by show _ = _; rw [HE0.out]; exact readGo_bad (.inr (.inr (by decide)))
            have hq0 := HBx.out.cells0
            have hf0 := HBx.out.free0
            have HS := Lib.hid (HBx.out.put5 (.int .i64 0) (.int .i64 0) (.int .i64 0) (.slice none 0 0) (.int .i64 0) rfl)
            have hqs := HS.out.cells0
            have HBL := Lib.hid HS.out.bel
            clear HS
            go_wp2
            refine bodyPost_ret (v := .tuple #[recV ⟨0, 0, 0, ⟨[], 0⟩⟩ (.slice none 0 0), .int .i64 1]) ?_ rfl (by rw [HE1.out]; exact ⟨_, rfl, nil_rulesP _ _, HBL.out⟩)
            rw [results_cell_tmp rfl]
            go_simp
          · have HE1 : Hid (nreadE L = (⟨0, 0, 0, ⟨[], 0⟩⟩, 1)) := by show _ = _; rw [HE0.out]; exact readGo_bad (.inr (.inr (by decide)))
            have hq0 := HBx.out.cells0
            have hf0 := HBx.out.free0
            have HS := Lib.hid (HBx.out.put5 (.int .i64 0) (.int .i64 0) (.int .i64 0) (.slice none 0 0) (.int .i64 0) rfl)
            have hqs := HS.out.cells0
            have HBL := Lib.hid HS.out.bel
            clear HS
            go_wp2
            refine bodyPost_ret (v := .tuple #[recV ⟨0, 0, 0, ⟨[], 0⟩⟩ (.slice none 0 0), .int .i64 1]) ?_ rfl (by rw [HE1.out]; exact ⟨_, rfl, nil_rulesP _ _, HBL.out⟩)
            rw [results_cell_tmp rfl]
            go_simp
          · have HE1 : Hid (nreadE L = (⟨0, 0, 0, ⟨[], 0⟩⟩, 1)) := by show _ = _; rw [HE0.out]; exact readGo_bad (.inr (.inr (by decide)))
            have hq0 := HBx.out.cells0
            have hf0 := HBx.out.free0
            have HS := Lib.hid (HBx.out.put5 (.int .i64 0) (.int .i64 0) (.int .i64 0) (.slice none 0 0) (.int .i64 0) rfl)
            have hqs := HS.out.cells0
            have HBL := Lib.hid HS.out.bel
            clear HS
            go_wp2
            refine bodyPost_ret (v := .tuple #[recV ⟨0, 0, 0, ⟨[], 0⟩⟩ (.slice none 0 0), .int .i64 1]) ?_ rfl (by rw [HE1.out]; exact ⟨_, rfl, nil_rulesP _ _, HBL.out⟩)
            rw [results_cell_tmp rfl]
            go_simp
          · have HE1 : Hid (nreadE L = checkedRec ⟨4, n, 0, ⟨[], 0⟩⟩) := by show _ = _; rw [HE0.out]; exact readGo_shut Hn.out
            have hqx := cells_of HXx.out
            go_wp2_with fail
            clear hqx
            have HRx := Lib.hid (nil_rulesP (w4.alloc (.cells #[.int .i64 4, .int .i64 n, .int .i64 0, .slice none 0 0, .int .i64 0] 56)) (fun x => w.heap.size + 1 ≤ x))
            refine (notecheck_any _ ⟨4, n, 0, ⟨[], 0⟩⟩ _ _ HRx.out).mono ?_
            rintro e w8 ⟨rfl, hb8⟩
            have HB8 := Lib.hid (HBx.out.below hb8)
            have HR8 := Lib.hid (RdRules.below HRx.out hb8)
            have hqx := cells_of (blk_below HXx.out hb8)
            have hq0 := HB8.out.cells0
            have hf0 := HB8.out.free0
            clear hb8
            by_cases h0 : recE ⟨4, n, 0, ⟨[], 0⟩⟩ = 0
            · have HE' : Hid (nreadE L = (⟨4, n, 0, ⟨[], 0⟩⟩, 0)) := by show _ = _; rw [HE1.out]; exact if_pos h0
              have HS := Lib.hid (HB8.out.put5 (.int .i64 4) (.int .i64 n) (.int .i64 0) (.slice none 0 0) (.int .i64 0) rfl)
              have hqs := HS.out.cells0
              have HBL := Lib.hid HS.out.bel
              have HRF := Lib.hid (rules_off HR8.out (puts5_grow (b := w.heap.size) (.int .i64 4) (.int .i64 n) (.int .i64 0) (.slice none 0 0) (.int .i64 0)))
              rw [h0]
              clear h0 HS
              go_wp2
              refine bodyPost_ret (v := .tuple #[recV ⟨4, n, 0, ⟨[], 0⟩⟩ (.slice none 0 0), .int .i64 0]) ?_ rfl (by rw [HE'.out]; exact ⟨_, rfl, HRF.out, HBL.out⟩)
              rw [results_cell_tmp rfl]
              go_simp
            · have HE' : Hid (nreadE L = (⟨0, 0, 0, ⟨[], 0⟩⟩, recE ⟨4, n, 0, ⟨[], 0⟩⟩)) := by show _ = _; rw [HE1.out]; exact if_neg h0
              have hne : (recE ⟨4, n, 0, ⟨[], 0⟩⟩ != 0) = true := bne_iff_ne.2 h0
              generalize recE ⟨4, n, 0, ⟨[], 0⟩⟩ = pe at *
              clear h0
              have HS := Lib.hid (HB8.out.put5 (.int .i64 0) (.int .i64 0) (.int .i64 0) (.slice none 0 0) (.int .i64 0) rfl)
              have hqs := HS.out.cells0
              have HBL := Lib.hid HS.out.bel
              clear HS
              go_wp2
              refine bodyPost_ret (v := .tuple #[recV ⟨0, 0, 0, ⟨[], 0⟩⟩ (.slice none 0 0), .int .i64 pe]) ?_ rfl (by rw [HE'.out]; exact ⟨_, rfl, nil_rulesP _ _, HBL.out⟩)
              rw [results_cell_tmp rfl]
              go_simp
        | true =>
          rcases hkr with rfl | rfl | rfl | rfl
          · have HEp : Hid (nreadE L = if (readP R).2 ≠ 0 then (zeroRec, (readP R).2) else checkedRec ⟨1, n, 0, (readP R).1⟩) := by show _ = _; rw [HE0.out]; exact readGo_pol (.inl rfl) Hn.out
            obtain ⟨⟨P, pe⟩, hP⟩ : ∃ E, readP R = E := ⟨_, rfl⟩
            have HP : Hid (textE R = (P, pe)) := by show _ = _; rw [textE_short Hlb.out.2.2]; exact hP
            rw [hP] at HEp
            clear hP
            have hqx := cells_of HXx.out
            go_wp2_with fail
            clear hqx
            refine (parse_any R _ (HL.out.below HBx.out.bel)).mono ?_
            rw [HP.out]
            rintro e w6 ⟨v6, rfl, hr6, hb6⟩
            have HX6 := Lib.hid (blk_below HXx.out hb6)
            have HB6 := Lib.hid (HBx.out.below hb6)
            obtain ⟨a6, c6, rfl, _⟩ := Sl.form hr6
            have HR6 : Hid (RdRules w6 (fun x => w4.heap.size + 1 ≤ x) (.slice a6 P.rules.length c6) P.rules) := hr6.keep (fun x hx _ => by have h1 : _ ≤ x := hx; simp at h1; exact h1) (fun _ _ _ => rfl) (Nat.le_refl _)
            clear hb6 hr6 HXx HBx
            dsimp only
            have hqx := cells_of HX6.out
            have hfx := not_frozen HX6.out
            have HXs := Lib.hid (set_at (o := 4) (v := .int .i64 P.dflt) (set_at (o := 3) (v := .slice a6 P.rules.length c6) HX6.out))
            have HBs := Lib.hid (HB6.out.lift (set_below (a := ⟨w4.heap.size, 4, none⟩) (v := .int .i64 P.dflt) (set_below (a := ⟨w4.heap.size, 3, none⟩) (v := .slice a6 P.rules.length c6) (Below.refl (w.heap.size + 1) w6) Hbx.out) Hbx.out) (by simp))
            have hqs0 := cells_of HXs.out
            have HRx := Lib.hid (RdRules.keep (w' := (w6.setCell ⟨w4.heap.size, 3, none⟩ (.slice a6 P.rules.length c6)).setCell ⟨w4.heap.size, 4, none⟩ (.int .i64 P.dflt)) (D' := fun x => w.heap.size + 1 ≤ x) HR6.out (fun x hx _ => by have h1 : w4.heap.size + 1 ≤ x := hx; have := Hbx.out; show _ ≤ _; omega) (fun x hx _ => by
              have h1 : w4.heap.size + 1 ≤ x := hx
              rw [set_other (by show x ≠ w4.heap.size; omega), set_other (by show x ≠ w4.heap.size; omega)]) (by rw [set_size, set_size]; exact Nat.le_refl _))
            by_cases hpe : pe = 0
            · subst hpe
              have HE1 : Hid (nreadE L = checkedRec ⟨1, n, 0, P⟩) := by show _ = _; rw [HEp.out]; exact if_neg (by simp)
              go_wp2_with fail
              clear hqx hfx hqs0
              refine (notecheck_any _ ⟨1, n, 0, P⟩ _ _ HRx.out).mono ?_
              rintro e w8 ⟨rfl, hb8⟩
              have HB8 := Lib.hid (HBs.out.below hb8)
              have HR8 := Lib.hid (RdRules.below HRx.out hb8)
              have hqx := cells_of (blk_below HXs.out hb8)
              have hq0 := HB8.out.cells0
              have hf0 := HB8.out.free0
              clear hb8
              by_cases h0 : recE ⟨1, n, 0, P⟩ = 0
              · have HE' : Hid (nreadE L = (⟨1, n, 0, P⟩, 0)) := by show _ = _; rw [HE1.out]; exact if_pos h0
                have HS := Lib.hid (HB8.out.put5 (.int .i64 1) (.int .i64 n) (.int .i64 0) (.slice a6 P.rules.length c6) (.int .i64 P.dflt) rfl)
                have hqs := HS.out.cells0
                have HBL := Lib.hid HS.out.bel
                have HRF := Lib.hid (rules_off HR8.out (puts5_grow (b := w.heap.size) (.int .i64 1) (.int .i64 n) (.int .i64 0) (.slice a6 P.rules.length c6) (.int .i64 P.dflt)))
                rw [h0]
                clear h0 HS
                go_wp2
                refine bodyPost_ret (v := .tuple #[recV ⟨1, n, 0, P⟩ (.slice a6 P.rules.length c6), .int .i64 0]) ?_ rfl (by rw [HE'.out]; exact ⟨_, rfl, HRF.out, HBL.out⟩)
                rw [results_cell_tmp rfl]
                go_simp
              · have HE' : Hid (nreadE L = (⟨0, 0, 0, ⟨[], 0⟩⟩, recE ⟨1, n, 0, P⟩)) := by show _ = _; rw [HE1.out]; exact if_neg h0
                have hne : (recE ⟨1, n, 0, P⟩ != 0) = true := bne_iff_ne.2 h0
                generalize recE ⟨1, n, 0, P⟩ = pe at *
                clear h0
                have HS := Lib.hid (HB8.out.put5 (.int .i64 0) (.int .i64 0) (.int .i64 0) (.slice none 0 0) (.int .i64 0) rfl)
                have hqs := HS.out.cells0
                have HBL := Lib.hid HS.out.bel
                clear HS
                go_wp2
                refine bodyPost_ret (v := .tuple #[recV ⟨0, 0, 0, ⟨[], 0⟩⟩ (.slice none 0 0), .int .i64 pe]) ?_ rfl (by rw [HE'.out]; exact ⟨_, rfl, nil_rulesP _ _, HBL.out⟩)
                rw [results_cell_tmp rfl]
                go_simp
            · have HE1 : Hid (nreadE L = (⟨0, 0, 0, ⟨[], 0⟩⟩, pe)) := by show _ = _; rw [HEp.out]; exact if_pos hpe
              have hne : (pe != 0) = true := bne_iff_ne.2 hpe
              clear hpe
              have hq0 := HBs.out.cells0
              have hf0 := HBs.out.free0
              have HS := Lib.hid (HBs.out.put5 (.int .i64 0) (.int .i64 0) (.int .i64 0) (.slice none 0 0) (.int .i64 0) rfl)
              have hqs := HS.out.cells0
              have HBL := Lib.hid HS.out.bel
              clear HS
              go_wp2
              refine bodyPost_ret (v := .tuple #[recV ⟨0, 0, 0, ⟨[], 0⟩⟩ (.slice none 0 0), .int .i64 pe]) ?_ rfl (by rw [HE1.out]; exact ⟨_, rfl, nil_rulesP _ _, HBL.out⟩)
              rw [results_cell_tmp rfl]
              go_simp
          · have HEp : Hid (nreadE L = if (readP R).2 ≠ 0 then (zeroRec, (readP R).2) else checkedRec ⟨2, n, 0, (readP R).1⟩) := by show _ = _; rw [HE0.out]; exact readGo_pol (.inr rfl) Hn.out
            obtain ⟨⟨P, pe⟩, hP⟩ : ∃ E, readP R = E := ⟨_, rfl⟩
            have HP : Hid (textE R = (P, pe)) := by show _ = _; rw [textE_short Hlb.out.2.2]; exact hP
            rw [hP] at HEp
            clear hP
            have hqx := cells_of HXx.out
            go_wp2_with fail
            clear hqx
            refine (parse_any R _ (HL.out.below HBx.out.bel)).mono ?_
            rw [HP.out]
            rintro e w6 ⟨v6, rfl, hr6, hb6⟩
            have HX6 := Lib.hid (blk_below HXx.out hb6)
            have HB6 := Lib.hid (HBx.out.below hb6)
            obtain ⟨a6, c6, rfl, _⟩ := Sl.form hr6
            have HR6 : Hid (RdRules w6 (fun x => w4.heap.size + 1 ≤ x) (.slice a6 P.rules.length c6) P.rules) := hr6.keep (fun x hx _ => by have h1 : _ ≤ x := hx; simp at h1; exact h1) (fun _ _ _ => rfl) (Nat.le_refl _)
            clear hb6 hr6 HXx HBx
            dsimp only
            have hqx := cells_of HX6.out
            have hfx := not_frozen HX6.out
            have HXs := Lib.hid (set_at (o := 4) (v := .int .i64 P.dflt) (set_at (o := 3) (v := .slice a6 P.rules.length c6) HX6.out))
            have HBs := Lib.hid (HB6.out.lift (set_below (a := ⟨w4.heap.size, 4, none⟩) (v := .int .i64 P.dflt) (set_below (a := ⟨w4.heap.size, 3, none⟩) (v := .slice a6 P.rules.length c6) (Below.refl (w.heap.size + 1) w6) Hbx.out) Hbx.out) (by simp))
            have hqs0 := cells_of HXs.out
            have HRx := Lib.hid (RdRules.keep (w' := (w6.setCell ⟨w4.heap.size, 3, none⟩ (.slice a6 P.rules.length c6)).setCell ⟨w4.heap.size, 4, none⟩ (.int .i64 P.dflt)) (D' := fun x => w.heap.size + 1 ≤ x) HR6.out (fun x hx _ => by have h1 : w4.heap.size + 1 ≤ x := hx; have := Hbx.out; show _ ≤ _; omega) (fun x hx _ => by
              have h1 : w4.heap.size + 1 ≤ x := hx
              rw [set_other (by show x ≠ w4.heap.size; omega), set_other (by show x ≠ w4.heap.size; omega)]) (by rw [set_size, set_size]; exact Nat.le_refl _))
            by_cases hpe : pe = 0
            · subst hpe
              have HE1 : Hid (nreadE L = checkedRec ⟨2, n, 0, P⟩) := by show _ = _; rw [HEp.out]; exact if_neg (by simp)
              go_wp2_with fail
              clear hqx hfx hqs0
              refine (notecheck_any _ ⟨2, n, 0, P⟩ _ _ HRx.out).mono ?_
              rintro e w8 ⟨rfl, hb8⟩
              have HB8 := Lib.hid (HBs.out.below hb8)
              have HR8 := Lib.hid (RdRules.below HRx.out hb8)
              have hqx := cells_of (blk_below HXs.out hb8)
              have hq0 := HB8.out.cells0
              have hf0 := HB8.out.free0
              clear hb8
              by_cases h0 : recE ⟨2, n, 0, P⟩ = 0
              · have HE' : Hid (nreadE L = (⟨2, n, 0, P⟩, 0)) := by show _ = _; rw [HE1.out]; exact if_pos h0
                have HS := Lib.hid (HB8.out.put5 (.int .i64 2) (.int .i64 n) (.int .i64 0) (.slice a6 P.rules.length c6) (.int .i64 P.dflt) rfl)
                have hqs := HS.out.cells0
                have HBL := Lib.hid HS.out.bel
                have HRF := Lib.hid (rules_off HR8.out (puts5_grow (b := w.heap.size) (.int .i64 2) (.int .i64 n) (.int .i64 0) (.slice a6 P.rules.length c6) (.int .i64 P.dflt)))
                rw [h0]
                clear h0 HS
                go_wp2
                refine bodyPost_ret (v := .tuple #[recV ⟨2, n, 0, P⟩ (.slice a6 P.rules.length c6), .int .i64 0]) ?_ rfl (by rw [HE'.out]; exact ⟨_, rfl, HRF.out, HBL.out⟩)
                rw [results_cell_tmp rfl]
                go_simp
              · have HE' : Hid (nreadE L = (⟨0, 0, 0, ⟨[], 0⟩⟩, recE ⟨2, n, 0, P⟩)) := by show _ = _; rw [HE1.out]; exact if_neg h0
                have hne : (recE ⟨2, n, 0, P⟩ != 0) = true := bne_iff_ne.2 h0
                generalize recE ⟨2, n, 0, P⟩ = pe at *
                clear h0
                have HS := Lib.hid (HB8.out.put5 (.int .i64 0) (.int .i64 0) (.int .i64 0) (.slice none 0 0) (.int .i64 0) rfl)
                have hqs := HS.out.cells0
                have HBL := Lib.hid HS.out.bel
                clear HS
                go_wp2
                refine bodyPost_ret (v := .tuple #[recV ⟨0, 0, 0, ⟨[], 0⟩⟩ (.slice none 0 0), .int .i64 pe]) ?_ rfl (by rw [HE'.out]; exact ⟨_, rfl, nil_rulesP _ _, HBL.out⟩)
                rw [results_cell_tmp rfl]
                go_simp
            · have HE1 : Hid (nreadE L = (⟨0, 0, 0, ⟨[], 0⟩⟩, pe)) := by show _ = _; rw [HEp.out]; exact if_pos hpe
              have hne : (pe != 0) = true := bne_iff_ne.2 hpe
              clear hpe
              have hq0 := HBs.out.cells0
              have hf0 := HBs.out.free0
              have HS := Lib.hid (HBs.out.put5 (.int .i64 0) (.int .i64 0) (.int .i64 0) (.slice none 0 0) (.int .i64 0) rfl)
              have hqs := HS.out.cells0
              have HBL := Lib.hid HS.out.bel
              clear HS
              go_wp2
              refine bodyPost_ret (v := .tuple #[recV ⟨0, 0, 0, ⟨[], 0⟩⟩ (.slice none 0 0), .int .i64 pe]) ?_ rfl (by rw [HE1.out]; exact ⟨_, rfl, nil_rulesP _ _, HBL.out⟩)
              rw [results_cell_tmp rfl]
              go_simp
          · obtain ⟨⟨f, okf⟩, hf⟩ : ∃ E, wholeS R = E := ⟨_, rfl⟩
            have HEf : Hid (nreadE L = if okf then checkedRec ⟨3, n, f, ⟨[], 0⟩⟩ else (zeroRec, 1)) := by show _ = _; rw [HE0.out]; exact readGo_fork Hn.out hf
            have Hf := Lib.hid hf
            clear hf
            have hqx := cells_of HXx.out
            go_wp2_with fail
            clear hqx
            refine (number_any (bsL R) _ (HL.out.below HBx.out.bel) (by have := Hlb.out.2.2; simp [bsL, ByteArray.size]; omega)).mono ?_
            rw [bsL_toList, Hf.out]
            rintro e w6 ⟨rfl, hb6⟩
            have HX6 := Lib.hid (blk_below HXx.out hb6)
            have HB6 := Lib.hid (HBx.out.below hb6)
            clear hb6 HXx HBx
            have hqx := cells_of HX6.out
            have hfx := not_frozen HX6.out
            have HXs := Lib.hid (set_at (o := 2) (v := .int .i64 f) HX6.out)
            have HBs := Lib.hid (HB6.out.lift (set_below (a := ⟨w4.heap.size, 2, none⟩) (v := .int .i64 f) (Below.refl (w.heap.size + 1) w6) Hbx.out) (by simp))
            have hqs0 := cells_of HXs.out
            cases okf with
            | false =>
              have HE1 : Hid (nreadE L = (⟨0, 0, 0, ⟨[], 0⟩⟩, 1)) := by show _ = _; rw [HEf.out]; rfl
              have hq0 := HBs.out.cells0
              have hf0 := HBs.out.free0
              have HS := Lib.hid (HBs.out.put5 (.int .i64 0) (.int .i64 0) (.int .i64 0) (.slice none 0 0) (.int .i64 0) rfl)
              have hqs := HS.out.cells0
              have HBL := Lib.hid HS.out.bel
              clear HS
              go_wp2
              refine bodyPost_ret (v := .tuple #[recV ⟨0, 0, 0, ⟨[], 0⟩⟩ (.slice none 0 0), .int .i64 1]) ?_ rfl (by rw [HE1.out]; exact ⟨_, rfl, nil_rulesP _ _, HBL.out⟩)
              rw [results_cell_tmp rfl]
              go_simp
            | true =>
              have HE1 : Hid (nreadE L = checkedRec ⟨3, n, f, ⟨[], 0⟩⟩) := by show _ = _; rw [HEf.out]; rfl
              go_wp2_with fail
              clear hqx hfx hqs0
              have HRx := Lib.hid (nil_rulesP (w6.setCell ⟨w4.heap.size, 2, none⟩ (.int .i64 f)) (fun x => w.heap.size + 1 ≤ x))
              refine (notecheck_any _ ⟨3, n, f, ⟨[], 0⟩⟩ _ _ HRx.out).mono ?_
              rintro e w8 ⟨rfl, hb8⟩
              have HB8 := Lib.hid (HBs.out.below hb8)
              have HR8 := Lib.hid (RdRules.below HRx.out hb8)
              have hqx := cells_of (blk_below HXs.out hb8)
              have hq0 := HB8.out.cells0
              have hf0 := HB8.out.free0
              clear hb8
              by_cases h0 : recE ⟨3, n, f, ⟨[], 0⟩⟩ = 0
              · have HE' : Hid (nreadE L = (⟨3, n, f, ⟨[], 0⟩⟩, 0)) := by show _ = _; rw [HE1.out]; exact if_pos h0
                have HS := Lib.hid (HB8.out.put5 (.int .i64 3) (.int .i64 n) (.int .i64 f) (.slice none 0 0) (.int .i64 0) rfl)
                have hqs := HS.out.cells0
                have HBL := Lib.hid HS.out.bel
                have HRF := Lib.hid (rules_off HR8.out (puts5_grow (b := w.heap.size) (.int .i64 3) (.int .i64 n) (.int .i64 f) (.slice none 0 0) (.int .i64 0)))
                rw [h0]
                clear h0 HS
                go_wp2
                refine bodyPost_ret (v := .tuple #[recV ⟨3, n, f, ⟨[], 0⟩⟩ (.slice none 0 0), .int .i64 0]) ?_ rfl (by rw [HE'.out]; exact ⟨_, rfl, HRF.out, HBL.out⟩)
                rw [results_cell_tmp rfl]
                go_simp
              · have HE' : Hid (nreadE L = (⟨0, 0, 0, ⟨[], 0⟩⟩, recE ⟨3, n, f, ⟨[], 0⟩⟩)) := by show _ = _; rw [HE1.out]; exact if_neg h0
                have hne : (recE ⟨3, n, f, ⟨[], 0⟩⟩ != 0) = true := bne_iff_ne.2 h0
                generalize recE ⟨3, n, f, ⟨[], 0⟩⟩ = pe at *
                clear h0
                have HS := Lib.hid (HB8.out.put5 (.int .i64 0) (.int .i64 0) (.int .i64 0) (.slice none 0 0) (.int .i64 0) rfl)
                have hqs := HS.out.cells0
                have HBL := Lib.hid HS.out.bel
                clear HS
                go_wp2
                refine bodyPost_ret (v := .tuple #[recV ⟨0, 0, 0, ⟨[], 0⟩⟩ (.slice none 0 0), .int .i64 pe]) ?_ rfl (by rw [HE'.out]; exact ⟨_, rfl, nil_rulesP _ _, HBL.out⟩)
                rw [results_cell_tmp rfl]
                go_simp
          · have HE1 : Hid (nreadE L = (⟨0, 0, 0, ⟨[], 0⟩⟩, 1)) := by show _ = _; rw [HE0.out]; exact readGo_bad (.inr (.inr (by decide)))
            have hq0 := HBx.out.cells0
            have hf0 := HBx.out.free0
            have HS := Lib.hid (HBx.out.put5 (.int .i64 0) (.int .i64 0) (.int .i64 0) (.slice none 0 0) (.int .i64 0) rfl)
            have hqs := HS.out.cells0
            have HBL := Lib.hid HS.out.bel
            clear HS
            go_wp2
            refine bodyPost_ret (v := .tuple #[recV ⟨0, 0, 0, ⟨[], 0⟩⟩ (.slice none 0 0), .int .i64 1]) ?_ rfl (by rw [HE1.out]; exact ⟨_, rfl, nil_rulesP _ _, HBL.out⟩)
            rw [results_cell_tmp rfl]
            go_simp
end Go.Proofs.YthkgjohhbdipcaaGreatDoor
