/- Texts laid one behind the other: TParse, Judge, Same, Same2, ReadMaps, RPolCheck, ReadSt. No condition beyond theirs. -/
import Derived.Test.YthkgjohhbdipcaaDoorK5
import Derived.Test.YthkgjohhbdipcaaDoorK3
import Derived.Test.YthkgjohhbdipcaaDoorK2
import Derived.Laws.StructEq
import Derived.KernelRfl
import Derived.Laws.ResultCell
set_option linter.all false
namespace Go.Proofs.YthkgjohhbdipcaaDoor
open Go.RowKit
attribute [local go_sem] gives givesUpon

theorem nil_rulesP (w : World) (D : Nat → Prop) : RdRules w D (.slice none 0 0) [] := ⟨none, 0, rfl, Nat.le_refl _, by unfold maxLen; simp, fun _ => rfl, fun h => by cases h⟩
theorem infoCondP : (Tryd.prog.info? 72).map (fun i => (i.zero, i.size, i.bytes)) = some (some (.agg #[.int .i64 0, .int .i64 0, .int .i64 0]), 3, 24) := by kernel_rfl
theorem infoRuleP : (Tryd.prog.info? 64).map (fun i => (i.zero, i.size, i.bytes)) = some (some (.agg #[.slice none 0 0, .int .i64 0]), 2, 32) := by kernel_rfl
theorem condR_oneP (y : TCond) (cs : List Value) (h : condR y cs) : ∀ c ∈ cs, c.oneCell' = true := by
  unfold condR at h; subst h; intro c hc; simp at hc; rcases hc with rfl | rfl | rfl <;> rfl
theorem ruleR_oneP {w : World} {D : Nat → Prop} (y : TRule) (cs : List Value) (h : ruleR w D y cs) : ∀ c ∈ cs, c.oneCell' = true := by
  obtain ⟨v, rfl, h1⟩ := h
  obtain ⟨a, c, rfl, _⟩ := Sl.form h1
  simp [Value.oneCell']
def verG (k : Nat) (_ : Nat → Bool) (vf : Nat → Value) (W : World) : Prop := if k = 0 then rowAt verdictRow (vf 0) W else True
theorem verG_keep {T0 : TypeId} {k i is : Nat} {done d' : Nat → Bool} {vf : Nat → Value} {w w' : World} (hne : T0 ≠ 9) (hi : InitT (if i = is then [T0] else []) w w') (h : verG k done vf w) : verG k d' vf w' := by
  have hT : 9 ∉ (if i = is then [T0] else [] : List TypeId) := by split <;> simp [Ne.symm hne]
  unfold verG at h ⊢
  split
  · rename_i e; rw [if_pos e] at h; exact rowAt_init hT hi h
  · trivial
theorem verG_proper {k : Nat} {done : Nat → Bool} {f g : Nat → Value} {w : World} (hk : f k = g k) (h : verG k done f w) : verG k done g w := by
  unfold verG at h ⊢
  split
  · rename_i e; subst e; rw [if_pos rfl] at h; rw [← hk]; exact h
  · trivial
theorem InitT.of_sets2 {T0 : TypeId} {w : World} {b : Nat} {v0 v1 : Value} {cs : Array Value} (h : w.heap[b]? = some (.cells cs T0)) :
    InitT [T0] w ((w.setCell ⟨b, 0, none⟩ v0).setCell ⟨b, 1, none⟩ v1) := (InitT.of_set (by simp) h).trans (InitT.of_set (by simp) (set_at h))
/-- a row of strings. -/
@[reducible] def strRow (ps : List (List UInt8)) : Array Value := (ps.map fun u => Value.string (bsL u)).toArray
theorem strRow_get (ps : List (List UInt8)) (i : Nat) (h : i < ps.length) : (strRow ps)[i]? = some (.string (bsL ps[i])) := by simp [h]
theorem splitc_any (c : UInt8) (t : List UInt8) (w : World) (hL : Laid w) (hs : t.length < 4294967281) : Calls Tryd.prog 40 #[.string (bsL t), .string ⟨#[c]⟩] w fun e w' =>
    e = .returned (.slice (some ⟨w.heap.size, 0, none⟩) (Lib.split t [c]).length (Lib.split t [c]).length) ∧ w' = w.alloc (.cells (strRow (Lib.split t [c])) 9) := by
  obtain ⟨m, hm⟩ := hL.ml
  refine (Tryd.strings_Split (bsL t) ⟨#[c]⟩ m w (by simpa [bsL, ByteArray.size] using hs) hm (show 1 ≤ 1 from Nat.le_refl 1)).mono ?_
  rintro e w1 ⟨rfl, rfl⟩
  have hl := Lib.splitB_all ⟨#[c]⟩ (by show 1 ≤ 1; decide) 0 _ (bsL t) rfl
  have hd : (Lib.splitB ⟨#[c]⟩ 0 (Lib.countB (bsL t) ⟨#[c]⟩) (bsL t)).map (·.data.toList) = Lib.split t [c] := by rw [Lib.splitB_data]; rfl
  obtain ⟨ws, hws⟩ : ∃ ws, Lib.splitB ⟨#[c]⟩ 0 (Lib.countB (bsL t) ⟨#[c]⟩) (bsL t) = ws := ⟨_, rfl⟩
  rw [hws] at hl hd
  have hmap : ws = (Lib.split t [c]).map bsL := by
    rw [← hd, List.map_map]
    conv => lhs; rw [← List.map_id ws]
    apply List.map_congr_left
    intro u _
    exact (bytes_of rfl)
  have hlen : ws.length = (Lib.split t [c]).length := by rw [hmap, List.length_map]
  refine ⟨?_, ?_⟩
  · rw [← hlen, hl]
  · rw [hws, hmap, List.map_map]
    rfl
theorem split_small (c : UInt8) (t : List UInt8) : (Lib.split t [c]).length ≤ t.length + 1 ∧ ∀ u ∈ Lib.split t [c], u.length ≤ t.length := by
  have hd : (Lib.splitB ⟨#[c]⟩ 0 (Lib.countB (bsL t) ⟨#[c]⟩) (bsL t)).map (·.data.toList) = Lib.split t [c] := by rw [Lib.splitB_data]; rfl
  have hl := Lib.splitB_all ⟨#[c]⟩ (by show 1 ≤ 1; decide) 0 _ (bsL t) rfl
  have hc := Lib.countB_le ⟨#[c]⟩ (by show 1 ≤ 1; decide) _ (bsL t) (Nat.le_refl _)
  have hsz : (bsL t).size = t.length := by simp [bsL, ByteArray.size]
  rw [← hd]
  refine ⟨by rw [List.length_map]; omega, fun u hu => ?_⟩
  obtain ⟨x, hx, rfl⟩ := List.mem_map.1 hu
  have := splitB_sizes _ _ _ x hx
  rw [hsz, Lib.size_eq] at this
  exact this

set_option maxRecDepth 100000 in
set_option maxHeartbeats 16000000 in
theorem parse_any (L : List UInt8) (w : World) (hL : Laid w) :
    Calls Tryd.prog 10 #[.string (bsL L)] w fun e w' => ∃ v, e = .returned (.tuple #[polV v (textE L).1.dflt, .int .i64 (textE L).2]) ∧ RdRules w' (fun b => w.heap.size ≤ b) v (textE L).1.rules ∧ Below w.heap.size w w' := by
  have HL := Lib.hid hL
  have hsz : (bsL L).size = L.length := by simp [bsL, ByteArray.size]
  clear hL
  have HB := Lib.hid (Bx.one (w := w) (o := .cells #[.slice none 0 0, .int .i64 0] 24))
  by_cases hlen : 60000 < L.length
  · have HE : Hid (textE L = (⟨[], 0⟩, 2)) := by show _ = _; unfold textE; rw [if_pos hlen]
    have hlz : (60000 : Int) < (L.length : Int) := by omega
    clear hlen
    go_enter Tryd.func10, Tryd.ntmps10
    go_wp2
    refine bodyPost_ret (v := .tuple #[polV (.slice none 0 0) 0, .int .i64 2]) ?_ rfl (by rw [HE.out]; exact ⟨_, rfl, nil_rulesP _ _, HB.out.bel⟩)
    rw [results_cell_tmp rfl]
    go_simp
  · have HE : Hid (textE L = match parseL (Lib.split L [59]) with
        | none => (⟨[], 0⟩, 1)
        | some p => if polE p = 0 then (p, 0) else (⟨[], 0⟩, polE p)) := by show _ = _; unfold textE; rw [if_neg hlen]; cases parseL (Lib.split L [59]) <;> rfl
    have hlz : ¬ (60000 : Int) < (L.length : Int) := by omega
    have Hlen := Lib.hid hlen
    obtain ⟨hsl, hsu⟩ := split_small 59 L
    have hpos : 0 < (Lib.split L [59]).length := List.length_pos_iff.2 (split_ne L)
    obtain ⟨ps, hps⟩ : ∃ ps, Lib.split L [59] = ps := ⟨_, rfl⟩
    have HPS := Lib.hid hps
    rw [hps] at HE hsl hsu hpos
    have Hsu := Lib.hid hsu
    clear hlen hsu
    go_enter Tryd.func10, Tryd.ntmps10
    go_wp2_with fail
    refine (splitc_any 59 L _ (HL.out.below HB.out.bel) (by have := Hlen.out; omega)).mono ?_
    rw [hps]
    rintro e w1 ⟨rfl, rfl⟩
    clear hps
    obtain ⟨n, hn⟩ : ∃ n, ps.length = n + 1 := ⟨ps.length - 1, by omega⟩
    have Hn := Lib.hid hn
    have HBs := Lib.hid (Bx.two (w := w) (o := .cells #[.slice none 0 0, .int .i64 0] 24) (o' := .cells (strRow ps) 9))
    rw [hn]
    have hw1 : IntKind.i64.wrap (((n + 1 : Nat) : Int) - 1) = (n : Int) := by rw [show ((n + 1 : Nat) : Int) - 1 = (n : Int) by omega]; exact IntWalk.i64_in _ (by have := Hlen.out; omega)
    obtain ⟨N, hN⟩ : ∃ N : Nat, n + 1 = N := ⟨_, rfl⟩
    rw [hN] at hw1 hn ⊢
    have hnN : (n : Int) < (N : Int) := by omega
    have hn0 : (0 : Int) ≤ (n : Int) := by omega
    have hnw : IntKind.i64.wrap (n : Int) = (n : Int) := IntWalk.i64_in _ (by have := Hlen.out; omega)
    have HN := Lib.hid hN
    clear hN hn hsl hpos
    go_wp2_with fail
    revert HBs
    generalize ((w.alloc (.cells #[.slice none 0 0, .int .i64 0] 24)).alloc (.cells (strRow ps) 9)) = wS
    intro HBs
    have hnl : n < ps.length := by have := Hn.out; omega
    obtain ⟨u, hu⟩ : ∃ u, ps[n] = u := ⟨_, rfl⟩
    have HCW : Hid (∀ W, Cls wS.heap.size wS W → W.cell? ⟨w.heap.size + 1, n, none⟩ = some (.string (bsL u))) := fun W hW => by rw [(HBs.out.below hW.2).cells1, strRow_get ps n hnl, hu]
    have Hlast : Hid (ps.getLastD [] = u) := by
      show _ = _
      rw [← hu, List.getLastD_eq_getLast?, List.getLast?_eq_getElem?, show ps.length - 1 = n by have := Hn.out; omega, List.getElem?_eq_getElem hnl]
      rfl
    obtain ⟨D, hD⟩ : ∃ D, Lib.idxOfS (verdictBs.take 5) (bsL u) = D := ⟨_, rfl⟩
    have HV : Hid (Lib.idxOfS [bsL [107, 105, 108, 108], bsL [116, 114, 97, 112], bsL [102, 97, 105, 108], bsL [108, 111, 103], bsL [97, 108, 108, 111, 119]] (bsL u) = D) := hD
    have HD : Hid (D = match verdictOf u with | some f => f | none => -1) := by show _ = _; rw [← hD, verdict_idx]; cases verdictOf u <;> rfl
    clear hD hu HB
    refine wp_region_init (wS.heap.size) (Nat.le_refl _) 24 2 (fun _ => []) 7 8 (fun _ => #[.slice none 0 0, .int .i64 D]) verG (by kernel_rfl) (by kernel_rfl) _ rfl (by decide) (fun _ => by simp) (fun _ => rfl) (fun i k _ _ _ _ _ _ _ _ hi h => verG_keep (by decide) hi h) (fun k _ f g _ _ hk h => verG_proper hk h) (fun f g h => rfl) ?_
    (refine rel_pr (fun K hK => ?_); refine ⟨fun done vf W hI h0 hd hn hf R hR => ?_, ?_⟩; (clear h0 hd hn hf; go_simp; go_at_call 31; refine (verdicts_any _).mono ?_; (rintro e w4 ⟨rfl, rfl⟩; exact ⟨_, rfl, hR _ _ (Cls.step hI (bel_alloc (Below.refl _ _) _)) (initT.plain (bel_alloc (Below.refl _ _) _) (by decide)) trivial ⟨_, rfl, heap_last _ _⟩⟩)); (go_simp; refine hK _ ?_; clear hK K))
    (refine rel_ex (fun K hK => ?_); apply Exists.intro; refine ⟨fun done vf W hI h0 hd hn hf R hR => ?_, ?_, ?_⟩; (have hcw := HCW.out W hI; clear h0 hd hn hf; go_simp; exact hR _ _ (Cls.step hI (Below.refl _ _)) (initT.plain (Below.refl _ _) (by decide)) rfl trivial); exact (fun _ _ _ => rfl); (go_simp; refine hK _ ?_; clear hK K))
    (refine rel_ex (fun K hK => ?_); apply Exists.intro; refine ⟨fun done vf W hI h0 hd hn hf R hR => ?_, ?_, ?_⟩; (have hcw := HCW.out W hI; clear h0 hd hn hf; go_simp; exact hR _ _ (Cls.step hI (Below.refl _ _)) (initT.plain (Below.refl _ _) (by decide)) rfl trivial); exact (fun _ _ _ => rfl); (go_simp; refine hK _ ?_; clear hK K))
    (refine rel_ex (fun K hK => ?_); apply Exists.intro; refine ⟨fun done vf W hI h0 hd hn hf R hR => ?_, ?_, ?_⟩; (have hcw := HCW.out W hI; clear h0 hd hn hf; go_simp; exact hR _ _ (Cls.step hI (Below.refl _ _)) (initT.plain (Below.refl _ _) (by decide)) rfl trivial); exact (fun _ _ _ => rfl); (go_simp; refine hK _ ?_; clear hK K))
    (refine rel_ex (fun K hK => ?_); apply Exists.intro; refine ⟨fun done vf W hI h0 hd hn hf R hR => ?_, ?_, ?_⟩; (have hcw := HCW.out W hI; clear h0 hd hn hf; go_simp; exact hR _ _ (Cls.step hI (Below.refl _ _)) (initT.plain (Below.refl _ _) (by decide)) rfl trivial); exact (fun _ _ _ => rfl); (go_simp; refine hK _ ?_; clear hK K))
    (refine rel_ex (fun K hK => ?_); apply Exists.intro; refine ⟨fun done vf W hI h0 hd hn hf R hR => ?_, ?_, ?_⟩; (have h1 : rowAt verdictRow (vf 0) W := hf 0 (hd 0 (by decide)); obtain ⟨g, hv, hg⟩ := h1; have Hg := Lib.hid hg; clear h0 hd hn hf hg; go_simp; go_at_call 41; refine (rowidx_any [107, 105, 108, 108] [116, 114, 97, 112] [102, 97, 105, 108] [108, 111, 103] [97, 108, 108, 111, 119] (u) g _ Hg.out).mono ?_; rw [HV.out]; (rintro e w4 ⟨rfl, rfl⟩; exact ⟨_, rfl, hR _ _ (Cls.step hI (Below.refl _ _)) (initT.plain (Below.refl _ _) (by decide)) rfl trivial⟩)); exact (fun _ _ _ => rfl); (go_simp; refine hK _ ?_; clear hK K))
    (refine rel_ex (fun K hK => ?_); apply Exists.intro; refine ⟨fun done vf W hI h0 hd hn hf R hR => ?_, ?_, ?_⟩; (have hcw := HCW.out W hI; clear h0 hd hn hf; go_simp; exact hR _ _ (Cls.step hI (Below.refl _ _)) (initT.plain (Below.refl _ _) (by decide)) rfl trivial); exact (fun _ _ _ => rfl); (go_simp; refine hK _ ?_; clear hK K))
    (refine rel_pr (fun K hK => ?_); refine ⟨fun done vf W hI h0 hd hn hf R hR => ?_, ?_⟩; (clear h0 hd hn hf; go_simp; exact hR _ _ (Cls.step hI (bel_alloc (Below.refl _ _) _)) (initT.plain (bel_alloc (Below.refl _ _) _) (by decide)) trivial ⟨_, rfl, hI.1, _, rfl, heap_last _ _⟩); (go_simp; refine hK _ ?_; clear hK K))
    (refine rel_pr (fun K hK => ?_); refine ⟨fun done vf W hI h0 hd hn hf R hR => ?_, ?_⟩; (have h11 : VarAt (wS.heap.size) 24 2 (vf 7) W := hf 7 (hd 7 (by decide)); obtain ⟨bx, h11, hbx, cs, hcs, hc11⟩ := h11; obtain ⟨d0, d1, rfl⟩ := two_cells hcs; have hce := cells_of hc11; have hfe := not_frozen hc11; have Hc11 := Lib.hid hc11; have Hst : Hid (((W.setCell ⟨bx, 0, none⟩ (.slice none 0 0)).setCell ⟨bx, 1, none⟩ (.int .i64 D)).heap[bx]? = some (.cells #[.slice none 0 0, .int .i64 D] 24)) := set_at (set_at hc11); clear h0 hd hn hf hc11 hcs; go_simp; exact hR _ _ ⟨by simp only [set_size]; exact hI.1, set_below (set_below hI.2 hbx) hbx⟩ ⟨InitT.of_sets2 Hc11.out, fun _ => ⟨bx, h11, Hst.out⟩⟩ trivial ⟨bx, h11, Hst.out⟩); (go_simp; refine hK _ ?_; clear hK K))
    intro done vf w3 hd hI hFF
    have h15 : VarIs 24 (vf 7) #[.slice none 0 0, .int .i64 D] w3 := hFF 8 (by decide)
    have h14 : VarAt wS.heap.size 24 2 (vf 7) w3 := hFF 7 (by decide)
    obtain ⟨bx, hbv, hbx⟩ := h15
    obtain ⟨bp, hbv2, hbp, _⟩ := h14
    have hbb : bp = bx := by rw [hbv] at hbv2; injection hbv2 with e; injection e with e; injection e with e; exact e.symm
    subst hbb
    have HB3 := Lib.hid (HBs.out.below hI.2)
    have Hbx := Lib.hid hbx
    have Hbp := Lib.hid hbp
    have hqx := cells_of hbx
    clear hbv2 hbp hd hI hFF hbx HCW
    cases hv : verdictOf u with
    | none =>
      have hD1 : D = -1 := by have := HD.out; rw [hv] at this; exact this
      subst hD1
      have HP : Hid (textE L = (⟨[], 0⟩, 1)) := by show _ = _; rw [HE.out]; unfold parseL; rw [Hlast.out, hv]
      have hq0 := HB3.out.cells0
      have hf0 := HB3.out.free0
      have HS := Lib.hid ((HB3.out.set (i := 0) rfl 0 (.slice none 0 0)).set (i := 0) rfl 1 (.int .i64 0))
      have hqs := HS.out.cells0
      have HBL : Hid (Below w.heap.size w ((w3.setCell ⟨w.heap.size, 0, none⟩ (.slice none 0 0)).setCell ⟨w.heap.size, 1, none⟩ (.int .i64 0))) := HS.out.bel
      clear hv HS
      go_wp2
      refine bodyPost_ret (v := .tuple #[polV (.slice none 0 0) 0, .int .i64 1]) ?_ rfl (by rw [HP.out]; exact ⟨_, rfl, nil_rulesP _ _, HBL.out⟩)
      rw [results_cell_tmp rfl]
      go_simp
    | some d =>
      have hD1 : D = d := by have := HD.out; rw [hv] at this; exact this
      subst hD1
      have hd0 : ¬ D < 0 := by
        unfold verdictOf at hv
        repeat' split at hv
        all_goals first | (injection hv with hv; omega) | cases hv
      have HPL : Hid (parseL ps = (rulesP ps.dropLast).map fun rs => ⟨rs, D⟩) := by show _ = _; unfold parseL; rw [Hlast.out, hv]
      clear hv
      go_wp2_with fail
      have Hns : Hid (n ≤ 60001) := by have := (split_small 59 L).1; rw [HPS.out] at this; show n ≤ _; have := Hn.out; have := Hlen.out; omega
      go_loopw [40] (fun kv wr => ∃ (k : Nat) (rs : List TRule) (pv : Value), kv = .int .i64 k ∧ k ≤ n ∧ rs.length = k ∧ rulesP ps.dropLast = (rulesP (ps.dropLast.drop k)).map (rs ++ ·) ∧ BoxRow w3 wr bp 24 64 2 (ruleR wr (fun b => w3.heap.size ≤ b ∧ pv.ownBlock ≠ some b)) (.int .i64 D) pv rs) (fun kv _ => n - (intOf kv).toNat)
      case atStart => exact ⟨0, [], _, rfl, Nat.zero_le _, rfl, by simp, BoxRow.start Hbx.out⟩
      case round =>
        obtain ⟨k, rs, pv, rfl, hk, hrl, hrul, hbr⟩ := hrel
        have Hrl := Lib.hid hrl
        have hnsz : n ≤ 60001 := Hns.out
        clear hrl
        obtain ⟨wo, rfl⟩ : ∃ wo, wo = wr := ⟨_, rfl⟩
        have Hrul := Lib.hid hrul
        have HR := Lib.hid hbr
        have HBr := Lib.hid (Bx.grownB HB3.out hbr.gr (by have h1 : wS.heap.size ≤ bp := Hbp.out; have h2 := HBs.out.top; simp at h2 ⊢; omega))
        clear hrul hbr hqx
        by_cases hkn : k < n
        · have hkl : k < ps.length := by have := Hn.out; omega
          obtain ⟨t, ht⟩ : ∃ t, ps[k] = t := ⟨_, rfl⟩
          have htl : t.length ≤ L.length := by rw [← ht]; exact Hsu.out _ (List.getElem_mem hkl)
          have htd : Hid (rulesP (ps.dropLast.drop k) = match ruleP t with | none => none | some x => (rulesP (ps.dropLast.drop (k + 1))).map (x :: ·)) := by
            show _ = _
            have h1 : k < ps.dropLast.length := by rw [List.length_dropLast]; have := Hn.out; omega
            rw [List.drop_eq_getElem_cons h1]
            have h2 : ps.dropLast[k] = t := by rw [List.getElem_dropLast]; exact ht
            rw [h2]
            rfl
          have hct : wo.cell? ⟨w.heap.size + 1, k, none⟩ = some (.string (bsL t)) := by rw [HBr.out.cells1, strRow_get ps k hkl, ht]
          have Htl := Lib.hid htl
          clear ht htl hkl
          go_wp2_with fail
          refine (splitc_any 32 t _ (HL.out.below HBr.out.bel) (by have := Htl.out; have := Hlen.out; omega)).mono ?_
          obtain ⟨u0, us, hus, _⟩ := text_words _ t (Nat.le_refl _)
          rw [show Lib.split t [32] = u0 :: us from hus]
          rintro e w4 ⟨rfl, rfl⟩
          have HZ := Lib.hid (Bx.one (w := wo) (o := .cells (strRow (u0 :: us)) 9))
          have HR4 := Lib.hid (HR.out.rules HZ.out.bel)
          have HB4 := Lib.hid (HBr.out.below HZ.out.bel)
          revert HZ HR4 HB4
          generalize (wo.alloc (.cells (strRow (u0 :: us)) 9)) = w4
          intro HZ HR4 HB4
          obtain ⟨N2, hN2⟩ : ∃ N2 : Nat, (u0 :: us).length = N2 := ⟨_, rfl⟩
          have HN2 := Lib.hid hN2
          rw [hN2]
          have hpos3 : 0 < N2 := by rw [← hN2]; simp
          have HCW : Hid (∀ W, Cls w4.heap.size w4 W → W.cell? ⟨wo.heap.size, 0, none⟩ = some (.string (bsL u0))) := fun W hW => by rw [(HZ.out.below hW.2).cells0]; rfl
          obtain ⟨V, hV⟩ : ∃ V, Lib.idxOfS (verdictBs.take 5) (bsL u0) = V := ⟨_, rfl⟩
          have HV : Hid (Lib.idxOfS [bsL [107, 105, 108, 108], bsL [116, 114, 97, 112], bsL [102, 97, 105, 108], bsL [108, 111, 103], bsL [97, 108, 108, 111, 119]] (bsL u0) = V) := hV
          have HVD : Hid (V = match verdictOf u0 with | some f => f | none => -1) := by show _ = _; rw [← hV, verdict_idx]; cases verdictOf u0 <;> rfl
          have Hrp : Hid (ruleP t = match verdictOf u0 with | none => none | some v => (condsOf us).map fun cs => ⟨cs, v⟩) := by show _ = _; unfold ruleP; rw [hus]; cases hvv : verdictOf u0 <;> simp [hvv]
          have Hus := Lib.hid hus
          have Hw4 := Lib.hid HB4.out.top
          have Hz4 := Lib.hid HZ.out.top
          clear hV hN2 hct hus
          go_wp2_with fail
          refine wp_region_init (w4.heap.size) (Nat.le_refl _) 64 2 (fun _ => []) 6 7 (fun _ => #[.slice none 0 0, .int .i64 V]) verG (by kernel_rfl) (by kernel_rfl) _ rfl (by decide) (fun _ => by simp) (fun _ => rfl) (fun i k _ _ _ _ _ _ _ _ hi h => verG_keep (by decide) hi h) (fun k _ f g _ _ hk h => verG_proper hk h) (fun f g h => rfl) ?_
          (refine rel_pr (fun K hK => ?_); refine ⟨fun done vf W hI h0 hd hn hf R hR => ?_, ?_⟩; (clear h0 hd hn hf; go_simp; go_at_call 31; refine (verdicts_any _).mono ?_; (rintro e w4 ⟨rfl, rfl⟩; exact ⟨_, rfl, hR _ _ (Cls.step hI (bel_alloc (Below.refl _ _) _)) (initT.plain (bel_alloc (Below.refl _ _) _) (by decide)) trivial ⟨_, rfl, heap_last _ _⟩⟩)); (go_simp; refine hK _ ?_; clear hK K))
          (refine rel_ex (fun K hK => ?_); apply Exists.intro; refine ⟨fun done vf W hI h0 hd hn hf R hR => ?_, ?_, ?_⟩; (have hcw := HCW.out W hI; clear h0 hd hn hf; go_simp; exact hR _ _ (Cls.step hI (Below.refl _ _)) (initT.plain (Below.refl _ _) (by decide)) rfl trivial); exact (fun _ _ _ => rfl); (go_simp; refine hK _ ?_; clear hK K))
          (refine rel_ex (fun K hK => ?_); apply Exists.intro; refine ⟨fun done vf W hI h0 hd hn hf R hR => ?_, ?_, ?_⟩; (have hcw := HCW.out W hI; clear h0 hd hn hf; go_simp; exact hR _ _ (Cls.step hI (Below.refl _ _)) (initT.plain (Below.refl _ _) (by decide)) rfl trivial); exact (fun _ _ _ => rfl); (go_simp; refine hK _ ?_; clear hK K))
          (refine rel_ex (fun K hK => ?_); apply Exists.intro; refine ⟨fun done vf W hI h0 hd hn hf R hR => ?_, ?_, ?_⟩; (have hcw := HCW.out W hI; clear h0 hd hn hf; go_simp; exact hR _ _ (Cls.step hI (Below.refl _ _)) (initT.plain (Below.refl _ _) (by decide)) rfl trivial); exact (fun _ _ _ => rfl); (go_simp; refine hK _ ?_; clear hK K))
          (refine rel_ex (fun K hK => ?_); apply Exists.intro; refine ⟨fun done vf W hI h0 hd hn hf R hR => ?_, ?_, ?_⟩; (have h1 : rowAt verdictRow (vf 0) W := hf 0 (hd 0 (by decide)); obtain ⟨g, hv, hg⟩ := h1; have Hg := Lib.hid hg; clear h0 hd hn hf hg; go_simp; go_at_call 41; refine (rowidx_any [107, 105, 108, 108] [116, 114, 97, 112] [102, 97, 105, 108] [108, 111, 103] [97, 108, 108, 111, 119] (u0) g _ Hg.out).mono ?_; rw [HV.out]; (rintro e w4 ⟨rfl, rfl⟩; exact ⟨_, rfl, hR _ _ (Cls.step hI (Below.refl _ _)) (initT.plain (Below.refl _ _) (by decide)) rfl trivial⟩)); exact (fun _ _ _ => rfl); (go_simp; refine hK _ ?_; clear hK K))
          (refine rel_ex (fun K hK => ?_); apply Exists.intro; refine ⟨fun done vf W hI h0 hd hn hf R hR => ?_, ?_, ?_⟩; (have hcw := HCW.out W hI; clear h0 hd hn hf; go_simp; exact hR _ _ (Cls.step hI (Below.refl _ _)) (initT.plain (Below.refl _ _) (by decide)) rfl trivial); exact (fun _ _ _ => rfl); (go_simp; refine hK _ ?_; clear hK K))
          (refine rel_pr (fun K hK => ?_); refine ⟨fun done vf W hI h0 hd hn hf R hR => ?_, ?_⟩; (clear h0 hd hn hf; go_simp; exact hR _ _ (Cls.step hI (bel_alloc (Below.refl _ _) _)) (initT.plain (bel_alloc (Below.refl _ _) _) (by decide)) trivial ⟨_, rfl, hI.1, _, rfl, heap_last _ _⟩); (go_simp; refine hK _ ?_; clear hK K))
          (refine rel_pr (fun K hK => ?_); refine ⟨fun done vf W hI h0 hd hn hf R hR => ?_, ?_⟩; (have h11 : VarAt (w4.heap.size) 64 2 (vf 6) W := hf 6 (hd 6 (by decide)); obtain ⟨bx, h11, hbx, cs, hcs, hc11⟩ := h11; obtain ⟨d0, d1, rfl⟩ := two_cells hcs; have hce := cells_of hc11; have hfe := not_frozen hc11; have Hc11 := Lib.hid hc11; have Hst : Hid (((W.setCell ⟨bx, 0, none⟩ (.slice none 0 0)).setCell ⟨bx, 1, none⟩ (.int .i64 V)).heap[bx]? = some (.cells #[.slice none 0 0, .int .i64 V] 64)) := set_at (set_at hc11); clear h0 hd hn hf hc11 hcs; go_simp; exact hR _ _ ⟨by simp only [set_size]; exact hI.1, set_below (set_below hI.2 hbx) hbx⟩ ⟨InitT.of_sets2 Hc11.out, fun _ => ⟨bx, h11, Hst.out⟩⟩ trivial ⟨bx, h11, Hst.out⟩); (go_simp; refine hK _ ?_; clear hK K))
          intro done2 vf2 w5 hd hI hFF
          have h15 : VarIs 64 (vf2 6) #[.slice none 0 0, .int .i64 V] w5 := hFF 7 (by decide)
          have h14 : VarAt w4.heap.size 64 2 (vf2 6) w5 := hFF 6 (by decide)
          obtain ⟨b5, hbv5, hbx5⟩ := h15
          obtain ⟨br, hbv6, hbr5, _⟩ := h14
          have hbb : br = b5 := by rw [hbv5] at hbv6; injection hbv6 with e; injection e with e; injection e with e; exact e.symm
          subst hbb
          have HB5 := Lib.hid (HB4.out.below hI.2)
          have HR5 := Lib.hid (HR4.out.rules hI.2)
          have HZ5 := Lib.hid (HZ.out.below hI.2)
          have Hb5 := Lib.hid hbx5
          have Hbr := Lib.hid hbr5
          have hqx5 := cells_of hbx5
          have Hb45 := Lib.hid hI.2
          clear hbv6 hbr5 hd hI hFF hbx5 HCW HB4 HZ
          cases hv : verdictOf u0 with
          | none =>
            have hD1 : V = -1 := by have := HVD.out; rw [hv] at this; exact this
            subst hD1
            have HPE : Hid (textE L = (⟨[], 0⟩, 1)) := by show _ = _; rw [HE.out, HPL.out, Hrul.out, htd.out, Hrp.out, hv]; rfl
            have hq0 := HB5.out.cells0
            have hf0 := HB5.out.free0
            have HS := Lib.hid ((HB5.out.set (i := 0) rfl 0 (.slice none 0 0)).set (i := 0) rfl 1 (.int .i64 0))
            have hqs := HS.out.cells0
            have HBL : Hid (Below w.heap.size w ((w5.setCell ⟨w.heap.size, 0, none⟩ (.slice none 0 0)).setCell ⟨w.heap.size, 1, none⟩ (.int .i64 0))) := HS.out.bel
            clear hv HS
            go_wp2
            refine bodyPost_ret (v := .tuple #[polV (.slice none 0 0) 0, .int .i64 1]) ?_ rfl (by rw [HPE.out]; exact ⟨_, rfl, nil_rulesP _ _, HBL.out⟩)
            rw [results_cell_tmp rfl]
            go_simp
          | some v =>
            have hD1 : V = v := by have := HVD.out; rw [hv] at this; exact this
            subst hD1
            have hV0 : ¬ V < 0 := by
              unfold verdictOf at hv
              repeat' split at hv
              all_goals first | (injection hv with hv; omega) | cases hv
            have Hru : Hid (ruleP t = (condsOf us).map fun cs => ⟨cs, V⟩) := by show _ = _; rw [Hrp.out, hv]
            clear hv
            have Hul : Hid (∀ u ∈ us, u.length ≤ t.length) := fun u hu => (split_small 32 t).2 u (by rw [show Lib.split t [32] = u0 :: us from Hus.out]; exact List.mem_cons_of_mem _ hu)
            rcases Nat.eq_zero_or_pos us.length with hm0 | hm0
            · obtain rfl : N2 = 1 := by have h1 : (u0 :: us).length = N2 := HN2.out; simp only [List.length_cons] at h1; omega
              have Hm0 := Lib.hid hm0
              clear hm0
              go_wp2_with fail
              go_loopw [59] (fun jv wx => ∃ (j : Nat) (cs : List TCond) (cv : Value), jv = .int .i64 j ∧ j ≤ us.length ∧ cs.length = j ∧ condsOf us = (condsOf (us.drop j)).map (cs ++ ·) ∧ BoxRow w5 wx br 64 72 3 condR (.int .i64 V) cv cs) (fun jv _ => us.length - (intOf jv).toNat)
              case atStart => exact ⟨0, [], _, rfl, Nat.zero_le _, rfl, by simp, BoxRow.start Hb5.out⟩
              case round =>
                obtain ⟨j, cs, cv, rfl, hj, hcl, hcs, hbc⟩ := hrel
                obtain ⟨wx, rfl⟩ : ∃ wx, wx = wr := ⟨_, rfl⟩
                have Hcs := Lib.hid hcs
                have HC := Lib.hid hbc
                have Hcl := Lib.hid hcl
                have HBx := Lib.hid (Bx.grownB HB5.out hbc.gr (by have h1 : w4.heap.size ≤ br := Hbr.out; have h2 := Hw4.out; simp at h2 ⊢; omega))
                have HZx := Lib.hid (Bx.grownB HZ5.out hbc.gr (by have h1 : w4.heap.size ≤ br := Hbr.out; have h2 := Hz4.out; simp at h2 ⊢; omega))
                clear hcs hbc hcl
                have husl : us.length ≤ 60001 := by have h1 := (split_small 32 t).1; rw [show Lib.split t [32] = u0 :: us from Hus.out] at h1; simp only [List.length_cons] at h1; have := Htl.out; have := Hlen.out; omega
                by_cases hjl : j < us.length
                · exact absurd hjl (by have := Hm0.out; omega)
                · obtain rfl : j = us.length := by omega
                  have hcs0 : us.drop us.length = [] := List.drop_length
                  have Hcs3 : Hid (condsOf us = some cs) := by show _ = _; rw [Hcs.out, hcs0]; simp [condsOf]
                  have Hrt : Hid (ruleP t = some ⟨cs, V⟩) := by show _ = _; rw [Hru.out, Hcs3.out]; rfl
                  have Hrul2 : Hid (rulesP ps.dropLast = (rulesP (ps.dropLast.drop (k + 1))).map ((rs ++ [⟨cs, V⟩]) ++ ·)) := by show _ = _; rw [Hrul.out, htd.out, Hrt.out]; cases rulesP (ps.dropLast.drop (k + 1)) <;> simp
                  obtain ⟨ac, cc, rfl⟩ := HC.out.own.slice
                  have Hb4x : Hid (Below w4.heap.size w4 wx) := Below.grown Hb45.out HC.out.gr Hb45.out.size (fun g e => by injection e with e; have h1 : w4.heap.size ≤ br := Hbr.out; omega)
                  have HRx := Lib.hid (HR4.out.rules Hb4x.out)
                  have Hplt : Hid (∀ g, pv.ownBlock = some g → g < w4.heap.size) := fun g hg => by obtain ⟨o, h1, _⟩ := OwnSl.typed HR4.out.own g hg; exact (Array.getElem?_eq_some_iff.1 h1).1
                  have H35 : Hid (w3.heap.size ≤ w4.heap.size ∧ w4.heap.size ≤ w5.heap.size ∧ w5.heap.size ≤ wx.heap.size) := ⟨HR4.out.gr.size, Hb45.out.size, HC.out.gr.size⟩
                  have Hbpl : Hid (bp < w3.heap.size) := (Array.getElem?_eq_some_iff.1 Hbx.out).1
                  have HCd : Hid (RdConds wx (fun b => w5.heap.size ≤ b) (.slice ac cs.length cc) cs) := OwnSl.sl HC.out.own (fun _ hb => hb)
                  obtain ⟨ap, cp, rfl⟩ := HRx.out.own.slice
                  have hrc := cells_of HC.out.rc
                  have hpc := cells_of HRx.out.rc
                  have HA := Lib.hid (bel_alloc (Below.refl wx.heap.size wx) (.cells #[.slice ac cs.length cc, .int .i64 V] 64))
                  have HRy := Lib.hid (HRx.out.rules HA.out)
                  have HR1 : Hid (Sl (wx.alloc (.cells #[.slice ac cs.length cc, .int .i64 V] 64)) (fun _ => True) 2 (ruleR (wx.alloc (.cells #[.slice ac cs.length cc, .int .i64 V] 64)) (fun x => w3.heap.size ≤ x ∧ (Value.slice ap rs.length cp).ownBlock ≠ some x)) (.slice (some ⟨wx.heap.size, 0, none⟩) 1 1) [(⟨cs, V⟩ : TRule)]) :=
                    sl_block (sz := 2) (xs := [(⟨cs, V⟩ : TRule)]) (rows := [[.slice ac cs.length cc, .int .i64 V]]) (RowsOf.cons RowsOf.nil ⟨_, rfl, HCd.out.keep (fun b hb _ => by
                      have h1 : w5.heap.size ≤ b := hb
                      obtain ⟨h2, h3, _⟩ := H35.out
                      exact ⟨by omega, fun e => by have := Hplt.out b e; omega⟩) (fun b _ hl => HA.out.block b hl) HA.out.size⟩ rfl) (heap_last _ _) rfl trivial (by simp [maxLen])
                  have hpc7 := cells_of HRy.out.rc
                  obtain ⟨i0, hi, hz0, hz1, hz2⟩ := info_parts infoRuleP
                  have Hi := Lib.hid hi
                  have Hks : Hid (rs.length ≤ 60001) := by show _ ≤ _; rw [Hrl.out]; have := Hns.out; omega
                  clear hi
                  go_wp2_with (at_builtin; (
                    refine wpList_app2 rfl _ _ 22 rfl w3.heap.size 64 i0 _ 2 32 Tryd.underlying22 Hi.out hz0 hz1 hz2 rfl (by decide) _ _ rfl HRy.out.own _ _ rfl HR1.out (fun y _ cs h => ruleR_oneP y cs h) (by have := Hks.out; show _ + 1 ≤ maxLen; unfold maxLen; omega) (by have := Hks.out; show (_ + 1) * 32 ≤ _; omega) HRy.out.gr.size ?_
                    intro v8 w8 hown8 hg8 hat8
                    obtain ⟨a8, c8, rfl⟩ := hown8.slice
                    have HC8 := Lib.hid (HRy.out.app (R' := ruleR (w8.setCell ⟨bp, 0, none⟩ (.slice a8 (rs ++ [(⟨cs, V⟩ : TRule)]).length c8)) (fun x => w3.heap.size ≤ x ∧ (Value.slice a8 (rs ++ [(⟨cs, V⟩ : TRule)]).length c8).ownBlock ≠ some x)) Hbpl.out (hown8.monoR fun _ _ _ ⟨u, h1, h2⟩ => ⟨u, h1, h2.keep (fun x hx hl => ⟨hx.1, fun e => by
                      rcases hat8 with h9 | h9
                      · exact hx.2 (h9.symm.trans e)
                      · rw [h9] at e; injection e with e; omega⟩) (fun x hx hl => by
                        rw [set_other (by have h1 : w3.heap.size ≤ x := hx.1; have := Hbpl.out; show x ≠ bp; omega)]
                        exact hg8.block x hl (fun e => hx.2 e.symm)) (by rw [set_size]; exact hg8.size)⟩) hg8)
                    have hrc8 := cells_of (HRy.out.rcg Hbpl.out hg8)
                    have hfr8 := not_frozen (HRy.out.rcg Hbpl.out hg8)
                    clear hown8 hg8 hat8))
                  go_roundw
                  case rel => exact ⟨k + 1, rs ++ [⟨cs, V⟩], _, by go_num, by omega, by rw [List.length_append, Hrl.out]; rfl, Hrul2.out, by first | exact HC8.out | simpa using HC8.out⟩
                  case measure => simp [intOf]; omega
            · have hN1 : ¬ N2 = 1 := by have h1 : (u0 :: us).length = N2 := HN2.out; simp only [List.length_cons] at h1; omega
              have hNm : (N2 : Int) - 1 = (us.length : Int) := by have h1 : (u0 :: us).length = N2 := HN2.out; simp only [List.length_cons] at h1; omega
              have hNn : N2 - 1 = us.length := by have h1 : (u0 :: us).length = N2 := HN2.out; simp only [List.length_cons] at h1; omega
              clear hm0
              go_wp2_with fail
              go_loopw [59] (fun jv wx => ∃ (j : Nat) (cs : List TCond) (cv : Value), jv = .int .i64 j ∧ j ≤ us.length ∧ cs.length = j ∧ condsOf us = (condsOf (us.drop j)).map (cs ++ ·) ∧ BoxRow w5 wx br 64 72 3 condR (.int .i64 V) cv cs) (fun jv _ => us.length - (intOf jv).toNat)
              case atStart => exact ⟨0, [], _, rfl, Nat.zero_le _, rfl, by simp, BoxRow.start Hb5.out⟩
              case round =>
                obtain ⟨j, cs, cv, rfl, hj, hcl, hcs, hbc⟩ := hrel
                obtain ⟨wx, rfl⟩ : ∃ wx, wx = wr := ⟨_, rfl⟩
                have Hcs := Lib.hid hcs
                have HC := Lib.hid hbc
                have Hcl := Lib.hid hcl
                have HBx := Lib.hid (Bx.grownB HB5.out hbc.gr (by have h1 : w4.heap.size ≤ br := Hbr.out; have h2 := Hw4.out; simp at h2 ⊢; omega))
                have HZx := Lib.hid (Bx.grownB HZ5.out hbc.gr (by have h1 : w4.heap.size ≤ br := Hbr.out; have h2 := Hz4.out; simp at h2 ⊢; omega))
                clear hcs hbc hcl
                have husl : us.length ≤ 60001 := by have h1 := (split_small 32 t).1; rw [show Lib.split t [32] = u0 :: us from Hus.out] at h1; simp only [List.length_cons] at h1; have := Htl.out; have := Hlen.out; omega
                by_cases hjl : j < us.length
                · obtain ⟨x, hx⟩ : ∃ x, us[j] = x := ⟨_, rfl⟩
                  have hcw : wx.cell? ⟨wo.heap.size, 1 + j, none⟩ = some (.string (bsL x)) := by rw [HZx.out.cells0, strRow_get (u0 :: us) (1 + j) (by simp; omega)]; simp only [Nat.add_comm 1 j, List.getElem_cons_succ]; rw [hx]
                  have hxl : x.length ≤ 60000 := by have := Hul.out x (by rw [← hx]; exact List.getElem_mem hjl); have := Htl.out; have := Hlen.out; omega
                  have Hcd0 : Hid (condsOf (us.drop j) = match condOf x with | none => none | some c => (condsOf (us.drop (j + 1))).map (c :: ·)) := by show _ = _; rw [List.drop_eq_getElem_cons hjl, hx]; rfl
                  clear hx
                  go_wp2_with fail
                  refine (condition_any x _ (HL.out.below HBx.out.bel) hxl).mono ?_
                  rintro e w6 ⟨⟨f, o, nn, b, rfl, hco⟩, hb6⟩
                  have HC6 := Lib.hid (HC.out.below hb6)
                  have HBy := Lib.hid (HBx.out.below hb6)
                  have HK0 := Lib.hid (Bx.one (w := w6) (o := .cells #[.int .i64 0, .int .i64 0, .int .i64 0] 72))
                  have HK := Lib.hid (Bx.one (w := w6) (o := .cells #[.int .i64 f, .int .i64 o, .int .i64 nn] 72))
                  have Hco := Lib.hid hco
                  clear hb6 hco hcw hxl
                  cases b with
                  | false =>
                    have Hcd : Hid (condsOf (us.drop j) = none) := by show _ = _; rw [Hcd0.out, Hco.out]; rfl
                    have HBx6 := Lib.hid (HBy.out.below HK.out.bel)
                    have hk0 := HK0.out.cells0
                    have hk1 := HK0.out.free0
                    revert HBx6
                    generalize hwk : (w6.alloc (.cells #[.int .i64 f, .int .i64 o, .int .i64 nn] 72)) = wk
                    intro HBx6
                    have HPE : Hid (textE L = (⟨[], 0⟩, 1)) := by show _ = _; rw [HE.out, HPL.out, Hrul.out, htd.out, Hru.out, Hcs.out, Hcd.out]; rfl
                    have hq0 := HBx6.out.cells0
                    have hf0 := HBx6.out.free0
                    have HS := Lib.hid ((HBx6.out.set (i := 0) rfl 0 (.slice none 0 0)).set (i := 0) rfl 1 (.int .i64 0))
                    have hqs := HS.out.cells0
                    have HBL : Hid (Below w.heap.size w ((wk.setCell ⟨w.heap.size, 0, none⟩ (.slice none 0 0)).setCell ⟨w.heap.size, 1, none⟩ (.int .i64 0))) := HS.out.bel
                    clear HS
                    go_wp2
                    refine bodyPost_ret (v := .tuple #[polV (.slice none 0 0) 0, .int .i64 1]) ?_ rfl (by rw [HPE.out]; exact ⟨_, rfl, nil_rulesP _ _, HBL.out⟩)
                    rw [results_cell_tmp rfl]
                    go_simp
                  | true =>
                    have Hcd : Hid (condsOf (us.drop j) = (condsOf (us.drop (j + 1))).map (⟨f, o, nn⟩ :: ·)) := by show _ = _; rw [Hcd0.out, Hco.out]; rfl
                    have Hcs2 : Hid (condsOf us = (condsOf (us.drop (j + 1))).map ((cs ++ [⟨f, o, nn⟩]) ++ ·)) := by show _ = _; rw [Hcs.out, Hcd.out]; cases condsOf (us.drop (j + 1)) <;> simp
                    obtain ⟨ac, cc, rfl⟩ := HC6.out.own.slice
                    have HCk := Lib.hid (HC6.out.below HK.out.bel)
                    have hk0 := HK0.out.cells0
                    have hk1 := HK0.out.free0
                    have hkc := HK.out.cells0
                    have Hk6 := Lib.hid HK.out.bel.size
                    revert HCk hkc Hk6
                    generalize hwk : (w6.alloc (.cells #[.int .i64 f, .int .i64 o, .int .i64 nn] 72)) = wk
                    intro HCk hkc Hk6
                    have hrc := cells_of HCk.out.rc
                    have HR1 : Hid (RdConds (wk.alloc (.cells #[.int .i64 f, .int .i64 o, .int .i64 nn] 72)) (fun _ => True) (.slice (some ⟨wk.heap.size, 0, none⟩) 1 1) [⟨f, o, nn⟩]) := sl_block (R := condR) (sz := 3) (xs := [(⟨f, o, nn⟩ : TCond)]) (rows := [[.int .i64 f, .int .i64 o, .int .i64 nn]]) (RowsOf.cons RowsOf.nil rfl rfl) (heap_last _ _) rfl trivial (by simp [maxLen])
                    have HC7 := Lib.hid (HCk.out.below (bel_alloc (Below.refl wk.heap.size wk) (.cells #[.int .i64 f, .int .i64 o, .int .i64 nn] 72)))
                    have hrc7 := cells_of HC7.out.rc
                    obtain ⟨i0, hi, hz0, hz1, hz2⟩ := info_parts infoCondP
                    have Hi := Lib.hid hi
                    have Hjs : Hid (cs.length ≤ 60001) := by show _ ≤ _; rw [Hcl.out]; have h1 := (split_small 32 t).1; rw [show Lib.split t [32] = u0 :: us from Hus.out] at h1; simp only [List.length_cons] at h1; have := Htl.out; have := Hlen.out; omega
                    have Hbrl : Hid (br < w5.heap.size) := (Array.getElem?_eq_some_iff.1 Hb5.out).1
                    clear hi
                    go_wp2_with (at_builtin; (
                      refine wpList_app2 rfl _ _ 62 rfl w5.heap.size 72 i0 _ 3 24 Tryd.underlying62 Hi.out hz0 hz1 hz2 rfl (by decide) _ _ rfl HC7.out.own _ _ rfl HR1.out (fun y _ cs h => condR_oneP y cs h) (by have := Hjs.out; show _ + 1 ≤ maxLen; unfold maxLen; omega) (by have := Hjs.out; show (_ + 1) * 24 ≤ _; omega) HC7.out.gr.size ?_
                      intro v8 w8 hown8 hg8 hat8
                      obtain ⟨a8, c8, rfl⟩ := hown8.slice
                      have HC8 := Lib.hid (HC7.out.app Hbrl.out hown8 hg8)
                      have hrc8 := cells_of (HC7.out.rcg Hbrl.out hg8)
                      have hfr8 := not_frozen (HC7.out.rcg Hbrl.out hg8)
                      clear hown8 hg8 hat8))
                    go_roundw
                    case rel => exact ⟨j + 1, cs ++ [⟨f, o, nn⟩], _, by go_num, by omega, by rw [List.length_append, Hcl.out]; rfl, Hcs2.out, by first | exact HC8.out | simpa using HC8.out⟩
                    case measure => simp [intOf]; omega
                · obtain rfl : j = us.length := by omega
                  have hcs0 : us.drop us.length = [] := List.drop_length
                  have Hcs3 : Hid (condsOf us = some cs) := by show _ = _; rw [Hcs.out, hcs0]; simp [condsOf]
                  have Hrt : Hid (ruleP t = some ⟨cs, V⟩) := by show _ = _; rw [Hru.out, Hcs3.out]; rfl
                  have Hrul2 : Hid (rulesP ps.dropLast = (rulesP (ps.dropLast.drop (k + 1))).map ((rs ++ [⟨cs, V⟩]) ++ ·)) := by show _ = _; rw [Hrul.out, htd.out, Hrt.out]; cases rulesP (ps.dropLast.drop (k + 1)) <;> simp
                  obtain ⟨ac, cc, rfl⟩ := HC.out.own.slice
                  have Hb4x : Hid (Below w4.heap.size w4 wx) := Below.grown Hb45.out HC.out.gr Hb45.out.size (fun g e => by injection e with e; have h1 : w4.heap.size ≤ br := Hbr.out; omega)
                  have HRx := Lib.hid (HR4.out.rules Hb4x.out)
                  have Hplt : Hid (∀ g, pv.ownBlock = some g → g < w4.heap.size) := fun g hg => by obtain ⟨o, h1, _⟩ := OwnSl.typed HR4.out.own g hg; exact (Array.getElem?_eq_some_iff.1 h1).1
                  have H35 : Hid (w3.heap.size ≤ w4.heap.size ∧ w4.heap.size ≤ w5.heap.size ∧ w5.heap.size ≤ wx.heap.size) := ⟨HR4.out.gr.size, Hb45.out.size, HC.out.gr.size⟩
                  have Hbpl : Hid (bp < w3.heap.size) := (Array.getElem?_eq_some_iff.1 Hbx.out).1
                  have HCd : Hid (RdConds wx (fun b => w5.heap.size ≤ b) (.slice ac cs.length cc) cs) := OwnSl.sl HC.out.own (fun _ hb => hb)
                  obtain ⟨ap, cp, rfl⟩ := HRx.out.own.slice
                  have hrc := cells_of HC.out.rc
                  have hpc := cells_of HRx.out.rc
                  have HA := Lib.hid (bel_alloc (Below.refl wx.heap.size wx) (.cells #[.slice ac cs.length cc, .int .i64 V] 64))
                  have HRy := Lib.hid (HRx.out.rules HA.out)
                  have HR1 : Hid (Sl (wx.alloc (.cells #[.slice ac cs.length cc, .int .i64 V] 64)) (fun _ => True) 2 (ruleR (wx.alloc (.cells #[.slice ac cs.length cc, .int .i64 V] 64)) (fun x => w3.heap.size ≤ x ∧ (Value.slice ap rs.length cp).ownBlock ≠ some x)) (.slice (some ⟨wx.heap.size, 0, none⟩) 1 1) [(⟨cs, V⟩ : TRule)]) :=
                    sl_block (sz := 2) (xs := [(⟨cs, V⟩ : TRule)]) (rows := [[.slice ac cs.length cc, .int .i64 V]]) (RowsOf.cons RowsOf.nil ⟨_, rfl, HCd.out.keep (fun b hb _ => by
                      have h1 : w5.heap.size ≤ b := hb
                      obtain ⟨h2, h3, _⟩ := H35.out
                      exact ⟨by omega, fun e => by have := Hplt.out b e; omega⟩) (fun b _ hl => HA.out.block b hl) HA.out.size⟩ rfl) (heap_last _ _) rfl trivial (by simp [maxLen])
                  have hpc7 := cells_of HRy.out.rc
                  obtain ⟨i0, hi, hz0, hz1, hz2⟩ := info_parts infoRuleP
                  have Hi := Lib.hid hi
                  have Hks : Hid (rs.length ≤ 60001) := by show _ ≤ _; rw [Hrl.out]; have := Hns.out; omega
                  clear hi
                  go_wp2_with (at_builtin; (
                    refine wpList_app2 rfl _ _ 22 rfl w3.heap.size 64 i0 _ 2 32 Tryd.underlying22 Hi.out hz0 hz1 hz2 rfl (by decide) _ _ rfl HRy.out.own _ _ rfl HR1.out (fun y _ cs h => ruleR_oneP y cs h) (by have := Hks.out; show _ + 1 ≤ maxLen; unfold maxLen; omega) (by have := Hks.out; show (_ + 1) * 32 ≤ _; omega) HRy.out.gr.size ?_
                    intro v8 w8 hown8 hg8 hat8
                    obtain ⟨a8, c8, rfl⟩ := hown8.slice
                    have HC8 := Lib.hid (HRy.out.app (R' := ruleR (w8.setCell ⟨bp, 0, none⟩ (.slice a8 (rs ++ [(⟨cs, V⟩ : TRule)]).length c8)) (fun x => w3.heap.size ≤ x ∧ (Value.slice a8 (rs ++ [(⟨cs, V⟩ : TRule)]).length c8).ownBlock ≠ some x)) Hbpl.out (hown8.monoR fun _ _ _ ⟨u, h1, h2⟩ => ⟨u, h1, h2.keep (fun x hx hl => ⟨hx.1, fun e => by
                      rcases hat8 with h9 | h9
                      · exact hx.2 (h9.symm.trans e)
                      · rw [h9] at e; injection e with e; omega⟩) (fun x hx hl => by
                        rw [set_other (by have h1 : w3.heap.size ≤ x := hx.1; have := Hbpl.out; show x ≠ bp; omega)]
                        exact hg8.block x hl (fun e => hx.2 e.symm)) (by rw [set_size]; exact hg8.size)⟩) hg8)
                    have hrc8 := cells_of (HRy.out.rcg Hbpl.out hg8)
                    have hfr8 := not_frozen (HRy.out.rcg Hbpl.out hg8)
                    clear hown8 hg8 hat8))
                  go_roundw
                  case rel => exact ⟨k + 1, rs ++ [⟨cs, V⟩], _, by go_num, by omega, by rw [List.length_append, Hrl.out]; rfl, Hrul2.out, by first | exact HC8.out | simpa using HC8.out⟩
                  case measure => simp [intOf]; omega
        · obtain rfl : k = n := by omega
          have hdl : ps.dropLast.drop k = [] := List.drop_eq_nil_of_le (by rw [List.length_dropLast]; have := Hn.out; omega)
          have hpf : parseL ps = some ⟨rs, D⟩ := by rw [HPL.out, Hrul.out, hdl]; simp [rulesP]
          have HPF := Lib.hid hpf
          obtain ⟨ap, cp, rfl⟩ := HR.out.own.slice
          have hrd : RdRules wo (fun b => w3.heap.size ≤ b) (.slice ap rs.length cp) rs := OwnSl.sl (HR.out.own.monoR (R' := ruleR wo (fun b => w3.heap.size ≤ b)) fun _ _ _ ⟨u, h1, h2⟩ => ⟨u, h1, h2.keep (fun _ hb _ => hb.1) (fun _ _ _ => rfl) (Nat.le_refl _)⟩) (fun _ hb => hb)
          have HRd := Lib.hid hrd
          have hqp := cells_of HR.out.rc
          have Hw3 : Hid (w.heap.size + 2 ≤ w3.heap.size) := by show _ ≤ _; have := HB3.out.top; simpa using this
          clear hdl hpf hrd
          go_wp2_with fail
          refine (polcheck_any _ ⟨rs, D⟩ _ _ HRd.out).mono ?_
          rintro e w4 ⟨rfl, hb4⟩
          have HB4 := Lib.hid (HBr.out.below hb4)
          have HR4 := Lib.hid (HRd.out.below hb4)
          have hqp4 := cells_of (blk_below HR.out.rc hb4)
          have hq0 := HB4.out.cells0
          have hf0 := HB4.out.free0
          clear hb4 hqp
          by_cases hp : polE ⟨rs, D⟩ = 0
          · have HPE : Hid (textE L = (⟨rs, D⟩, 0)) := by show _ = _; rw [HE.out, HPF.out]; show (if _ then _ else _) = _; rw [if_pos hp]
            have HS := Lib.hid ((HB4.out.set (i := 0) rfl 0 (.slice ap rs.length cp)).set (i := 0) rfl 1 (.int .i64 D))
            have hqs := HS.out.cells0
            have HBL : Hid (Below w.heap.size w ((w4.setCell ⟨w.heap.size, 0, none⟩ (.slice ap rs.length cp)).setCell ⟨w.heap.size, 1, none⟩ (.int .i64 D))) := HS.out.bel
            have HRF : Hid (RdRules ((w4.setCell ⟨w.heap.size, 0, none⟩ (.slice ap rs.length cp)).setCell ⟨w.heap.size, 1, none⟩ (.int .i64 D)) (fun b => w.heap.size ≤ b) (.slice ap rs.length cp) rs) := HR4.out.keep (fun b hb _ => by have h1 : w3.heap.size ≤ b := hb; have := Hw3.out; show w.heap.size ≤ b; omega) (fun b hb _ => by
              have h1 : w3.heap.size ≤ b := hb
              have := Hw3.out
              rw [set_other (by show b ≠ w.heap.size; omega), set_other (by show b ≠ w.heap.size; omega)]) (by rw [set_size, set_size]; exact Nat.le_refl _)
            rw [hp]
            clear hp HS
            go_wp2
            refine bodyPost_ret (v := .tuple #[polV (.slice ap rs.length cp) D, .int .i64 0]) ?_ rfl (by rw [HPE.out]; exact ⟨_, rfl, HRF.out, HBL.out⟩)
            rw [results_cell_tmp rfl]
            go_simp
          · have HPE : Hid (textE L = (⟨[], 0⟩, polE ⟨rs, D⟩)) := by show _ = _; rw [HE.out, HPF.out]; show (if _ then _ else _) = _; rw [if_neg hp]
            have hne : (polE ⟨rs, D⟩ != 0) = true := bne_iff_ne.2 hp
            have HS := Lib.hid ((HB4.out.set (i := 0) rfl 0 (.slice none 0 0)).set (i := 0) rfl 1 (.int .i64 0))
            have hqs := HS.out.cells0
            have HBL : Hid (Below w.heap.size w ((w4.setCell ⟨w.heap.size, 0, none⟩ (.slice none 0 0)).setCell ⟨w.heap.size, 1, none⟩ (.int .i64 0))) := HS.out.bel
            generalize polE ⟨rs, D⟩ = pe at *
            clear hp HS
            go_wp2
            refine bodyPost_ret (v := .tuple #[polV (.slice none 0 0) 0, .int .i64 pe]) ?_ rfl (by rw [HPE.out]; exact ⟨_, rfl, nil_rulesP _ _, HBL.out⟩)
            rw [results_cell_tmp rfl]
            go_simp
end Go.Proofs.YthkgjohhbdipcaaDoor
namespace Go.Proofs.YthkgjohhbdipcaaDoor
open Go.RowKit

@[reducible] def callCells (x : TCall) : Array Value := #[.int .i64 x.a0, .int .i64 x.a1, .int .i64 x.a2, .int .i64 x.a3, .int .i64 x.a4]
@[reducible] def condV (c : TCond) : Value := .agg #[.int .i64 c.f, .int .i64 c.op, .int .i64 c.v]

theorem allHold_take {x : TCall} {l : List TCond} {k : Nat} (hk : k < l.length) (h : allHold x (l.take k) = true) (hh : holdsB l[k] x = true) : allHold x (l.take (k + 1)) = true := by
  rw [List.take_succ_eq_append_getElem hk]
  unfold allHold at *
  rw [List.all_append, h]
  simp [hh]
theorem allHold_not {x : TCall} {l : List TCond} {k : Nat} (hk : k < l.length) (hh : holdsB l[k] x = false) : allHold x l = false := by
  unfold allHold
  rw [List.all_eq_false]
  exact ⟨l[k], List.getElem_mem hk, by simp [hh]⟩

end Go.Proofs.YthkgjohhbdipcaaDoor
namespace Go.Proofs.YthkgjohhbdipcaaDoor
open Go.RowKit
attribute [local go_sem] gives givesUpon

theorem take_eq_step' {α : Type} {xs ys : List α} {k : Nat} (hx : k < xs.length) (hy : k < ys.length) (h : xs.take k = ys.take k) (e : xs[k] = ys[k]) : xs.take (k + 1) = ys.take (k + 1) := by
  rw [List.take_succ_eq_append_getElem hx, List.take_succ_eq_append_getElem hy, h, e]
theorem ne_of_get' {α : Type} {xs ys : List α} {k : Nat} (hx : k < xs.length) (hy : k < ys.length) (e : xs[k] ≠ ys[k]) : xs ≠ ys := fun h => e (by subst h; rfl)

theorem run_neq_cond (c d : TCond) (w : World) : (binOp .neq 72 (.agg #[.int .i64 c.f, .int .i64 c.op, .int .i64 c.v]) (.agg #[.int .i64 d.f, .int .i64 d.op, .int .i64 d.v])).run Tryd.prog w = .ok (.bool (!decide (c = d))) w := by
  obtain ⟨f, o, v⟩ := c
  obtain ⟨f', o', v'⟩ := d
  dsimp only
  have hd : decide ((⟨f, o, v⟩ : TCond) = ⟨f', o', v'⟩) = (decide (f = f') && decide (o = o') && decide (v = v')) := by
    rw [Bool.eq_iff_iff]; simp [and_assoc]
  rw [hd]
  clear hd
  by_cases h1 : f = f'
  · have b1 : (f == f') = true := beq_iff_eq.2 h1
    by_cases h2 : o = o'
    · have b2 : (o == o') = true := beq_iff_eq.2 h2
      by_cases h3 : v = v'
      · have b3 : (v == v') = true := beq_iff_eq.2 h3
        rw [decide_eq_true h1, decide_eq_true h2, decide_eq_true h3]
        clear h1 h2 h3
        go_simp
      · have b3 : (v == v') = false := beq_eq_false_iff_ne.2 h3
        rw [decide_eq_true h1, decide_eq_true h2, decide_eq_false h3]
        clear h1 h2 h3
        go_simp
    · have b2 : (o == o') = false := beq_eq_false_iff_ne.2 h2
      rw [decide_eq_true h1, decide_eq_false h2]
      clear h1 h2
      go_simp
  · have b1 : (f == f') = false := beq_eq_false_iff_ne.2 h1
    rw [decide_eq_false h1]
    clear h1
    go_simp

attribute [-go_sem] run_neq_struct
set_option maxHeartbeats 1000000 in
theorem eqconds_any (v u : Value) (xs ys : List TCond) (D : Nat → Prop) (w : World) (h : RdConds w D v xs) (h' : RdConds w D u ys) :
    Calls Tryd.prog 39 #[v, u] w fun e w' => e = .returned (.bool (decide (xs = ys))) ∧ Below w.heap.size w w' := by
  obtain ⟨a, c, rfl, hlc, hcm, hat⟩ := Sl.form h
  obtain ⟨a', c', rfl, hlc', hcm', hat'⟩ := Sl.form h'
  have H := Lib.hid h
  have H' := Lib.hid h'
  clear h h'
  by_cases hl : xs.length = ys.length
  · have b0 : ((xs.length : Int) != (ys.length : Int)) = false := bne_eq_false_iff_eq.2 (by omega)
    have hl' := Lib.hid hl
    have hl1 : xs.length ≤ ys.length := by omega
    have hl2 : ys.length ≤ xs.length := by omega
    clear hl
    go_enter Tryd.func39, Tryd.ntmps39
    go_wp2_with fail
    go_loopw [13] (fun i wr => ∃ k : Nat, k ≤ xs.length ∧ i = .int .i64 k ∧ xs.take k = ys.take k ∧ Below w.heap.size w wr) (fun i _ => xs.length - (intOf i).toNat)
    case atStart => exact ⟨0, by omega, rfl, rfl, Below.refl _ _⟩
    case round =>
      obtain ⟨k, hk, rfl, htk, hbw⟩ := hrel
      have Ht := Lib.hid htk
      have hsz := hbw.size
      clear htk
      by_cases hlt : k < xs.length
      · obtain ⟨b, o, rfl, hDb, hb⟩ := hat (by omega)
        obtain ⟨b', o', rfl, hDb', hb'⟩ := hat' (by omega)
        have hlt' : k < ys.length := by omega
        have hc : ∀ W, Cls w.heap.size wr W → (W.cell? ⟨b, o + k * 3, none⟩ = some (.int .i64 xs[k].f) ∧ W.cell? ⟨b, o + k * 3 + 1, none⟩ = some (.int .i64 xs[k].op) ∧ W.cell? ⟨b, o + k * 3 + 2, none⟩ = some (.int .i64 xs[k].v)) ∧
            (W.cell? ⟨b', o' + k * 3, none⟩ = some (.int .i64 ys[k].f) ∧ W.cell? ⟨b', o' + k * 3 + 1, none⟩ = some (.int .i64 ys[k].op) ∧ W.cell? ⟨b', o' + k * 3 + 2, none⟩ = some (.int .i64 ys[k].v)) := fun W hW =>
          ⟨RdConds.cells (H.out.below (hbw.trans hW.2)) hlt, RdConds.cells (H'.out.below (hbw.trans hW.2)) hlt'⟩
        have Hc := Lib.hid hc
        have hne := run_neq_cond xs[k] ys[k]
        clear hc
        go_wp2_with fail
        refine wp_region_exact3 w.heap.size hsz (by kernel_rfl) (by kernel_rfl) ?_
        repeat (refine monoE_step (fun K hK => ?_); apply Exists.intro; refine ⟨fun W hC R hR => ?_, ?_⟩; (first
          | (have hne' := hne W; clear hne; go_simp; exact hR _ _ (Below.refl _ _) rfl)
          | (have hcc := Hc.out W hC; go_simp; exact hR _ _ (Below.refl _ _) rfl)); (go_simp; refine hK _ ?_; clear hK K))
        intro w2 hC2
        clear hne
        by_cases he : xs[k] = ys[k]
        · have Hn := Lib.hid (take_eq_step' hlt hlt' Ht.out he)
          have d : decide (xs[k] = ys[k]) = true := decide_eq_true he
          clear he
          simp only [d]
          go_wp2
          go_roundw
          case rel => exact ⟨k + 1, by omega, by go_num, Hn.out, hbw.trans hC2.2⟩
          case measure => simp [intOf]; omega
        · have Hn := Lib.hid (ne_of_get' hlt hlt' he)
          have d : decide (xs[k] = ys[k]) = false := decide_eq_false he
          clear he
          simp only [d]
          go_wp2
          go_ret
          exact ⟨ret_bool (decide_eq_false Hn.out).symm, hbw.trans hC2.2⟩
      · obtain rfl : k = xs.length := by omega
        have Hn : Hid (xs = ys) := by
          have := Ht.out
          rw [List.take_length, hl'.out, List.take_length] at this
          exact this
        go_wp2
        go_ret
        exact ⟨ret_bool (decide_eq_true Hn.out).symm, hbw⟩
  · have b0 : ((xs.length : Int) != (ys.length : Int)) = true := bne_iff_ne.2 (by omega)
    have hn : decide (xs = ys) = false := decide_eq_false fun e => hl (by rw [e])
    rw [hn]
    clear hn hl
    go_enter Tryd.func39, Tryd.ntmps39
    go_wp2
    go_ret
    exact ⟨rfl, Below.refl _ _⟩

set_option maxHeartbeats 1000000 in
theorem same1_any (v u : Value) (r q : TRule) (D : Nat → Prop) (w : World) (h : RdConds w D v r.conds) (h' : RdConds w D u q.conds) :
    Calls Tryd.prog 38 #[.agg #[v, .int .i64 r.verdict], .agg #[u, .int .i64 q.verdict]] w fun e w' => e = .returned (.bool (decide (r = q))) ∧ Below w.heap.size w w' := by
  obtain ⟨rc, rv⟩ := r
  obtain ⟨qc, qv⟩ := q
  dsimp only at h h' ⊢
  have H := Lib.hid h
  have H' := Lib.hid h'
  clear h h'
  by_cases hv : rv = qv
  · have b0 : (rv == qv) = true := beq_iff_eq.2 hv
    have hd : decide ((⟨rc, rv⟩ : TRule) = ⟨qc, qv⟩) = decide (rc = qc) := by rw [decide_eq_decide]; simp [hv]
    rw [hd]
    clear hd hv
    go_enter Tryd.func38, Tryd.ntmps38
    go_wp2_with fail
    refine (eqconds_any v u rc qc D _ (RdConds.below H.out (bel_alloc (bel_alloc (Below.refl _ _) _) _)) (RdConds.below H'.out (bel_alloc (bel_alloc (Below.refl _ _) _) _))).mono ?_
    rintro e w1 ⟨rfl, hb1⟩
    have hb1' : Below (w.heap.size + 2) _ w1 := hb1.mono (by simp)
    go_wp2
    go_ret
    exact ⟨rfl, bel_box2 hb1'⟩
  · have b0 : (rv == qv) = false := beq_eq_false_iff_ne.2 hv
    have hd : decide ((⟨rc, rv⟩ : TRule) = ⟨qc, qv⟩) = false := decide_eq_false fun e => hv (by injection e)
    rw [hd]
    clear hd hv
    go_enter Tryd.func38, Tryd.ntmps38
    go_wp2
    go_ret
    exact ⟨rfl, bel_alloc (bel_alloc (Below.refl _ _) _) _⟩

set_option maxHeartbeats 1000000 in
theorem eqrules_any (v u : Value) (xs ys : List TRule) (D : Nat → Prop) (w : World) (h : RdRules w D v xs) (h' : RdRules w D u ys) :
    Calls Tryd.prog 37 #[v, u, .func (.func 38) #[] #[]] w fun e w' => e = .returned (.bool (decide (xs = ys))) ∧ Below w.heap.size w w' := by
  obtain ⟨a, c, rfl, hlc, hcm, hat⟩ := Sl.form h
  obtain ⟨a', c', rfl, hlc', hcm', hat'⟩ := Sl.form h'
  have H := Lib.hid h
  have H' := Lib.hid h'
  clear h h'
  by_cases hl : xs.length = ys.length
  · have b0 : ((xs.length : Int) != (ys.length : Int)) = false := bne_eq_false_iff_eq.2 (by omega)
    have hl' := Lib.hid hl
    have hl1 : xs.length ≤ ys.length := by omega
    have hl2 : ys.length ≤ xs.length := by omega
    clear hl
    go_enter Tryd.func37, Tryd.ntmps37
    go_wp2_with fail
    go_loopw [17] (fun i wr => ∃ k : Nat, k ≤ xs.length ∧ i = .int .i64 k ∧ xs.take k = ys.take k ∧ Below w.heap.size w wr) (fun i _ => xs.length - (intOf i).toNat)
    case atStart => exact ⟨0, by omega, rfl, rfl, Below.refl _ _⟩
    case round =>
      obtain ⟨k, hk, rfl, htk, hbw⟩ := hrel
      have Ht := Lib.hid htk
      have hsz := hbw.size
      clear htk
      by_cases hlt : k < xs.length
      · obtain ⟨b, o, rfl, hDb, hb⟩ := hat (by omega)
        obtain ⟨b', o', rfl, hDb', hb'⟩ := hat' (by omega)
        have hlt' : k < ys.length := by omega
        obtain ⟨ra, rc, k0, k1, hr, hlr, hcr, _⟩ := RdRules.cells (RdRules.below H.out hbw) hlt
        obtain ⟨qa, qc, q0, q1, hq, hlq, hcq, _⟩ := RdRules.cells (RdRules.below H'.out hbw) hlt'
        have Hr := Lib.hid hr
        have Hq := Lib.hid hq
        have hbr : b' < wr.heap.size := by omega
        have q0' : ∀ O, (wr.alloc O).cell? ⟨b', o' + k * 2, none⟩ = some (.slice qa ys[k].conds.length qc) := fun O => (World.cell?_alloc_lt _ _ _ hbr).trans q0
        have q1' : ∀ O, (wr.alloc O).cell? ⟨b', o' + k * 2 + 1, none⟩ = some (.int .i64 ys[k].verdict) := fun O => (World.cell?_alloc_lt _ _ _ hbr).trans q1
        clear hr hq q0 q1
        go_wp2_with fail
        refine (same1_any _ _ xs[k] ys[k] D _ (RdConds.below Hr.out (bel_alloc (bel_alloc (Below.refl _ _) _) _)) (RdConds.below Hq.out (bel_alloc (bel_alloc (Below.refl _ _) _) _))).mono ?_
        rintro e w1 ⟨rfl, hb1⟩
        have hb2 : Below (wr.heap.size + 2) _ w1 := hb1.mono (by simp)
        have Hb := Lib.hid (hbw.trans ((bel_box2 hb2).mono hbw.size))
        clear hb1 hb2 k0 k1 q0' q1'
        by_cases he : xs[k] = ys[k]
        · have Hn := Lib.hid (take_eq_step' hlt hlt' Ht.out he)
          rw [decide_eq_true he]
          clear he
          go_wp2
          go_roundw
          case rel => exact ⟨k + 1, by omega, by go_num, Hn.out, Hb.out⟩
          case measure => simp [intOf]; omega
        · have Hn := Lib.hid (ne_of_get' hlt hlt' he)
          rw [decide_eq_false he]
          clear he
          go_wp2
          go_ret
          exact ⟨ret_bool (decide_eq_false Hn.out).symm, Hb.out⟩
      · obtain rfl : k = xs.length := by omega
        have Hn : Hid (xs = ys) := by
          have := Ht.out
          rw [List.take_length, hl'.out, List.take_length] at this
          exact this
        go_wp2
        go_ret
        exact ⟨ret_bool (decide_eq_true Hn.out).symm, hbw⟩
  · have b0 : ((xs.length : Int) != (ys.length : Int)) = true := bne_iff_ne.2 (by omega)
    have hn : decide (xs = ys) = false := decide_eq_false fun e => hl (by rw [e])
    rw [hn]
    clear hn hl
    go_enter Tryd.func37, Tryd.ntmps37
    go_wp2
    go_ret
    exact ⟨rfl, Below.refl _ _⟩

set_option maxHeartbeats 1000000 in
theorem same_any (v u : Value) (p q : TPol) (D : Nat → Prop) (w : World) (h : RdRules w D v p.rules) (h' : RdRules w D u q.rules) :
    Calls Tryd.prog 9 #[polV v p.dflt, polV u q.dflt] w fun e w' => e = .returned (.bool (decide (p = q))) ∧ Below w.heap.size w w' := by
  obtain ⟨pr, pd⟩ := p
  obtain ⟨qr, qd⟩ := q
  dsimp only at h h' ⊢
  have H := Lib.hid h
  have H' := Lib.hid h'
  have hmk : ∀ (fn : Fn) (first cap : Array Value) (w : World), (Instr.makeFunc fn first cap).run Tryd.prog w = .ok (.func fn first cap) w := fun _ _ _ _ => rfl
  clear h h'
  by_cases hv : pd = qd
  · have b0 : (pd == qd) = true := beq_iff_eq.2 hv
    have hd : decide ((⟨pr, pd⟩ : TPol) = ⟨qr, qd⟩) = decide (pr = qr) := by rw [decide_eq_decide]; simp [hv]
    rw [hd]
    clear hd hv
    go_enter Tryd.func9, Tryd.ntmps9
    go_wp2_with fail
    refine (eqrules_any v u pr qr D _ (RdRules.below H.out (bel_alloc (bel_alloc (Below.refl _ _) _) _)) (RdRules.below H'.out (bel_alloc (bel_alloc (Below.refl _ _) _) _))).mono ?_
    rintro e w1 ⟨rfl, hb1⟩
    have hb1' : Below (w.heap.size + 2) _ w1 := hb1.mono (by simp)
    go_wp2
    go_ret
    exact ⟨rfl, bel_box2 hb1'⟩
  · have b0 : (pd == qd) = false := beq_eq_false_iff_ne.2 hv
    have hd : decide ((⟨pr, pd⟩ : TPol) = ⟨qr, qd⟩) = false := decide_eq_false fun e => hv (by injection e)
    rw [hd]
    clear hd hv
    go_enter Tryd.func9, Tryd.ntmps9
    go_wp2
    go_ret
    exact ⟨rfl, bel_alloc (bel_alloc (Below.refl _ _) _) _⟩
end Go.Proofs.YthkgjohhbdipcaaDoor
namespace Go.Proofs.YthkgjohhbdipcaaDoor
open Go.RowKit
attribute [local go_sem] gives givesUpon

theorem box2_step' {w wr w1 : World} {o o' : Obj} (hb : Below (w.heap.size + 2) ((w.alloc o).alloc o') wr) (h1 : Below wr.heap.size wr w1) : Below (w.heap.size + 2) ((w.alloc o).alloc o') w1 := hb.trans (h1.mono (size_box2 hb))

set_option maxHeartbeats 4000000 in
theorem rsame_any (v u : Value) (p q : TPol) (D : Nat → Prop) (w : World) (h : RdRules w D v p.rules) (h' : RdRules w D u q.rules) :
    Calls Tryd.prog 27 #[polV v p.dflt, polV u q.dflt] w fun e w' => e = .returned (.bool (decide (p = q))) ∧ Below w.heap.size w w' := by
  obtain ⟨xs, pd⟩ := p
  obtain ⟨ys, qd⟩ := q
  dsimp only at h h' ⊢
  obtain ⟨a, c, rfl, hlc, hcm, hat⟩ := Sl.form h
  obtain ⟨a', c', rfl, hlc', hcm', hat'⟩ := Sl.form h'
  have H := Lib.hid h
  have H' := Lib.hid h'
  clear h h'
  by_cases hv : pd = qd
  · have b0 : (pd != qd) = false := bne_eq_false_iff_eq.2 hv
    have hd : decide ((⟨xs, pd⟩ : TPol) = ⟨ys, qd⟩) = decide (xs = ys) := by rw [decide_eq_decide]; simp [hv]
    rw [hd]
    clear hd hv
    by_cases hl : xs.length = ys.length
    · have b1 : ((xs.length : Int) != (ys.length : Int)) = false := bne_eq_false_iff_eq.2 (by omega)
      have hl' := Lib.hid hl
      have hl1 : xs.length ≤ ys.length := by omega
      have hl2 : ys.length ≤ xs.length := by omega
      clear hl
      go_enter Tryd.func27, Tryd.ntmps27
      go_wp2_with fail
      go_loopw [24] (fun i wr => ∃ k : Nat, k ≤ xs.length ∧ i = .int .i64 k ∧ xs.take k = ys.take k ∧ Below (w.heap.size + 2) ((w.alloc (.cells #[.slice a xs.length c, .int .i64 pd] 24)).alloc (.cells #[.slice a' ys.length c', .int .i64 qd] 24)) wr) (fun i _ => xs.length - (intOf i).toNat)
      case atStart => exact ⟨0, by omega, rfl, rfl, Below.refl _ _⟩
      case round =>
        obtain ⟨k, hk, rfl, htk, hbx⟩ := hrel
        have Ht := Lib.hid htk
        have Hbx := Lib.hid hbx
        have Hb := Lib.hid (bel_box2 hbx)
        have hsz := size_box2 hbx
        obtain ⟨hc1, hc2⟩ := box2_cells hbx
        clear htk hbx
        by_cases hlt : k < xs.length
        · obtain ⟨b, o, rfl, hDb, hb⟩ := hat (by omega)
          obtain ⟨b', o', rfl, hDb', hb'⟩ := hat' (by omega)
          have hlt' : k < ys.length := by omega
          obtain ⟨ra, rc, k0, k1, hr, hlr, hcr, _⟩ := RdRules.cells (RdRules.below H.out Hb.out) hlt
          obtain ⟨qa, qc, q0, q1, hq, hlq, hcq, _⟩ := RdRules.cells (RdRules.below H'.out Hb.out) hlt'
          have hbr : b' < wr.heap.size := by omega
          have hcc : ∀ W, Cls (wr.heap.size + 1) (wr.alloc (.cells #[.slice ra xs[k].conds.length rc, .int .i64 xs[k].verdict] 64)) W → (∀ j, W.cell? ⟨wr.heap.size, j, none⟩ = (#[.slice ra xs[k].conds.length rc, .int .i64 xs[k].verdict] : Array Value)[j]?) ∧ (∀ j, W.cell? ⟨w.heap.size + 1, j, none⟩ = (#[.slice (some ⟨b', o', none⟩) ys.length c', .int .i64 qd] : Array Value)[j]?) ∧
              W.cell? ⟨b', o' + k * 2, none⟩ = some (.slice qa ys[k].conds.length qc) ∧ W.cell? ⟨b', o' + k * 2 + 1, none⟩ = some (.int .i64 ys[k].verdict) := fun W hW => by
            have hbw := bel_box hW.2
            exact ⟨box_cells hW.2, fun j => (hbw.cell (p := ⟨w.heap.size + 1, j, none⟩) (by show w.heap.size + 1 < wr.heap.size; omega)).trans (hc2 j), (hbw.cell (p := ⟨b', o' + k * 2, none⟩) hbr).trans q0, (hbw.cell (p := ⟨b', o' + k * 2 + 1, none⟩) hbr).trans q1⟩
          have Hcc := Lib.hid hcc
          have hcall : ∀ W, Cls (wr.heap.size + 1) (wr.alloc (.cells #[.slice ra xs[k].conds.length rc, .int .i64 xs[k].verdict] 64)) W →
              Calls Tryd.prog 39 #[.slice ra xs[k].conds.length rc, .slice qa ys[k].conds.length qc] W fun e w' => e = .returned (.bool (decide (xs[k].conds = ys[k].conds))) ∧ Below W.heap.size W w' := fun W hW =>
            eqconds_any _ _ _ _ D W (RdConds.below hr (bel_box hW.2)) (RdConds.below hq (bel_box hW.2))
          have Hcall := Lib.hid hcall
          have hfin : ∀ W, Cls (wr.heap.size + 1) (wr.alloc (.cells #[.slice ra xs[k].conds.length rc, .int .i64 xs[k].verdict] 64)) W → Below wr.heap.size wr W := fun W hW => bel_box hW.2
          have Hfin := Lib.hid hfin
          clear hr hq q0 q1 hcc hcall hfin hc1 hc2
          by_cases hvv : xs[k].verdict = ys[k].verdict
          · have d0 : (xs[k].verdict != ys[k].verdict) = false := bne_eq_false_iff_eq.2 hvv
            have Hvv := Lib.hid hvv
            clear hvv
            go_wp2_with fail
            refine wp_region_exact3 (wr.heap.size + 1) (by simp) (by kernel_rfl) (by kernel_rfl) ?_
            repeat (refine monoE_step (fun K hK => ?_); apply Exists.intro; refine ⟨fun W hC R hR => ?_, ?_⟩; (first
              | (have hcell := Hcc.out W hC; go_simp; exact hR _ _ (Below.refl _ _) rfl)
              | (go_simp; go_at_call 39; refine (Hcall.out W hC).mono ?_; rintro e w1 ⟨rfl, hb1⟩; exact ⟨_, rfl, hR _ _ hb1 rfl⟩)); (go_simp; refine hK _ ?_; clear hK K))
            intro w2 hC2
            by_cases he : xs[k].conds = ys[k].conds
            · have Hn : Hid (xs.take (k + 1) = ys.take (k + 1)) := take_eq_step' hlt hlt' Ht.out (by
                have h1 := Hvv.out
                have h2 := he
                revert h1 h2
                generalize xs[k] = r; generalize ys[k] = s
                cases r; cases s
                rintro h1 h2
                dsimp only at h1 h2
                subst h1 h2; rfl)
              have d : decide (xs[k].conds = ys[k].conds) = true := decide_eq_true he
              clear he
              simp only [d]
              go_wp2
              go_roundw
              case rel => exact ⟨k + 1, by omega, by go_num, Hn.out, box2_step' Hbx.out (Hfin.out _ hC2)⟩
              case measure => simp [intOf]; omega
            · have Hn := Lib.hid (ne_of_get' hlt hlt' (fun e => he (by rw [e])))
              have d : decide (xs[k].conds = ys[k].conds) = false := decide_eq_false he
              clear he
              simp only [d]
              go_wp2
              go_ret
              exact ⟨ret_bool (decide_eq_false Hn.out).symm, bel_call Hb.out (Hfin.out _ hC2)⟩
          · have d0 : (xs[k].verdict != ys[k].verdict) = true := bne_iff_ne.2 hvv
            have Hn := Lib.hid (ne_of_get' hlt hlt' (fun e => hvv (by rw [e])))
            clear hvv
            go_wp2_with fail
            refine wp_region_exact3 (wr.heap.size + 1) (by simp) (by kernel_rfl) (by kernel_rfl) ?_
            repeat (refine monoE_step (fun K hK => ?_); apply Exists.intro; refine ⟨fun W hC R hR => ?_, ?_⟩; (have hcell := Hcc.out W hC; go_simp; exact hR _ _ (Below.refl _ _) rfl); (go_simp; refine hK _ ?_; clear hK K))
            intro w2 hC2
            go_wp2
            go_ret
            exact ⟨ret_bool (decide_eq_false Hn.out).symm, bel_call Hb.out (Hfin.out _ hC2)⟩
        · obtain rfl : k = xs.length := by omega
          have Hn : Hid (xs = ys) := by
            have := Ht.out
            rw [List.take_length, hl'.out, List.take_length] at this
            exact this
          go_wp2
          go_ret
          exact ⟨ret_bool (decide_eq_true Hn.out).symm, Hb.out⟩
    · have b1 : ((xs.length : Int) != (ys.length : Int)) = true := bne_iff_ne.2 (by omega)
      have hn : decide (xs = ys) = false := decide_eq_false fun e => hl (by rw [e])
      rw [hn]
      clear hn hl
      go_enter Tryd.func27, Tryd.ntmps27
      go_wp2
      go_ret
      exact ⟨rfl, bel_alloc (bel_alloc (Below.refl _ _) _) _⟩
  · have b0 : (pd != qd) = true := bne_iff_ne.2 hv
    have hd : decide ((⟨xs, pd⟩ : TPol) = ⟨ys, qd⟩) = false := decide_eq_false fun e => hv (by injection e)
    rw [hd]
    clear hd hv
    go_enter Tryd.func27, Tryd.ntmps27
    go_wp2
    go_ret
    exact ⟨rfl, bel_alloc (bel_alloc (Below.refl _ _) _) _⟩
end Go.Proofs.YthkgjohhbdipcaaDoor
namespace Go.Proofs.YthkgjohhbdipcaaDoor
open Go.RowKit

@[reducible] def bs (l : List UInt8) : Value := .string ⟨l.toArray⟩
@[reducible] def vmap : Array MapEntry := #[⟨bs [107, 105, 108, 108], .int .i64 0, 0⟩, ⟨bs [116, 114, 97, 112], .int .i64 1, 1⟩, ⟨bs [102, 97, 105, 108], .int .i64 2, 2⟩, ⟨bs [108, 111, 103], .int .i64 3, 3⟩, ⟨bs [97, 108, 108, 111, 119], .int .i64 4, 4⟩]
@[reducible] def fmap : Array MapEntry := #[⟨bs [110, 114], .int .i64 0, 0⟩, ⟨bs [107, 105, 110, 100], .int .i64 1, 1⟩, ⟨bs [97], .int .i64 2, 2⟩, ⟨bs [98], .int .i64 3, 3⟩, ⟨bs [99], .int .i64 4, 4⟩]
@[reducible] def omap : Array MapEntry := #[⟨.int .u8 61, .int .i64 1, 0⟩, ⟨.int .u8 33, .int .i64 2, 1⟩, ⟨.int .u8 60, .int .i64 3, 2⟩, ⟨.int .u8 62, .int .i64 4, 3⟩]

theorem same_str (u : ByteArray) (l : List UInt8) : Instr.sameNow .string (.string u) (bs l) = some (decide (u.data.toList = l)) := by
  have : (u == (⟨l.toArray⟩ : ByteArray)) = decide (u.data.toList = l) := by
    rw [beq_toListBytes, ByteArray.toList_eq, ByteArray.toList_eq, Bool.eq_iff_iff]
    simp
  rw [← this]
  rfl
theorem same_u8 (n m : Int) : Instr.sameNow (.int .u8) (.int .u8 n) (.int .u8 m) = some (decide (n = m)) := by
  have : (n == m) = decide (n = m) := by rw [Bool.eq_iff_iff]; simp
  rw [← this]
  rfl
/-- a look-up among a list of keys. -/
theorem find_step {kd : TypeDesc} {k key v : Value} {born : Nat} {es : List MapEntry} {i : Nat} {b : Bool} (h : Instr.sameNow kd k key = some b) : Instr.findNow kd k (⟨key, v, born⟩ :: es) i = if b then some (some (i, v)) else Instr.findNow kd k es (i + 1) := by
  cases b <;> simp [Instr.findNow, h]
theorem find_v (u : ByteArray) : ∃ f, Instr.findNow .string (.string u) vmap.toList 0 = some f ∧ f.map (·.2) = (verdictOf u.data.toList).map fun n => Value.int .i64 n := by
  simp only [find_step (same_str _ _), verdictOf, decide_eq_true_eq]
  repeat (split; · exact ⟨_, rfl, rfl⟩)
  exact ⟨none, rfl, rfl⟩
theorem find_f (u : ByteArray) : ∃ f, Instr.findNow .string (.string u) fmap.toList 0 = some f ∧ f.map (·.2) = (fieldOf u.data.toList).map fun n => Value.int .i64 n := by
  simp only [find_step (same_str _ _), fieldOf, decide_eq_true_eq]
  repeat (split; · exact ⟨_, rfl, rfl⟩)
  exact ⟨none, rfl, rfl⟩
theorem find_o (b : UInt8) : ∃ f, Instr.findNow (.int .u8) (.int .u8 b.toNat) omap.toList 0 = some f ∧ (f.map (·.2)).getD (.int .i64 0) = Value.int .i64 (opOf b) := by
  have e : ∀ n : UInt8, ((b.toNat : Int) = (n.toNat : Int)) = (b = n) := fun n => by
    rw [eq_iff_iff]
    constructor
    · intro h; exact UInt8.toNat_inj.1 (by omega)
    · rintro rfl; rfl
  have e1 := e 61
  have e2 := e 33
  have e3 := e 60
  have e4 := e 62
  simp only [show ((61 : UInt8).toNat : Int) = 61 from rfl, show ((33 : UInt8).toNat : Int) = 33 from rfl, show ((60 : UInt8).toNat : Int) = 60 from rfl, show ((62 : UInt8).toNat : Int) = 62 from rfl] at e1 e2 e3 e4
  simp only [find_step (same_u8 _ _), opOf, decide_eq_true_eq, e1, e2, e3, e4]
  repeat (split; · exact ⟨_, rfl, rfl⟩)
  exact ⟨none, rfl, rfl⟩

/-- a slice without its first element: one form, be it empty or not. -/
theorem slice_tail (b n : Nat) : ∃ off : Nat, (0 < n → off = 1) ∧ ∀ W : World, (Instr.slice 69 (.slice (some ⟨b, 0, none⟩) (n + 1) (n + 1)) (some (.int .i64 1)) none none).run Tryd.prog W = .ok (.slice (some ⟨b, off, none⟩) n n) W := by
  by_cases h : n = 0
  · subst h
    exact ⟨0, fun h => by omega, fun W => by kernel_rfl⟩
  · refine ⟨1, fun _ => rfl, fun W => ?_⟩
    go_simp
    intro h'
    omega
end Go.Proofs.YthkgjohhbdipcaaDoor
namespace Go.Proofs.YthkgjohhbdipcaaDoor
open Go.RowKit
attribute [local go_sem] gives givesUpon

set_option maxHeartbeats 8000000 in
theorem rpolcheck_any (v : Value) (p : TPol) (D : Nat → Prop) (w : World) (h : RdRules w D v p.rules) : Calls Tryd.prog 25 #[polV v p.dflt] w fun e w' => e = .returned (.int .i64 (polE p)) ∧ Below w.heap.size w w' := by
  obtain ⟨rs, d⟩ := p
  dsimp only at h ⊢
  obtain ⟨a, c, rfl, hlc, hcm, hat⟩ := Sl.form h
  have H := Lib.hid h
  clear h
  by_cases h1 : 120 < rs.length
  · have he : polE ⟨rs, d⟩ = 2 := by unfold polE; rw [if_pos h1]
    have hz : 120 < (rs.length : Int) := by omega
    rw [he]; clear he h1 hat H
    go_enter Tryd.func25, Tryd.ntmps25
    go_wp2
    go_ret
    exact ⟨rfl, bel_alloc (Below.refl _ _) _⟩
  · have hz : ¬ 120 < (rs.length : Int) := by omega
    by_cases h2 : 0 ≤ d ∧ d ≤ 4
    · have hd := inB_yes h2.1 h2.2
      have He := Lib.hid (show polE ⟨rs, d⟩ = rulesGo rs by unfold polE; rw [if_neg h1, if_neg (by simp only; omega)])
      clear h1 h2
      go_enter Tryd.func25, Tryd.ntmps25
      go_wp2_with (go_at_call 53; refine (in_any _ _ _ _).mono ?_; rintro e w1 ⟨rfl, rfl⟩)
      go_loopw [18] (fun i wr => ∃ k : Nat, k ≤ rs.length ∧ i = .int .i64 k ∧ rulesGo rs = rulesGo (rs.drop k) ∧ Below w.heap.size w wr) (fun i _ => rs.length - (intOf i).toNat)
      case atStart => exact ⟨0, by omega, rfl, rfl, bel_alloc (Below.refl _ _) _⟩
      case round =>
        obtain ⟨k, hk, rfl, hgo, hbw⟩ := hrel
        have Hgo := Lib.hid hgo
        have hsz := hbw.size
        clear hgo hd
        by_cases hlt : k < rs.length
        · obtain ⟨b, o, rfl, hDb, hb⟩ := hat (by omega)
          obtain ⟨a', c', k0, k1, hr, hlc', hcm', hat'⟩ := RdRules.cells (RdRules.below H.out hbw) hlt
          have Hr := Lib.hid hr
          have bad : ∀ e : Int, ruleE rs[k] = e → e ≠ 0 → ∀ wz, Below w.heap.size w wz → Ending.returned (.int .i64 e) = .returned (.int .i64 (polE ⟨rs, d⟩)) ∧ Below w.heap.size w wz := fun e he h0 wz hz => by
            refine ⟨ret_int ?_, hz⟩
            rw [He.out, Hgo.out, rulesGo_drop rs k hlt, he, if_neg h0]
          have good : ruleE rs[k] = 0 → rulesGo rs = rulesGo (rs.drop (k + 1)) := fun he => by rw [Hgo.out, rulesGo_drop rs k hlt, if_pos he]
          have Hbad := Lib.hid bad
          have Hgood := Lib.hid good
          clear bad good hr
          generalize hX : rs[k] = X at *
          clear hX
          obtain ⟨cs, vd⟩ := X
          dsimp only at k0 k1 hlc' hat'
          have Hr' : Hid (RdConds wr D (.slice a' cs.length c') cs) := Hr
          clear Hr
          by_cases h3 : 10 < cs.length
          · have Hb := Lib.hid (Hbad.out 2 (by unfold ruleE; rw [if_pos h3]) (by decide))
            have hz3 : 10 < (cs.length : Int) := by omega
            clear Hbad Hgood hat' h3
            go_wp2
            go_ret
            exact Hb.out _ (bel_alloc hbw _)
          · have hz3 : ¬ 10 < (cs.length : Int) := by omega
            by_cases h4 : 0 ≤ vd ∧ vd ≤ 4
            · have hvd := inB_yes h4.1 h4.2
              have Hre := Lib.hid (show ruleE ⟨cs, vd⟩ = condsGo cs by unfold ruleE; rw [if_neg h3, if_neg (by simp only; omega)])
              clear h3 h4
              go_wp2_with (go_at_call 53; refine (in_any _ _ _ _).mono ?_; rintro e w1 ⟨rfl, rfl⟩)
              obtain ⟨wo, rfl⟩ : ∃ wo : World, wo = wr := ⟨_, rfl⟩
              go_loopw [35] (fun i wi => ∃ j : Nat, j ≤ cs.length ∧ i = .int .i64 j ∧ condsGo cs = condsGo (cs.drop j) ∧ Below w.heap.size w wi ∧ Below wo.heap.size wo wi) (fun i _ => cs.length - (intOf i).toNat)
              case atStart => exact ⟨0, by omega, rfl, rfl, bel_alloc hbw _, bel_alloc (Below.refl _ _) _⟩
              case round =>
                obtain ⟨j, hj, rfl, hgo, hbi, hbi'⟩ := hrel
                have Hgi := Lib.hid hgo
                have hszi := hbi.size
                clear hgo hvd
                by_cases hlj : j < cs.length
                · obtain ⟨b', o', rfl, hDb', hb'⟩ := hat' (by omega)
                  obtain ⟨c0, c1, c2⟩ := RdConds.cells (RdConds.below Hr'.out hbi') hlj
                  have badc : ∀ e : Int, condE cs[j] = e → e ≠ 0 → ruleE ⟨cs, vd⟩ = e := fun e he h0 => by rw [Hre.out, Hgi.out, condsGo_drop cs j hlj, he, if_neg h0]
                  have goodc : condE cs[j] = 0 → condsGo cs = condsGo (cs.drop (j + 1)) := fun he => by rw [Hgi.out, condsGo_drop cs j hlj, if_pos he]
                  have Hbadc := Lib.hid badc
                  have Hgoodc := Lib.hid goodc
                  clear badc goodc
                  generalize hY : cs[j] = Y at *
                  clear hY
                  obtain ⟨cf, co, cv⟩ := Y
                  dsimp only at c0 c1 c2
                  by_cases q1 : 0 ≤ cf ∧ cf ≤ 4
                  · have d1 := inB_yes q1.1 q1.2
                    by_cases q2 : 1 ≤ co ∧ co ≤ 4
                    · have d2 := inB_yes q2.1 q2.2
                      have hcl : ∀ W, Cls (wr.heap.size + 1) (wr.alloc (.cells #[.int .i64 cf, .int .i64 co, .int .i64 cv] 72)) W → ∀ j : Nat, W.cell? ⟨wr.heap.size, j, none⟩ = (#[Value.int .i64 cf, .int .i64 co, .int .i64 cv] : Array Value)[j]? := fun W hW j => box_cells hW.2 j
                      have Hcl := Lib.hid hcl
                      clear hcl
                      by_cases q3 : 0 ≤ cv ∧ cv ≤ mostOf cf
                      · have d3 := inB_yes q3.1 q3.2
                        have Hg := Lib.hid (Hgoodc.out (by unfold condE; rw [if_neg (by simp only; omega), if_neg (by simp only; omega), if_neg (by simp only; omega)]))
                        clear q1 q2 q3
                        go_wp2_with (go_at_call 53; refine (in_any _ _ _ _).mono ?_; rintro e w1 ⟨rfl, rfl⟩)
                        refine wp_region_exact (wr.heap.size + 1) (by simp) (by kernel_rfl) (by kernel_rfl) ?_
                        repeat (refine monoE_step (fun K hK => ?_); apply Exists.intro; refine ⟨fun W hC R hR => ?_, ?_⟩; (first
                          | (have hcell := Hcl.out W hC; go_simp; refine hR _ _ (Below.refl _ _) rfl)
                          | (go_simp; go_at_call 54; refine (mostof_any _ _).mono ?_; rintro e w1 ⟨rfl, hb1⟩; exact ⟨_, rfl, hR _ _ hb1 rfl⟩)
                          | (go_simp; go_at_call 53; refine (in_any _ _ _ _).mono ?_; rintro e w1 ⟨rfl, rfl⟩; exact ⟨_, rfl, hR _ _ (Below.refl _ _) rfl⟩)); (go_simp; refine hK _ ?_; clear hK K))
                        intro w2 hC2
                        go_wp2
                        go_roundw
                        case rel => exact ⟨j + 1, by omega, by go_num, Hg.out, hbi.trans ((bel_box hC2.2).mono hszi), hbi'.trans ((bel_box hC2.2).mono hbi'.size)⟩
                        case measure => simp [intOf]; omega
                      · have d3 := inB_no q3
                        have Hb := Lib.hid (Hbad.out 3 (Hbadc.out 3 (by unfold condE; rw [if_neg (by simp only; omega), if_neg (by simp only; omega), if_pos (by simp only; omega)]) (by decide)) (by decide))
                        clear q1 q2 q3
                        go_wp2_with (go_at_call 53; refine (in_any _ _ _ _).mono ?_; rintro e w1 ⟨rfl, rfl⟩)
                        refine wp_region_exact (wr.heap.size + 1) (by simp) (by kernel_rfl) (by kernel_rfl) ?_
                        repeat (refine monoE_step (fun K hK => ?_); apply Exists.intro; refine ⟨fun W hC R hR => ?_, ?_⟩; (first
                          | (have hcell := Hcl.out W hC; go_simp; refine hR _ _ (Below.refl _ _) rfl)
                          | (go_simp; go_at_call 54; refine (mostof_any _ _).mono ?_; rintro e w1 ⟨rfl, hb1⟩; exact ⟨_, rfl, hR _ _ hb1 rfl⟩)
                          | (go_simp; go_at_call 53; refine (in_any _ _ _ _).mono ?_; rintro e w1 ⟨rfl, rfl⟩; exact ⟨_, rfl, hR _ _ (Below.refl _ _) rfl⟩)); (go_simp; refine hK _ ?_; clear hK K))
                        intro w2 hC2
                        go_wp2
                        go_ret
                        exact Hb.out _ (hbi.trans ((bel_box hC2.2).mono hszi))
                    · have d2 := inB_no q2
                      have Hb := Lib.hid (Hbad.out 4 (Hbadc.out 4 (by unfold condE; rw [if_neg (by simp only; omega), if_pos (by simp only; omega)]) (by decide)) (by decide))
                      clear q1 q2
                      go_wp2_with (go_at_call 53; refine (in_any _ _ _ _).mono ?_; rintro e w1 ⟨rfl, rfl⟩)
                      go_ret
                      exact Hb.out _ (bel_alloc hbi _)
                  · have d1 := inB_no q1
                    have Hb := Lib.hid (Hbad.out 5 (Hbadc.out 5 (by unfold condE; rw [if_pos (by simp only; omega)]) (by decide)) (by decide))
                    clear q1
                    go_wp2_with (go_at_call 53; refine (in_any _ _ _ _).mono ?_; rintro e w1 ⟨rfl, rfl⟩)
                    go_ret
                    exact Hb.out _ (bel_alloc hbi _)
                · obtain rfl : j = cs.length := by omega
                  have Hg := Lib.hid (Hgood.out (by rw [Hre.out, Hgi.out, List.drop_length]; rfl))
                  go_wp2
                  go_roundw
                  case rel => exact ⟨k + 1, by omega, by go_num, Hg.out, hbi⟩
                  case measure => simp [intOf]; omega
            · have hvd := inB_no h4
              have Hb := Lib.hid (Hbad.out 3 (by unfold ruleE; rw [if_neg h3, if_pos (by simp only; omega)]) (by decide))
              clear Hbad Hgood hat' h3 h4
              go_wp2_with (go_at_call 53; refine (in_any _ _ _ _).mono ?_; rintro e w1 ⟨rfl, rfl⟩)
              go_ret
              exact Hb.out _ (bel_alloc hbw _)
        · obtain rfl : k = rs.length := by omega
          go_wp2
          go_ret
          exact ⟨ret_int (by rw [He.out, Hgo.out, List.drop_length]; rfl), hbw⟩
    · have hd := inB_no h2
      have he : polE ⟨rs, d⟩ = 3 := by unfold polE; rw [if_neg h1, if_pos (by simp only; omega)]
      rw [he]; clear he hat H h1 h2
      go_enter Tryd.func25, Tryd.ntmps25
      go_wp2_with (go_at_call 53; refine (in_any _ _ _ _).mono ?_; rintro e w1 ⟨rfl, rfl⟩)
      go_ret
      exact ⟨rfl, bel_alloc (Below.refl _ _) _⟩
end Go.Proofs.YthkgjohhbdipcaaDoor
namespace Go.Proofs.YthkgjohhbdipcaaDoor
open Go.RowKit
open Go.MapKept (IsKey)

set_option maxHeartbeats 1000000 in
theorem bad_any (e : Int) (w : World) : Calls Tryd.prog 56 #[.int .i64 e] w fun en w' => en = .returned (.tuple #[polV (.slice none 0 0) 0, .int .i64 e]) ∧ Below w.heap.size w w' := by
  go_enter Tryd.func56, Tryd.ntmps56
  go_wp2
  refine bodyPost_ret (v := .tuple #[polV (.slice none 0 0) 0, .int .i64 e]) ?_ rfl ⟨rfl, bel_alloc (Below.refl _ _) _⟩
  rw [results_cell_tmp rfl]
  go_simp

/-- blocks of the call's own behind its five, but that of one slice. -/
def But (B : Nat) (pv : Value) (b : Nat) : Prop := B + 5 ≤ b ∧ pv.ownBlock ≠ some b
/-- the world as the loop of rules has it. -/
structure RdState (w wr : World) (rs : List TRule) (pv : Value) : Prop where
  bel : Below w.heap.size w wr
  sz : w.heap.size + 5 ≤ wr.heap.size
  res : wr.heap[w.heap.size]? = some (.cells #[.slice none 0 0, .int .i64 0] 24)
  vm : wr.heap[w.heap.size + 1]? = some (.map vmap 5)
  fm : wr.heap[w.heap.size + 2]? = some (.map fmap 5)
  om : wr.heap[w.heap.size + 3]? = some (.map omap 4)
  pc : wr.heap[w.heap.size + 4]? = some (.cells #[pv, .int .i64 0] 24)
  own : OwnSl wr (w.heap.size + 5) 64 2 (ruleR wr (But w.heap.size pv)) pv rs
theorem RdState.below {w wr w1 : World} {rs : List TRule} {pv : Value} (h : RdState w wr rs pv) (hb : Below wr.heap.size wr w1) : RdState w w1 rs pv where
  bel := bel_call h.bel hb
  sz := Nat.le_trans h.sz hb.size
  res := blk_below h.res hb
  vm := blk_below h.vm hb
  fm := blk_below h.fm hb
  om := blk_below h.om hb
  pc := blk_below h.pc hb
  own := (h.own.below hb).monoR fun _ _ _ ⟨v, h1, h2⟩ => ⟨v, h1, h2.below hb⟩
theorem RdState.rules {w wr : World} {rs : List TRule} {pv : Value} (h : RdState w wr rs pv) : RdRules wr (fun b => w.heap.size + 5 ≤ b) pv rs :=
  (h.own.monoR fun _ _ _ ⟨v, h1, h2⟩ => ⟨v, h1, h2.keep (fun _ hb _ => hb.1) (fun _ _ _ => rfl) (Nat.le_refl _)⟩).sl fun _ h => h
theorem rdState0 (w : World) : RdState w (((((w.alloc (.cells #[.slice none 0 0, .int .i64 0] 24)).alloc (.map vmap 5)).alloc (.map fmap 5)).alloc (.map omap 4)).alloc (.cells #[.slice none 0 0, .int .i64 0] 24)) [] (.slice none 0 0) where
  bel := bel_alloc (bel_alloc (bel_alloc (bel_alloc (bel_alloc (Below.refl _ _) _) _) _) _) _
  sz := by simp
  res := blk_old (blk_old (blk_old (blk_old (blk_at rfl))))
  vm := blk_old (blk_old (blk_old (blk_at (by simp))))
  fm := blk_old (blk_old (blk_at (by simp)))
  om := blk_old (blk_at (by simp))
  pc := blk_at (by simp)
  own := OwnSl.nil

theorem infoCond : (Tryd.prog.info? 72).map (fun i => (i.zero, i.size, i.bytes)) = some (some (.agg #[.int .i64 0, .int .i64 0, .int .i64 0]), 3, 24) := by kernel_rfl
theorem infoRule : (Tryd.prog.info? 64).map (fun i => (i.zero, i.size, i.bytes)) = some (some (.agg #[.slice none 0 0, .int .i64 0]), 2, 32) := by kernel_rfl
theorem rd_step {w w2 wr w4 : World} {rs : List TRule} {pv : Value} {cs : List TCond} {cv : Value} {vd : Int} {gg cap : Nat} {rows : List (List Value)} {O : Obj} (hst : RdState w w2 rs pv) (hbw : Below w2.heap.size w2 wr)
    (hown : OwnSl wr (w2.heap.size + 1) 72 3 condR cv cs) (hgrow : (wr.alloc O).grownBy w4 pv.ownBlock)
    (hown4 : w4.ownsRow (w.heap.size + 5) 64 2 (.slice (some ⟨gg, 0, none⟩) (rs.length + 1) cap) (rs.length + 1) (rows.flatten ++ [cv, .int .i64 vd]))
    (hro : RowsOf 2 (ruleR wr (But w.heap.size pv)) rs rows) (hat : pv.ownBlock = some gg ∨ gg = wr.heap.size + 1) :
    RdState w (w4.setCell ⟨w.heap.size + 4, 0, none⟩ (.slice (some ⟨gg, 0, none⟩) (rs.length + 1) cap)) (rs ++ [⟨cs, vd⟩]) (.slice (some ⟨gg, 0, none⟩) (rs.length + 1) cap) := by
  have h1 := hst.below hbw
  have hsz2 := hst.sz
  have hsw := hbw.size
  have hpo : ∀ g, pv.ownBlock = some g → w.heap.size + 5 ≤ g ∧ g < w2.heap.size := fun g hg => by
    obtain ⟨rows', _, hr'⟩ := hst.own
    exact hr'.lt g hg
  have hal : (wr.alloc O).heap.size = wr.heap.size + 1 := by simp
  have hg4 := hgrow.size
  -- a block that is neither the box nor the rules' row stays
  have keep : ∀ b, b < wr.heap.size → b ≠ w.heap.size + 4 → pv.ownBlock ≠ some b → (w4.setCell ⟨w.heap.size + 4, 0, none⟩ (.slice (some ⟨gg, 0, none⟩) (rs.length + 1) cap)).heap[b]? = wr.heap[b]? := fun b hb hn ho => by
    rw [set_other (by exact hn), hgrow.block b (by omega) (fun e => ho e.symm)]
    show (wr.heap.push O)[b]? = _
    rw [Array.getElem?_push, if_neg (by omega)]
  have small : ∀ b, b < w.heap.size + 4 → (w4.setCell ⟨w.heap.size + 4, 0, none⟩ (.slice (some ⟨gg, 0, none⟩) (rs.length + 1) cap)).heap[b]? = wr.heap[b]? := fun b hb =>
    keep b (by omega) (by omega) (fun e => by have := (hpo b e).1; omega)
  have hss : wr.heap.size ≤ (w4.setCell ⟨w.heap.size + 4, 0, none⟩ (.slice (some ⟨gg, 0, none⟩) (rs.length + 1) cap)).heap.size := by rw [set_size]; omega
  exact {
    bel := by
      refine set_below ?_ (by show w.heap.size ≤ w.heap.size + 4; omega)
      exact h1.bel.trans ⟨hgrow.os, hgrow.tape, hgrow.output, by omega, fun i hi => by
        rw [hgrow.block i (by omega) (fun e => by have := (hpo i e.symm).1; omega)]
        show (wr.heap.push O)[i]? = _
        rw [Array.getElem?_push, if_neg (by omega)]⟩
    sz := by omega
    res := (small _ (by omega)).trans h1.res
    vm := (small _ (by omega)).trans h1.vm
    fm := (small _ (by omega)).trans h1.fm
    om := (small _ (by omega)).trans h1.om
    pc := by
      have : w4.heap[w.heap.size + 4]? = some (.cells #[pv, .int .i64 0] 24) := by
        rw [hgrow.block _ (by omega) (fun e => by have := (hpo _ e.symm).1; omega)]
        show (wr.heap.push O)[w.heap.size + 4]? = _
        rw [Array.getElem?_push, if_neg (by omega)]
        exact h1.pc
      exact set_at this
    own := by
      refine ⟨rows ++ [[cv, .int .i64 vd]], (hro.mono fun x _ c hx => ?_).app (RowsOf.cons (sz := 2) (x := (⟨cs, vd⟩ : TRule)) (r := [cv, .int .i64 vd]) RowsOf.nil ?_ rfl), ?_⟩
      · obtain ⟨v, e1, e2⟩ := hx
        exact ⟨v, e1, e2.keep (fun b hb hlt => ⟨hb.1, fun e => by
          have e' : gg = b := by simpa [Value.ownBlock] using e
          rcases hat with h | h
          · exact hb.2 (by rw [h, e'])
          · omega⟩) (fun b hb hlt => keep b hlt (by have := hb.1; omega) hb.2) hss⟩
      · refine ⟨cv, rfl, ?_⟩
        have hs : RdConds wr (fun b => w2.heap.size + 1 ≤ b) cv cs := hown.sl fun _ h => h
        exact hs.keep (fun b hb hlt => ⟨by have : w2.heap.size + 1 ≤ b := hb; omega, fun e => by
          have e' : gg = b := by simpa [Value.ownBlock] using e
          have hb' : w2.heap.size + 1 ≤ b := hb
          rcases hat with h | h
          · have := (hpo gg h).2; omega
          · omega⟩) (fun b hb hlt => keep b hlt (by have : w2.heap.size + 1 ≤ b := hb; omega) (fun e => by have : w2.heap.size + 1 ≤ b := hb; have := (hpo b e).2; omega)) hss
      · have := ownsRow_keep1 (w' := w4.setCell ⟨w.heap.size + 4, 0, none⟩ (.slice (some ⟨gg, 0, none⟩) (rs.length + 1) cap)) hown4 (fun b hb _ _ => set_other (by show b ≠ w.heap.size + 4; omega))
        simpa using this }
end Go.Proofs.YthkgjohhbdipcaaDoor
