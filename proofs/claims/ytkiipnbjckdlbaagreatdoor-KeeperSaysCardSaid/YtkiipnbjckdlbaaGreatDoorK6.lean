/- Texts laid one behind the other: Short, Delta, CompRule, Compile, Tighten, Shelf, Whole, Laid, ReadSpec, ReadLib. No condition beyond theirs. -/
import Derived.Test.YtkiipnbjckdlbaaGreatDoorK4
import Derived.Test.YtkiipnbjckdlbaaGreatDoorK5
import Derived.Laws.ResultCell
import Derived.Test.YtkiipnbjckdlbaaGreatDoorK2
import Derived.Test.YtkiipnbjckdlbaaGreatDoorK1
import Derived.Shelf.Small.Bits
import Derived.Shelf.Small.Wraps
import Derived.Shelf.Utf8.RuneCount
import Derived.Shelf.Strconv.Itoa0
import Derived.Shelf.Strconv.Itoa1
import Derived.Shelf.LaysM
import Derived.Shelf.Strconv.Itoa2
import Derived.Shelf.Strconv.Itoa3
import Derived.Shelf.Strconv.Itoa4
import Derived.Shelf.Strconv.ParseIntEmpty
import Derived.Shelf.Strconv.Clone
import Derived.Shelf.Strconv.SyntaxError
import Derived.Shelf.LaysC
import Derived.Shelf.Strconv.ToError
import Derived.Shelf.Strconv.Lower
import Derived.Shelf.Strconv.ParseUint10
import Derived.Shelf.Strconv.ParseUint10Empty
import Derived.Shelf.Strconv.ParseUint10Any
import Derived.Shelf.Strconv.ParseInt10
import Derived.Shelf.Strconv.RangeError
import Derived.Shelf.Strconv.ToErrorRange
import Derived.Shelf.Strconv.ParseUintEmpty
import Derived.Shelf.Strconv.ParseUint10b64
import Derived.Shelf.Strconv.ParseUint10b32
import Derived.Shelf.Strconv.ParseUint10b16
import Derived.Shelf.Strconv.ParseUint10b8
import Derived.Shelf.Strconv.ParseUint10At
import Derived.Shelf.Strconv.ParseInt10At64
import Derived.Shelf.Strconv.ParseInt10At32
import Derived.Shelf.Strconv.ParseInt10At16
import Derived.Shelf.Strconv.ParseInt10At8
import Derived.Shelf.Strconv.ParseInt10All
import Derived.Shelf.Strconv.ParseIntPublic10
import Derived.Shelf.Strconv.ErrVarParseInt
import Derived.Shelf.Strings.Search1
import Derived.Shelf.Strings.Search2
import Derived.Shelf.Strings.Search3
import Derived.Shelf.Strings.Cut
import Derived.Shelf.Strings.Count
import Derived.Shelf.Strings.Shaped
import Derived.Shelf.Sort.Plain
import Derived.Shelf.Strings.Split
import Derived.Shelf.Strings.SplitShaped
import Derived.Shelf.Unicode.Decode
import Derived.Shelf.Strings.RuneCount
import Derived.Shelf.Strings.Explode
import Derived.Shelf.Unicode.DecodeSlow
import Derived.Shelf.Unicode.DecodeAny
import Derived.Ground.Names2Prog
import Derived.Shelf.Slices.CompactI
import Derived.Shelf.Slices.SearchI
import Derived.Shelf.Slices.Cells
import Derived.Shelf.Slices.In.SortNone
import Derived.Test.YtkiipnbjckdlbaaGreatDoorProg
import Derived.Lib.ParseIntB
import Derived.Lib.ItoaMem
import Derived.Test.YtkiipnbjckdlbaaGreatDoorK3
import Derived.Lib.SmallJoins
import Derived.Lib.QuietBelow
import Derived.KernelRfl
import Derived.Lib.Split
import Derived.Lib.SplitLaws
namespace Go.Proofs.YtkiipnbjckdlbaaGreatDoor
open Go.RowKit Go.Maps
attribute [local go_sem] gives givesUpon

/-- which rules are used, as the map has it. -/
def usedF (ks : List Nat) (z : Int) : Bool := ks.any fun i => decide ((i : Int) = z)
theorem usedF_nil : usedF [] = fun _ => false := rfl
theorem usedF_snoc (ks : List Nat) (k : Nat) : usedF (ks ++ [k]) = fun t => if t = (k : Int) then true else usedF ks t := by
  funext t
  unfold usedF
  rw [List.any_append]
  by_cases e : t = (k : Int)
  · subst e; simp
  · rw [if_neg e]
    have : decide ((k : Int) = t) = false := decide_eq_false (fun h => e h.symm)
    simp [this]
theorem usedF_at (ks : List Nat) (k : Nat) : usedF ks (k : Int) = ks.contains k := by
  unfold usedF
  rw [Bool.eq_iff_iff, List.any_eq_true, List.contains_iff_mem]
  constructor
  · rintro ⟨x, hx, e⟩
    have : (x : Int) = k := of_decide_eq_true e
    have : x = k := by omega
    subst this; exact hx
  · intro h; exact ⟨k, h, by simp⟩
theorem usedBy_take {p : TPol} {L : List TCall} {k : Nat} (h : k < L.length) : usedBy p (L.take (k + 1)) = usedBy p (L.take k) ++ [which L[k] p.rules] := by
  unfold usedBy
  rw [List.take_succ_eq_append_getElem h, List.map_append]
  rfl
/-- what the region of Short makes. -/
def shortG (w0 : World) (cs : List TCond) (vd : Int) (k : Nat) (vf : Nat → Value) (W : World) : Prop :=
  if k = 4 then OwnSl W w0.heap.size 89 3 condR (vf 4) cs else if k = 7 then OwnSl W w0.heap.size 89 3 condR (vf 4) cs else if k = 8 then NewRow w0.heap.size 80 1 #[vf 4, .int .i64 vd] (vf 8) W ∧ OwnSl W w0.heap.size 89 3 condR (vf 4) cs else True
theorem shortG_keep {w0 w w' : World} {cs : List TCond} {vd : Int} {k : Nat} {vf : Nat → Value} (hb : ∀ b, w0.heap.size ≤ b → b < w.heap.size → w'.heap[b]? = w.heap[b]?) (h : shortG w0 cs vd k vf w) : shortG w0 cs vd k vf w' := by
  unfold shortG at h ⊢
  split
  · rename_i e; rw [if_pos e] at h; exact h.keepFrom hb
  · rename_i e
    rw [if_neg e] at h
    split
    · rename_i e2; rw [if_pos e2] at h; exact h.keepFrom hb
    · rename_i e2
      rw [if_neg e2] at h
      split
      · rename_i e3; rw [if_pos e3] at h; exact ⟨h.1.keep hb, h.2.keepFrom hb⟩
      · trivial
/-- a world but for one block. -/
structure SameBut (β : Nat) (w w' : World) : Prop where
  os : w'.os = w.os
  tape : w'.tape = w.tape
  output : w'.output = w.output
  size : w.heap.size ≤ w'.heap.size
  blk : ∀ b, b < w.heap.size → b ≠ β → w'.heap[b]? = w.heap[b]?
theorem SameBut.refl (β : Nat) (w : World) : SameBut β w w := ⟨rfl, rfl, rfl, Nat.le_refl _, fun _ _ _ => rfl⟩
theorem SameBut.below {β : Nat} {w w' w'' : World} (h : SameBut β w w') (hb : Below w'.heap.size w' w'') : SameBut β w w'' := ⟨hb.os.trans h.os, hb.tape.trans h.tape, hb.output.trans h.output, Nat.le_trans h.size hb.size, fun b hl hn => (hb.block b (Nat.lt_of_lt_of_le hl h.size)).trans (h.blk b hl hn)⟩
theorem SameBut.set {β o : Nat} {v : Value} {w w' : World} (h : SameBut β w w') : SameBut β w (w'.setCell ⟨β, o, none⟩ v) := ⟨h.os, h.tape, h.output, by rw [set_size]; exact h.size, fun b hl hn => by rw [set_other (by exact hn)]; exact h.blk b hl hn⟩
theorem SameBut.bel {β B : Nat} {w w' : World} (h : SameBut β w w') (hB : B ≤ β) (hs : B ≤ w.heap.size) : Below B w w' := ⟨h.os, h.tape, h.output, h.size, fun b hl => h.blk b (by omega) (by omega)⟩

set_option maxRecDepth 100000 in
set_option maxHeartbeats 16000000 in
theorem short_any (u : Value) (p : TPol) (w : World) (hp : RdRules w (fun _ => True) u p.rules) :
    Calls Tryz.prog 50 #[polV u p.dflt] w fun e w' => ∃ r, e = .returned (.tuple #[polV r (shortE p).1.dflt, .int .i64 (shortE p).2]) ∧ RdRules w' (fun b => w.heap.size ≤ b ∧ NotPol w' b) r (shortE p).1.rules ∧ Below w.heap.size w w' := by
  have Hp := Lib.hid hp
  obtain ⟨ap, cp, rfl, _⟩ := Sl.form hp
  clear hp
  have hmm := @run_makeMap Tryz.prog
  go_enter Tryz.func50, Tryz.ntmps50
  go_wp2_with fail
  have HB := Lib.hid (Bx.three (w := w) (o := .cells #[.slice ap p.rules.length cp, .int .i64 p.dflt] 37) (o' := .cells #[.slice none 0 0, .int .i64 0] 37) (o2 := .cells #[.slice ap p.rules.length cp, .int .i64 p.dflt] 37))
  refine (points_any _ [p] (fun _ => True) _ (one_pol (blk_at (by simp)) (Hp.out.below HB.out.bel) trivial) (fun h0 f _ _ => vals_len h0 (by simp) f)).mono ?_
  rintro e w1 ⟨v1, rfl, ho1, hb1⟩
  have HB1 := Lib.hid (HB.out.below hb1)
  have hs1 : w.heap.size + 3 ≤ w1.heap.size := HB1.out.top
  have Ho1 := Lib.hid ho1
  obtain ⟨a1, c1, rfl⟩ := ho1.slice
  clear ho1 hb1
  by_cases h0 : (pointsE [p]).2 = 0
  · obtain ⟨hok, hsz5, hpe⟩ := pointsE_ok h0
    have HE : Hid (shortE p = (shortPol p, 0)) := shortE_of (hok p (by simp)) hsz5
    have HokP := Lib.hid (hok p (by simp))
    have hlp := HokP.out.len
    rw [hpe] at Ho1 ⊢
    dsimp only at Ho1 ⊢
    have Hl1 : Hid (RdCalls w1 (fun _ => True) (.slice a1 (stage [p] 5).length c1) (stage [p] 5)) := Ho1.out.sl (fun _ _ => trivial)
    have hSl : (stage [p] 5).length ≤ 1000 := by rw [stage_length]; assumption
    have Hpo := Lib.hid (fun x (hx : x ∈ stage [p] 5) => point_ok hok hx)
    have HSP : Hid (shortPol p = ⟨trimD p.dflt (usedRules (usedBy p (stage [p] 5)) p.rules 0), p.dflt⟩) := rfl
    obtain ⟨S, hS⟩ : ∃ S, S = stage [p] 5 := ⟨_, rfl⟩
    rw [← hS] at Hl1 Hpo hSl HSP ⊢
    have hat := fun h0 => Sl.at_ Hl1.out h0
    clear h0 hok hpe hS Ho1 hsz5
    go_wp2_with fail
    clear hmm
    go_loopw [29] (fun kv wr => ∃ k : Nat, kv = .int .i64 k ∧ k ≤ S.length ∧ BoolMap wr w1.heap.size k (usedF (usedBy p (S.take k))) ∧ Below w1.heap.size w1 wr) (fun kv _ => S.length - (intOf kv).toNat)
    case atStart => exact ⟨0, rfl, Nat.zero_le _, BoolMap.made w1, bel_alloc (Below.refl _ _) _⟩
    case round =>
      obtain ⟨k, rfl, hk, hm, hb⟩ := hrel
      have Hm := Lib.hid hm
      have Hb := Lib.hid hb
      have hszr := hb.size
      have HBr := Lib.hid (HB1.out.below hb)
      have hc0 := HBr.out.cells0
      clear hm hb
      by_cases hlt : k < S.length
      · obtain ⟨b, o, rfl, _, hblt⟩ := hat (by omega)
        obtain ⟨h0c, h1c, h2c, h3c, h4c⟩ := RdCalls.cells (Hl1.out.below Hb.out) hlt
        have Hxo := Lib.hid (Hpo.out S[k] (List.getElem_mem hlt))
        have Hut := Lib.hid (usedBy_take (p := p) hlt)
        obtain ⟨x, hx⟩ : ∃ x, S[k] = x := ⟨_, rfl⟩
        rw [hx] at h0c h1c h2c h3c h4c Hxo Hut
        have Hwl := Lib.hid (which_le x p.rules)
        have HBx := Lib.hid (HBr.out.alloc (.cells #[.int .i64 x.a0, .int .i64 x.a1, .int .i64 x.a2, .int .i64 x.a3, .int .i64 x.a4] 24))
        have hc0' := HBx.out.cells0
        clear hx
        go_wp2_with fail
        clear h0c h1c h2c h3c h4c hc0'
        refine (judge_any _ p x (fun _ => True) _ (Hp.out.below HBx.out.bel)).mono ?_
        rw [judgeE_says HokP.out Hxo.out]
        rintro e w3 ⟨rfl, hb3⟩
        have Hm3 := Lib.hid ((Hm.out.below (bel_alloc (Below.refl _ _) _)).below hb3)
        have Hb3 := Lib.hid ((Hb.out.trans ((bel_alloc (Below.refl wr.heap.size wr) _).mono hszr)).trans (hb3.mono (by simp; omega)))
        obtain ⟨wi, hwi⟩ : ∃ wi, which x p.rules = wi := ⟨_, rfl⟩
        have hj : (judged p x).2 = wi := by rw [← hwi]; rfl
        rw [hwi] at Hut Hwl
        rw [hj]
        have hwl := Hwl.out
        clear hb3 hwi hj
        go_wp2_with (at_mapUpdate; refine wpList_putBool rfl _ _ _ rfl w1.heap.size k _ rfl Hm3.out (by unfold maxLen; omega) (wi : Int) (by omega) (by omega) true rfl rfl ?_; intro w5 hm5 hg5; have Hm5 := Lib.hid hm5; have Hb5 := Lib.hid (Below.grown Hb3.out hg5 Hb3.out.size (fun g hg => by injection hg with hg; omega)); clear hm5 hg5)
        go_roundw
        case rel => exact ⟨k + 1, by go_num, by omega, by rw [Hut.out, usedF_snoc]; exact Hm5.out, Hb5.out⟩
        case measure => simp [intOf]; omega
      · obtain rfl : k = S.length := by omega
        obtain ⟨wo, rfl⟩ : ∃ wo : World, wo = wr := ⟨_, rfl⟩
        rw [List.take_length] at Hm
        have hbm : w1.heap.size < wo.heap.size := Hm.out.lt
        obtain ⟨ks, hks⟩ : ∃ ks, usedBy p S = ks := ⟨_, rfl⟩
        rw [hks] at Hm HSP
        have HBS := Lib.hid (HBr.out.alloc (.cells #[.slice none 0 0, .int .i64 p.dflt] 37))
        have HboxS := Lib.hid (heap_last wo (.cells #[.slice none 0 0, .int .i64 p.dflt] 37))
        have HmS := Lib.hid (Hm.out.below (bel_alloc (Below.refl _ _) (.cells #[.slice none 0 0, .int .i64 p.dflt] 37)))
        have hcS := HBS.out.cells0
        obtain ⟨i0, hi, hz0, hz1, hz2⟩ := info_parts infocRule
        have Hi := Lib.hid hi
        clear hks hi
        go_wp2_with fail
        clear hcS hc0
        go_loopw [49] (fun kv wk => ∃ (k : Nat) (pk : Value), kv = .int .i64 k ∧ k ≤ p.rules.length ∧ GatherI (wo.heap.size + 1) wo.heap.size (.int .i64 p.dflt) (wo.alloc (.cells #[.slice none 0 0, .int .i64 p.dflt] 37)) (.slice none 0 0) wk pk (usedRules ks (p.rules.take k) 0)) (fun kv _ => p.rules.length - (intOf kv).toNat)
        case atStart => exact ⟨0, _, rfl, by omega, GatherI.start HboxS.out OwnSl.nil⟩
        case round =>
          obtain ⟨k, pv, rfl, hk, hG⟩ := hrel
          obtain ⟨wk, rfl⟩ : ∃ wk : World, wk = wr := ⟨_, rfl⟩
          have HG := Lib.hid hG
          clear hG
          have hszk : wo.heap.size + 1 ≤ wk.heap.size := by have := HG.out.size; simpa using this
          have HBk : Hid (Bx w [.cells #[.slice ap p.rules.length cp, .int .i64 p.dflt] 37, .cells #[.slice none 0 0, .int .i64 0] 37, .cells #[.slice ap p.rules.length cp, .int .i64 p.dflt] 37] wk) := HBS.out.lift (B := w.heap.size + 3) (HG.out.belowB (Below.refl _ _) (by simp; omega) (by omega) (fun g hg => by simp [Value.ownBlock] at hg)) (by simp)
          by_cases hlt : k < p.rules.length
          · have Hpk := Lib.hid ((rules_lt Hp.out).below HBk.out.bel)
            obtain ⟨ba, oa, rfl, hDa, hba⟩ := Sl.at_ Hpk.out (by omega)
            obtain ⟨ca, cca, hca0, hca1, hra, hla, hma, _⟩ := RdRules.cells Hpk.out hlt
            have Hkr := Lib.hid (HokP.out.rules p.rules[k] (List.getElem_mem hlt))
            have Htk := Lib.hid (used_take (ks := ks) hlt)
            obtain ⟨ra, hrae⟩ : ∃ ra, p.rules[k] = ra := ⟨_, rfl⟩
            rw [hrae] at hca0 hca1 hra hla Hkr Htk
            have Hra := Lib.hid hra
            have hcl := Hkr.out.len
            have Hmk : Hid (BoolMap wk w1.heap.size S.length (usedF ks)) := HmS.out.keep (HG.out.blk w1.heap.size (by simp; omega) (by omega) (by simp [Value.ownBlock]))
            have hlk := ((Hmk.out.below (bel_alloc (Below.refl _ _) (.cells #[.slice ca ra.conds.length cca, .int .i64 ra.verdict] 80))).look (z := (k : Int)) (by omega) (by omega))
            rw [usedF_at] at hlk
            obtain ⟨bu, hbu⟩ : ∃ bu, ks.contains k = bu := ⟨_, rfl⟩
            rw [hbu] at hlk Htk
            have Hul : Hid ((usedRules ks (p.rules.take k) 0).length ≤ 120) := by
              have h1 := used_len ks (p.rules.take k)
              rw [List.length_take] at h1
              show _ ≤ _
              omega
            obtain ⟨rs, hrs⟩ : ∃ rs, usedRules ks (p.rules.take k) 0 = rs := ⟨_, rfl⟩
            rw [hrs] at HG Htk Hul
            have hrl : rs.length ≤ 120 := Hul.out
            clear hra hrae hrs hbu
            cases bu with
            | true =>
              have H14 : Hid ((wk.alloc (.cells #[.slice ca ra.conds.length cca, .int .i64 ra.verdict] 80)).heap[wk.heap.size]? = some (.cells #[.slice ca ra.conds.length cca, .int .i64 ra.verdict] 80)) := heap_last _ _
              have Hra0 : Hid (RdConds (wk.alloc (.cells #[.slice ca ra.conds.length cca, .int .i64 ra.verdict] 80)) (fun b => b ≠ wo.heap.size) (.slice ca ra.conds.length cca) ra.conds) := (Hra.out.keep (D' := fun b => b ≠ wo.heap.size) (fun b h _ => by have : b < w.heap.size := h; omega) (fun _ _ _ => rfl) (Nat.le_refl _)).below (bel_alloc (Below.refl _ _) _)
              have Hbox0 : Hid ((wk.alloc (.cells #[.slice ca ra.conds.length cca, .int .i64 ra.verdict] 80)).heap[wo.heap.size]? = some (.cells #[pv, .int .i64 p.dflt] 37)) := blk_old HG.out.box
              obtain ⟨rows, hro, hrow⟩ := HG.out.own
              have Hcv : Hid (∀ g, pv.ownBlock = some g → g ≠ wo.heap.size) := fun g hg => by have := (hrow.lt g hg).1; omega
              have Hro := Lib.hid hro
              have Hrow : Hid ((wk.alloc (.cells #[.slice ca ra.conds.length cca, .int .i64 ra.verdict] 80)).ownsRow (wo.heap.size + 1) 80 2 pv rs.length rows.flatten) := ownsRow_keep1 hrow fun b _ hl _ => (bel_alloc (Below.refl wk.heap.size wk) _).block b hl
              have Hβ0 : Hid (wo.heap.size < (wk.alloc (.cells #[.slice ca ra.conds.length cca, .int .i64 ra.verdict] 80)).heap.size) := by show _ < _; simp; omega
              have H14lt : Hid (wk.heap.size < (wk.alloc (.cells #[.slice ca ra.conds.length cca, .int .i64 ra.verdict] 80)).heap.size) := by show _ < _; simp
              have H14ne : Hid (wk.heap.size ≠ wo.heap.size) := by show _ ≠ _; omega
              have HwA : Hid (wo.heap.size + 1 ≤ (wk.alloc (.cells #[.slice ca ra.conds.length cca, .int .i64 ra.verdict] 80)).heap.size) := by show _ ≤ _; simp; omega
              clear hro hrow
              go_wp2_with fail
              clear hca0 hca1 hlk
              revert H14 Hra0 Hbox0 Hrow Hβ0 H14lt HwA
              obtain ⟨w0, hw0⟩ : ∃ w0, wk.alloc (.cells #[.slice ca ra.conds.length cca, .int .i64 ra.verdict] 80) = w0 := ⟨_, rfl⟩
              have HbJ : Hid (Below wk.heap.size wk w0) := by show Below _ _ _; rw [← hw0]; exact bel_alloc (Below.refl _ _) _
              rw [hw0]
              clear hw0
              intro H14 Hra0 Hbox0 Hrow Hβ0 H14lt HwA
              refine wp_region_apr wo.heap.size 37 #[pv, .int .i64 p.dflt] 0 (wo.heap.size + 1) 80 2 pv rs.length rows.flatten 1 (fun vf => [vf 4, .int .i64 ra.verdict]) 9 11 (shortG w0 ra.conds ra.verdict) (by kernel_rfl) (by kernel_rfl) _ rfl Hbox0.out Hrow.out (by omega) Hcv.out (by decide) (by decide) (fun k vf w1 w2 hb _ h => shortG_keep hb h)
                (fun k f g w1 hfg hk h => by
                  unfold shortG at h ⊢
                  split
                  · rename_i e; subst e; rw [if_pos rfl, hk] at h; exact h
                  · rename_i e
                    rw [if_neg e] at h
                    split
                    · rename_i e2; subst e2; rw [if_pos rfl, hfg 4 (by decide)] at h; exact h
                    · rename_i e2
                      rw [if_neg e2] at h
                      split
                      · rename_i e3; subst e3; rw [if_pos rfl, hk, hfg 4 (by decide)] at h; exact h
                      · trivial) (fun f g h => by show [f 4, _] = [g 4, _]; rw [h 4 (by decide)]) ?_
              (refine rel_ex (fun K hK => ?_); apply Exists.intro; refine ⟨fun done vf W hI h0 hd hn hf R hR => ?_, ?_, ?_⟩; (clear h0 hd hn hf; go_simp; exact hR _ _ (hI.step (Below.refl _ _) (by decide) (by decide) Hβ0.out) (ApT.of_below (Below.refl _ _)) rfl trivial); exact (fun _ _ _ => rfl); (go_simp; refine hK _ ?_; clear hK K))
              (refine rel_ex (fun K hK => ?_); apply Exists.intro; refine ⟨fun done vf W hI h0 hd hn hf R hR => ?_, ?_, ?_⟩; (have hcell := cells_of (hI.before (hn 11 (by decide))); clear h0 hd hn hf; go_simp; exact hR _ _ (hI.step (Below.refl _ _) (by decide) (by decide) Hβ0.out) (ApT.of_below (Below.refl _ _)) rfl trivial); exact (fun _ _ _ => rfl); (go_simp; refine hK _ ?_; clear hK K))
              (refine rel_ex (fun K hK => ?_); apply Exists.intro; refine ⟨fun done vf W hI h0 hd hn hf R hR => ?_, ?_, ?_⟩; (clear h0 hd hn hf; go_simp; exact hR _ _ (hI.step (Below.refl _ _) (by decide) (by decide) Hβ0.out) (ApT.of_below (Below.refl _ _)) rfl trivial); exact (fun _ _ _ => rfl); (go_simp; refine hK _ ?_; clear hK K))
              (refine rel_ex (fun K hK => ?_); apply Exists.intro; refine ⟨fun done vf W hI h0 hd hn hf R hR => ?_, ?_, ?_⟩; (have hcell := cells_of ((hI.old (hn 9 (by decide)) _ H14lt.out H14ne.out).trans H14.out); clear h0 hd hn hf; go_simp; exact hR _ _ (hI.step (Below.refl _ _) (by decide) (by decide) Hβ0.out) (ApT.of_below (Below.refl _ _)) rfl trivial); exact (fun _ _ _ => rfl); (go_simp; refine hK _ ?_; clear hK K))
              (refine rel_pr (fun K hK => ?_); refine ⟨fun done vf W hI h0 hd hn hf R hR => ?_, ?_⟩; (have HW := Lib.hid (hI.old (hn 9 (by decide))); have Hsz := Lib.hid hI.size; clear h0 hd hn hf; go_simp; go_at_call 83; refine (cloneCond_any condR oneCond (.slice ca ra.conds.length cca) ra.conds (fun _ => True) W (Hra0.out.keep (fun _ _ _ => trivial) (fun b hb hl => HW.out b hl hb) Hsz.out) (by omega)).mono ?_; (rintro e w5 ⟨v5, rfl, ho5, hb5⟩; exact ⟨_, rfl, hR _ _ (hI.step hb5 (by decide) (by decide) Hβ0.out) (ApT.of_below hb5) trivial (show OwnSl w5 w0.heap.size 89 3 condR v5 ra.conds from ho5.base Hsz.out)⟩)); (go_simp; refine hK _ ?_; clear hK K))
              (refine rel_ex (fun K hK => ?_); apply Exists.intro; refine ⟨fun done vf W hI h0 hd hn hf R hR => ?_, ?_, ?_⟩; (clear h0 hd hn hf; go_simp; exact hR _ _ (hI.step (Below.refl _ _) (by decide) (by decide) Hβ0.out) (ApT.of_below (Below.refl _ _)) rfl trivial); exact (fun _ _ _ => rfl); (go_simp; refine hK _ ?_; clear hK K))
              (refine rel_ex (fun K hK => ?_); apply Exists.intro; refine ⟨fun done vf W hI h0 hd hn hf R hR => ?_, ?_, ?_⟩; (have hcell := cells_of ((hI.old (hn 9 (by decide)) _ H14lt.out H14ne.out).trans H14.out); clear h0 hd hn hf; go_simp; exact hR _ _ (hI.step (Below.refl _ _) (by decide) (by decide) Hβ0.out) (ApT.of_below (Below.refl _ _)) rfl trivial); exact (fun _ _ _ => rfl); (go_simp; refine hK _ ?_; clear hK K))
              (refine rel_ex (fun K hK => ?_); refine ⟨fun vf => .agg #[vf 4, .int .i64 ra.verdict], fun done vf W hI h0 hd hn hf R hR => ?_, ?_, ?_⟩; (have h7 : OwnSl W w0.heap.size 89 3 condR (vf 4) ra.conds := hf 4 (hd 4 (by decide)); have h7k := h7; obtain ⟨a7, c7, h7⟩ := h7.slice; generalize ra.conds.length = n7 at h7; clear h0 hd hn hf; go_simp; exact hR _ _ (hI.step (Below.refl _ _) (by decide) (by decide) Hβ0.out) (ApT.of_below (Below.refl _ _)) (by show _ = Value.agg #[vf 4, .int .i64 ra.verdict]; rw [h7]) h7k); exact (fun f g h => by show Value.agg #[f 4, _] = Value.agg #[g 4, _]; rw [h 4 (by decide)]); (go_simp; refine hK _ ?_; clear hK K))
              (refine rel_pr (fun K hK => ?_); refine ⟨fun done vf W hI h0 hd hn hf R hR => ?_, ?_⟩; (have h7 : OwnSl W w0.heap.size 89 3 condR (vf 4) ra.conds := hf 7 (hd 7 (by decide)); have H7k := Lib.hid h7; obtain ⟨a7, c7, h7⟩ := h7.slice; generalize ra.conds.length = n7 at h7; have H7 := Lib.hid h7; clear h0 hd hn hf; go_simp; exact hR _ _ (hI.step (bel_alloc (Below.refl _ _) _) (by decide) (by decide) Hβ0.out) (ApT.of_below (bel_alloc (Below.refl _ _) _)) trivial ⟨⟨_, rfl, hI.size, by rw [heap_last]; show some (Obj.cells #[.slice a7 n7 c7, .int .i64 ra.verdict] _) = some (Obj.cells #[vf 4, .int .i64 ra.verdict] _); rw [H7.out]⟩, H7k.out.below (bel_alloc (Below.refl _ _) _)⟩); (go_simp; refine hK _ ?_; clear hK K))
              (refine rel_pr (fun K hK => ?_); refine ⟨fun done vf W hI h0 hd hn hf R hR => ?_, ?_⟩; (have h15 : NewRow w0.heap.size 80 1 #[vf 4, .int .i64 ra.verdict] (vf 8) W ∧ OwnSl W w0.heap.size 89 3 condR (vf 4) ra.conds := hf 8 (hd 8 (by decide)); obtain ⟨⟨bn, hbv, hbn, hcn⟩, h7⟩ := h15; obtain ⟨a7, c7, h7⟩ := h7.slice; refine ob_plain rfl ?_; refine gives_append_at (.tmp 58) (.tmp 65) 35 rfl (wo.heap.size + 1) 80 i0 _ 2 32 Tryz.underlying35 Hi.out hz0 hz1 hz2 rfl (by omega) pv rs.length rows.flatten (by rfl) (hI.own h0) ⟨bn, 0, none⟩ 1 1 [vf 4, .int .i64 ra.verdict] (by exact hbv) (by rfl) (World.news_of_block hcn) (by rw [h7]; simp [Value.oneCell']) (by omega) (by unfold maxLen; omega) (by omega) (by have := hI.size; have := HwA.out; omega) (fun v' w' h1 h2 h3 => hR _ _ (hI.appended (hn 11 (by decide)) Hcv.out h2 Hβ0.out) (ApT.of_grown h2) trivial ⟨by exact h1, by rcases h3 with h3 | h3; exact .inl h3; exact .inr (fun g hg => by have h9 : v'.ownBlock = some g := hg; rw [h3] at h9; injection h9 with h9; have := hI.size; omega)⟩)); (go_simp; refine hK _ ?_; clear hK K))
              (refine rel_ex (fun K hK => ?_); apply Exists.intro; refine ⟨fun done vf W hI h0 hd hn hf R hR => ?_, ?_, ?_⟩; (clear h0 hd hn hf; go_simp; exact hR _ _ (hI.step (Below.refl _ _) (by decide) (by decide) Hβ0.out) (ApT.of_below (Below.refl _ _)) rfl trivial); exact (fun _ _ _ => rfl); (go_simp; refine hK _ ?_; clear hK K))
              (refine rel_ex (fun K hK => ?_); apply Exists.intro; refine ⟨fun done vf W hI h0 hd hn hf R hR => ?_, ?_, ?_⟩; (have h16 : W.ownsRow (wo.heap.size + 1) 80 2 (vf 9) (rs.length + 1) (rows.flatten ++ [vf 4, .int .i64 ra.verdict]) ∧ _ := hf 9 (hd 9 (by decide)); obtain ⟨gv, cpv, hv16, _, _⟩ := World.ownsRow.form h16.1 (by omega); have hst := hI.stored (off := 0) (v := vf 9) (hd 9 (by decide)) (by decide); have hbf := hI.before h0; have hcb := cells_of hbf; have hfb := not_frozen hbf; have Hst := Lib.hid hst; have Hset := Lib.hid (set_at (o := 0) (v := vf 9) hbf); have H16 := Lib.hid hv16; clear hd hn hf h16 hst hbf; go_simp; rw [← H16.out]; exact hR _ _ Hst.out ApT.of_store rfl Hset.out); exact (fun _ _ _ => rfl); (go_simp; refine hK _ ?_; clear hK K))
              intro done vf W hd hI hF
              have h7 : OwnSl W w0.heap.size 89 3 condR (vf 4) ra.conds := hF 4 (by decide)
              have h16 : W.ownsRow (wo.heap.size + 1) 80 2 (vf 9) (rs.length + 1) (rows.flatten ++ [vf 4, .int .i64 ra.verdict]) ∧ ((vf 9).ownBlock = pv.ownBlock ∨ ∀ g, (vf 9).ownBlock = some g → w0.heap.size ≤ g) := hF 9 (by decide)
              have h18 : W.heap[wo.heap.size]? = some (.cells (#[pv, .int .i64 p.dflt].setIfInBounds 0 (vf 9)) 37) := hF 11 (by decide)
              have HN := Lib.hid (GatherI.step HG.out HbJ.out (by omega) HwA.out hI Hro.out h16.1 h16.2 h18 h7 ruleT_ne)
              clear hd hI hF h7 h16 h18
              go_wp2
              go_roundw
              case rel => exact ⟨k + 1, vf 9, by go_num, by omega, by rw [Htk.out]; exact HN.out⟩
              case measure => simp [intOf]; omega
            | false =>
              have HN := Lib.hid (HG.out.below (bel_alloc (Below.refl _ _) (.cells #[.slice ca ra.conds.length cca, .int .i64 ra.verdict] 80)))
              go_wp2
              go_roundw
              case rel => exact ⟨k + 1, pv, by go_num, by omega, by rw [Htk.out, if_neg (by simp), List.append_nil]; exact HN.out⟩
              case measure => simp [intOf]; omega
          · obtain rfl : k = p.rules.length := by omega
            rw [List.take_length] at HG
            have Hul : Hid ((usedRules ks p.rules 0).length ≤ 120) := by have h1 := used_len ks p.rules; show _ ≤ _; omega
            obtain ⟨L2, hL2⟩ : ∃ L2, usedRules ks p.rules 0 = L2 := ⟨_, rfl⟩
            rw [hL2] at HG HSP Hul
            obtain ⟨aP, cP, rfl, hcP, hcM, hatP⟩ := Sl.form HG.out.rules
            have hcb := cells_of HG.out.box
            have hll := Hul.out
            clear hL2
            go_wp2_with fail
            clear hcb
            go_loopw [15] (fun nv wn => ∃ n : Nat, nv = .int .i64 n ∧ n ≤ L2.length ∧ SameBut wo.heap.size wk wn ∧ wn.heap[wo.heap.size]? = some (.cells #[.slice aP n cP, .int .i64 p.dflt] 37) ∧ trimD p.dflt (L2.take n) = trimD p.dflt L2) (fun nv _ => (intOf nv).toNat)
            case atStart => exact ⟨L2.length, rfl, Nat.le_refl _, SameBut.refl _ _, HG.out.box, by rw [List.take_length]⟩
            case round =>
              obtain ⟨n, rfl, hn, hS, hbx, htr⟩ := hrel
              have HS := Lib.hid hS
              have Hbx := Lib.hid hbx
              have Htr := Lib.hid htr
              have hszn := hS.size
              have HRn : Hid (RdRules wr (fun b => wo.heap.size + 1 ≤ b ∧ NotPol wr b) (.slice aP L2.length cP) L2) := HG.out.rules.keep (fun b h hl => ⟨h.1, h.2.keep (HS.out.blk b hl (by have := h.1; omega))⟩) (fun b hb hl => HS.out.blk b hl (by have := hb.1; omega)) HS.out.size
              clear hS hbx htr
              have HBr2 := Lib.hid (HBk.out.lift (B := w.heap.size + 3) (HS.out.bel (by omega) (by omega)) (by simp))
              rcases Nat.eq_zero_or_pos n with rfl | hpos
              · have Hfin : Hid (trimD p.dflt L2 = L2.take 0) := by show _ = _; rw [← Htr.out]; simp [trimD]
                go_wp2_with fail
                refine wp_region_exact3 wr.heap.size (Nat.le_refl _) (by kernel_rfl) (by kernel_rfl) ?_
                repeat (refine monoE_step (fun K hK => ?_); apply Exists.intro; refine ⟨fun W hC R hR => ?_, ?_⟩; ((go_simp; exact hR _ _ (Below.refl _ _) rfl)); (go_simp; refine hK _ ?_; clear hK K))
                intro wn hCn
                have HBn := Lib.hid (HBr2.out.below hCn.2)
                have Hbr := Lib.hid (blk_below Hbx.out hCn.2)
                have Hrd : Hid (RdRules wn (fun b => wo.heap.size + 1 ≤ b ∧ NotPol wn b) (.slice aP 0 cP) (L2.take 0)) := (show RdRules wr (fun b => wo.heap.size + 1 ≤ b ∧ NotPol wr b) (.slice aP 0 cP) (L2.take 0) from Sl.take HRn.out (Nat.zero_le _)).keep (fun b h hl => ⟨h.1, h.2.keep (hCn.2.block b hl)⟩) (fun b _ hl => hCn.2.block b hl) hCn.2.size
                clear hCn
                have hcb := cells_of Hbr.out
                have HB7 := Lib.hid (HBn.out.set (i := 1) rfl 0 (.slice aP 0 cP))
                have HB8 := Lib.hid (HB7.out.set (i := 1) rfl 1 (.int .i64 p.dflt))
                have hc2 := HBn.out.cells1
                have hf2 := HBn.out.free1
                have hc3 := HB8.out.cells1
                have HR8 : Hid (RdRules ((wn.setCell ⟨w.heap.size + 1, 0, none⟩ (.slice aP 0 cP)).setCell ⟨w.heap.size + 1, 1, none⟩ (.int .i64 p.dflt)) (fun b => w.heap.size ≤ b ∧ NotPol ((wn.setCell ⟨w.heap.size + 1, 0, none⟩ (.slice aP 0 cP)).setCell ⟨w.heap.size + 1, 1, none⟩ (.int .i64 p.dflt)) b) (.slice aP 0 cP) (L2.take 0)) := by
                  have hsame : ∀ b, wo.heap.size + 1 ≤ b → (((wn.setCell ⟨w.heap.size + 1, 0, none⟩ (.slice aP 0 cP)).setCell ⟨w.heap.size + 1, 1, none⟩ (.int .i64 p.dflt))).heap[b]? = wn.heap[b]? := fun b hb => by rw [set_other (by show b ≠ w.heap.size + 1; omega), set_other (by show b ≠ w.heap.size + 1; omega)]
                  exact Hrd.out.keep (fun b h _ => ⟨by have := h.1; omega, h.2.keep (hsame b h.1)⟩) (fun b hb _ => hsame b hb.1) (by rw [set_size, set_size]; exact Nat.le_refl _)
                go_wp2
                refine bodyPost_ret (v := .tuple #[polV (.slice aP 0 cP) p.dflt, .int .i64 0]) ?_ rfl (by rw [HE.out, HSP.out, Hfin.out]; exact ⟨_, rfl, HR8.out, HB8.out.bel⟩)
                rw [results_cell_tmp rfl]
                go_simp
              · obtain ⟨m, rfl⟩ : ∃ m, n = m + 1 := ⟨n - 1, by omega⟩
                obtain ⟨bP, oP, rfl, hDP, hbP⟩ := hatP (by omega)
                have hbPn : bP < wr.heap.size := by omega
                obtain ⟨cx, ccx, _, hv1, _⟩ := RdRules.cells HRn.out (i := m) (by omega)
                obtain ⟨vm, hvm⟩ : ∃ vm, L2[m].verdict = vm := ⟨_, rfl⟩
                rw [hvm] at hv1
                have HC : Hid (∀ W, Cls wr.heap.size wr W → (∀ j, W.cell? ⟨wo.heap.size, j, none⟩ = (#[.slice (some ⟨bP, oP, none⟩) (m + 1) cP, .int .i64 p.dflt] : Array Value)[j]?) ∧ W.cell? ⟨bP, oP + m * 2 + 1, none⟩ = some (.int .i64 vm)) := fun W hW =>
                  ⟨cells_of (blk_below Hbx.out hW.2), (hW.2.cell (p := ⟨bP, oP + m * 2 + 1, none⟩) hbPn).trans hv1⟩
                have Hvm := Lib.hid hvm
                have e1 : ((m : Int) + 1 - 1) = (m : Int) := by omega
                have hwm : IntKind.i64.wrap (m : Int) = (m : Int) := IntWalk.i64_in _ (by omega)
                have hm0 : (0 : Int) ≤ (m : Int) := by omega
                have hm1 : (m : Int) < (m : Int) + 1 := by omega
                clear hvm hv1
                go_wp2_with fail
                refine wp_region_exact3 wr.heap.size (Nat.le_refl _) (by kernel_rfl) (by kernel_rfl) ?_
                repeat (refine monoE_step (fun K hK => ?_); apply Exists.intro; refine ⟨fun W hC R hR => ?_, ?_⟩; ((have hcc := HC.out W hC; go_simp; exact hR _ _ (Below.refl _ _) rfl)); (go_simp; refine hK _ ?_; clear hK K))
                intro wn hCn
                have HBn := Lib.hid (HBr2.out.below hCn.2)
                have Hbr := Lib.hid (blk_below Hbx.out hCn.2)
                have HSn := Lib.hid (HS.out.below hCn.2)
                have Hrd : Hid (RdRules wn (fun b => wo.heap.size + 1 ≤ b ∧ NotPol wn b) (.slice (some ⟨bP, oP, none⟩) (m + 1) cP) (L2.take (m + 1))) := (show RdRules wr (fun b => wo.heap.size + 1 ≤ b ∧ NotPol wr b) (.slice (some ⟨bP, oP, none⟩) (m + 1) cP) (L2.take (m + 1)) from Sl.take HRn.out (by omega)).keep (fun b h hl => ⟨h.1, h.2.keep (hCn.2.block b hl)⟩) (fun b _ hl => hCn.2.block b hl) hCn.2.size
                clear hCn
                by_cases hv : vm = p.dflt
                · have d : (vm == p.dflt) = true := beq_iff_eq.2 hv
                  simp only [d]
                  have Htd := Lib.hid (trim_down (d := p.dflt) (l := L2) (n := m) (by omega) (Hvm.out.trans hv))
                  have hcb := cells_of Hbr.out
                  have hfb := not_frozen Hbr.out
                  have Hst := Lib.hid (set_at (o := 0) (v := .slice (some ⟨bP, oP, none⟩) m cP) Hbr.out)
                  clear hv
                  go_wp2
                  go_roundw
                  case rel => exact ⟨m, by go_num, by omega, HSn.out.set, Hst.out, by rw [← Htd.out]; exact Htr.out⟩
                  case measure => simp [intOf]
                · have d : (vm == p.dflt) = false := by simpa using hv
                  simp only [d]
                  have Hfin : Hid (trimD p.dflt L2 = L2.take (m + 1)) := by show _ = _; rw [← Htr.out, trim_stop (by omega) (by rw [Hvm.out]; exact hv)]
                  clear hv
                  have hcb := cells_of Hbr.out
                  have HB7 := Lib.hid (HBn.out.set (i := 1) rfl 0 (.slice (some ⟨bP, oP, none⟩) (m + 1) cP))
                  have HB8 := Lib.hid (HB7.out.set (i := 1) rfl 1 (.int .i64 p.dflt))
                  have hc2 := HBn.out.cells1
                  have hf2 := HBn.out.free1
                  have hc3 := HB8.out.cells1
                  have HR8 : Hid (RdRules ((wn.setCell ⟨w.heap.size + 1, 0, none⟩ (.slice (some ⟨bP, oP, none⟩) (m + 1) cP)).setCell ⟨w.heap.size + 1, 1, none⟩ (.int .i64 p.dflt)) (fun b => w.heap.size ≤ b ∧ NotPol ((wn.setCell ⟨w.heap.size + 1, 0, none⟩ (.slice (some ⟨bP, oP, none⟩) (m + 1) cP)).setCell ⟨w.heap.size + 1, 1, none⟩ (.int .i64 p.dflt)) b) (.slice (some ⟨bP, oP, none⟩) (m + 1) cP) (L2.take (m + 1))) := by
                    have hsame : ∀ b, wo.heap.size + 1 ≤ b → (((wn.setCell ⟨w.heap.size + 1, 0, none⟩ (.slice (some ⟨bP, oP, none⟩) (m + 1) cP)).setCell ⟨w.heap.size + 1, 1, none⟩ (.int .i64 p.dflt))).heap[b]? = wn.heap[b]? := fun b hb => by rw [set_other (by show b ≠ w.heap.size + 1; omega), set_other (by show b ≠ w.heap.size + 1; omega)]
                    exact Hrd.out.keep (fun b h _ => ⟨by have := h.1; omega, h.2.keep (hsame b h.1)⟩) (fun b hb _ => hsame b hb.1) (by rw [set_size, set_size]; exact Nat.le_refl _)
                  go_wp2
                  refine bodyPost_ret (v := .tuple #[polV (.slice (some ⟨bP, oP, none⟩) (m + 1) cP) p.dflt, .int .i64 0]) ?_ rfl (by rw [HE.out, HSP.out, Hfin.out]; exact ⟨_, rfl, HR8.out, HB8.out.bel⟩)
                  rw [results_cell_tmp rfl]
                  go_simp
  · have hb0 : ((pointsE [p]).2 != 0) = true := bne_iff_ne.2 h0
    have HE : Hid (shortE p = (zeroPol, (pointsE [p]).2)) := by show shortE p = _; unfold shortE; rw [if_pos h0]
    have hc2 := HB1.out.cells1
    have hf2 := HB1.out.free1
    have HB7 := Lib.hid (HB1.out.set (i := 1) rfl 0 (.slice none 0 0))
    have HB8 := Lib.hid (HB7.out.set (i := 1) rfl 1 (.int .i64 0))
    have hc3 := HB8.out.cells1
    clear h0
    go_wp2
    refine bodyPost_ret (v := .tuple #[polV (.slice none 0 0) 0, .int .i64 (pointsE [p]).2]) ?_ rfl (by rw [HE.out]; exact ⟨_, rfl, nil_rules _ _, HB8.out.bel⟩)
    rw [results_cell_tmp rfl]
    go_simp
end Go.Proofs.YtkiipnbjckdlbaaGreatDoor
namespace Go.Proofs.YtkiipnbjckdlbaaGreatDoor
open Go.RowKit

set_option maxHeartbeats 8000000 in
theorem delta_any (u v : Value) (p q : TPol) (w : World) (hp : RdRules w (fun _ => True) u p.rules) (hq : RdRules w (fun _ => True) v q.rules) :
    Calls Tryz.prog 17 #[polV u p.dflt, polV v q.dflt] w fun e w' => ∃ r, e = .returned (.tuple #[polV r (deltaE p q).1.dflt, .int .i64 (deltaE p q).2]) ∧ RdRules w' (fun b => w.heap.size ≤ b ∧ NotPol w' b) r (deltaE p q).1.rules ∧ Below w.heap.size w w' := by
  have Hp := Lib.hid hp
  have Hq := Lib.hid hq
  obtain ⟨ap, cp, rfl, _⟩ := Sl.form hp
  obtain ⟨aq, cq, rfl, _⟩ := Sl.form hq
  clear hp hq
  obtain ⟨⟨L1, L2, L3⟩, hL⟩ : ∃ E, looserE q p = E := ⟨_, rfl⟩
  have HL := Lib.hid hL
  obtain ⟨⟨X, xe⟩, hX⟩ : ∃ E, pairE exceptOf q p = E := ⟨_, rfl⟩
  have HX := Lib.hid hX
  obtain ⟨⟨Y, ye⟩, hY⟩ : ∃ E, shortE X = E := ⟨_, rfl⟩
  have HY := Lib.hid hY
  have HD : Hid (deltaE p q = if L3 ≠ 0 then (zeroPol, L3) else if L1 then (zeroPol, 7) else if xe ≠ 0 then (zeroPol, xe) else (Y, ye)) := by
    show deltaE p q = _
    unfold deltaE
    rw [hL, hX]
    dsimp only
    by_cases hx : xe = 0
    · have hXe : X = pairPol exceptOf q p := by
        have := (pairE_ok (of := exceptOf) (p := q) (q := p) (by rw [hX]; exact hx)).2.2.2
        rw [hX] at this
        exact (Prod.mk.inj this).1
      rw [← hXe, hY]
    · rw [if_pos hx, if_pos hx]
  clear hL hX hY
  go_enter Tryz.func17, Tryz.ntmps17
  go_wp2_with fail
  have HB := Lib.hid (Bx.three (w := w) (o := .cells #[.slice ap p.rules.length cp, .int .i64 p.dflt] 37) (o' := .cells #[.slice aq q.rules.length cq, .int .i64 q.dflt] 37) (o2 := .cells #[.slice none 0 0, .int .i64 0] 37))
  refine (looser_any _ _ q p _ (Hq.out.below HB.out.bel) (Hp.out.below HB.out.bel)).mono ?_
  rw [HL.out]
  rintro e w1 ⟨rfl, hb1⟩
  have HB1 := Lib.hid (HB.out.below hb1)
  have hD1 := Bx.one (w := w1) (o := .cells #[.int .i64 0, .int .i64 0, .int .i64 0, .int .i64 0, .int .i64 0] 24)
  have HD2 := Lib.hid (Bx.one (w := w1) (o := .cells #[.int .i64 L2.a0, .int .i64 L2.a1, .int .i64 L2.a2, .int .i64 L2.a3, .int .i64 L2.a4] 24))
  have hcn := hD1.cells0
  have hfn := hD1.free0
  have HB2 := Lib.hid (HB1.out.below HD2.out.bel)
  have hq0 := HB2.out.cells0
  have hq1 := HB2.out.cells1
  have hq2 := HB2.out.cells2
  have hf2 := HB2.out.free2
  clear hD1 hb1
  by_cases h3 : L3 = 0
  · subst h3
    cases L1 with
    | true =>
      have HE : Hid (deltaE p q = (zeroPol, 7)) := by show deltaE p q = _; rw [HD.out, if_neg (by simp), if_pos rfl]
      have HB3 := Lib.hid (HB2.out.set (i := 2) rfl 0 (.slice none 0 0))
      have HB4 := Lib.hid (HB3.out.set (i := 2) rfl 1 (.int .i64 0))
      have hc4 := HB4.out.cells2
      go_wp2
      refine bodyPost_ret (v := .tuple #[polV (.slice none 0 0) 0, .int .i64 7]) ?_ rfl (by rw [HE.out]; exact ⟨_, rfl, nil_rules _ _, HB4.out.bel⟩)
      rw [results_cell_tmp rfl]
      go_simp
    | false =>
      go_wp2_with fail
      clear hcn hfn hq0 hq1 hq2 hf2 HD2
      revert HB2
      generalize (w1.alloc (.cells #[.int .i64 L2.a0, .int .i64 L2.a1, .int .i64 L2.a2, .int .i64 L2.a3, .int .i64 L2.a4] 24)) = w2
      intro HB2
      refine (exceptPol_any _ _ q p _ (Hq.out.below HB2.out.bel) (Hp.out.below HB2.out.bel)).mono ?_
      rw [HX.out]
      rintro e w3 ⟨rX, rfl, hrX, hb3⟩
      have HB3 := Lib.hid (HB2.out.below hb3)
      have RX := Lib.hid (rules_true hrX)
      obtain ⟨aX, cX, rfl, _⟩ := Sl.form hrX
      have HC := Lib.hid (Bx.one (w := w3) (o := .cells #[.slice aX X.rules.length cX, .int .i64 X.dflt] 37))
      have HB4 := Lib.hid (HB3.out.below HC.out.bel)
      have RX4 := Lib.hid (RX.out.below HC.out.bel)
      have hq2 := HB4.out.cells2
      have hf2 := HB4.out.free2
      have hqc := HC.out.cells0
      clear hrX hb3
      by_cases hx : xe = 0
      · subst hx
        have HE : Hid (deltaE p q = (Y, ye)) := by show deltaE p q = _; rw [HD.out, if_neg (by simp), if_neg (by simp), if_neg (by simp)]
        have htop : w.heap.size + 3 ≤ w3.heap.size := HB3.out.top
        go_wp2_with fail
        clear hq2 hf2 hqc
        refine (short_any _ X _ RX4.out).mono ?_
        rw [HY.out]
        rintro e w5 ⟨rY, rfl, hrY, hb5⟩
        have HB5 := Lib.hid (HB4.out.below hb5)
        have RY := Lib.hid hrY
        obtain ⟨aY, cY, rfl, _⟩ := Sl.form hrY
        have hq2 := HB5.out.cells2
        have hf2 := HB5.out.free2
        have HB6 := Lib.hid (HB5.out.set (i := 2) rfl 0 (.slice aY Y.rules.length cY))
        have HB7 := Lib.hid (HB6.out.set (i := 2) rfl 1 (.int .i64 Y.dflt))
        have hc4 := HB7.out.cells2
        clear hrY hb5
        have HR8 : Hid (RdRules ((w5.setCell ⟨w.heap.size + 2, 0, none⟩ (.slice aY Y.rules.length cY)).setCell ⟨w.heap.size + 2, 1, none⟩ (.int .i64 Y.dflt)) (fun b => w.heap.size ≤ b ∧ NotPol ((w5.setCell ⟨w.heap.size + 2, 0, none⟩ (.slice aY Y.rules.length cY)).setCell ⟨w.heap.size + 2, 1, none⟩ (.int .i64 Y.dflt)) b) (.slice aY Y.rules.length cY) Y.rules) := by
          have hsame : ∀ b, w.heap.size + 3 ≤ b → ((w5.setCell ⟨w.heap.size + 2, 0, none⟩ (.slice aY Y.rules.length cY)).setCell ⟨w.heap.size + 2, 1, none⟩ (.int .i64 Y.dflt)).heap[b]? = w5.heap[b]? := fun b hb => by rw [set_other (by show b ≠ w.heap.size + 2; omega), set_other (by show b ≠ w.heap.size + 2; omega)]
          have hlow : ∀ b, (w3.alloc (.cells #[.slice aX X.rules.length cX, .int .i64 X.dflt] 37)).heap.size ≤ b → w.heap.size + 3 ≤ b := fun b hb => by simp at hb; omega
          exact RY.out.keep (fun b h _ => ⟨by have := hlow b h.1; omega, h.2.keep (hsame b (hlow b h.1))⟩) (fun b hb _ => hsame b (hlow b hb.1)) (by rw [set_size, set_size]; exact Nat.le_refl _)
        go_wp2
        refine bodyPost_ret (v := .tuple #[polV (.slice aY Y.rules.length cY) Y.dflt, .int .i64 ye]) ?_ rfl (by rw [HE.out]; exact ⟨_, rfl, HR8.out, HB7.out.bel⟩)
        rw [results_cell_tmp rfl]
        go_simp
      · have hb0 : (xe != 0) = true := bne_iff_ne.2 hx
        have HE : Hid (deltaE p q = (zeroPol, xe)) := by show deltaE p q = _; rw [HD.out, if_neg (by simp), if_neg (by simp), if_pos hx]
        have HB5 := Lib.hid (HB4.out.set (i := 2) rfl 0 (.slice none 0 0))
        have HB6 := Lib.hid (HB5.out.set (i := 2) rfl 1 (.int .i64 0))
        have hc4 := HB6.out.cells2
        clear hx
        go_wp2
        refine bodyPost_ret (v := .tuple #[polV (.slice none 0 0) 0, .int .i64 xe]) ?_ rfl (by rw [HE.out]; exact ⟨_, rfl, nil_rules _ _, HB6.out.bel⟩)
        rw [results_cell_tmp rfl]
        go_simp
  · have hb0 : (L3 != 0) = true := bne_iff_ne.2 h3
    have HE : Hid (deltaE p q = (zeroPol, L3)) := by show deltaE p q = _; rw [HD.out, if_pos h3]
    have HB3 := Lib.hid (HB2.out.set (i := 2) rfl 0 (.slice none 0 0))
    have HB4 := Lib.hid (HB3.out.set (i := 2) rfl 1 (.int .i64 0))
    have hc4 := HB4.out.cells2
    clear h3
    go_wp2
    refine bodyPost_ret (v := .tuple #[polV (.slice none 0 0) 0, .int .i64 L3]) ?_ rfl (by rw [HE.out]; exact ⟨_, rfl, nil_rules _ _, HB4.out.bel⟩)
    rw [results_cell_tmp rfl]
    go_simp
end Go.Proofs.YtkiipnbjckdlbaaGreatDoor
namespace Go.Proofs.YtkiipnbjckdlbaaGreatDoor
open Go.RowKit

theorem lenTo_two' {α : Type} (a b : List α) : lenTo [a, b] [a, b].length = a.length + b.length := by simp [lenTo]
theorem condIns_drop {l : List TCond} {v : Int} {j : Nat} (h : j < l.length) : condIns (l.drop j) v = ⟨1, l[j].f, 0, 0⟩ :: jumpIns l[j] (condIns (l.drop (j + 1)) v).length :: condIns (l.drop (j + 1)) v := by
  rw [List.drop_eq_getElem_cons h]
  simp only [condIns, condIns_len]
  have : ((2 * (l.drop (j + 1)).length + 1 : Nat) : Int) = 2 * ((l.drop (j + 1)).length : Int) + 1 := by omega
  rw [this]
theorem rule_arg {W : World} {b3 b4 c' : Nat} {a' : Option Addr} {D : Nat → Prop} {i1 i2 : TIns} {L : List TIns} {T T' : TypeId} (h : RdCode W D (.slice a' L.length c') L)
    (h3 : W.heap[b3]? = some (.cells #[.int .i64 i1.k, .int .i64 i1.a, .int .i64 i1.b, .int .i64 i1.c, .int .i64 i2.k, .int .i64 i2.a, .int .i64 i2.b, .int .i64 i2.c] T))
    (h4 : W.heap[b4]? = some (.cells #[.slice (some ⟨b3, 0, none⟩) 2 2, .slice a' L.length c'] T')) (d3 : D b3) (d4 : D b4) : Sl W D 1 (rowsRIns W D) (.slice (some ⟨b4, 0, none⟩) 2 2) [[i1, i2], L] :=
  sl_block (xs := [[i1, i2], L]) (rows := [[.slice (some ⟨b3, 0, none⟩) 2 2], [.slice a' L.length c']])
    (RowsOf.cons (RowsOf.cons RowsOf.nil ⟨_, rfl, h⟩ rfl) ⟨_, rfl, sl_block (xs := [i1, i2]) (rows := [[.int .i64 i1.k, .int .i64 i1.a, .int .i64 i1.b, .int .i64 i1.c], [.int .i64 i2.k, .int .i64 i2.a, .int .i64 i2.b, .int .i64 i2.c]])
      (RowsOf.cons (RowsOf.cons RowsOf.nil rfl rfl) rfl rfl) h3 rfl d3 (by simp [maxLen])⟩ rfl) h4 rfl d4 (by simp [maxLen])
set_option maxHeartbeats 4000000 in
theorem rule_any (u : Value) (r : TRule) (D : Nat → Prop) (w : World) (h : RdConds w D u r.conds) (hl : r.conds.length ≤ 10) :
    Calls Tryz.prog 65 #[.agg #[u, .int .i64 r.verdict]] w fun e w' => ∃ v, e = .returned v ∧ RdCode w' (fun b => w.heap.size ≤ b) v (condIns r.conds r.verdict) ∧ Below w.heap.size w w' := by
  obtain ⟨a, c, rfl, hlc, hcm, hat⟩ := Sl.form h
  have H := Lib.hid h
  obtain ⟨n, hn⟩ : ∃ n : Nat, n = r.conds.length := ⟨_, rfl⟩
  have Hn := Lib.hid hn
  rw [← hn] at hl hlc hat ⊢
  clear h hn
  go_enter Tryz.func65, Tryz.ntmps65
  go_wp2_with fail
  go_loopw [3, 4] (fun ov kv wr => ∃ (k : Nat) (vs : Value), kv = .int .i64 k ∧ ov = vs ∧ k ≤ n ∧ RdCode wr (fun b => w.heap.size ≤ b) vs (condIns (r.conds.drop k) r.verdict) ∧ Below (w.heap.size + 1) (w.alloc (.cells #[.slice a n c, .int .i64 r.verdict] 80)) wr) (fun _ kv _ => (intOf kv).toNat)
  case atStart =>
    refine ⟨n, .slice (some ⟨w.heap.size + 1, 0, none⟩) 1 1, rfl, rfl, Nat.le_refl _, ?_, (Below.refl _ _).alloc (by simp) _⟩
    have e : condIns (r.conds.drop n) r.verdict = [⟨4, r.verdict, 0, 0⟩] := by rw [Hn.out, List.drop_length]; rfl
    rw [e]
    exact sl_block (R := insR) (sz := 4) (xs := [(⟨4, r.verdict, 0, 0⟩ : TIns)]) (rows := [[.int .i64 4, .int .i64 r.verdict, .int .i64 0, .int .i64 0]]) (RowsOf.cons RowsOf.nil rfl rfl) (blk_at (by simp)) rfl (by simp) (by simp [maxLen])
  case round =>
    obtain ⟨k, vs, rfl, rfl, hk, hrd, hb⟩ := hrel
    have hbc := box_cells hb
    have hbw := bel_box hb
    have hsz := size_box hb
    obtain ⟨a', c', rfl, hlc', hcm', _⟩ := Sl.form hrd
    have Hrd := Lib.hid hrd
    have Hb := Lib.hid hb
    have Hbw := Lib.hid hbw
    clear hrd hb hbw
    cases k with
    | zero =>
      go_wp2
      go_ret
      exact ⟨_, rfl, Hrd.out, Hbw.out⟩
    | succ j =>
      have hjl : j < r.conds.length := by have := Hn.out; omega
      obtain ⟨b, o, rfl, hDb, hblt⟩ := hat (by omega)
      have hcells := RdConds.cells (H.out.below Hbw.out) hjl
      have hcd : Hid (condIns (r.conds.drop j) r.verdict = ⟨1, r.conds[j].f, 0, 0⟩ :: jumpIns r.conds[j] (condIns (r.conds.drop (j + 1)) r.verdict).length :: condIns (r.conds.drop (j + 1)) r.verdict) := condIns_drop hjl
      have hlen : Hid ((condIns (r.conds.drop (j + 1)) r.verdict).length ≤ 21) := by show _ ≤ _; rw [condIns_len, List.length_drop]; have := Hn.out; omega
      obtain ⟨⟨cf, cop, cv⟩, hcj⟩ : ∃ y : TCond, r.conds[j] = y := ⟨_, rfl⟩
      rw [hcj] at hcells hcd
      generalize hL : condIns (r.conds.drop (j + 1)) r.verdict = L at *
      clear hL hcj hcm' hlc'
      rcases (by omega : cop = 2 ∨ cop ≠ 2 ∧ cop = 3 ∨ cop ≠ 2 ∧ cop ≠ 3 ∧ cop = 4 ∨ cop ≠ 2 ∧ cop ≠ 3 ∧ cop ≠ 4) with e2 | ⟨e2, e3⟩ | ⟨e2, e3, e4⟩ | ⟨e2, e3, e4⟩
      · have HJ : Hid (jumpIns ⟨cf, cop, cv⟩ L.length = ⟨2, cv, L.length, 0⟩) := by show jumpIns _ _ = _; unfold jumpIns; dsimp only; rw [if_pos e2]
        have b2 : (cop == 2) = true := beq_iff_eq.2 e2
        clear e2
        go_wp2_with fail
        refine (concatIns_any _ [[⟨1, cf, 0, 0⟩, jumpIns ⟨cf, cop, cv⟩ L.length], L] (fun b => w.heap.size ≤ b) _ (rule_arg (b3 := wr.heap.size + 1 + 1) (Hrd.out.below (bel_alloc (bel_alloc (bel_alloc (bel_alloc (Below.refl _ _) _) _) _) _)) (by rw [HJ.out]; exact blk_old (blk_at (by simp))) (blk_at (by simp)) (by omega) (by omega)) (by rw [lenTo_two']; have := hlen.out; simp; omega)).mono ?_
        rintro e w1 ⟨v1, rfl, hown0, hb1⟩
        have hown := hown0
        rw [show [[(⟨1, cf, 0, 0⟩ : TIns), jumpIns ⟨cf, cop, cv⟩ L.length], L].flatten = ⟨1, cf, 0, 0⟩ :: jumpIns ⟨cf, cop, cv⟩ L.length :: L from by simp] at hown
        clear hown0
        have hb2 := bel_call (bel_alloc (bel_alloc (bel_alloc (bel_alloc (Below.refl wr.heap.size wr) _) _) _) _) hb1
        go_wp2_with fail
        go_roundw
        case rel => exact ⟨j, v1, by go_num, rfl, by omega, by rw [hcd.out]; exact hown.sl (fun b h => Nat.le_trans (by omega : w.heap.size ≤ wr.heap.size) (Nat.le_trans (bel_alloc (bel_alloc (bel_alloc (bel_alloc (Below.refl _ wr) _) _) _) _).size h)), Hb.out.trans (hb2.mono hsz)⟩
        case measure => simp [intOf]
      · have HJ : Hid (jumpIns ⟨cf, cop, cv⟩ L.length = ⟨3, cv, 0, L.length⟩) := by show jumpIns _ _ = _; unfold jumpIns; dsimp only; rw [if_neg e2, if_pos e3]
        have b2 : (cop == 2) = false := beq_eq_false_iff_ne.2 e2
        have b3 : (cop == 3) = true := beq_iff_eq.2 e3
        clear e2 e3
        go_wp2_with fail
        refine (concatIns_any _ [[⟨1, cf, 0, 0⟩, jumpIns ⟨cf, cop, cv⟩ L.length], L] (fun b => w.heap.size ≤ b) _ (rule_arg (b3 := wr.heap.size + 1 + 1) (Hrd.out.below (bel_alloc (bel_alloc (bel_alloc (bel_alloc (Below.refl _ _) _) _) _) _)) (by rw [HJ.out]; exact blk_old (blk_at (by simp))) (blk_at (by simp)) (by omega) (by omega)) (by rw [lenTo_two']; have := hlen.out; simp; omega)).mono ?_
        rintro e w1 ⟨v1, rfl, hown0, hb1⟩
        have hown := hown0
        rw [show [[(⟨1, cf, 0, 0⟩ : TIns), jumpIns ⟨cf, cop, cv⟩ L.length], L].flatten = ⟨1, cf, 0, 0⟩ :: jumpIns ⟨cf, cop, cv⟩ L.length :: L from by simp] at hown
        clear hown0
        have hb2 := bel_call (bel_alloc (bel_alloc (bel_alloc (bel_alloc (Below.refl wr.heap.size wr) _) _) _) _) hb1
        go_wp2_with fail
        go_roundw
        case rel => exact ⟨j, v1, by go_num, rfl, by omega, by rw [hcd.out]; exact hown.sl (fun b h => Nat.le_trans (by omega : w.heap.size ≤ wr.heap.size) (Nat.le_trans (bel_alloc (bel_alloc (bel_alloc (bel_alloc (Below.refl _ wr) _) _) _) _).size h)), Hb.out.trans (hb2.mono hsz)⟩
        case measure => simp [intOf]
      · have HJ : Hid (jumpIns ⟨cf, cop, cv⟩ L.length = ⟨3, cv, L.length, 0⟩) := by show jumpIns _ _ = _; unfold jumpIns; dsimp only; rw [if_neg e2, if_neg e3, if_pos e4]
        have b2 : (cop == 2) = false := beq_eq_false_iff_ne.2 e2
        have b3 : (cop == 3) = false := beq_eq_false_iff_ne.2 e3
        have b4 : (cop == 4) = true := beq_iff_eq.2 e4
        clear e2 e3 e4
        go_wp2_with fail
        refine (concatIns_any _ [[⟨1, cf, 0, 0⟩, jumpIns ⟨cf, cop, cv⟩ L.length], L] (fun b => w.heap.size ≤ b) _ (rule_arg (b3 := wr.heap.size + 1 + 1) (Hrd.out.below (bel_alloc (bel_alloc (bel_alloc (bel_alloc (Below.refl _ _) _) _) _) _)) (by rw [HJ.out]; exact blk_old (blk_at (by simp))) (blk_at (by simp)) (by omega) (by omega)) (by rw [lenTo_two']; have := hlen.out; simp; omega)).mono ?_
        rintro e w1 ⟨v1, rfl, hown0, hb1⟩
        have hown := hown0
        rw [show [[(⟨1, cf, 0, 0⟩ : TIns), jumpIns ⟨cf, cop, cv⟩ L.length], L].flatten = ⟨1, cf, 0, 0⟩ :: jumpIns ⟨cf, cop, cv⟩ L.length :: L from by simp] at hown
        clear hown0
        have hb2 := bel_call (bel_alloc (bel_alloc (bel_alloc (bel_alloc (Below.refl wr.heap.size wr) _) _) _) _) hb1
        go_wp2_with fail
        go_roundw
        case rel => exact ⟨j, v1, by go_num, rfl, by omega, by rw [hcd.out]; exact hown.sl (fun b h => Nat.le_trans (by omega : w.heap.size ≤ wr.heap.size) (Nat.le_trans (bel_alloc (bel_alloc (bel_alloc (bel_alloc (Below.refl _ wr) _) _) _) _).size h)), Hb.out.trans (hb2.mono hsz)⟩
        case measure => simp [intOf]
      · have HJ : Hid (jumpIns ⟨cf, cop, cv⟩ L.length = ⟨2, cv, 0, L.length⟩) := by show jumpIns _ _ = _; unfold jumpIns; dsimp only; rw [if_neg e2, if_neg e3, if_neg e4]
        have b2 : (cop == 2) = false := beq_eq_false_iff_ne.2 e2
        have b3 : (cop == 3) = false := beq_eq_false_iff_ne.2 e3
        have b4 : (cop == 4) = false := beq_eq_false_iff_ne.2 e4
        clear e2 e3 e4
        go_wp2_with fail
        refine (concatIns_any _ [[⟨1, cf, 0, 0⟩, jumpIns ⟨cf, cop, cv⟩ L.length], L] (fun b => w.heap.size ≤ b) _ (rule_arg (b3 := wr.heap.size + 1 + 1) (Hrd.out.below (bel_alloc (bel_alloc (bel_alloc (bel_alloc (Below.refl _ _) _) _) _) _)) (by rw [HJ.out]; exact blk_old (blk_at (by simp))) (blk_at (by simp)) (by omega) (by omega)) (by rw [lenTo_two']; have := hlen.out; simp; omega)).mono ?_
        rintro e w1 ⟨v1, rfl, hown0, hb1⟩
        have hown := hown0
        rw [show [[(⟨1, cf, 0, 0⟩ : TIns), jumpIns ⟨cf, cop, cv⟩ L.length], L].flatten = ⟨1, cf, 0, 0⟩ :: jumpIns ⟨cf, cop, cv⟩ L.length :: L from by simp] at hown
        clear hown0
        have hb2 := bel_call (bel_alloc (bel_alloc (bel_alloc (bel_alloc (Below.refl wr.heap.size wr) _) _) _) _) hb1
        go_wp2_with fail
        go_roundw
        case rel => exact ⟨j, v1, by go_num, rfl, by omega, by rw [hcd.out]; exact hown.sl (fun b h => Nat.le_trans (by omega : w.heap.size ≤ wr.heap.size) (Nat.le_trans (bel_alloc (bel_alloc (bel_alloc (bel_alloc (Below.refl _ wr) _) _) _) _).size h)), Hb.out.trans (hb2.mono hsz)⟩
        case measure => simp [intOf]
end Go.Proofs.YtkiipnbjckdlbaaGreatDoor
namespace Go.Proofs.YtkiipnbjckdlbaaGreatDoor
open Go.RowKit

theorem oneIns' (y : TIns) (cs : List Value) (h : insR y cs) : ∀ c ∈ cs, c.oneCell' = true := by
  unfold insR at h; subst h; simp [Value.oneCell']
theorem rulesIns_take {l : List TRule} {k : Nat} (h : k < l.length) : rulesIns (l.take (k + 1)) = rulesIns (l.take k) ++ condIns l[k].conds l[k].verdict := by
  rw [List.take_succ_eq_append_getElem h, rulesIns_snoc]
theorem rulesIns_take_len {l : List TRule} (h : ∀ r ∈ l, r.conds.length ≤ 10) (k : Nat) (hk : k ≤ l.length) : (rulesIns (l.take k)).length ≤ 21 * l.length := by
  have := rulesIns_len (l := l.take k) fun r hr => h r (List.mem_of_mem_take hr)
  rw [List.length_take] at this
  omega
/-- what nil reads as. -/
theorem rdNil (w : World) (D : Nat → Prop) : RdCode w D (.slice none 0 0) [] := ⟨none, 0, rfl, Nat.le_refl _, by unfold maxLen; omega, fun _ => rfl, fun h => by cases h⟩

set_option maxRecDepth 100000 in
set_option maxHeartbeats 4000000 in
theorem compile_any (v : Value) (p : TPol) (D : Nat → Prop) (w : World) (h : RdRules w D v p.rules) :
    Calls Tryz.prog 28 #[polV v p.dflt] w fun e w' => ∃ l, e = .returned (.tuple #[l, .int .i64 (filterE p).2]) ∧ RdCode w' (fun b => w.heap.size ≤ b) l (filterE p).1 ∧ Below w.heap.size w w' := by
  have H := Lib.hid h
  obtain ⟨a, c, rfl, hlc, hcm, hat⟩ := Sl.form h
  clear h
  by_cases hp : polE p = 0
  · have hok := (okPol_iff p).1 hp
    have Hlen : Hid (∀ k, k ≤ p.rules.length → (rulesIns (p.rules.take k)).length ≤ 21 * 120) := fun k hk => by
      have h1 := rulesIns_take_len (fun r hr => (hok.rules r hr).len) k hk
      have h2 := hok.len
      omega
    have HC : Hid (codeE (filterL p) = if 1500 < (filterL p).length then 2 else 0) := filter_code hok
    have HF : Hid (filterE p = if 1500 < (filterL p).length then ([], 2) else (filterL p, 0)) := by show filterE p = _; unfold filterE; rw [if_neg (by omega)]
    have hn := hok.len
    have Hok := Lib.hid hok
    have Hp := Lib.hid hp
    obtain ⟨i0, hi, hz0, hz1, hz2⟩ := info_parts infoIns
    have Hi := Lib.hid hi
    clear hok hp hi
    go_enter Tryz.func28, Tryz.ntmps28
    go_wp2_with fail
    refine (polcheck_any _ p D _ (RdRules.below H.out (bel_alloc (Below.refl _ _) _))).mono ?_
    rw [Hp.out]
    rintro e w1 ⟨rfl, hb1⟩
    have hb1' : Below (w.heap.size + 1) _ w1 := hb1.mono (by simp)
    have hc1 := box_cells hb1'
    have Hb1 := Lib.hid hb1'
    clear hb1 hb1'
    go_wp2_with fail
    go_loopw [5, 17] (fun ov kv wr => ∃ (k : Nat) (vs : Value), kv = .int .i64 k ∧ vs = ov ∧ k ≤ p.rules.length ∧ OwnSl wr (w.heap.size + 1) 73 4 insR vs (rulesIns (p.rules.take k)) ∧ Below (w.heap.size + 1) (w.alloc (.cells #[.slice a p.rules.length c, .int .i64 p.dflt] 37)) wr) (fun _ kv _ => p.rules.length - (intOf kv).toNat)
    case atStart => exact ⟨0, _, rfl, rfl, by omega, OwnSl.nil, Hb1.out⟩
    case round =>
      obtain ⟨k, vs, rfl, rfl, hk, hown, hb⟩ := hrel
      have hbc := box_cells hb
      have hbw := bel_box hb
      have hsz := size_box hb
      have Hown := Lib.hid hown
      have Hb := Lib.hid hb
      have Hbw := Lib.hid hbw
      clear hc1 hown hb hbw
      by_cases hlt : k < p.rules.length
      · obtain ⟨b, o, rfl, hDb, hblt⟩ := hat (by omega)
        obtain ⟨ca, cc, hc0, hc1, hrd, _⟩ := RdRules.cells (H.out.below Hbw.out) hlt
        have Hrd := Lib.hid hrd
        have hl10 := (Hok.out.rules p.rules[k] (List.getElem_mem hlt)).len
        have Hl := Lib.hid (Hlen.out (k + 1) (by omega))
        have Hs := Lib.hid (rulesIns_take hlt)
        have Hll : Hid ((rulesIns (p.rules.take k)).length + (condIns p.rules[k].conds p.rules[k].verdict).length ≤ 21 * 120) := by have := Hl.out; rw [Hs.out, List.length_append] at this; exact this
        clear hrd
        go_wp2_with fail
        refine (rule_any _ p.rules[k] D _ (Hrd.out.below (bel_alloc (Below.refl _ _) _)) hl10).mono ?_
        rintro e w2 ⟨v2, rfl, hr2, hb2⟩
        have hb2' := bel_alloc_call (Below.refl _ wr) hb2
        have hown2 := Hown.out.below hb2'
        have Hown2 := Lib.hid hown2
        have Hr2 := Lib.hid hr2
        have Hb2 := Lib.hid (Hb.out.trans (hb2'.mono hsz))
        have hsz2 := hb2'.size
        clear hown2 hr2 hb2 hb2' hc0 hc1 hbc
        go_wp2_with (at_builtin; refine wpList_app rfl _ _ 31 rfl (w.heap.size + 1) 73 i0 _ 4 32 Tryz.underlying31 Hi.out hz0 hz1 hz2 rfl (by decide) _ _ rfl Hown2.out _ _ rfl Hr2.out (fun y _ cs h => oneIns' y cs h) (by have := Hll.out; unfold maxLen; omega) (by have := Hll.out; omega) (by omega) ?_; intro v' w3 hown' hg)
        go_roundw
        case rel => exact ⟨k + 1, v', by go_num, rfl, by omega, by rw [Hs.out]; exact hown', Hown2.out.grown Hb2.out hg (by omega) (Nat.le_refl _)⟩
        case measure => simp [intOf]; omega
      · obtain rfl : k = p.rules.length := by omega
        have Hl := Lib.hid (Hlen.out p.rules.length (Nat.le_refl _))
        have Hnew : Hid (RdCode (wr.alloc (.cells #[.int .i64 4, .int .i64 p.dflt, .int .i64 0, .int .i64 0] 73)) (fun _ => True) (.slice (some ⟨wr.heap.size, 0, none⟩) 1 1) [⟨4, p.dflt, 0, 0⟩]) :=
          sl_block (R := insR) (sz := 4) (xs := [(⟨4, p.dflt, 0, 0⟩ : TIns)]) (rows := [[.int .i64 4, .int .i64 p.dflt, .int .i64 0, .int .i64 0]]) (RowsOf.cons RowsOf.nil rfl rfl) (heap_last _ _) rfl trivial (by simp [maxLen])
        have Hown3 := Lib.hid (Hown.out.below (bel_alloc (Below.refl _ wr) (.cells #[.int .i64 4, .int .i64 p.dflt, .int .i64 0, .int .i64 0] 73)))
        go_wp2_with (at_builtin; refine wpList_app rfl _ _ 31 rfl (w.heap.size + 1) 73 i0 _ 4 32 Tryz.underlying31 Hi.out hz0 hz1 hz2 rfl (by decide) _ _ rfl Hown3.out _ _ rfl Hnew.out (fun y _ cs h => oneIns' y cs h) (by have := Hl.out; show _ + 1 ≤ maxLen; unfold maxLen; omega) (by have := Hl.out; show (_ + 1) * 32 ≤ _; omega) (by simp; omega) ?_; intro v' w3 hown' hg; rw [List.take_length] at hown'; have Hown' := Lib.hid hown'; have Hb3 := Lib.hid (Hown3.out.grown (Hb.out.trans ((bel_alloc (Below.refl _ wr) _).mono hsz)) hg (by simp; omega) (Nat.le_refl _)); clear hown' hg)
        have HcF : Hid (RdCode w3 (fun b => w.heap.size ≤ b) v' (filterL p)) := Hown'.out.sl fun b h => by omega
        go_wp2_with fail
        refine (codecheck_any v' (filterL p) _ _ HcF.out).mono ?_
        rw [HC.out]
        rintro e w4 ⟨rfl, hb4⟩
        have Hr4 := Lib.hid (HcF.out.below hb4)
        have Hb4 := Lib.hid (bel_call (bel_box Hb3.out) hb4)
        clear hb4
        by_cases hbig : 1500 < (filterL p).length
        · rw [if_pos hbig]
          have HF2 : Hid (filterE p = ([], 2)) := by show filterE p = _; rw [HF.out, if_pos hbig]
          clear hbig
          go_wp2
          go_ret2
          rw [HF2.out]
          exact ⟨_, rfl, rdNil _ _, Hb4.out⟩
        · rw [if_neg hbig]
          have HF2 : Hid (filterE p = (filterL p, 0)) := by show filterE p = _; rw [HF.out, if_neg hbig]
          clear hbig
          go_wp2
          go_ret2
          rw [HF2.out]
          exact ⟨_, rfl, Hr4.out, Hb4.out⟩
  · have HF : Hid (filterE p = ([], polE p)) := by show filterE p = _; unfold filterE; rw [if_pos hp]
    have b0 : (polE p != 0) = true := bne_iff_ne.2 hp
    clear hp
    go_enter Tryz.func28, Tryz.ntmps28
    go_wp2_with fail
    refine (polcheck_any _ p D _ (RdRules.below H.out (bel_alloc (Below.refl _ _) _))).mono ?_
    rintro e w1 ⟨rfl, hb1⟩
    have hb1' : Below (w.heap.size + 1) _ w1 := hb1.mono (by simp)
    have Hb1 := Lib.hid hb1'
    clear hb1 hb1'
    go_wp2
    go_ret2
    rw [HF.out]
    exact ⟨_, rfl, rdNil _ _, bel_box Hb1.out⟩
end Go.Proofs.YtkiipnbjckdlbaaGreatDoor
namespace Go.Proofs.YtkiipnbjckdlbaaGreatDoor
open Go.RowKit

theorem codeE_len {f : List TIns} (h : codeE f = 0) : f.length ≤ 1500 := by
  unfold codeE at h
  split at h
  · simp at h
  · omega
theorem one_code {W : World} {b : Nat} {T : TypeId} {u : Value} {f : List TIns} {D : Nat → Prop} (hb : W.heap[b]? = some (.cells #[u] T)) (hu : RdCode W D u f) : Sl W (fun _ => True) 1 (chainR W D) (.slice (some ⟨b, 0, none⟩) 1 1) [f] :=
  sl_block (xs := [f]) (rows := [[u]]) (RowsOf.cons RowsOf.nil ⟨_, rfl, hu⟩ rfl) hb rfl trivial (by simp [maxLen])
theorem nil_chain (w : World) (D : Nat → Prop) : RdChain w D (.slice none 0 0) [] := ⟨none, 0, rfl, Nat.le_refl _, by unfold maxLen; simp, fun _ => rfl, fun h => by cases h⟩

set_option maxRecDepth 100000 in
set_option maxHeartbeats 8000000 in
theorem tighten_any (v u0 u1 : Value) (l : List (List TIns)) (p q : TPol) (D : Nat → Prop) (w : World) (h : RdChain w D v l) (hp : RdRules w (fun _ => True) u0 p.rules) (hq : RdRules w (fun _ => True) u1 q.rules) :
    Calls Tryz.prog 18 #[v, polV u0 p.dflt, polV u1 q.dflt] w fun e w' => ∃ v', e = .returned (.tuple #[v', .int .i64 (tightE l p q).2]) ∧ RdChain w' (fun b => w.heap.size ≤ b) v' (tightE l p q).1 ∧ Below w.heap.size w w' := by
  have H := Lib.hid h
  have Hp := Lib.hid hp
  have Hq := Lib.hid hq
  obtain ⟨a, c, rfl, hlc, hcm, hat⟩ := Sl.form h
  obtain ⟨ap, cp, rfl, _⟩ := Sl.form hp
  obtain ⟨aq, cq, rfl, _⟩ := Sl.form hq
  clear h hp hq
  obtain ⟨⟨Y, ye⟩, hY⟩ : ∃ E, deltaE p q = E := ⟨_, rfl⟩
  have HY := Lib.hid hY
  obtain ⟨⟨F, fe⟩, hF⟩ : ∃ E, filterE Y = E := ⟨_, rfl⟩
  have HF := Lib.hid hF
  have HFl : Hid (fe = 0 → filterL Y = F) := fun h => by have := (filterE_ok (p := Y) (by rw [hF]; exact h)).2.1; rw [hF] at this; exact (Prod.mk.inj this).1.symm
  have HT : Hid (tightE l p q = if chainE l ≠ 0 then ([], chainE l) else if ye ≠ 0 then ([], ye) else if l.length = 6 then ([], 2) else if fe ≠ 0 then ([], fe) else (l ++ [filterL Y], 0)) := by
    show tightE l p q = _
    unfold tightE
    rw [hY]
    dsimp only
    rw [hF]
  clear hY hF
  go_enter Tryz.func18, Tryz.ntmps18
  go_wp2_with fail
  have HB := Lib.hid (Bx.two (w := w) (o := .cells #[.slice ap p.rules.length cp, .int .i64 p.dflt] 37) (o' := .cells #[.slice aq q.rules.length cq, .int .i64 q.dflt] 37))
  refine (chcheck_any _ l D _ (H.out.below HB.out.bel)).mono ?_
  rintro e w1 ⟨rfl, hb1⟩
  have HB1 := Lib.hid (HB.out.below hb1)
  clear hb1
  by_cases h0 : chainE l = 0
  · obtain ⟨hl6, hcodes⟩ := (chainE_iff l).1 h0
    have Hcd := Lib.hid hcodes
    have H0 := Lib.hid h0
    have hq0 := HB1.out.cells0
    have hq1 := HB1.out.cells1
    rw [h0]
    clear h0 hcodes
    go_wp2_with fail
    refine (delta_any _ _ p q _ (Hp.out.below HB1.out.bel) (Hq.out.below HB1.out.bel)).mono ?_
    rw [HY.out]
    rintro e w2 ⟨rY, rfl, hrY, hb2⟩
    have HB2 := Lib.hid (HB1.out.below hb2)
    have RY := Lib.hid (rules_true hrY)
    obtain ⟨aY, cY, rfl, _⟩ := Sl.form hrY
    have HC := Lib.hid (Bx.one (w := w2) (o := .cells #[.slice aY Y.rules.length cY, .int .i64 Y.dflt] 37))
    have HB3 := Lib.hid (HB2.out.below HC.out.bel)
    have RY3 := Lib.hid (RY.out.below HC.out.bel)
    have hqc := HC.out.cells0
    clear hrY hb2 hq0 hq1
    by_cases hy : ye = 0
    · subst hy
      by_cases h6 : l.length = 6
      · have HE : Hid (tightE l p q = ([], 2)) := by show tightE l p q = _; rw [HT.out, if_neg (by rw [H0.out]; simp), if_neg (by simp), if_pos h6]
        have HBf := Lib.hid HB3.out.bel
        have h6' : ((l.length : Int) == 6) = true := beq_iff_eq.2 (by omega)
        go_wp2
        go_ret2
        rw [HE.out]
        exact ⟨_, rfl, nil_chain _ _, HBf.out⟩
      · have h6' : ((l.length : Int) == 6) = false := by simpa using (show ¬ (l.length : Int) = 6 by omega)
        go_wp2_with fail
        refine (compile_any _ Y _ _ RY3.out).mono ?_
        rw [HF.out]
        rintro e w4 ⟨vF, rfl, hrF, hb4⟩
        have HB4 := Lib.hid (HB3.out.below hb4)
        have RF := Lib.hid hrF
        obtain ⟨aF, cF, rfl, _⟩ := Sl.form hrF
        clear hrF hb4 hqc
        by_cases hf : fe = 0
        · subst hf
          have HE : Hid (tightE l p q = (l ++ [F], 0)) := by show tightE l p q = _; rw [HT.out, if_neg (by rw [H0.out]; simp), if_neg (by simp), if_neg h6, if_neg (by simp), HFl.out rfl]
          have htop : w.heap.size + 2 ≤ w4.heap.size := HB4.out.top
          have hsz3 : w.heap.size ≤ (w2.alloc (.cells #[.slice aY Y.rules.length cY, .int .i64 Y.dflt] 37)).heap.size := HB3.out.bel.size
          obtain ⟨i0, hi, hz0, hz1, hz2⟩ := info_parts infocChain
          have Hi := Lib.hid hi
          clear hi
          go_wp2_with fail
          refine (copy_any _ l D _ (H.out.below HB4.out.bel) (by omega) (fun f hf => by have := codeE_len (Hcd.out f hf); omega)).mono ?_
          rintro e w5 ⟨v5, rfl, ho5, hb5⟩
          have HB5 := Lib.hid (HB4.out.below hb5)
          obtain ⟨a5, c5, rfl⟩ := ho5.slice
          have Ho5 := Lib.hid (ho5.monoR (R' := chainR w5 (fun b => w.heap.size ≤ b ∧ (Value.slice a5 l.length c5).ownBlock ≠ some b)) fun _ _ _ ⟨u, h1, h2⟩ => ⟨u, h1, h2.keep (fun b hb _ => ⟨by have := hb.1; omega, hb.2⟩) (fun _ _ _ => rfl) (Nat.le_refl _)⟩)
          have hown5 := ho5.block
          have hrf4 : RdCode w5 (fun b => w.heap.size ≤ b ∧ (Value.slice a5 l.length c5).ownBlock ≠ some b) (.slice aF F.length cF) F := RF.out.keep (fun b hb hl => ⟨Nat.le_trans hsz3 hb, fun e => by have := hown5 b e; omega⟩) (fun b _ hl => hb5.block b hl) hb5.size
          have hb6 := bel_alloc (Below.refl w5.heap.size w5) (.cells #[.slice aF F.length cF] 31)
          have RF6 : Hid (RdCode (w5.alloc (.cells #[.slice aF F.length cF] 31)) (fun b => w.heap.size ≤ b ∧ (Value.slice a5 l.length c5).ownBlock ≠ some b) (.slice aF F.length cF) F) := hrf4.below hb6
          have Ho6 := Lib.hid ((Ho5.out.below hb6).monoR (R' := chainR (w5.alloc (.cells #[.slice aF F.length cF] 31)) (fun b => w.heap.size ≤ b ∧ (Value.slice a5 l.length c5).ownBlock ≠ some b)) fun _ _ _ ⟨u, h1, h2⟩ => ⟨u, h1, h2.below hb6⟩)
          have HN := Lib.hid (one_code (T := 31) (heap_last w5 (.cells #[.slice aF F.length cF] 31)) RF6.out)
          have HB6 := Lib.hid (HB5.out.below hb6)
          have hsz5 := HB5.out.bel.size
          have hs45 := hb5.size
          clear ho5 hb5 hb6 hown5 hrf4
          go_wp2_with (at_builtin; refine wpList_app2 rfl _ _ 22 rfl w4.heap.size 31 i0 _ 1 24 Tryz.underlying22 Hi.out hz0 hz1 hz2 rfl (by decide) _ _ rfl Ho6.out _ _ rfl HN.out (fun y _ cs h => chainR_one y cs h) (by show _ + 1 ≤ maxLen; unfold maxLen; omega) (by show (_ + 1) * 24 ≤ _; omega) (by simp; omega) ?_; intro v' w7 hown' hg hat'; have Hown' := Lib.hid hown'; have Hg := Lib.hid hg; have Hblk := Lib.hid Ho6.out.block; clear hown' hg hat')
          go_ret2
          rw [HE.out]
          refine ⟨v', rfl, ?_, HB6.out.bel.trans (Below.grown (Below.refl w.heap.size _) Hg.out (by simp; omega) (fun g hg => by have := Hblk.out g hg; omega))⟩
          exact (Hown'.out.monoR (R' := chainR w7 (fun b => w.heap.size ≤ b)) fun _ _ _ ⟨u, h1, h2⟩ => ⟨u, h1, h2.keep (fun b hb _ => hb.1) (fun b hb hl => Hg.out.block b hl (fun e => hb.2 e.symm)) Hg.out.size⟩).sl (fun b hb => by omega)
        · have HE : Hid (tightE l p q = ([], fe)) := by show tightE l p q = _; rw [HT.out, if_neg (by rw [H0.out]; simp), if_neg (by simp), if_neg h6, if_pos hf]
          have hb0 : (fe != 0) = true := bne_iff_ne.2 hf
          have HBf := Lib.hid HB4.out.bel
          clear hf
          go_wp2
          go_ret2
          rw [HE.out]
          exact ⟨_, rfl, nil_chain _ _, HBf.out⟩
    · have HE : Hid (tightE l p q = ([], ye)) := by show tightE l p q = _; rw [HT.out, if_neg (by rw [H0.out]; simp), if_pos hy]
      have hb0 : (ye != 0) = true := bne_iff_ne.2 hy
      have HBf := Lib.hid HB3.out.bel
      clear hy
      go_wp2
      go_ret2
      rw [HE.out]
      exact ⟨_, rfl, nil_chain _ _, HBf.out⟩
  · have HE : Hid (tightE l p q = ([], chainE l)) := by show tightE l p q = _; rw [HT.out, if_pos h0]
    have hb0 : (chainE l != 0) = true := bne_iff_ne.2 h0
    have HBf := Lib.hid HB1.out.bel
    clear h0
    go_wp2
    go_ret2
    rw [HE.out]
    exact ⟨_, rfl, nil_chain _ _, HBf.out⟩
end Go.Proofs.YtkiipnbjckdlbaaGreatDoor
namespace Go.Proofs
open Go.Shelf
def Tryz.laysM173_ren : Go.Shelf.Ren := ⟨fun | 173 => 116 | 246 => 127 | 283 => 143 | 284 => 144 | 285 => 145 | 286 => 146 | 129 => 157 | 317 => 166 | 318 => 167 | 319 => 168 | 320 => 169 | 337 => 177 | 338 => 178 | n => n, fun | 2 => 2 | 3 => 3 | 9 => 9 | 4 => 4 | 171 => 178 | 0 => 0 | 53 => 171 | 37 => 181 | 5 => 5 | 173 => 182 | 212 => 203 | 51 => 193 | 20 => 20 | 213 => 204 | 46 => 164 | 232 => 221 | 233 => 222 | n => n, fun | 17 => 3 | 18 => 6 | 19 => 7 | n => n⟩
theorem Tryz.laysM173 : Go.Proofs.LaysM.n173 Tryz.prog Tryz.laysM173_ren := {
  mixed := by kernel_rfl
  f129 := Tryz.func157.trans (congrArg some (by kernel_rfl))
  f173 := Tryz.func116.trans (congrArg some (by kernel_rfl))
  f246 := Tryz.func127.trans (congrArg some (by kernel_rfl))
  f283 := Tryz.func143.trans (congrArg some (by kernel_rfl))
  f284 := Tryz.func144.trans (congrArg some (by kernel_rfl))
  f285 := Tryz.func145.trans (congrArg some (by kernel_rfl))
  f286 := Tryz.func146.trans (congrArg some (by kernel_rfl))
  f317 := Tryz.func166.trans (congrArg some (by kernel_rfl))
  f318 := Tryz.func167.trans (congrArg some (by kernel_rfl))
  f319 := Tryz.func168.trans (congrArg some (by kernel_rfl))
  f320 := Tryz.func169.trans (congrArg some (by kernel_rfl))
  f337 := Tryz.func177.trans (congrArg some (by kernel_rfl))
  f338 := Tryz.func178.trans (congrArg some (by kernel_rfl))
  t0 := Tryz.underlying0
  a0 := Tryz.isAgg0
  z0 := Tryz.sizeOf0
  v0 := Tryz.zeroValue0
  t2 := Tryz.underlying2
  a2 := Tryz.isAgg2
  z2 := Tryz.sizeOf2
  v2 := Tryz.zeroValue2
  t3 := Tryz.underlying3
  a3 := Tryz.isAgg3
  z3 := Tryz.sizeOf3
  v3 := Tryz.zeroValue3
  t4 := Tryz.underlying4
  a4 := Tryz.isAgg4
  z4 := Tryz.sizeOf4
  v4 := Tryz.zeroValue4
  t5 := Tryz.underlying5
  a5 := Tryz.isAgg5
  z5 := Tryz.sizeOf5
  v5 := Tryz.zeroValue5
  t9 := Tryz.underlying9
  a9 := Tryz.isAgg9
  z9 := Tryz.sizeOf9
  v9 := Tryz.zeroValue9
  t20 := Tryz.underlying20
  a20 := Tryz.isAgg20
  z20 := Tryz.sizeOf20
  v20 := Tryz.zeroValue20
  t37 := Tryz.underlying181
  a37 := Tryz.isAgg181
  z37 := Tryz.sizeOf181
  v37 := Tryz.zeroValue181
  t46 := Tryz.underlying164
  a46 := Tryz.isAgg164
  z46 := Tryz.sizeOf164
  v46 := Tryz.zeroValue164
  t51 := Tryz.underlying193
  a51 := Tryz.isAgg193
  z51 := Tryz.sizeOf193
  v51 := Tryz.zeroValue193
  t53 := Tryz.underlying171
  a53 := Tryz.isAgg171
  z53 := Tryz.sizeOf171
  v53 := Tryz.zeroValue171
  t171 := Tryz.underlying178
  a171 := Tryz.isAgg178
  z171 := Tryz.sizeOf178
  v171 := Tryz.zeroValue178
  t173 := Tryz.underlying182
  a173 := Tryz.isAgg182
  z173 := Tryz.sizeOf182
  v173 := Tryz.zeroValue182
  t212 := Tryz.underlying203
  a212 := Tryz.isAgg203
  z212 := Tryz.sizeOf203
  v212 := Tryz.zeroValue203
  t213 := Tryz.underlying204
  a213 := Tryz.isAgg204
  z213 := Tryz.sizeOf204
  t232 := Tryz.underlying221
  a232 := Tryz.isAgg221
  z232 := Tryz.sizeOf221
  v232 := Tryz.zeroValue221
  t233 := Tryz.underlying222
  a233 := Tryz.isAgg222
  z233 := Tryz.sizeOf222
  v233 := Tryz.zeroValue222
  g17 := by kernel_rfl
  g18 := by kernel_rfl
  g19 := by kernel_rfl
  i0 := by kernel_rfl
  i2 := by kernel_rfl
  i3 := by kernel_rfl
  i4 := by kernel_rfl
  i5 := by kernel_rfl
  i9 := by kernel_rfl
  i20 := by kernel_rfl
  i37 := by kernel_rfl
  i46 := by kernel_rfl
  i51 := by kernel_rfl
  i53 := by kernel_rfl
  i171 := by kernel_rfl
  i173 := by kernel_rfl
  i212 := by kernel_rfl
  i232 := by kernel_rfl
  i233 := by kernel_rfl
  m17 := by kernel_rfl
  m18 := by kernel_rfl
  m19 := by kernel_rfl }
open Go.RowKit Go.Sort Go.Lib in
theorem Tryz.strconv_FormatInt_10 (n : Int) (h0 : -9223372036854775808 ≤ n) (h1 : n ≤ 9223372036854775807) (w : World) (htab : Lib.TabIs Tryz.prog w "internal/strconv.uint64pow10" .u64 Lib.pow10Tab) :
    Calls Tryz.prog 116 #[.int .i64 n, .int .i64 10] w fun e w' => e = .returned (.string ⟨(Lib.itoa n).toArray⟩) ∧ ∃ k os, w' = grow (w.drewN k) os := Any.strconv_FormatInt_10 Tryz.laysM173 n h0 h1 w htab
def Tryz.laysC174_ren : Go.Shelf.Ren := ⟨fun | 174 => 115 | 247 => 125 | 245 => 126 | 287 => 138 | 279 => 139 | 280 => 140 | 281 => 141 | 282 => 142 | 321 => 161 | 322 => 162 | 316 => 163 | 171 => 165 | 205 => 164 | 243 => 176 | 246 => 127 | 283 => 143 | 284 => 144 | 285 => 145 | 286 => 146 | 129 => 157 | 317 => 166 | 318 => 167 | 319 => 168 | 320 => 169 | 337 => 177 | 338 => 178 | n => n, fun | 9 => 9 | 3 => 3 | 2 => 2 | 75 => 151 | 85 => 152 | 4 => 4 | 167 => 170 | 5 => 5 | 53 => 171 | 175 => 172 | 46 => 164 | 168 => 174 | 37 => 181 | 0 => 0 | 210 => 200 | 21 => 21 | 127 => 215 | 145 => 218 | 143 => 216 | 171 => 178 | 173 => 182 | 212 => 203 | 51 => 193 | 20 => 20 | 213 => 204 | 232 => 221 | 233 => 222 | 80 => 223 | n => n, fun | 15 => 1 | 16 => 2 | 17 => 3 | 18 => 6 | 19 => 7 | n => n⟩
theorem Tryz.laysC174 : Go.Proofs.LaysC.n174 Tryz.prog Tryz.laysC174_ren := {
  mixed := by kernel_rfl
  f129 := Tryz.func157.trans (congrArg some (by kernel_rfl))
  f171 := Tryz.func165.trans (congrArg some (by kernel_rfl))
  f174 := Tryz.func115.trans (congrArg some (by kernel_rfl))
  f205 := Tryz.func164.trans (congrArg some (by kernel_rfl))
  f243 := Tryz.func176.trans (congrArg some (by kernel_rfl))
  f245 := Tryz.func126.trans (congrArg some (by kernel_rfl))
  f246 := Tryz.func127.trans (congrArg some (by kernel_rfl))
  f247 := Tryz.func125.trans (congrArg some (by kernel_rfl))
  f279 := Tryz.func139.trans (congrArg some (by kernel_rfl))
  f280 := Tryz.func140.trans (congrArg some (by kernel_rfl))
  f281 := Tryz.func141.trans (congrArg some (by kernel_rfl))
  f282 := Tryz.func142.trans (congrArg some (by kernel_rfl))
  f283 := Tryz.func143.trans (congrArg some (by kernel_rfl))
  f284 := Tryz.func144.trans (congrArg some (by kernel_rfl))
  f285 := Tryz.func145.trans (congrArg some (by kernel_rfl))
  f286 := Tryz.func146.trans (congrArg some (by kernel_rfl))
  f287 := Tryz.func138.trans (congrArg some (by kernel_rfl))
  f316 := Tryz.func163.trans (congrArg some (by kernel_rfl))
  f317 := Tryz.func166.trans (congrArg some (by kernel_rfl))
  f318 := Tryz.func167.trans (congrArg some (by kernel_rfl))
  f319 := Tryz.func168.trans (congrArg some (by kernel_rfl))
  f320 := Tryz.func169.trans (congrArg some (by kernel_rfl))
  f321 := Tryz.func161.trans (congrArg some (by kernel_rfl))
  f322 := Tryz.func162.trans (congrArg some (by kernel_rfl))
  f337 := Tryz.func177.trans (congrArg some (by kernel_rfl))
  f338 := Tryz.func178.trans (congrArg some (by kernel_rfl))
  t0 := Tryz.underlying0
  a0 := Tryz.isAgg0
  z0 := Tryz.sizeOf0
  v0 := Tryz.zeroValue0
  t2 := Tryz.underlying2
  a2 := Tryz.isAgg2
  z2 := Tryz.sizeOf2
  v2 := Tryz.zeroValue2
  t3 := Tryz.underlying3
  a3 := Tryz.isAgg3
  z3 := Tryz.sizeOf3
  v3 := Tryz.zeroValue3
  t4 := Tryz.underlying4
  a4 := Tryz.isAgg4
  z4 := Tryz.sizeOf4
  v4 := Tryz.zeroValue4
  t5 := Tryz.underlying5
  a5 := Tryz.isAgg5
  z5 := Tryz.sizeOf5
  v5 := Tryz.zeroValue5
  t9 := Tryz.underlying9
  a9 := Tryz.isAgg9
  z9 := Tryz.sizeOf9
  v9 := Tryz.zeroValue9
  t20 := Tryz.underlying20
  a20 := Tryz.isAgg20
  z20 := Tryz.sizeOf20
  v20 := Tryz.zeroValue20
  t21 := Tryz.underlying21
  a21 := Tryz.isAgg21
  z21 := Tryz.sizeOf21
  v21 := Tryz.zeroValue21
  t37 := Tryz.underlying181
  a37 := Tryz.isAgg181
  z37 := Tryz.sizeOf181
  v37 := Tryz.zeroValue181
  t46 := Tryz.underlying164
  a46 := Tryz.isAgg164
  z46 := Tryz.sizeOf164
  v46 := Tryz.zeroValue164
  t51 := Tryz.underlying193
  a51 := Tryz.isAgg193
  z51 := Tryz.sizeOf193
  v51 := Tryz.zeroValue193
  t53 := Tryz.underlying171
  a53 := Tryz.isAgg171
  z53 := Tryz.sizeOf171
  v53 := Tryz.zeroValue171
  t75 := Tryz.underlying151
  a75 := Tryz.isAgg151
  z75 := Tryz.sizeOf151
  v75 := Tryz.zeroValue151
  t85 := Tryz.underlying152
  a85 := Tryz.isAgg152
  z85 := Tryz.sizeOf152
  v85 := Tryz.zeroValue152
  t127 := Tryz.underlying215
  a127 := Tryz.isAgg215
  z127 := Tryz.sizeOf215
  v127 := Tryz.zeroValue215
  t143 := Tryz.underlying216
  a143 := Tryz.isAgg216
  z143 := Tryz.sizeOf216
  v143 := Tryz.zeroValue216
  t145 := Tryz.underlying218
  a145 := Tryz.isAgg218
  z145 := Tryz.sizeOf218
  v145 := Tryz.zeroValue218
  t167 := Tryz.underlying170
  a167 := Tryz.isAgg170
  z167 := Tryz.sizeOf170
  v167 := Tryz.zeroValue170
  t168 := Tryz.underlying174
  a168 := Tryz.isAgg174
  z168 := Tryz.sizeOf174
  v168 := Tryz.zeroValue174
  t171 := Tryz.underlying178
  a171 := Tryz.isAgg178
  z171 := Tryz.sizeOf178
  v171 := Tryz.zeroValue178
  t173 := Tryz.underlying182
  a173 := Tryz.isAgg182
  z173 := Tryz.sizeOf182
  v173 := Tryz.zeroValue182
  t175 := Tryz.underlying172
  a175 := Tryz.isAgg172
  z175 := Tryz.sizeOf172
  v175 := Tryz.zeroValue172
  t210 := Tryz.underlying200
  a210 := Tryz.isAgg200
  z210 := Tryz.sizeOf200
  v210 := Tryz.zeroValue200
  t212 := Tryz.underlying203
  a212 := Tryz.isAgg203
  z212 := Tryz.sizeOf203
  v212 := Tryz.zeroValue203
  t213 := Tryz.underlying204
  a213 := Tryz.isAgg204
  z213 := Tryz.sizeOf204
  t232 := Tryz.underlying221
  a232 := Tryz.isAgg221
  z232 := Tryz.sizeOf221
  v232 := Tryz.zeroValue221
  t233 := Tryz.underlying222
  a233 := Tryz.isAgg222
  z233 := Tryz.sizeOf222
  v233 := Tryz.zeroValue222
  g15 := by kernel_rfl
  g16 := by kernel_rfl
  g17 := by kernel_rfl
  g18 := by kernel_rfl
  g19 := by kernel_rfl
  t80 := Tryz.underlying223
  a80 := Tryz.isAgg223
  z80 := Tryz.sizeOf223
  v80 := Tryz.zeroValue223
  i0 := by kernel_rfl
  i2 := by kernel_rfl
  i3 := by kernel_rfl
  i4 := by kernel_rfl
  i5 := by kernel_rfl
  i9 := by kernel_rfl
  i20 := by kernel_rfl
  i21 := by kernel_rfl
  i37 := by kernel_rfl
  i46 := by kernel_rfl
  i51 := by kernel_rfl
  i53 := by kernel_rfl
  i75 := by kernel_rfl
  i80 := by kernel_rfl
  i85 := by kernel_rfl
  i127 := by kernel_rfl
  i143 := by kernel_rfl
  i145 := by kernel_rfl
  i167 := by kernel_rfl
  i168 := by kernel_rfl
  i171 := by kernel_rfl
  i173 := by kernel_rfl
  i175 := by kernel_rfl
  i210 := by kernel_rfl
  i212 := by kernel_rfl
  i232 := by kernel_rfl
  i233 := by kernel_rfl
  m15 := by kernel_rfl
  m16 := by kernel_rfl
  m17 := by kernel_rfl
  m18 := by kernel_rfl
  m19 := by kernel_rfl
  c0 := by kernel_rfl
  c2 := by kernel_rfl
  c3 := by kernel_rfl
  c4 := by kernel_rfl
  c5 := by kernel_rfl
  c9 := by kernel_rfl
  c20 := by kernel_rfl
  c21 := by kernel_rfl
  c37 := by kernel_rfl
  c46 := by kernel_rfl
  c51 := by kernel_rfl
  c53 := by kernel_rfl
  c75 := by kernel_rfl
  c80 := by kernel_rfl
  c85 := by kernel_rfl
  c127 := by kernel_rfl
  c143 := by kernel_rfl
  c145 := by kernel_rfl
  c167 := by kernel_rfl
  c168 := by kernel_rfl
  c171 := by kernel_rfl
  c173 := by kernel_rfl
  c175 := by kernel_rfl
  c210 := by kernel_rfl
  c212 := by kernel_rfl
  c213 := by kernel_rfl
  c232 := by kernel_rfl
  c233 := by kernel_rfl }
open Go.RowKit in
theorem Tryz.strconv_ParseInt_10_at64_ok (s : ByteArray) (hmax : s.size ≤ 9223372036854775806) (v : Int) (h : Lib.parseIntB 64 s.data.toList = .ok v) (w : World) :
    Calls Tryz.prog 115 #[.string s, .int .i64 10, .int .i64 64] w fun e w' => e = .returned (.tuple #[.int .i64 v, .nilIface]) ∧ (w' = w ∨ ∃ t, w' = Lib.bytesWorld w 5 t) := Any.strconv_ParseInt_10_at64_ok Tryz.laysC174 s hmax v h w
open Go.RowKit in
theorem Tryz.strconv_ParseInt_10_at64_range (s : ByteArray) (hlim : s.size ≤ 281474976710656) (h : Lib.parseIntB 64 s.data.toList = .range) (ev : Value) (w : World) (hv : w.cell? ⟨2, 0, none⟩ = some ev) (hev : ev = .nilIface ∨ ∃ te pe, ev = .iface te pe) :
    Calls Tryz.prog 115 #[.string s, .int .i64 10, .int .i64 64] w fun e w' => ∃ N, e = .returned (.tuple #[.int .i64 (Lib.intSat 64 s.data.toList), .iface 174 (.pointer (some ⟨N, 0, none⟩))]) ∧ w.heap.size ≤ N ∧ w'.heap[N]? = some (.cells #[.string ⟨#[80, 97, 114, 115, 101, 73, 110, 116]⟩, .string s, ev] 200 (0, 0)) ∧ Below w.heap.size w w' := Any.strconv_ParseInt_10_at64_range Tryz.laysC174 s hlim h ev w hv hev
def Tryz.lays145_ren : Go.Shelf.Ren := ⟨fun | 145 => 103 | 220 => 113 | 219 => 121 | 217 => 131 | 225 => 132 | 224 => 133 | 267 => 134 | 266 => 158 | 314 => 159 | n => n, fun | 9 => 9 | 4 => 4 | 59 => 135 | 3 => 3 | 5 => 5 | 46 => 164 | 146 => 194 | 51 => 193 | n => n, fun | 1 => 0 | n => n⟩
theorem Tryz.lays145 : Go.Proofs.Lays.n145 Tryz.prog Tryz.lays145_ren := {
  mixed := by kernel_rfl
  f145 := Tryz.func103.trans (congrArg some (by kernel_rfl))
  f217 := Tryz.func131.trans (congrArg some (by kernel_rfl))
  f219 := Tryz.func121.trans (congrArg some (by kernel_rfl))
  f220 := Tryz.func113.trans (congrArg some (by kernel_rfl))
  f224 := Tryz.func133.trans (congrArg some (by kernel_rfl))
  f225 := Tryz.func132.trans (congrArg some (by kernel_rfl))
  f266 := Tryz.func158.trans (congrArg some (by kernel_rfl))
  f267 := Tryz.func134.trans (congrArg some (by kernel_rfl))
  f314 := Tryz.func159.trans (congrArg some (by kernel_rfl))
  t3 := Tryz.underlying3
  a3 := Tryz.isAgg3
  z3 := Tryz.sizeOf3
  v3 := Tryz.zeroValue3
  t4 := Tryz.underlying4
  a4 := Tryz.isAgg4
  z4 := Tryz.sizeOf4
  v4 := Tryz.zeroValue4
  t5 := Tryz.underlying5
  a5 := Tryz.isAgg5
  z5 := Tryz.sizeOf5
  v5 := Tryz.zeroValue5
  t9 := Tryz.underlying9
  a9 := Tryz.isAgg9
  z9 := Tryz.sizeOf9
  v9 := Tryz.zeroValue9
  t46 := Tryz.underlying164
  a46 := Tryz.isAgg164
  z46 := Tryz.sizeOf164
  v46 := Tryz.zeroValue164
  t51 := Tryz.underlying193
  a51 := Tryz.isAgg193
  z51 := Tryz.sizeOf193
  v51 := Tryz.zeroValue193
  t59 := Tryz.underlying135
  a59 := Tryz.isAgg135
  z59 := Tryz.sizeOf135
  v59 := Tryz.zeroValue135
  t146 := Tryz.underlying194
  a146 := Tryz.isAgg194
  z146 := Tryz.sizeOf194
  v146 := Tryz.zeroValue194
  g1 := by kernel_rfl }
open Go.RowKit Go.Lib in
theorem Tryz.strings_Cut (s sep : ByteArray) (m : Int) (w : World) (hs : s.size < 4294967281) (hm : w.cell? ⟨0, 0, none⟩ = some (.int .i64 m)) :
    Calls Tryz.prog 103 #[.string s, .string sep] w fun e w' => e = .returned (.tuple #[.string ⟨(Lib.cut s.data.toList sep.data.toList).1.toArray⟩, .string ⟨(Lib.cut s.data.toList sep.data.toList).2.1.toArray⟩, .bool (Lib.cut s.data.toList sep.data.toList).2.2]) ∧ ∃ n, w' = w.drewN n := Any.strings_Cut Tryz.lays145 s sep m w hs hm
def Tryz.lays146_ren : Go.Shelf.Ren := ⟨fun | 146 => 104 | 221 => 114 | 268 => 122 | 138 => 123 | 143 => 124 | 195 => 135 | 197 => 136 | 218 => 137 | 219 => 121 | 260 => 160 | 217 => 131 | 225 => 132 | 224 => 133 | 267 => 134 | 266 => 158 | 314 => 159 | n => n, fun | 9 => 9 | 31 => 137 | 3 => 3 | 4 => 4 | 0 => 0 | 105 => 168 | 21 => 21 | 5 => 5 | 46 => 164 | 119 => 211 | 139 => 214 | 138 => 213 | 146 => 194 | 51 => 193 | n => n, fun | 1 => 0 | 3 => 4 | 4 => 5 | n => n⟩
theorem Tryz.lays146 : Go.Proofs.Lays.n146 Tryz.prog Tryz.lays146_ren := {
  mixed := by kernel_rfl
  f138 := Tryz.func123.trans (congrArg some (by kernel_rfl))
  f143 := Tryz.func124.trans (congrArg some (by kernel_rfl))
  f146 := Tryz.func104.trans (congrArg some (by kernel_rfl))
  f195 := Tryz.func135.trans (congrArg some (by kernel_rfl))
  f197 := Tryz.func136.trans (congrArg some (by kernel_rfl))
  f217 := Tryz.func131.trans (congrArg some (by kernel_rfl))
  f218 := Tryz.func137.trans (congrArg some (by kernel_rfl))
  f219 := Tryz.func121.trans (congrArg some (by kernel_rfl))
  f221 := Tryz.func114.trans (congrArg some (by kernel_rfl))
  f224 := Tryz.func133.trans (congrArg some (by kernel_rfl))
  f225 := Tryz.func132.trans (congrArg some (by kernel_rfl))
  f260 := Tryz.func160.trans (congrArg some (by kernel_rfl))
  f266 := Tryz.func158.trans (congrArg some (by kernel_rfl))
  f267 := Tryz.func134.trans (congrArg some (by kernel_rfl))
  f268 := Tryz.func122.trans (congrArg some (by kernel_rfl))
  f314 := Tryz.func159.trans (congrArg some (by kernel_rfl))
  t0 := Tryz.underlying0
  a0 := Tryz.isAgg0
  z0 := Tryz.sizeOf0
  v0 := Tryz.zeroValue0
  t3 := Tryz.underlying3
  a3 := Tryz.isAgg3
  z3 := Tryz.sizeOf3
  v3 := Tryz.zeroValue3
  t4 := Tryz.underlying4
  a4 := Tryz.isAgg4
  z4 := Tryz.sizeOf4
  v4 := Tryz.zeroValue4
  t5 := Tryz.underlying5
  a5 := Tryz.isAgg5
  z5 := Tryz.sizeOf5
  v5 := Tryz.zeroValue5
  t9 := Tryz.underlying9
  a9 := Tryz.isAgg9
  z9 := Tryz.sizeOf9
  v9 := Tryz.zeroValue9
  t21 := Tryz.underlying21
  a21 := Tryz.isAgg21
  z21 := Tryz.sizeOf21
  v21 := Tryz.zeroValue21
  t31 := Tryz.underlying137
  a31 := Tryz.isAgg137
  z31 := Tryz.sizeOf137
  v31 := Tryz.zeroValue137
  t46 := Tryz.underlying164
  a46 := Tryz.isAgg164
  z46 := Tryz.sizeOf164
  v46 := Tryz.zeroValue164
  t51 := Tryz.underlying193
  a51 := Tryz.isAgg193
  z51 := Tryz.sizeOf193
  v51 := Tryz.zeroValue193
  t105 := Tryz.underlying168
  a105 := Tryz.isAgg168
  z105 := Tryz.sizeOf168
  v105 := Tryz.zeroValue168
  t119 := Tryz.underlying211
  a119 := Tryz.isAgg211
  z119 := Tryz.sizeOf211
  t138 := Tryz.underlying213
  a138 := Tryz.isAgg213
  z138 := Tryz.sizeOf213
  v138 := Tryz.zeroValue213
  t139 := Tryz.underlying214
  a139 := Tryz.isAgg214
  z139 := Tryz.sizeOf214
  v139 := Tryz.zeroValue214
  t146 := Tryz.underlying194
  a146 := Tryz.isAgg194
  z146 := Tryz.sizeOf194
  v146 := Tryz.zeroValue194
  g1 := by kernel_rfl
  g3 := by kernel_rfl
  g4 := by kernel_rfl }
open Go.RowKit Go.Lib in
theorem Tryz.strings_Split (s sep : ByteArray) (m : Int) (w : World) (hs : s.size < 4294967281) (hm : w.cell? ⟨0, 0, none⟩ = some (.int .i64 m)) (h1 : 1 ≤ sep.size) :
    Calls Tryz.prog 104 #[.string s, .string sep] w fun e w' =>
      e = .returned (.slice (some ⟨w.heap.size, 0, none⟩) (Lib.countB s sep + 1) (Lib.countB s sep + 1)) ∧ w' = w.alloc (.cells ((Lib.splitB sep 0 (Lib.countB s sep) s).map Value.string).toArray 9) := Any.strings_Split Tryz.lays146 (by kernel_rfl) s sep m w hs hm h1
end Go.Proofs
namespace Go.Proofs.YtkiipnbjckdlbaaGreatDoor

/-- a whole number of a word, and is it one? -/
def wholeS (l : List UInt8) : Int × Bool := match Lib.parseIntB 64 l with
  | .ok v => (v, Lib.itoa v == l)
  | .range => (Lib.intSat 64 l, false)
  | _ => (0, false)
theorem parse_in {l : List UInt8} {v : Int} (h : Lib.parseIntB 64 l = .ok v) : -9223372036854775808 ≤ v ∧ v ≤ 9223372036854775807 := by
  unfold Lib.parseIntB at h
  split at h
  · cases h
  · rename_i c r
    dsimp only at h
    split at h
    · cases h
    · cases h
    · rename_i u _
      split at h
      · cases h
      · rename_i h1
        split at h
        · cases h
        · rename_i h2
          injection h with h
          subst h
          simp only [Nat.reducePow, Nat.reduceSub] at h1 h2
          split <;> rename_i hn <;> simp [hn] at h1 h2 <;> omega

/-! ### numerals -/
def valOf (acc : Nat) (l : List UInt8) : Nat := l.foldl (fun a c => a * 10 + (c.toNat - 48)) acc
theorem valOf_ge : ∀ (l : List UInt8) (acc : Nat), acc ≤ valOf acc l
  | [], _ => Nat.le_refl _
  | c :: r, acc => by
    have := valOf_ge r (acc * 10 + (c.toNat - 48))
    show acc ≤ valOf (acc * 10 + (c.toNat - 48)) r
    omega
theorem parse_val : ∀ (l : List UInt8) (acc : Nat), (∀ c ∈ l, 48 ≤ c.toNat ∧ c.toNat ≤ 57) → valOf acc l ≤ 65535 → Lib.parseUintM (2 ^ 64 - 1) acc l = .ok (valOf acc l)
  | [], _, _, _ => rfl
  | c :: r, acc, hd, hv => by
    have hc := hd c (List.mem_cons_self ..)
    have h1 : acc * 10 + (c.toNat - 48) ≤ 65535 := Nat.le_trans (valOf_ge r _) hv
    unfold Lib.parseUintM
    rw [if_pos hc, if_neg (by omega), if_neg (by omega)]
    exact parse_val r _ (fun x hx => hd x (List.mem_cons_of_mem _ hx)) hv
theorem digit_byte {d : Nat} (h : d < 10) : (UInt8.ofNat (48 + d)).toNat = 48 + d := by
  rw [UInt8.toNat_ofNat']; omega
theorem dec_digits : ∀ (n u : Nat), u ≤ n → (∀ c ∈ Lib.decDigits u, 48 ≤ c.toNat ∧ c.toNat ≤ 57) ∧ valOf 0 (Lib.decDigits u) = u ∧ Lib.decDigits u ≠ []
  | 0, u, h => by
    obtain rfl : u = 0 := by omega
    rw [Lib.decDigits_one (by omega)]
    refine ⟨fun c hc => ?_, by simp [valOf], by simp⟩
    simp only [List.mem_singleton] at hc
    subst hc
    rw [digit_byte (by omega)]; omega
  | n + 1, u, h => by
    by_cases hu : u < 10
    · rw [Lib.decDigits_one hu]
      refine ⟨fun c hc => ?_, ?_, by simp⟩
      · simp only [List.mem_singleton] at hc
        subst hc
        rw [digit_byte hu]; omega
      · simp only [valOf, List.foldl_cons, List.foldl_nil]
        rw [digit_byte hu]; omega
    · obtain ⟨h1, h2, h3⟩ := dec_digits n (u / 10) (by omega)
      rw [Lib.decDigits, dif_neg hu]
      refine ⟨fun c hc => ?_, ?_, by simp⟩
      · rcases List.mem_append.1 hc with hc | hc
        · exact h1 c hc
        · simp only [List.mem_singleton] at hc
          subst hc
          rw [digit_byte (by omega)]; omega
      · unfold valOf at h2 ⊢
        rw [List.foldl_append, h2]
        simp only [List.foldl_cons, List.foldl_nil]
        rw [digit_byte (by omega)]; omega
theorem itoa_digits {v : Int} (h0 : 0 ≤ v) : (∀ c ∈ Lib.itoa v, 48 ≤ c.toNat ∧ c.toNat ≤ 57) ∧ Lib.itoa v ≠ [] := by
  unfold Lib.itoa
  rw [if_neg (by omega)]
  have := dec_digits v.toNat v.toNat (Nat.le_refl _)
  exact ⟨this.1, this.2.2⟩
theorem parse_itoa {v : Int} (h0 : 0 ≤ v) (h1 : v ≤ 65535) : Lib.parseIntB 64 (Lib.itoa v) = .ok v := by
  obtain ⟨n, rfl⟩ := Int.eq_ofNat_of_zero_le h0
  rw [Lib.itoa_nonneg]
  obtain ⟨hd, hv, hne⟩ := dec_digits n n (Nat.le_refl _)
  have hp := parse_val (Lib.decDigits n) 0 hd (by rw [hv]; omega)
  rw [hv] at hp
  cases hl : Lib.decDigits n with
  | nil => exact absurd hl hne
  | cons c r =>
    rw [hl] at hd hp
    have hc := hd c (List.mem_cons_self ..)
    have hs : ¬ (c.toNat = 43 ∨ c.toNat = 45) := by omega
    have hn : ¬ c.toNat = 45 := by omega
    unfold Lib.parseIntB
    dsimp only
    rw [if_neg hs]
    have hu : Lib.parseUintB 64 (c :: r) = .ok n := by
      unfold Lib.parseUintB
      rw [if_neg (by simp)]
      exact hp
    rw [hu]
    simp only [hn, not_false_eq_true, true_and, false_and, if_false]
    rw [if_neg (by simp only [Nat.reducePow, Nat.reduceSub]; omega)]
theorem whole_itoa {v : Int} (h0 : 0 ≤ v) (h1 : v ≤ 65535) : wholeS (Lib.itoa v) = (v, true) := by
  unfold wholeS
  rw [parse_itoa h0 h1]
  simp
theorem whole_some {l : List UInt8} (h : (wholeS l).2 = true) : l = Lib.itoa (wholeS l).1 := by
  unfold wholeS at h ⊢
  split at h
  · exact (beq_iff_eq.1 h).symm
  · cases h
  · cases h
end Go.Proofs.YtkiipnbjckdlbaaGreatDoor
namespace Go.Proofs.YtkiipnbjckdlbaaGreatDoor
open Go.RowKit Go.Shelf
attribute [local go_sem] gives givesUpon

structure Laid (w : World) : Prop where
  ml : ∃ m : Int, w.cell? ⟨0, 0, none⟩ = some (.int .i64 m)
  pow : Lib.TabIs Tryz.prog w "internal/strconv.uint64pow10" .u64 Lib.pow10Tab
  syn : ∃ te pe, w.cell? ⟨1, 0, none⟩ = some (.iface te pe)
  rng : ∃ te pe, w.cell? ⟨2, 0, none⟩ = some (.iface te pe)
theorem Laid.below {w w' : World} (h : Laid w) (hb : Below w.heap.size w w') : Laid w' := by
  obtain ⟨⟨m, h1⟩, h2, ⟨te, pe, h3⟩, ⟨te', pe', h4⟩⟩ := h
  have st : ∀ (p : Addr) v, w.cell? p = some v → w'.cell? p = some v := fun p v hv => (hb.cell (World.block_lt_of_cell? _ _ hv)).trans hv
  exact ⟨⟨m, st _ _ h1⟩, Go.Joins.tab_stays (g := 3) (by kernel_rfl) h2 hb (Nat.le_refl _), ⟨te, pe, st _ _ h3⟩, ⟨te', pe', st _ _ h4⟩⟩

theorem below_world {w w' : World} {k : Nat} {os : Array Obj} (h : w' = Go.Sort.grow (w.drewN k) os) : Below w.heap.size w w' := by
  subst h
  exact ⟨rfl, rfl, rfl, by simp [Go.Sort.grow], fun i hi => by
    show ((w.drewN k).heap ++ os)[i]? = _
    rw [Array.getElem?_append_left (by show i < w.heap.size; omega)]
    rfl⟩

/-- strconv.ParseInt at what is no numeral. -/
theorem parse_bad (s : ByteArray) (hlim : s.size ≤ 281474976710656) (h : ∀ v, Lib.parseIntB 64 s.data.toList ≠ .ok v) (h' : Lib.parseIntB 64 s.data.toList ≠ .range) (ev : Value) (w : World) (hv : w.cell? ⟨1, 0, none⟩ = some ev) (hev : ev = .nilIface ∨ ∃ te pe, ev = .iface te pe) :
    Calls Tryz.prog 115 #[.string s, .int .i64 10, .int .i64 64] w fun e w' => ∃ t p, e = .returned (.tuple #[.int .i64 0, .iface t p]) ∧ Below w.heap.size w w' := by
  cases hp : Lib.parseIntB 64 s.data.toList
  · exact absurd hp (h _)
  · have c : Calls Tryz.prog 115 #[.string s, .int .i64 10, .int .i64 64] w _ := Any.strconv_ParseInt_10_at64_syntax Tryz.laysC174 s hlim hp ev w hv hev
    exact c.mono fun e w' ⟨N, h1, _, _, h4⟩ => ⟨_, _, h1, h4⟩
  · exact absurd hp h'
set_option maxHeartbeats 1000000 in
theorem whole_any (s : ByteArray) (w : World) (hL : Laid w) (hs : s.size ≤ 281474976710656) :
    Calls Tryz.prog 105 #[.string s] w fun e w' => e = .returned (.tuple #[.int .i64 (wholeS s.data.toList).1, .bool (wholeS s.data.toList).2]) ∧ Below w.heap.size w w' := by
  have HL := Lib.hid hL
  clear hL
  cases hp : Lib.parseIntB 64 s.data.toList
  · rename_i v
    have he : wholeS s.data.toList = (v, Lib.itoa v == s.data.toList) := by unfold wholeS; rw [hp]
    rw [he]
    have Hp := Lib.hid hp
    obtain ⟨h0, h1⟩ := parse_in hp
    clear hp he
    go_enter Tryz.func105, Tryz.ntmps105
    go_wp2_with fail
    refine (Tryz.strconv_ParseInt_10_at64_ok s (by omega) v Hp.out _).mono ?_
    rintro e w1 ⟨rfl, hw1⟩
    have hb1 : Below w.heap.size w w1 := by
      rcases hw1 with rfl | ⟨t, rfl⟩
      · exact Below.refl _ _
      · exact Go.Joins.below_bytesWorld _ _ _ _ (Nat.le_refl _)
    clear hw1
    go_wp2_with fail
    refine (Tryz.strconv_FormatInt_10 v h0 h1 w1 (HL.out.below hb1).pow).mono ?_
    rintro e w2 ⟨rfl, k, os, hw2⟩
    have hb2 := below_world hw2
    clear hw2
    go_wp2
    go_ret2
    exact ⟨by rw [← ByteArray.toList_eq]; rfl, bel_call hb1 hb2⟩
  · have he : wholeS s.data.toList = (0, false) := by unfold wholeS; rw [hp]
    rw [he]
    have h1 : Hid (∀ v, Lib.parseIntB 64 s.data.toList ≠ .ok v) := fun v => by rw [hp]; intro e; cases e
    have h2 : Hid (Lib.parseIntB 64 s.data.toList ≠ .range) := by show _ ≠ _; rw [hp]; intro e; cases e
    clear hp he
    obtain ⟨te, pe, hv⟩ := HL.out.syn
    have Hv := Lib.hid hv
    clear hv
    go_enter Tryz.func105, Tryz.ntmps105
    go_wp2_with fail
    refine (parse_bad s hs h1.out h2.out _ _ Hv.out (.inr ⟨te, pe, rfl⟩)).mono ?_
    rintro e w1 ⟨t1, p1, rfl, hb1⟩
    go_wp2
    go_ret2
    exact ⟨rfl, hb1⟩
  · have he : wholeS s.data.toList = (Lib.intSat 64 s.data.toList, false) := by unfold wholeS; rw [hp]
    rw [he]
    have Hp := Lib.hid hp
    clear hp he
    obtain ⟨te, pe, hv⟩ := HL.out.rng
    have Hv := Lib.hid hv
    clear hv
    go_enter Tryz.func105, Tryz.ntmps105
    go_wp2_with fail
    refine (Tryz.strconv_ParseInt_10_at64_range s hs Hp.out _ _ Hv.out (.inr ⟨te, pe, rfl⟩)).mono ?_
    rintro e w1 ⟨N, rfl, _, _, hb1⟩
    go_wp2
    go_ret2
    exact ⟨rfl, hb1⟩
end Go.Proofs.YtkiipnbjckdlbaaGreatDoor
namespace Go.Proofs.YtkiipnbjckdlbaaGreatDoor

def opOf (b : UInt8) : Int := if b = 61 then 1 else if b = 33 then 2 else if b = 60 then 3 else if b = 62 then 4 else 0
/-- the place of the first operation's sign; how long the word is: there is none. -/
def opAt : List UInt8 → Nat
  | [] => 0
  | b :: l => if opOf b = 0 then opAt l + 1 else 0
def verdictOf (l : List UInt8) : Option Int :=
  if l = [107, 105, 108, 108] then some 0 else if l = [116, 114, 97, 112] then some 1 else if l = [102, 97, 105, 108] then some 2 else if l = [108, 111, 103] then some 3 else if l = [97, 108, 108, 111, 119] then some 4 else none
def fieldOf (l : List UInt8) : Option Int :=
  if l = [110, 114] then some 0 else if l = [107, 105, 110, 100] then some 1 else if l = [97] then some 2 else if l = [98] then some 3 else if l = [99] then some 4 else none
def condOf (u : List UInt8) : Option TCond :=
  if opAt u = u.length then none else
  match fieldOf (u.take (opAt u)) with
  | none => none
  | some f => if (wholeS (u.drop (opAt u + 1))).2 then some ⟨f, opOf (u.getD (opAt u) 0), (wholeS (u.drop (opAt u + 1))).1⟩ else none
def condsOf : List (List UInt8) → Option (List TCond)
  | [] => some []
  | u :: r => match condOf u with
    | none => none
    | some c => (condsOf r).map (c :: ·)
def words (t : List UInt8) : List (List UInt8) := Lib.split t [32]
def pread : Nat → List UInt8 → Option TPol
  | 0, _ => none
  | n + 1, s => match verdictOf ((words (Lib.cut s [59]).1).headD []) with
    | none => none
    | some v =>
      if (Lib.cut s [59]).2.2 then
        match condsOf (words (Lib.cut s [59]).1).tail with
        | none => none
        | some cs => (pread n (Lib.cut s [59]).2.1).map fun p => ⟨⟨cs, v⟩ :: p.rules, p.dflt⟩
      else if 1 < (words (Lib.cut s [59]).1).length then none else some ⟨[], v⟩
/-- what is read, and the error. -/
def readP (s : List UInt8) : TPol × Int := match pread (s.length + 1) s with
  | none => (⟨[], 0⟩, 1)
  | some p => if polE p = 0 then (p, 0) else (⟨[], 0⟩, polE p)

def writtenL : List UInt8 := [107, 105, 108, 108, 32, 110, 114, 61, 51, 32, 97, 60, 53, 59, 108, 111, 103, 32, 107, 105, 110, 100, 33, 48, 59, 97, 108, 108, 111, 119]
def madeP : TPol := ⟨[⟨[⟨0, 1, 3⟩, ⟨2, 3, 5⟩], 0⟩, ⟨[⟨1, 2, 0⟩], 3⟩], 4⟩
theorem read_made : readP writtenL = (madeP, 0) := by decide +kernel

/-! ### laws for the loops -/
theorem opAt_le : ∀ u : List UInt8, opAt u ≤ u.length
  | [] => Nat.le_refl _
  | b :: l => by
    have := opAt_le l
    unfold opAt
    split <;> simp <;> omega
theorem opAt_spec : ∀ (u : List UInt8) (k : Nat), (∀ j, j < k → ∀ b, u[j]? = some b → opOf b = 0) → k ≤ u.length → (∀ b, u[k]? = some b → opOf b ≠ 0) → opAt u = k
  | [], k, _, hk, _ => by simp at hk; subst hk; rfl
  | b :: l, 0, _, _, h => by unfold opAt; rw [if_neg (h b rfl)]
  | b :: l, k + 1, h, hk, h' => by
    unfold opAt
    rw [if_pos (h 0 (by omega) b rfl), opAt_spec l k (fun j hj c hc => h (j + 1) (by omega) c (by simpa using hc)) (by simpa using hk) (fun c hc => h' c (by simpa using hc))]
theorem condsOf_drop {ws : List (List UInt8)} {j : Nat} (h : j < ws.length) : condsOf (ws.drop j) = match condOf ws[j] with
    | none => none
    | some c => (condsOf (ws.drop (j + 1))).map (c :: ·) := by
  rw [List.drop_eq_getElem_cons h]; rfl
theorem pread_step {n : Nat} {t : List UInt8} {u0 : List UInt8} {us : List (List UInt8)} (h : words (Lib.cut t [59]).1 = u0 :: us) : pread (n + 1) t = match verdictOf u0 with
    | none => none
    | some v =>
      if (Lib.cut t [59]).2.2 then
        match condsOf us with
        | none => none
        | some cs => (pread n (Lib.cut t [59]).2.1).map fun p => ⟨⟨cs, v⟩ :: p.rules, p.dflt⟩
      else if 1 < us.length + 1 then none else some ⟨[], v⟩ := by
  conv => lhs; unfold pread
  rw [h]; rfl
theorem readP_none {s : List UInt8} (h : pread (s.length + 1) s = none) : readP s = (⟨[], 0⟩, 1) := by unfold readP; rw [h]
theorem readP_some {s : List UInt8} {p : TPol} (h : pread (s.length + 1) s = some p) : readP s = if polE p = 0 then (p, 0) else (⟨[], 0⟩, polE p) := by unfold readP; rw [h]
end Go.Proofs.YtkiipnbjckdlbaaGreatDoor
namespace Go.Proofs.YtkiipnbjckdlbaaGreatDoor
open Go.RowKit

theorem splitB_words (t : ByteArray) : (Lib.splitB ⟨#[32]⟩ 0 (Lib.countB t ⟨#[32]⟩) t).map (·.data.toList) = words t.data.toList := by
  rw [Lib.splitB_data]; rfl
theorem splitB_sizes (sep : ByteArray) : ∀ (k : Nat) (t : ByteArray), ∀ u ∈ Lib.splitB sep 0 k t, u.size ≤ t.size
  | 0, t, u, h => by simp [Lib.splitB_zero] at h; subst h; exact Nat.le_refl _
  | k + 1, t, u, h => by
    unfold Lib.splitB at h
    split at h
    · simp at h; subst h; exact Nat.le_refl _
    · rcases List.mem_cons.1 h with h | h
      · subst h; simp [ByteArray.size_extract]; omega
      · have := splitB_sizes sep k _ u h
        simp [ByteArray.size_extract] at this; omega

theorem split_any (t : ByteArray) (w : World) (hL : Laid w) (hs : t.size < 4294967281) : Calls Tryz.prog 104 #[.string t, .string ⟨#[32]⟩] w fun e w' =>
    ∃ ws : List ByteArray, e = .returned (.slice (some ⟨w.heap.size, 0, none⟩) ws.length ws.length) ∧ w' = w.alloc (.cells (ws.map Value.string).toArray 9) ∧ ws.map (·.data.toList) = words t.data.toList ∧ 0 < ws.length ∧ ws.length ≤ t.size + 1 ∧ ∀ u ∈ ws, u.size ≤ t.size := by
  obtain ⟨m, hm⟩ := hL.ml
  refine (Tryz.strings_Split t ⟨#[32]⟩ m w hs hm (by decide)).mono ?_
  rintro e w1 ⟨rfl, rfl⟩
  have hl := Lib.splitB_all ⟨#[32]⟩ (by decide) 0 _ t rfl
  have hc := Lib.countB_le ⟨#[32]⟩ (by decide) _ t (Nat.le_refl _)
  exact ⟨_, by rw [hl], rfl, splitB_words t, by omega, by omega, splitB_sizes _ _ t⟩

theorem cut_any (t : ByteArray) (w : World) (hL : Laid w) (hs : t.size < 4294967281) : Calls Tryz.prog 103 #[.string t, .string ⟨#[59]⟩] w fun e w' =>
    ∃ (a r : ByteArray) (more : Bool), e = .returned (.tuple #[.string a, .string r, .bool more]) ∧ a.data.toList = (Lib.cut t.data.toList [59]).1 ∧ r.data.toList = (Lib.cut t.data.toList [59]).2.1 ∧ more = (Lib.cut t.data.toList [59]).2.2 ∧ a.size ≤ t.size ∧ (more = true → r.size < t.size) ∧ Below w.heap.size w w' := by
  obtain ⟨m, hm⟩ := hL.ml
  refine (Tryz.strings_Cut t ⟨#[59]⟩ m w hs hm).mono ?_
  rintro e w1 ⟨rfl, n, rfl⟩
  refine ⟨_, _, _, rfl, by simp, by simp, rfl, ?_, ?_, Go.Joins.below_draws _ _ _⟩
  · show ((Lib.cut t.data.toList [59]).1.toArray).size ≤ t.data.size
    unfold Lib.cut
    split
    · simp; omega
    · simp
  · intro h
    show ((Lib.cut t.data.toList [59]).2.1.toArray).size < t.data.size
    revert h
    show (Lib.cut t.data.toList [59]).2.2 = true → _
    unfold Lib.cut
    split
    · rename_i h0
      intro _
      have hne : t.data.toList ≠ [] := fun e => by rw [e] at h0; simp [Lib.index] at h0
      have : 0 < t.data.toList.length := List.length_pos_iff.2 hne
      simp at this ⊢
      omega
    · intro h; cases h
end Go.Proofs.YtkiipnbjckdlbaaGreatDoor
