/- Walk: compile.Compile. No condition. -/
import Derived.Test.YtlhhomimcnjnfaaDoorCompRule
import Derived.Test.YtlhhomimcnjnfaaDoorPolCheck
import Derived.Test.YtlhhomimcnjnfaaDoorCode
namespace Go.Proofs.YtlhhomimcnjnfaaDoor
open Go.RowKit

theorem oneIns' (y : TIns) (cs : List Value) (h : insR y cs) : ∀ c ∈ cs, c.oneCell' = true := by
  unfold insR at h; subst h; simp [Value.oneCell']
theorem rulesIns_take {l : List TRule} {k : Nat} (h : k < l.length) : rulesIns (l.take (k + 1)) = rulesIns (l.take k) ++ condIns l[k].conds l[k].verdict := by
  rw [List.take_succ_eq_append_getElem h, rulesIns_snoc]
theorem rulesIns_take_len {l : List TRule} (h : ∀ r ∈ l, r.conds.length ≤ 10) (k : Nat) (hk : k ≤ l.length) : (rulesIns (l.take k)).length ≤ 21 * l.length := by
  have := rulesIns_len (l := l.take k) fun r hr => h r (List.mem_of_mem_take hr)
  rw [List.length_take] at this
  omega
/-- what nil reads as. -/
theorem rdNil (w : World) (D : Nat → Prop) : RdCode w D (.slice none 0 0) [] := ⟨none, 0, rfl, Nat.le_refl _, by unfold maxLen; omega, fun _ => rfl, fun h => by cases h⟩

set_option maxRecDepth 100000 in
set_option maxHeartbeats 4000000 in
theorem compile_any (v : Value) (p : TPol) (D : Nat → Prop) (w : World) (h : RdRules w D v p.rules) :
    Calls Tryd.prog 22 #[polV v p.dflt] w fun e w' => ∃ l, e = .returned (.tuple #[l, .int .i64 (filterE p).2]) ∧ RdCode w' (fun b => w.heap.size ≤ b) l (filterE p).1 ∧ Below w.heap.size w w' := by
  have H := Lib.hid h
  obtain ⟨a, c, rfl, hlc, hcm, hat⟩ := Sl.form h
  clear h
  by_cases hp : polE p = 0
  · have hok := (okPol_iff p).1 hp
    have Hlen : Hid (∀ k, k ≤ p.rules.length → (rulesIns (p.rules.take k)).length ≤ 21 * 120) := fun k hk => by
      have h1 := rulesIns_take_len (fun r hr => (hok.rules r hr).len) k hk
      have h2 := hok.len
      omega
    have HC : Hid (codeE (filterL p) = if 1500 < (filterL p).length then 2 else 0) := filter_code hok
    have HF : Hid (filterE p = if 1500 < (filterL p).length then ([], 2) else (filterL p, 0)) := by show filterE p = _; unfold filterE; rw [if_neg (by omega)]
    have hn := hok.len
    have Hok := Lib.hid hok
    have Hp := Lib.hid hp
    obtain ⟨i0, hi, hz0, hz1, hz2⟩ := info_parts infoIns
    have Hi := Lib.hid hi
    clear hok hp hi
    go_enter Tryd.func22, Tryd.ntmps22
    go_wp2_with fail
    refine (polcheck_any _ p D _ (RdRules.below H.out (bel_alloc (Below.refl _ _) _))).mono ?_
    rw [Hp.out]
    rintro e w1 ⟨rfl, hb1⟩
    have hb1' : Below (w.heap.size + 1) _ w1 := hb1.mono (by simp)
    have hc1 := box_cells hb1'
    have Hb1 := Lib.hid hb1'
    clear hb1 hb1'
    go_wp2_with fail
    go_loopw [5, 17] (fun ov kv wr => ∃ (k : Nat) (vs : Value), kv = .int .i64 k ∧ vs = ov ∧ k ≤ p.rules.length ∧ OwnSl wr (w.heap.size + 1) 50 4 insR vs (rulesIns (p.rules.take k)) ∧ Below (w.heap.size + 1) (w.alloc (.cells #[.slice a p.rules.length c, .int .i64 p.dflt] 24)) wr) (fun _ kv _ => p.rules.length - (intOf kv).toNat)
    case atStart => exact ⟨0, _, rfl, rfl, by omega, OwnSl.nil, Hb1.out⟩
    case round =>
      obtain ⟨k, vs, rfl, rfl, hk, hown, hb⟩ := hrel
      have hbc := box_cells hb
      have hbw := bel_box hb
      have hsz := size_box hb
      have Hown := Lib.hid hown
      have Hb := Lib.hid hb
      have Hbw := Lib.hid hbw
      clear hc1 hown hb hbw
      by_cases hlt : k < p.rules.length
      · obtain ⟨b, o, rfl, hDb, hblt⟩ := hat (by omega)
        obtain ⟨ca, cc, hc0, hc1, hrd, _⟩ := RdRules.cells (H.out.below Hbw.out) hlt
        have Hrd := Lib.hid hrd
        have hl10 := (Hok.out.rules p.rules[k] (List.getElem_mem hlt)).len
        have Hl := Lib.hid (Hlen.out (k + 1) (by omega))
        have Hs := Lib.hid (rulesIns_take hlt)
        have Hll : Hid ((rulesIns (p.rules.take k)).length + (condIns p.rules[k].conds p.rules[k].verdict).length ≤ 21 * 120) := by have := Hl.out; rw [Hs.out, List.length_append] at this; exact this
        clear hrd
        go_wp2_with fail
        refine (rule_any _ p.rules[k] D _ (Hrd.out.below (bel_alloc (Below.refl _ _) _)) hl10).mono ?_
        rintro e w2 ⟨v2, rfl, hr2, hb2⟩
        have hb2' := bel_alloc_call (Below.refl _ wr) hb2
        have hown2 := Hown.out.below hb2'
        have Hown2 := Lib.hid hown2
        have Hr2 := Lib.hid hr2
        have Hb2 := Lib.hid (Hb.out.trans (hb2'.mono hsz))
        have hsz2 := hb2'.size
        clear hown2 hr2 hb2 hb2' hc0 hc1 hbc
        go_wp2_with (at_builtin; refine wpList_app rfl _ _ 45 rfl (w.heap.size + 1) 50 i0 _ 4 32 Tryd.underlying45 Hi.out hz0 hz1 hz2 rfl (by decide) _ _ rfl Hown2.out _ _ rfl Hr2.out (fun y _ cs h => oneIns' y cs h) (by have := Hll.out; unfold maxLen; omega) (by have := Hll.out; omega) (by omega) ?_; intro v' w3 hown' hg)
        go_roundw
        case rel => exact ⟨k + 1, v', by go_num, rfl, by omega, by rw [Hs.out]; exact hown', Hown2.out.grown Hb2.out hg (by omega) (Nat.le_refl _)⟩
        case measure => simp [intOf]; omega
      · obtain rfl : k = p.rules.length := by omega
        have Hl := Lib.hid (Hlen.out p.rules.length (Nat.le_refl _))
        have Hnew : Hid (RdCode (wr.alloc (.cells #[.int .i64 4, .int .i64 p.dflt, .int .i64 0, .int .i64 0] 50)) (fun _ => True) (.slice (some ⟨wr.heap.size, 0, none⟩) 1 1) [⟨4, p.dflt, 0, 0⟩]) :=
          sl_block (R := insR) (sz := 4) (xs := [(⟨4, p.dflt, 0, 0⟩ : TIns)]) (rows := [[.int .i64 4, .int .i64 p.dflt, .int .i64 0, .int .i64 0]]) (RowsOf.cons RowsOf.nil rfl rfl) (heap_last _ _) rfl trivial (by simp [maxLen])
        have Hown3 := Lib.hid (Hown.out.below (bel_alloc (Below.refl _ wr) (.cells #[.int .i64 4, .int .i64 p.dflt, .int .i64 0, .int .i64 0] 50)))
        go_wp2_with (at_builtin; refine wpList_app rfl _ _ 45 rfl (w.heap.size + 1) 50 i0 _ 4 32 Tryd.underlying45 Hi.out hz0 hz1 hz2 rfl (by decide) _ _ rfl Hown3.out _ _ rfl Hnew.out (fun y _ cs h => oneIns' y cs h) (by have := Hl.out; show _ + 1 ≤ maxLen; unfold maxLen; omega) (by have := Hl.out; show (_ + 1) * 32 ≤ _; omega) (by simp; omega) ?_; intro v' w3 hown' hg; rw [List.take_length] at hown'; have Hown' := Lib.hid hown'; have Hb3 := Lib.hid (Hown3.out.grown (Hb.out.trans ((bel_alloc (Below.refl _ wr) _).mono hsz)) hg (by simp; omega) (Nat.le_refl _)); clear hown' hg)
        have HcF : Hid (RdCode w3 (fun b => w.heap.size ≤ b) v' (filterL p)) := Hown'.out.sl fun b h => by omega
        go_wp2_with fail
        refine (codecheck_any v' (filterL p) _ _ HcF.out).mono ?_
        rw [HC.out]
        rintro e w4 ⟨rfl, hb4⟩
        have Hr4 := Lib.hid (HcF.out.below hb4)
        have Hb4 := Lib.hid (bel_call (bel_box Hb3.out) hb4)
        clear hb4
        by_cases hbig : 1500 < (filterL p).length
        · rw [if_pos hbig]
          have HF2 : Hid (filterE p = ([], 2)) := by show filterE p = _; rw [HF.out, if_pos hbig]
          clear hbig
          go_wp2
          go_ret2
          rw [HF2.out]
          exact ⟨_, rfl, rdNil _ _, Hb4.out⟩
        · rw [if_neg hbig]
          have HF2 : Hid (filterE p = (filterL p, 0)) := by show filterE p = _; rw [HF.out, if_neg hbig]
          clear hbig
          go_wp2
          go_ret2
          rw [HF2.out]
          exact ⟨_, rfl, Hr4.out, Hb4.out⟩
  · have HF : Hid (filterE p = ([], polE p)) := by show filterE p = _; unfold filterE; rw [if_pos hp]
    have b0 : (polE p != 0) = true := bne_iff_ne.2 hp
    clear hp
    go_enter Tryd.func22, Tryd.ntmps22
    go_wp2_with fail
    refine (polcheck_any _ p D _ (RdRules.below H.out (bel_alloc (Below.refl _ _) _))).mono ?_
    rintro e w1 ⟨rfl, hb1⟩
    have hb1' : Below (w.heap.size + 1) _ w1 := hb1.mono (by simp)
    have Hb1 := Lib.hid hb1'
    clear hb1 hb1'
    go_wp2
    go_ret2
    rw [HF.out]
    exact ⟨_, rfl, rdNil _ _, bel_box Hb1.out⟩
end Go.Proofs.YtlhhomimcnjnfaaDoor
