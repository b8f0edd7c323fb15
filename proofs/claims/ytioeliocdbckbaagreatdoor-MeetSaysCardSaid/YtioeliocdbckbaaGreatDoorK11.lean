/- Texts laid one behind the other: Same2, RMeetSpec, RShort, RRule, RBoth. No condition beyond theirs. -/
import Derived.Test.YtioeliocdbckbaaGreatDoorK7
import Derived.Test.YtioeliocdbckbaaGreatDoorK4
import Derived.Test.YtioeliocdbckbaaGreatDoorK10
import Derived.Test.YtioeliocdbckbaaGreatDoorK5
import Derived.Laws.EntriesVeiled
namespace Go.Proofs.YtioeliocdbckbaaGreatDoor
open Go.RowKit
attribute [local go_sem] gives givesUpon

theorem box2_step' {w wr w1 : World} {o o' : Obj} (hb : Below (w.heap.size + 2) ((w.alloc o).alloc o') wr) (h1 : Below wr.heap.size wr w1) : Below (w.heap.size + 2) ((w.alloc o).alloc o') w1 := hb.trans (h1.mono (size_box2 hb))

set_option maxHeartbeats 4000000 in
theorem rsame_any (v u : Value) (p q : TPol) (D : Nat → Prop) (w : World) (h : RdRules w D v p.rules) (h' : RdRules w D u q.rules) :
    Calls Tryz.prog 29 #[polV v p.dflt, polV u q.dflt] w fun e w' => e = .returned (.bool (decide (p = q))) ∧ Below w.heap.size w w' := by
  obtain ⟨xs, pd⟩ := p
  obtain ⟨ys, qd⟩ := q
  dsimp only at h h' ⊢
  obtain ⟨a, c, rfl, hlc, hcm, hat⟩ := Sl.form h
  obtain ⟨a', c', rfl, hlc', hcm', hat'⟩ := Sl.form h'
  have H := Lib.hid h
  have H' := Lib.hid h'
  clear h h'
  by_cases hv : pd = qd
  · have b0 : (pd != qd) = false := bne_eq_false_iff_eq.2 hv
    have hd : decide ((⟨xs, pd⟩ : TPol) = ⟨ys, qd⟩) = decide (xs = ys) := by rw [decide_eq_decide]; simp [hv]
    rw [hd]
    clear hd hv
    by_cases hl : xs.length = ys.length
    · have b1 : ((xs.length : Int) != (ys.length : Int)) = false := bne_eq_false_iff_eq.2 (by omega)
      have hl' := Lib.hid hl
      have hl1 : xs.length ≤ ys.length := by omega
      have hl2 : ys.length ≤ xs.length := by omega
      clear hl
      go_enter Tryz.func29, Tryz.ntmps29
      go_wp2_with fail
      go_loopw [24] (fun i wr => ∃ k : Nat, k ≤ xs.length ∧ i = .int .i64 k ∧ xs.take k = ys.take k ∧ Below (w.heap.size + 2) ((w.alloc (.cells #[.slice a xs.length c, .int .i64 pd] 24)).alloc (.cells #[.slice a' ys.length c', .int .i64 qd] 24)) wr) (fun i _ => xs.length - (intOf i).toNat)
      case atStart => exact ⟨0, by omega, rfl, rfl, Below.refl _ _⟩
      case round =>
        obtain ⟨k, hk, rfl, htk, hbx⟩ := hrel
        have Ht := Lib.hid htk
        have Hbx := Lib.hid hbx
        have Hb := Lib.hid (bel_box2 hbx)
        have hsz := size_box2 hbx
        obtain ⟨hc1, hc2⟩ := box2_cells hbx
        clear htk hbx
        by_cases hlt : k < xs.length
        · obtain ⟨b, o, rfl, hDb, hb⟩ := hat (by omega)
          obtain ⟨b', o', rfl, hDb', hb'⟩ := hat' (by omega)
          have hlt' : k < ys.length := by omega
          obtain ⟨ra, rc, k0, k1, hr, hlr, hcr, _⟩ := RdRules.cells (RdRules.below H.out Hb.out) hlt
          obtain ⟨qa, qc, q0, q1, hq, hlq, hcq, _⟩ := RdRules.cells (RdRules.below H'.out Hb.out) hlt'
          have hbr : b' < wr.heap.size := by omega
          have hcc : ∀ W, Cls (wr.heap.size + 1) (wr.alloc (.cells #[.slice ra xs[k].conds.length rc, .int .i64 xs[k].verdict] 58)) W → (∀ j, W.cell? ⟨wr.heap.size, j, none⟩ = (#[.slice ra xs[k].conds.length rc, .int .i64 xs[k].verdict] : Array Value)[j]?) ∧ (∀ j, W.cell? ⟨w.heap.size + 1, j, none⟩ = (#[.slice (some ⟨b', o', none⟩) ys.length c', .int .i64 qd] : Array Value)[j]?) ∧
              W.cell? ⟨b', o' + k * 2, none⟩ = some (.slice qa ys[k].conds.length qc) ∧ W.cell? ⟨b', o' + k * 2 + 1, none⟩ = some (.int .i64 ys[k].verdict) := fun W hW => by
            have hbw := bel_box hW.2
            exact ⟨box_cells hW.2, fun j => (hbw.cell (p := ⟨w.heap.size + 1, j, none⟩) (by show w.heap.size + 1 < wr.heap.size; omega)).trans (hc2 j), (hbw.cell (p := ⟨b', o' + k * 2, none⟩) hbr).trans q0, (hbw.cell (p := ⟨b', o' + k * 2 + 1, none⟩) hbr).trans q1⟩
          have Hcc := Lib.hid hcc
          have hcall : ∀ W, Cls (wr.heap.size + 1) (wr.alloc (.cells #[.slice ra xs[k].conds.length rc, .int .i64 xs[k].verdict] 58)) W →
              Calls Tryz.prog 59 #[.slice ra xs[k].conds.length rc, .slice qa ys[k].conds.length qc] W fun e w' => e = .returned (.bool (decide (xs[k].conds = ys[k].conds))) ∧ Below W.heap.size W w' := fun W hW =>
            eqconds_any _ _ _ _ D W (RdConds.below hr (bel_box hW.2)) (RdConds.below hq (bel_box hW.2))
          have Hcall := Lib.hid hcall
          have hfin : ∀ W, Cls (wr.heap.size + 1) (wr.alloc (.cells #[.slice ra xs[k].conds.length rc, .int .i64 xs[k].verdict] 58)) W → Below wr.heap.size wr W := fun W hW => bel_box hW.2
          have Hfin := Lib.hid hfin
          clear hr hq q0 q1 hcc hcall hfin hc1 hc2
          by_cases hvv : xs[k].verdict = ys[k].verdict
          · have d0 : (xs[k].verdict != ys[k].verdict) = false := bne_eq_false_iff_eq.2 hvv
            have Hvv := Lib.hid hvv
            clear hvv
            go_wp2_with fail
            refine wp_region_exact3 (wr.heap.size + 1) (by simp) (by kernel_rfl) (by kernel_rfl) ?_
            repeat (refine monoE_step (fun K hK => ?_); apply Exists.intro; refine ⟨fun W hC R hR => ?_, ?_⟩; (first
              | (have hcell := Hcc.out W hC; go_simp; exact hR _ _ (Below.refl _ _) rfl)
              | (go_simp; go_at_call 59; refine (Hcall.out W hC).mono ?_; rintro e w1 ⟨rfl, hb1⟩; exact ⟨_, rfl, hR _ _ hb1 rfl⟩)); (go_simp; refine hK _ ?_; clear hK K))
            intro w2 hC2
            by_cases he : xs[k].conds = ys[k].conds
            · have Hn : Hid (xs.take (k + 1) = ys.take (k + 1)) := take_eq_step' hlt hlt' Ht.out (by
                have h1 := Hvv.out
                have h2 := he
                revert h1 h2
                generalize xs[k] = r; generalize ys[k] = s
                cases r; cases s
                rintro h1 h2
                dsimp only at h1 h2
                subst h1 h2; rfl)
              have d : decide (xs[k].conds = ys[k].conds) = true := decide_eq_true he
              clear he
              simp only [d]
              go_wp2
              go_roundw
              case rel => exact ⟨k + 1, by omega, by go_num, Hn.out, box2_step' Hbx.out (Hfin.out _ hC2)⟩
              case measure => simp [intOf]; omega
            · have Hn := Lib.hid (ne_of_get' hlt hlt' (fun e => he (by rw [e])))
              have d : decide (xs[k].conds = ys[k].conds) = false := decide_eq_false he
              clear he
              simp only [d]
              go_wp2
              go_ret
              exact ⟨ret_bool (decide_eq_false Hn.out).symm, bel_call Hb.out (Hfin.out _ hC2)⟩
          · have d0 : (xs[k].verdict != ys[k].verdict) = true := bne_iff_ne.2 hvv
            have Hn := Lib.hid (ne_of_get' hlt hlt' (fun e => hvv (by rw [e])))
            clear hvv
            go_wp2_with fail
            refine wp_region_exact3 (wr.heap.size + 1) (by simp) (by kernel_rfl) (by kernel_rfl) ?_
            repeat (refine monoE_step (fun K hK => ?_); apply Exists.intro; refine ⟨fun W hC R hR => ?_, ?_⟩; (have hcell := Hcc.out W hC; go_simp; exact hR _ _ (Below.refl _ _) rfl); (go_simp; refine hK _ ?_; clear hK K))
            intro w2 hC2
            go_wp2
            go_ret
            exact ⟨ret_bool (decide_eq_false Hn.out).symm, bel_call Hb.out (Hfin.out _ hC2)⟩
        · obtain rfl : k = xs.length := by omega
          have Hn : Hid (xs = ys) := by
            have := Ht.out
            rw [List.take_length, hl'.out, List.take_length] at this
            exact this
          go_wp2
          go_ret
          exact ⟨ret_bool (decide_eq_true Hn.out).symm, Hb.out⟩
    · have b1 : ((xs.length : Int) != (ys.length : Int)) = true := bne_iff_ne.2 (by omega)
      have hn : decide (xs = ys) = false := decide_eq_false fun e => hl (by rw [e])
      rw [hn]
      clear hn hl
      go_enter Tryz.func29, Tryz.ntmps29
      go_wp2
      go_ret
      exact ⟨rfl, bel_alloc (bel_alloc (Below.refl _ _) _) _⟩
  · have b0 : (pd != qd) = true := bne_iff_ne.2 hv
    have hd : decide ((⟨xs, pd⟩ : TPol) = ⟨ys, qd⟩) = false := decide_eq_false fun e => hv (by injection e)
    rw [hd]
    clear hd hv
    go_enter Tryz.func29, Tryz.ntmps29
    go_wp2
    go_ret
    exact ⟨rfl, bel_alloc (bel_alloc (Below.refl _ _) _) _⟩
end Go.Proofs.YtioeliocdbckbaaGreatDoor
namespace Go.Proofs.YtioeliocdbckbaaGreatDoor

/-- the rules that stand for one rule of the first policy. -/
def bothRow (of : Int → Int → Int) (q : TPol) (r : TRule) : List TRule := q.rules.map (pairRule of r) ++ [⟨r.conds ++ [], of r.verdict q.dflt⟩]
def bothLast (of : Int → Int → Int) (p q : TPol) : List TRule := q.rules.map (pairRule of ⟨[], p.dflt⟩)
theorem both_pairs (of : Int → Int → Int) (p q : TPol) : pairPol of p q = ⟨p.rules.flatMap (bothRow of q) ++ bothLast of p q, of p.dflt q.dflt⟩ := by
  unfold pairPol
  congr 1
  have e : ∀ r, (wholeOf q).map (pairRule of r) = bothRow of q r := fun r => by
    unfold wholeOf bothRow
    rw [List.map_append]
    rfl
  have e1 : pairs of (wholeOf p) (wholeOf q) = (p.rules.flatMap (bothRow of q) ++ bothLast of p q) ++ [pairRule of ⟨[], p.dflt⟩ ⟨[], q.dflt⟩] := by
    unfold pairs
    rw [show (fun a => (wholeOf q).map (pairRule of a)) = bothRow of q from funext e]
    show List.flatMap _ (p.rules ++ [⟨[], p.dflt⟩]) = _
    rw [List.flatMap_append, List.append_assoc]
    congr 1
    unfold bothRow bothLast
    simp [pairRule]
  rw [e1, List.dropLast_concat]
theorem trim_prefix (d : Int) : ∀ l : List TRule, l.take (trimD d l).length = trimD d l
  | [] => rfl
  | r :: l => by
    unfold trimD
    split
    · rfl
    · rw [List.length_cons, List.take_succ_cons, trim_prefix d l]
theorem trim_len (d : Int) (r : TRule) (l : List TRule) : (trimD d (l ++ [r])).length = if r.verdict = d then (trimD d l).length else l.length + 1 := by
  rw [trim_snoc]
  split
  · rfl
  · simp
theorem trim_le (d : Int) : ∀ l : List TRule, (trimD d l).length ≤ l.length
  | [] => Nat.le_refl _
  | r :: l => by
    unfold trimD
    split
    · simp
    · simp only [List.length_cons]
      have := trim_le d l
      omega
theorem used_le (ks : List Nat) : ∀ (l : List TRule) (i : Nat), (usedRules ks l i).length ≤ l.length
  | [], _ => Nat.le_refl _
  | r :: l, i => by
    unfold usedRules
    have := used_le ks l (i + 1)
    split <;> simp only [List.length_cons] <;> omega
end Go.Proofs.YtioeliocdbckbaaGreatDoor
namespace Go.Proofs.YtioeliocdbckbaaGreatDoor
open Go.RowKit
attribute [local go_sem] gives givesUpon

/-- the rules that are left of the first k, and how many of these are needed. -/
def leftR (p : TPol) (S : List TCall) (k : Nat) : List TRule := usedRules (usedBy p S) (p.rules.take k) 0
theorem leftR_yes {p : TPol} {S : List TCall} {k : Nat} (h : k < p.rules.length) (hk : (usedBy p S).contains k = true) : leftR p S (k + 1) = leftR p S k ++ [p.rules[k]] := by
  unfold leftR
  rw [used_take h, if_pos hk]
theorem leftR_no {p : TPol} {S : List TCall} {k : Nat} (h : k < p.rules.length) (hk : (usedBy p S).contains k = false) : leftR p S (k + 1) = leftR p S k := by
  unfold leftR
  rw [used_take h, if_neg (by rw [hk]; simp), List.append_nil]
theorem leftR_len (p : TPol) (S : List TCall) (k : Nat) : (leftR p S k).length ≤ p.rules.length := by
  unfold leftR
  have := used_le (usedBy p S) (p.rules.take k) 0
  rw [List.length_take] at this
  omega
theorem used_mem {p : TPol} {S : List TCall} {j k : Nat} (h : j < S.length) (hw : which S[j] p.rules = k) : (usedBy p S).contains k = true := by
  rw [List.contains_iff_mem]
  exact List.mem_map.2 ⟨S[j], List.getElem_mem h, hw⟩
theorem used_not {p : TPol} {S : List TCall} {k : Nat} (h : ∀ x ∈ S, which x p.rules ≠ k) : (usedBy p S).contains k = false := by
  cases hc : (usedBy p S).contains k with
  | false => rfl
  | true =>
    rw [List.contains_iff_mem] at hc
    obtain ⟨x, hx, he⟩ := List.mem_map.1 hc
    exact absurd he (h x hx)
/-- one rule in a block of its own. -/
theorem one_rule {W : World} {b : Nat} {T : TypeId} {u : Value} {r : TRule} {D : Nat → Prop} (hb : W.heap[b]? = some (.cells #[u, .int .i64 r.verdict] T)) (hu : RdConds W D u r.conds) : Sl W (fun _ => True) 2 (ruleR W D) (.slice (some ⟨b, 0, none⟩) 1 1) [r] :=
  sl_block (xs := [r]) (rows := [[u, .int .i64 r.verdict]]) (RowsOf.cons RowsOf.nil ⟨_, rfl, hu⟩ rfl) hb rfl trivial (by simp [maxLen])
theorem rules_lift {w W : World} {B B' : Nat} {D : Nat → Prop} {v : Value} {l : List TRule} (h : OwnSl w B 58 2 (ruleR w D) v l) (hb : ∀ b, D b → b < w.heap.size → W.heap[b]? = w.heap[b]?) (hs : w.heap.size ≤ W.heap.size) (hk : ∀ b, B ≤ b → b < w.heap.size → W.heap[b]? = w.heap[b]?) (hB : B' ≤ B) : OwnSl W B' 58 2 (ruleR W D) v l :=
  (OwnSl.base (show OwnSl W B 58 2 (ruleR w D) v l by obtain ⟨rows, hr, ho⟩ := h; exact ⟨rows, hr, ownsRow_keep ho hk⟩) hB).monoR fun _ _ _ ⟨u, e1, e2⟩ => ⟨u, e1, e2.keep (fun _ h _ => h) hb hs⟩

set_option maxRecDepth 100000 in
set_option maxHeartbeats 16000000 in
theorem rshort_any (u : Value) (p : TPol) (D : Nat → Prop) (w : World) (hp : RdRules w D u p.rules) :
    Calls Tryz.prog 28 #[polV u p.dflt] w fun e w' => ∃ r, e = .returned (.tuple #[polV r (shortE p).1.dflt, .int .i64 (shortE p).2]) ∧ RdRules w' (fun b => D b ∨ w.heap.size ≤ b) r (shortE p).1.rules ∧ Below w.heap.size w w' := by
  have Hp : Hid (RdRules w (fun b => D b ∧ b < w.heap.size) u p.rules) := hp.keep (fun _ h hl => ⟨h, hl⟩) (fun _ _ _ => rfl) (Nat.le_refl _)
  obtain ⟨ap, cp, rfl, _⟩ := Sl.form hp
  clear hp
  go_enter Tryz.func28, Tryz.ntmps28
  go_wp2_with fail
  have HB := Lib.hid (Bx.two (w := w) (o := .cells #[.slice ap p.rules.length cp, .int .i64 p.dflt] 24) (o' := .cells #[.slice none 0 0, .int .i64 0] 24))
  refine (rpoints_any _ [p] (fun _ => True) _ (one_pol (blk_at (by simp)) ((RdRules.below Hp.out (bel_alloc HB.out.bel _)).keep (fun _ _ _ => trivial) (fun _ _ _ => rfl) (Nat.le_refl _)) trivial) (fun h0 => rvals_len h0 (by simp))).mono ?_
  rintro e w1 ⟨v1, rfl, ho1, hb1⟩
  replace HB := Lib.hid (HB.out.below ((bel_alloc (Below.refl _ _) (.cells #[.slice ap p.rules.length cp, .int .i64 p.dflt] 24)).trans (hb1.mono (by simp))))
  have hs1 : w.heap.size + 2 ≤ w1.heap.size := HB.out.top
  have Ho1 := Lib.hid ho1
  obtain ⟨a1, c1, rfl⟩ := ho1.slice
  clear ho1 hb1
  by_cases h0 : (pointsE [p]).2 = 0
  · obtain ⟨hok, hsz5, hpe⟩ := pointsE_ok h0
    have HE : Hid (shortE p = (shortPol p, 0)) := shortE_of (hok p (by simp)) hsz5
    have HokP := Lib.hid (hok p (by simp))
    have hlp := HokP.out.len
    rw [hpe] at Ho1 ⊢
    dsimp only at Ho1 ⊢
    have Hl1 : Hid (RdCalls w1 (fun _ => True) (.slice a1 (stage [p] 5).length c1) (stage [p] 5)) := Ho1.out.sl (fun _ _ => trivial)
    have hSl : (stage [p] 5).length ≤ 1000 := by rw [stage_length]; assumption
    have Hpo := Lib.hid (fun x (hx : x ∈ stage [p] 5) => point_ok hok hx)
    have HSP : Hid (shortPol p = ⟨trimD p.dflt (leftR p (stage [p] 5) p.rules.length), p.dflt⟩) := by show _ = _; unfold leftR; rw [List.take_length]; rfl
    obtain ⟨S, hS⟩ : ∃ S, S = stage [p] 5 := ⟨_, rfl⟩
    rw [← hS] at Hl1 Hpo hSl HSP ⊢
    have hat := fun h0 => Sl.at_ Hl1.out h0
    obtain ⟨i0, hi, hz0, hz1, hz2⟩ := info_parts infocRule
    have Hi := Lib.hid hi
    clear h0 hok hpe hS Ho1 hsz5 hi
    have hc0 := HB.out.cells0
    have hbl : Below w1.heap.size w1 (w1.alloc (.cells #[.slice none 0 0, .int .i64 p.dflt] 24)) := bel_alloc (Below.refl _ _) _
    have hc0' := (HB.out.below hbl).cells0
    have Hst : Hid ((w1.alloc (.cells #[.slice none 0 0, .int .i64 p.dflt] 24)).heap[w1.heap.size]? = some (.cells #[.slice none 0 0, .int .i64 p.dflt] 24)) := heap_last _ _
    go_wp2_with fail
    clear hc0 hc0'
    go_loopw [7, 30] (fun nv kv wr => ∃ (k : Nat) (v : Value), kv = .int .i64 k ∧ nv = .int .i64 ((trimD p.dflt (leftR p S k)).length : Nat) ∧ k ≤ p.rules.length ∧ wr.heap[w1.heap.size]? = some (.cells #[v, .int .i64 p.dflt] 24) ∧ OwnSl wr (w1.heap.size + 1) 58 2 (ruleR wr (fun b => D b ∧ b < w.heap.size)) v (leftR p S k) ∧ Below w1.heap.size w1 wr) (fun _ kv _ => p.rules.length - (intOf kv).toNat)
    case atStart => exact ⟨0, _, rfl, rfl, by omega, Hst.out, OwnSl.nil, hbl⟩
    case round =>
      obtain ⟨k, v, rfl, rfl, hk, hbox, hown, hb⟩ := hrel
      obtain ⟨wo, rfl⟩ : ∃ wo : World, wo = wr := ⟨_, rfl⟩
      have Hbox := Lib.hid hbox
      have Hown := Lib.hid hown
      have Hb := Lib.hid hb
      have hszr := hb.size
      have hβ : w1.heap.size < wo.heap.size := (Array.getElem?_eq_some_iff.1 hbox).1
      clear hbox hown hb Hst hbl
      have HBr := Lib.hid (HB.out.below Hb.out)
      have Hpr : Hid (RdRules wo (fun b => D b ∧ b < w.heap.size) (.slice ap p.rules.length cp) p.rules) := RdRules.below Hp.out HBr.out.bel
      by_cases hlt : k < p.rules.length
      · obtain ⟨bp, op, rfl, _, _⟩ := Sl.at_ Hpr.out (by omega)
        obtain ⟨ca, cc, hca0, hca1, hrd, _, _, _⟩ := RdRules.cells Hpr.out hlt
        have Hyes := Lib.hid (leftR_yes (p := p) (S := S) hlt)
        have Hno := Lib.hid (leftR_no (p := p) (S := S) hlt)
        obtain ⟨r, hr⟩ : ∃ r, p.rules[k] = r := ⟨_, rfl⟩
        rw [hr] at hca0 hca1 hrd Hyes
        have Hrd := Lib.hid hrd
        have hll := leftR_len p S k
        obtain ⟨U, hU⟩ : ∃ U, leftR p S k = U := ⟨_, rfl⟩
        rw [hU] at Hown Hyes Hno hll ⊢
        have htl := trim_le p.dflt U
        have Htr := Lib.hid (trim_len p.dflt r U)
        clear hrd hr hU
        obtain ⟨w2, hw2⟩ : ∃ w2, wo.alloc (.cells #[.slice ca r.conds.length cc, .int .i64 r.verdict] 58) = w2 := ⟨_, rfl⟩
        have Hb2 : Hid (Below wo.heap.size wo w2) := by show Below _ _ _; rw [← hw2]; exact bel_alloc (Below.refl _ _) _
        have H13 : Hid (w2.heap[wo.heap.size]? = some (.cells #[.slice ca r.conds.length cc, .int .i64 r.verdict] 58)) := by show _ = _; rw [← hw2]; exact heap_last _ _
        have hsz2 : w2.heap.size = wo.heap.size + 1 := by rw [← hw2]; simp
        go_wp2_with fail
        try rw [hw2]
        clear hca0 hca1 hw2
        go_loopw [7, 37] (fun nv jv wj => ∃ j : Nat, jv = .int .i64 j ∧ nv = .int .i64 ((trimD p.dflt U).length : Nat) ∧ j ≤ S.length ∧ (∀ x ∈ S.take j, which x p.rules ≠ k) ∧ Below w2.heap.size w2 wj) (fun _ jv _ => S.length - (intOf jv).toNat)
        case atStart => exact ⟨0, rfl, rfl, by omega, fun x hx => by simp at hx, Below.refl _ _⟩
        case round =>
          obtain ⟨j, rfl, rfl, hj, hnone, hbj⟩ := hrel
          obtain ⟨wj, rfl⟩ : ∃ wj : World, wj = wr := ⟨_, rfl⟩
          have Hnone := Lib.hid hnone
          have Hbj := Lib.hid hbj
          have hszj := hbj.size
          clear hnone hbj
          have HbO : Hid (Below wo.heap.size wo wj) := Hb2.out.trans (Hbj.out.mono (by omega))
          have HBj := Lib.hid (HBr.out.below HbO.out)
          by_cases hjl : j < S.length
          · obtain ⟨b, o, rfl, _, hblt⟩ := hat (by omega)
            obtain ⟨h0c, h1c, h2c, h3c, h4c⟩ := RdCalls.cells (Hl1.out.below (Hb.out.trans (HbO.out.mono hszr))) hjl
            have Hxo := Lib.hid (Hpo.out S[j] (List.getElem_mem hjl))
            have Hmem := Lib.hid (fun h => used_mem (p := p) (k := k) hjl h)
            have Htk : Hid (∀ x ∈ S.take (j + 1), x ∈ S.take j ∨ x = S[j]) := fun x hx => by
              rw [List.take_succ_eq_append_getElem hjl] at hx
              rcases List.mem_append.1 hx with hx | hx
              · exact .inl hx
              · exact .inr (by simpa using hx)
            obtain ⟨x, hx⟩ : ∃ x, S[j] = x := ⟨_, rfl⟩
            rw [hx] at h0c h1c h2c h3c h4c Hxo Hmem Htk
            have HBx := Lib.hid (HBj.out.alloc (.cells #[.int .i64 x.a0, .int .i64 x.a1, .int .i64 x.a2, .int .i64 x.a3, .int .i64 x.a4] 26))
            have hc0' := HBx.out.cells0
            clear hx
            go_wp2_with fail
            clear h0c h1c h2c h3c h4c hc0'
            refine (rjudged_any _ p x (fun b => D b ∧ b < w.heap.size) _ (RdRules.below Hp.out HBx.out.bel) HokP.out).mono ?_
            rintro e w3 ⟨rfl, hb3⟩
            have Hb3 : Hid (Below wo.heap.size wo w3) := (HbO.out.trans ((bel_alloc (Below.refl wj.heap.size wj) _).mono (by omega))).trans (hb3.mono (by simp; omega))
            have Hbk3 : Hid (Below w2.heap.size w2 w3) := (Hbj.out.trans ((bel_alloc (Below.refl wj.heap.size wj) _).mono hszj)).trans (hb3.mono (by simp; omega))
            have hsz3 : wj.heap.size + 1 ≤ w3.heap.size := by have := hb3.size; simp at this; omega
            clear hb3
            obtain ⟨wi, hwi⟩ : ∃ wi, which x p.rules = wi := ⟨_, rfl⟩
            have hj2 : (judged p x).2 = wi := by rw [← hwi]; rfl
            rw [hj2]
            have Hwi := Lib.hid hwi
            clear hj2 hwi
            by_cases hik : wi = k
            · subst hik
              have hu := Hmem.out Hwi.out
              have HU : Hid (leftR p S (wi + 1) = U ++ [r]) := Hyes.out hu
              have hbox3 := Lib.hid (blk_below Hbox.out Hb3.out)
              have Hown3 := Lib.hid (rules_lift (B' := w1.heap.size + 1) Hown.out (fun b hb hl => Hb3.out.block b hl) Hb3.out.size (fun b _ hl => Hb3.out.block b hl) (Nat.le_refl _))
              have H133 : Hid (w3.heap[wo.heap.size]? = some (.cells #[.slice ca r.conds.length cc, .int .i64 r.verdict] 58)) := (Hbk3.out.block _ (by omega)).trans H13.out
              have Hrd3 : Hid (RdConds w3 (fun b => D b ∧ b < w.heap.size) (.slice ca r.conds.length cc) r.conds) := Hrd.out.below Hb3.out
              have hcb := cells_of hbox3.out
              have hcr := cells_of H133.out
              obtain ⟨av, cv, rfl⟩ := Hown3.out.slice
              have hne : ∀ g, (Value.slice av U.length cv).ownBlock = some g → w1.heap.size + 1 ≤ g ∧ g < wo.heap.size := fun g hg => by
                obtain ⟨rows, _, ho⟩ := Hown.out
                exact ho.lt g hg
              have Hne := Lib.hid hne
              have hul : U.length ≤ 120 := by omega
              clear hu hne
              have HbA := Lib.hid (bel_alloc (Below.refl w3.heap.size w3) (.cells #[.slice ca r.conds.length cc, .int .i64 r.verdict] 58))
              have HownA := Lib.hid (rules_lift (B' := w1.heap.size + 1) Hown3.out (fun b hb hl => HbA.out.block b hl) HbA.out.size (fun b _ hl => HbA.out.block b hl) (Nat.le_refl _))
              have Hnew : Hid (Sl (w3.alloc (.cells #[.slice ca r.conds.length cc, .int .i64 r.verdict] 58)) (fun _ => True) 2 (ruleR (w3.alloc (.cells #[.slice ca r.conds.length cc, .int .i64 r.verdict] 58)) (fun b => D b ∧ b < w.heap.size)) (.slice (some ⟨w3.heap.size, 0, none⟩) 1 1) [r]) := one_rule (heap_last _ _) (Hrd3.out.below HbA.out)
              have hlU : (U ++ [r]).length = U.length + 1 := by simp
              by_cases hvd : r.verdict = p.dflt
              · have hb0 : (r.verdict != p.dflt) = false := by rw [hvd]; simp
                have HT : Hid ((trimD p.dflt (U ++ [r])).length = (trimD p.dflt U).length) := by show _ = _; rw [Htr.out, if_pos hvd]
                clear hvd
                go_wp2_with (at_builtin; refine wpList_app2 rfl _ _ 22 rfl (w1.heap.size + 1) 58 i0 _ 2 32 Tryz.underlying22 Hi.out hz0 hz1 hz2 rfl (by decide) _ _ rfl HownA.out _ _ rfl Hnew.out (fun y _ cs h => ruleR_one y cs h) (by show _ + 1 ≤ maxLen; unfold maxLen; omega) (by show (_ + 1) * 32 ≤ _; omega) (by simp; omega) ?_; intro v' w5 hown' hg' hat'; have Hown5 := Lib.hid hown'; have Hg5 := Lib.hid hg'; have Hat5 := Lib.hid hat'; have HbG := Lib.hid (HownA.out.grown ((Hb.out.trans (Hb3.out.mono hszr)).trans (HbA.out.mono (by omega))) hg' (by simp; omega) (Nat.le_succ _)); clear hown' hg' hat'; have Hbox5 : Hid (w5.heap[w1.heap.size]? = some (.cells #[.slice av U.length cv, .int .i64 p.dflt] 24)) := (Hg5.out.block _ (by simp; omega) (fun e => by have := (Hne.out _ e.symm).1; omega)).trans (blk_below hbox3.out HbA.out); have H135 : Hid (w5.heap[wo.heap.size]? = some (.cells #[.slice ca r.conds.length cc, .int .i64 r.verdict] 58)) := (Hg5.out.block _ (by simp; omega) (fun e => by have := (Hne.out _ e.symm).2; omega)).trans (blk_below H133.out HbA.out); have hc5 := cells_of Hbox5.out; have hf5 := not_frozen Hbox5.out; obtain ⟨a5, c5, rfl⟩ := Hown5.out.slice; rw [hlU] at Hown5 Hat5 ⊢; have hr6 := cells_of ((set_other (a := ⟨w1.heap.size, 0, none⟩) (v := .slice a5 (U.length + 1) c5) (show wo.heap.size ≠ w1.heap.size by omega)).trans H135.out); have Hbox6 := Lib.hid (set_at (o := 0) (v := .slice a5 (U.length + 1) c5) Hbox5.out); have hc6 := cells_of Hbox6.out; have Hb6 : Hid (Below w1.heap.size w1 (w5.setCell ⟨w1.heap.size, 0, none⟩ (.slice a5 (U.length + 1) c5))) := set_below HbG.out (Nat.le_refl _); have hp6 := (HB.out.below Hb6.out).cells0; have Hown6 : Hid (OwnSl (w5.setCell ⟨w1.heap.size, 0, none⟩ (.slice a5 (U.length + 1) c5)) (w1.heap.size + 1) 58 2 (ruleR (w5.setCell ⟨w1.heap.size, 0, none⟩ (.slice a5 (U.length + 1) c5)) (fun b => D b ∧ b < w.heap.size)) (.slice a5 (U.length + 1) c5) (U ++ [r])) := ((Hown5.out.set (a := ⟨w1.heap.size, 0, none⟩) (x := .slice a5 (U.length + 1) c5) (fun e => by rcases Hat5.out with h | h; (have := (Hne.out w1.heap.size (h.symm.trans e)).1; omega); (rw [h] at e; simp at e; omega))).monoR fun _ _ _ ⟨u, e1, e2⟩ => ⟨u, e1, e2.keep (fun _ h _ => h) (fun b hb _ => by have h1 : b < w.heap.size := hb.2; rw [set_other (by show b ≠ w1.heap.size; omega)]; exact Hg5.out.block b (by simp; omega) (fun e => by have := (Hne.out _ e.symm).1; omega)) (by rw [set_size]; exact Hg5.out.size)⟩))
                go_roundw
                case rel => first | exact ⟨wi + 1, _, by go_num, by rw [HU.out, HT.out]; first | done | rfl, by omega, Hbox6.out, by rw [HU.out]; exact Hown6.out, Hb6.out⟩ | ((repeat apply Exists.intro); exact ⟨⟨wi + 1, _, by go_num, by rw [HU.out, HT.out]; first | done | rfl, by omega, Hbox6.out, by rw [HU.out]; exact Hown6.out, Hb6.out⟩, rfl⟩)
                case measure => simp [intOf]; omega
              · have hb0 : (r.verdict != p.dflt) = true := bne_iff_ne.2 hvd
                have HT : Hid ((trimD p.dflt (U ++ [r])).length = U.length + 1) := by show _ = _; rw [Htr.out, if_neg hvd]
                clear hvd
                go_wp2_with (at_builtin; refine wpList_app2 rfl _ _ 22 rfl (w1.heap.size + 1) 58 i0 _ 2 32 Tryz.underlying22 Hi.out hz0 hz1 hz2 rfl (by decide) _ _ rfl HownA.out _ _ rfl Hnew.out (fun y _ cs h => ruleR_one y cs h) (by show _ + 1 ≤ maxLen; unfold maxLen; omega) (by show (_ + 1) * 32 ≤ _; omega) (by simp; omega) ?_; intro v' w5 hown' hg' hat'; have Hown5 := Lib.hid hown'; have Hg5 := Lib.hid hg'; have Hat5 := Lib.hid hat'; have HbG := Lib.hid (HownA.out.grown ((Hb.out.trans (Hb3.out.mono hszr)).trans (HbA.out.mono (by omega))) hg' (by simp; omega) (Nat.le_succ _)); clear hown' hg' hat'; have Hbox5 : Hid (w5.heap[w1.heap.size]? = some (.cells #[.slice av U.length cv, .int .i64 p.dflt] 24)) := (Hg5.out.block _ (by simp; omega) (fun e => by have := (Hne.out _ e.symm).1; omega)).trans (blk_below hbox3.out HbA.out); have H135 : Hid (w5.heap[wo.heap.size]? = some (.cells #[.slice ca r.conds.length cc, .int .i64 r.verdict] 58)) := (Hg5.out.block _ (by simp; omega) (fun e => by have := (Hne.out _ e.symm).2; omega)).trans (blk_below H133.out HbA.out); have hc5 := cells_of Hbox5.out; have hf5 := not_frozen Hbox5.out; obtain ⟨a5, c5, rfl⟩ := Hown5.out.slice; rw [hlU] at Hown5 Hat5 ⊢; have hr6 := cells_of ((set_other (a := ⟨w1.heap.size, 0, none⟩) (v := .slice a5 (U.length + 1) c5) (show wo.heap.size ≠ w1.heap.size by omega)).trans H135.out); have Hbox6 := Lib.hid (set_at (o := 0) (v := .slice a5 (U.length + 1) c5) Hbox5.out); have hc6 := cells_of Hbox6.out; have Hb6 : Hid (Below w1.heap.size w1 (w5.setCell ⟨w1.heap.size, 0, none⟩ (.slice a5 (U.length + 1) c5))) := set_below HbG.out (Nat.le_refl _); have hp6 := (HB.out.below Hb6.out).cells0; have Hown6 : Hid (OwnSl (w5.setCell ⟨w1.heap.size, 0, none⟩ (.slice a5 (U.length + 1) c5)) (w1.heap.size + 1) 58 2 (ruleR (w5.setCell ⟨w1.heap.size, 0, none⟩ (.slice a5 (U.length + 1) c5)) (fun b => D b ∧ b < w.heap.size)) (.slice a5 (U.length + 1) c5) (U ++ [r])) := ((Hown5.out.set (a := ⟨w1.heap.size, 0, none⟩) (x := .slice a5 (U.length + 1) c5) (fun e => by rcases Hat5.out with h | h; (have := (Hne.out w1.heap.size (h.symm.trans e)).1; omega); (rw [h] at e; simp at e; omega))).monoR fun _ _ _ ⟨u, e1, e2⟩ => ⟨u, e1, e2.keep (fun _ h _ => h) (fun b hb _ => by have h1 : b < w.heap.size := hb.2; rw [set_other (by show b ≠ w1.heap.size; omega)]; exact Hg5.out.block b (by simp; omega) (fun e => by have := (Hne.out _ e.symm).1; omega)) (by rw [set_size]; exact Hg5.out.size)⟩))
                go_roundw
                case rel => first | exact ⟨wi + 1, _, by go_num, by rw [HU.out, HT.out]; first | done | rfl, by omega, Hbox6.out, by rw [HU.out]; exact Hown6.out, Hb6.out⟩ | ((repeat apply Exists.intro); exact ⟨⟨wi + 1, _, by go_num, by rw [HU.out, HT.out]; first | done | rfl, by omega, Hbox6.out, by rw [HU.out]; exact Hown6.out, Hb6.out⟩, rfl⟩)
                case measure => simp [intOf]; omega
            · have hb0 : ((wi : Int) == (k : Int)) = false := beq_eq_false_iff_ne.2 (by omega)
              have hb1 : (wi == k) = false := beq_eq_false_iff_ne.2 hik
              have HN : Hid (∀ y ∈ S.take (j + 1), which y p.rules ≠ k) := fun y hy => by
                rcases Htk.out y hy with h | h
                · exact Hnone.out y h
                · subst h; rw [Hwi.out]; exact hik
              clear hik
              go_wp2
              go_roundw
              case rel => exact ⟨j + 1, by go_num, rfl, by omega, HN.out, Hbk3.out⟩
              case measure => simp [intOf]; omega
          · obtain rfl : j = S.length := by omega
            have HU : Hid (leftR p S (k + 1) = U) := Hno.out (used_not (fun x hx => Hnone.out x (by rw [List.take_length]; exact hx)))
            have Hboxj := Lib.hid (blk_below Hbox.out HbO.out)
            have Hownj := Lib.hid (rules_lift (B' := w1.heap.size + 1) Hown.out (fun b hb hl => HbO.out.block b hl) HbO.out.size (fun b _ hl => HbO.out.block b hl) (Nat.le_refl _))
            go_wp2
            go_roundw
            case rel => exact ⟨k + 1, v, by go_num, by rw [HU.out], by omega, Hboxj.out, by rw [HU.out]; exact Hownj.out, Hb.out.trans (HbO.out.mono hszr)⟩
            case measure => simp [intOf]; omega
      · obtain rfl : k = p.rules.length := by omega
        obtain ⟨U, hU⟩ : ∃ U, leftR p S p.rules.length = U := ⟨_, rfl⟩
        rw [hU] at Hown HSP ⊢
        have hll := leftR_len p S p.rules.length
        rw [hU] at hll
        have htl := trim_le p.dflt U
        have htp := trim_prefix p.dflt U
        obtain ⟨av, cv, rfl⟩ := Hown.out.slice
        have hR : RdRules wo (fun _ => True) (.slice av U.length cv) U := (Hown.out.monoR fun _ _ _ ⟨u, e1, e2⟩ => ⟨u, e1, e2.keep (fun _ _ _ => trivial) (fun _ _ _ => rfl) (Nat.le_refl _)⟩).sl fun _ _ => trivial
        obtain ⟨a', c', hv, hlc, hcm, _⟩ := Sl.form hR
        injection hv with h1 h2 h3
        subst h1 h3
        have hR2 : RdRules wo (fun _ => True) (.slice av (trimD p.dflt U).length cv) (trimD p.dflt U) := by
          have := Sl.take hR htl
          rw [htp] at this
          exact this
        have HL : Hid ((trimD p.dflt U).length ≤ U.length) := htl
        obtain ⟨T, hT⟩ : ∃ T, trimD p.dflt U = T := ⟨_, rfl⟩
        rw [hT] at hR2 HL HSP htl ⊢
        obtain ⟨n, hn⟩ : ∃ n, T.length = n := ⟨_, rfl⟩
        rw [hn] at hR2 HL htl ⊢
        have hnc : n ≤ cv := by omega
        have hcb := cells_of Hbox.out
        have hfb := not_frozen Hbox.out
        have Hbox2 := Lib.hid (set_at (o := 0) (v := .slice av n cv) Hbox.out)
        have hcb2 := cells_of Hbox2.out
        have HB2 := Lib.hid (HBr.out.lift (B := w.heap.size + 2) (set_below (a := ⟨w1.heap.size, 0, none⟩) (v := .slice av n cv) (Below.refl _ _) (by show w.heap.size + 2 ≤ w1.heap.size; omega)) (by simp))
        have hc1 := HB2.out.cells1
        have hf1 := HB2.out.free1
        have HB3 := Lib.hid (HB2.out.set (i := 1) rfl 0 (.slice av n cv))
        have HB4 := Lib.hid (HB3.out.set (i := 1) rfl 1 (.int .i64 p.dflt))
        have hc4 := HB4.out.cells1
        have HR5 : Hid (RdRules (((wo.setCell ⟨w1.heap.size, 0, none⟩ (.slice av n cv)).setCell ⟨w.heap.size + 1, 0, none⟩ (.slice av n cv)).setCell ⟨w.heap.size + 1, 1, none⟩ (.int .i64 p.dflt)) (fun b => D b ∨ w.heap.size ≤ b) (.slice av n cv) T) := by
          have hD : RdRules wo (fun b => (b ≠ w1.heap.size ∧ b ≠ w.heap.size + 1) ∧ (D b ∨ w.heap.size ≤ b)) (.slice av U.length cv) U :=
            (Hown.out.monoR fun _ _ _ ⟨u, e1, e2⟩ => ⟨u, e1, e2.keep (D' := fun b => (b ≠ w1.heap.size ∧ b ≠ w.heap.size + 1) ∧ (D b ∨ w.heap.size ≤ b)) (fun b hb _ => by have h1 : b < w.heap.size := hb.2; exact ⟨⟨by omega, by omega⟩, .inl hb.1⟩) (fun _ _ _ => rfl) (Nat.le_refl _)⟩).sl fun b hb => ⟨⟨by omega, by omega⟩, .inr (by omega)⟩
          have hD2 := Sl.take hD (show n ≤ U.length by omega)
          have e : U.take n = T := by rw [← hn, ← hT]; exact htp
          rw [e] at hD2
          exact RdRules.keep hD2 (fun _ h _ => h.2) (fun b hb _ => by rw [set_other (by exact hb.1.2), set_other (by exact hb.1.2), set_other (by exact hb.1.1)]) (by rw [set_size, set_size, set_size]; exact Nat.le_refl _)
        clear hU htp hR hR2 hT hn
        go_wp2
        refine bodyPost_ret (v := .tuple #[polV (.slice av n cv) p.dflt, .int .i64 0]) ?_ rfl (by rw [HE.out, HSP.out]; exact ⟨_, rfl, HR5.out, HB4.out.bel⟩)
        rw [results_cell_tmp rfl]
        go_simp
  · have HE : Hid (shortE p = (zeroPol, (pointsE [p]).2)) := by show _ = _; unfold shortE; rw [if_pos h0]
    have hb0 : ((pointsE [p]).2 != 0) = true := bne_iff_ne.2 h0
    have hc1 := HB.out.cells1
    have hf1 := HB.out.free1
    have HB3 := Lib.hid (HB.out.set (i := 1) rfl 0 (.slice none 0 0))
    have HB4 := Lib.hid (HB3.out.set (i := 1) rfl 1 (.int .i64 0))
    have hc4 := HB4.out.cells1
    generalize (pointsE [p]).2 = E at *
    clear h0
    go_wp2
    refine bodyPost_ret (v := .tuple #[polV (.slice none 0 0) 0, .int .i64 E]) ?_ rfl (by rw [HE.out]; exact ⟨_, rfl, nil_rules _ _, HB4.out.bel⟩)
    rw [results_cell_tmp rfl]
    go_simp
end Go.Proofs.YtioeliocdbckbaaGreatDoor
namespace Go.Proofs.YtioeliocdbckbaaGreatDoor
open Go.RowKit
attribute [local go_sem] gives givesUpon

def bothOf (ex : Bool) (a b : Int) : Int := if a < b then a else if ex then 4 else b
theorem bothOf_true : bothOf true = exceptOf := rfl
theorem bothOf_false : bothOf false = minOf := by
  funext a b
  unfold bothOf minOf
  split
  · rw [if_pos (by omega)]
  · simp only [Bool.false_eq_true, if_false]
    split
    · omega
    · rfl
set_option maxRecDepth 100000 in
theorem rof_any (ex : Bool) (a b : Int) (ε : Nat) (w : World) (h : w.cell? ⟨ε, 0, none⟩ = some (.bool ex)) :
    Calls Tryz.prog 55 #[.int .i64 a, .int .i64 b, .pointer (some ⟨ε, 0, none⟩)] w fun e w' => e = .returned (.int .i64 (bothOf ex a b)) ∧ w = w' := by
  by_cases hab : a < b
  · have hd : decide (a < b) = true := decide_eq_true hab
    have hE : Hid (bothOf ex a b = a) := if_pos hab
    clear hab
    go_enter Tryz.func55, Tryz.ntmps55
    go_wp2
    go_ret
    exact ⟨ret_int hE.out.symm, rfl⟩
  · have hd : decide (a < b) = false := decide_eq_false hab
    cases ex with
    | true =>
      have hE : Hid (bothOf true a b = 4) := by show (if a < b then a else if true = true then (4 : Int) else b) = 4; rw [if_neg hab, if_pos rfl]
      clear hab
      go_enter Tryz.func55, Tryz.ntmps55
      go_wp2
      go_ret
      exact ⟨ret_int hE.out.symm, rfl⟩
    | false =>
      have hE : Hid (bothOf false a b = b) := by show (if a < b then a else if false = true then (4 : Int) else b) = b; rw [if_neg hab, if_neg (by simp)]
      clear hab
      go_enter Tryz.func55, Tryz.ntmps55
      go_wp2
      go_ret
      exact ⟨ret_int hE.out.symm, rfl⟩
@[reducible] def ofFn (ε : Nat) : Value := .func (.func 55) #[] #[.pointer (some ⟨ε, 0, none⟩)]
set_option maxRecDepth 100000 in
set_option maxHeartbeats 16000000 in
theorem rrule_any (ex : Bool) {B β ε φ : Nat} {wB : World} {pv0 pv : Value} {rs : List TRule} (ra rb : TRule) (ca cb : Option Addr) (cca ccb : Nat) (wj : World) (hG : GatherI B β (.int .i64 0) wB pv0 wj pv rs) (hβ : β < B) (hB : B ≤ wj.heap.size) (hβw : β < wj.heap.size)
    (hε : wj.heap[ε]? = some (.cells #[.bool ex] 4)) (hεβ : ε ≠ β) (hφ : wj.heap[φ]? = some (.cells #[ofFn ε] 59)) (hφβ : φ ≠ β)
    (hra : RdConds wj (fun b => b ≠ β) (.slice ca ra.conds.length cca) ra.conds) (hrb : RdConds wj (fun b => b ≠ β) (.slice cb rb.conds.length ccb) rb.conds) (hcl : ra.conds.length ≤ 10) (hcm : rb.conds.length ≤ 10) (hrl : rs.length ≤ 20000) :
    Calls Tryz.prog 56 #[.agg #[.slice ca ra.conds.length cca, .int .i64 ra.verdict], .agg #[.slice cb rb.conds.length ccb, .int .i64 rb.verdict], .pointer (some ⟨β, 0, none⟩), .pointer (some ⟨φ, 0, none⟩)] wj fun e w' => e = .returned (.tuple #[]) ∧ ∃ pv', GatherI B β (.int .i64 0) wB pv0 w' pv' (rs ++ [pairRule (bothOf ex) ra rb]) := by
  have HJ := Lib.hid hG
  obtain ⟨i0, hi, hz0, hz1, hz2⟩ := info_parts infocRule
  have Hi := Lib.hid hi
  obtain ⟨w0, hw0⟩ : ∃ w0, (wj.alloc (.cells #[.slice ca ra.conds.length cca, .int .i64 ra.verdict] 58)).alloc (.cells #[.slice cb rb.conds.length ccb, .int .i64 rb.verdict] 58) = w0 := ⟨_, rfl⟩
  have HbJ : Hid (Below wj.heap.size wj w0) := by show Below _ _ _; rw [← hw0]; exact bel_alloc (bel_alloc (Below.refl _ _) _) _
  have hsz0 : w0.heap.size = wj.heap.size + 1 + 1 := by rw [← hw0]; simp
  have H13 : Hid (w0.heap[wj.heap.size]? = some (.cells #[.slice ca ra.conds.length cca, .int .i64 ra.verdict] 58)) := by show _ = _; rw [← hw0]; exact blk_old (heap_last _ _)
  have H15 : Hid (w0.heap[wj.heap.size + 1]? = some (.cells #[.slice cb rb.conds.length ccb, .int .i64 rb.verdict] 58)) := by show _ = _; rw [← hw0]; exact blk_at (by simp)
  have Hra0 : Hid (RdConds w0 (fun b => b ≠ β) (.slice ca ra.conds.length cca) ra.conds) := hra.below HbJ.out
  have Hrb0 : Hid (RdConds w0 (fun b => b ≠ β) (.slice cb rb.conds.length ccb) rb.conds) := hrb.below HbJ.out
  have Hbox0 : Hid (w0.heap[β]? = some (.cells #[pv, .int .i64 0] 24)) := blk_below hG.box HbJ.out
  have Hφ0 : Hid (w0.heap[φ]? = some (.cells #[ofFn ε] 59)) := blk_below hφ HbJ.out
  have Hε0 : Hid (w0.heap[ε]? = some (.cells #[.bool ex] 4)) := blk_below hε HbJ.out
  obtain ⟨rows, hro, hrow⟩ := hG.own
  have Hcv : Hid (∀ g, pv.ownBlock = some g → g ≠ β) := fun g hg => by have := (hrow.lt g hg).1; omega
  have Hro := Lib.hid hro
  have Hrow : Hid (w0.ownsRow B 58 2 pv rs.length rows.flatten) := ownsRow_keep1 hrow fun b _ hl _ => HbJ.out.block b hl
  have Hβ0 : Hid (β < w0.heap.size) := by show _ < _; omega
  have H13lt : Hid (wj.heap.size < w0.heap.size) := by show _ < _; omega
  have H13ne : Hid (wj.heap.size ≠ β) := by show _ ≠ _; omega
  have H15lt : Hid (wj.heap.size + 1 < w0.heap.size) := by show _ < _; omega
  have H15ne : Hid (wj.heap.size + 1 ≠ β) := by show _ ≠ _; omega
  have Hφlt : Hid (φ < w0.heap.size) := (Array.getElem?_eq_some_iff.1 Hφ0.out).1
  have Hφne : Hid (φ ≠ β) := hφβ
  have Hεlt : Hid (ε < w0.heap.size) := (Array.getElem?_eq_some_iff.1 Hε0.out).1
  have Hεne : Hid (ε ≠ β) := hεβ
  have HwA : Hid (B ≤ w0.heap.size) := by show _ ≤ _; omega
  obtain ⟨vd, hvd⟩ : ∃ vd, bothOf ex ra.verdict rb.verdict = vd := ⟨_, rfl⟩
  have Hvd := Lib.hid hvd
  have HP : Hid (pairRule (bothOf ex) ra rb = ⟨ra.conds ++ rb.conds, vd⟩) := by show _ = _; rw [← hvd]; rfl
  clear hG hi hro hrow hε hφ hra hrb hvd hφβ hεβ
  go_enter Tryz.func56, Tryz.ntmps56
  go_wp2_with fail
  try rw [hw0]
  clear hw0 hsz0
  refine wp_region_apr β 24 #[pv, .int .i64 0] 0 B 58 2 pv rs.length rows.flatten 1 (fun vf => [vf 7, .int .i64 vd]) 16 18 (pairG w0 (.slice ca ra.conds.length cca) (.slice cb rb.conds.length ccb) (ra.conds ++ rb.conds) vd) (by kernel_rfl) (by kernel_rfl) _ rfl Hbox0.out Hrow.out (by omega) Hcv.out (by decide) (by decide) (fun k vf w1 w2 hb _ h => pairG_keep hb h)
    (fun k f g w1 hfg hk h => by
      unfold pairG at h ⊢
      split
      · rename_i e; subst e; rw [if_pos rfl, hk] at h; exact h
      · rename_i e
        rw [if_neg e] at h
        split
        · rename_i e2; subst e2; rw [if_pos rfl, hk] at h; exact h
        · rename_i e2
          rw [if_neg e2] at h
          split
          · rename_i e3; subst e3; rw [if_pos rfl, hfg 7 (by decide)] at h; exact h
          · rename_i e3
            rw [if_neg e3] at h
            split
            · rename_i e4; subst e4; rw [if_pos rfl, hk, hfg 7 (by decide)] at h; exact h
            · trivial) (fun f g h => by show [f 7, _] = [g 7, _]; rw [h 7 (by decide)]) ?_
  (refine rel_ex (fun K hK => ?_); apply Exists.intro; refine ⟨fun done vf W hI h0 hd hn hf R hR => ?_, ?_, ?_⟩; (clear h0 hd hn hf; go_simp; exact hR _ _ (hI.step (Below.refl _ _) (by decide) (by decide) Hβ0.out) (ApT.of_below (Below.refl _ _)) rfl trivial); exact (fun _ _ _ => rfl); (go_simp; refine hK _ ?_; clear hK K))
  (refine rel_ex (fun K hK => ?_); apply Exists.intro; refine ⟨fun done vf W hI h0 hd hn hf R hR => ?_, ?_, ?_⟩; (have hcell := cells_of (hI.before (hn 18 (by decide))); clear h0 hd hn hf; go_simp; exact hR _ _ (hI.step (Below.refl _ _) (by decide) (by decide) Hβ0.out) (ApT.of_below (Below.refl _ _)) rfl trivial); exact (fun _ _ _ => rfl); (go_simp; refine hK _ ?_; clear hK K))
  (refine rel_ex (fun K hK => ?_); apply Exists.intro; refine ⟨fun done vf W hI h0 hd hn hf R hR => ?_, ?_, ?_⟩; (clear h0 hd hn hf; go_simp; exact hR _ _ (hI.step (Below.refl _ _) (by decide) (by decide) Hβ0.out) (ApT.of_below (Below.refl _ _)) rfl trivial); exact (fun _ _ _ => rfl); (go_simp; refine hK _ ?_; clear hK K))
  (refine rel_ex (fun K hK => ?_); apply Exists.intro; refine ⟨fun done vf W hI h0 hd hn hf R hR => ?_, ?_, ?_⟩; (have hcell := cells_of ((hI.old (hn 16 (by decide)) _ H13lt.out H13ne.out).trans H13.out); clear h0 hd hn hf; go_simp; exact hR _ _ (hI.step (Below.refl _ _) (by decide) (by decide) Hβ0.out) (ApT.of_below (Below.refl _ _)) rfl trivial); exact (fun _ _ _ => rfl); (go_simp; refine hK _ ?_; clear hK K))
  (refine rel_ex (fun K hK => ?_); apply Exists.intro; refine ⟨fun done vf W hI h0 hd hn hf R hR => ?_, ?_, ?_⟩; (clear h0 hd hn hf; go_simp; exact hR _ _ (hI.step (Below.refl _ _) (by decide) (by decide) Hβ0.out) (ApT.of_below (Below.refl _ _)) rfl trivial); exact (fun _ _ _ => rfl); (go_simp; refine hK _ ?_; clear hK K))
  (refine rel_ex (fun K hK => ?_); apply Exists.intro; refine ⟨fun done vf W hI h0 hd hn hf R hR => ?_, ?_, ?_⟩; (have hcell := cells_of ((hI.old (hn 16 (by decide)) _ H15lt.out H15ne.out).trans H15.out); clear h0 hd hn hf; go_simp; exact hR _ _ (hI.step (Below.refl _ _) (by decide) (by decide) Hβ0.out) (ApT.of_below (Below.refl _ _)) rfl trivial); exact (fun _ _ _ => rfl); (go_simp; refine hK _ ?_; clear hK K))
  (refine rel_pr (fun K hK => ?_); refine ⟨fun done vf W hI h0 hd hn hf R hR => ?_, ?_⟩; (clear h0 hd hn hf; go_simp; exact hR _ _ (hI.step (bel_alloc (Below.refl _ _) _) (by decide) (by decide) Hβ0.out) (ApT.of_below (bel_alloc (Below.refl _ _) _)) trivial ⟨_, rfl, hI.size, heap_last _ _⟩); (go_simp; refine hK _ ?_; clear hK K))
  (refine rel_pr (fun K hK => ?_); refine ⟨fun done vf W hI h0 hd hn hf R hR => ?_, ?_⟩; (have h6 : NewRow w0.heap.size 56 2 #[.slice ca ra.conds.length cca, .slice cb rb.conds.length ccb] (vf 6) W := hf 6 (hd 6 (by decide)); obtain ⟨b6, h6, hb6, hc6⟩ := h6; have Hc6 := Lib.hid hc6; have HW := Lib.hid (hI.old (hn 16 (by decide))); have Hsz := Lib.hid hI.size; clear h0 hd hn hf hc6; go_simp; go_at_call 57; refine (concatCond_any (.slice (some ⟨b6, 0, none⟩) 2 2) [ra.conds, rb.conds] (fun _ => True) W (two_conds Hc6.out (Hra0.out.keep (fun _ _ _ => trivial) (fun b hb hl => HW.out b hl hb) Hsz.out) (Hrb0.out.keep (fun _ _ _ => trivial) (fun b hb hl => HW.out b hl hb) Hsz.out)) (by rw [lenTo_two]; omega)).mono ?_; (rintro e w5 ⟨v5, rfl, ho5, hb5⟩; exact ⟨_, rfl, hR _ _ (hI.step hb5 (by decide) (by decide) Hβ0.out) (ApT.of_below hb5) trivial (show OwnSl w5 w0.heap.size 84 3 condR v5 (ra.conds ++ rb.conds) by have := ho5.base Hsz.out; simpa using this)⟩)); (go_simp; refine hK _ ?_; clear hK K))
  (refine rel_ex (fun K hK => ?_); apply Exists.intro; refine ⟨fun done vf W hI h0 hd hn hf R hR => ?_, ?_, ?_⟩; (have hcell := cells_of ((hI.old (hn 16 (by decide)) _ Hφlt.out Hφne.out).trans Hφ0.out); clear h0 hd hn hf; go_simp; exact hR _ _ (hI.step (Below.refl _ _) (by decide) (by decide) Hβ0.out) (ApT.of_below (Below.refl _ _)) rfl trivial); exact (fun _ _ _ => rfl); (go_simp; refine hK _ ?_; clear hK K))
  (refine rel_ex (fun K hK => ?_); apply Exists.intro; refine ⟨fun done vf W hI h0 hd hn hf R hR => ?_, ?_, ?_⟩; (clear h0 hd hn hf; go_simp; exact hR _ _ (hI.step (Below.refl _ _) (by decide) (by decide) Hβ0.out) (ApT.of_below (Below.refl _ _)) rfl trivial); exact (fun _ _ _ => rfl); (go_simp; refine hK _ ?_; clear hK K))
  (refine rel_ex (fun K hK => ?_); apply Exists.intro; refine ⟨fun done vf W hI h0 hd hn hf R hR => ?_, ?_, ?_⟩; (have hcell := cells_of ((hI.old (hn 16 (by decide)) _ H13lt.out H13ne.out).trans H13.out); clear h0 hd hn hf; go_simp; exact hR _ _ (hI.step (Below.refl _ _) (by decide) (by decide) Hβ0.out) (ApT.of_below (Below.refl _ _)) rfl trivial); exact (fun _ _ _ => rfl); (go_simp; refine hK _ ?_; clear hK K))
  (refine rel_ex (fun K hK => ?_); apply Exists.intro; refine ⟨fun done vf W hI h0 hd hn hf R hR => ?_, ?_, ?_⟩; (clear h0 hd hn hf; go_simp; exact hR _ _ (hI.step (Below.refl _ _) (by decide) (by decide) Hβ0.out) (ApT.of_below (Below.refl _ _)) rfl trivial); exact (fun _ _ _ => rfl); (go_simp; refine hK _ ?_; clear hK K))
  (refine rel_ex (fun K hK => ?_); apply Exists.intro; refine ⟨fun done vf W hI h0 hd hn hf R hR => ?_, ?_, ?_⟩; (have hcell := cells_of ((hI.old (hn 16 (by decide)) _ H15lt.out H15ne.out).trans H15.out); clear h0 hd hn hf; go_simp; exact hR _ _ (hI.step (Below.refl _ _) (by decide) (by decide) Hβ0.out) (ApT.of_below (Below.refl _ _)) rfl trivial); exact (fun _ _ _ => rfl); (go_simp; refine hK _ ?_; clear hK K))
  (refine rel_ex (fun K hK => ?_); apply Exists.intro; refine ⟨fun done vf W hI h0 hd hn hf R hR => ?_, ?_, ?_⟩; (have hcell := (hI.old (hn 16 (by decide)) _ Hεlt.out Hεne.out).trans Hε0.out; clear h0 hd hn hf; go_simp; go_at_call 55; refine (rof_any ex ra.verdict rb.verdict ε _ (cells_of hcell 0)).mono ?_; rintro e w5 ⟨rfl, rfl⟩; exact ⟨_, rfl, hR _ _ (hI.step (Below.refl _ _) (by decide) (by decide) Hβ0.out) (ApT.of_below (Below.refl _ _)) rfl trivial⟩); exact (fun _ _ _ => rfl); (go_simp; refine hK _ ?_; clear hK K))
  (refine rel_ex (fun K hK => ?_); refine ⟨fun vf => .agg #[vf 7, .int .i64 vd], fun done vf W hI h0 hd hn hf R hR => ?_, ?_, ?_⟩; (have h7 : OwnSl W w0.heap.size 84 3 condR (vf 7) (ra.conds ++ rb.conds) := hf 7 (hd 7 (by decide)); have h7k := h7; obtain ⟨a7, c7, h7⟩ := h7.slice; generalize (ra.conds ++ rb.conds).length = n7 at h7; clear h0 hd hn hf; go_simp; exact hR _ _ (hI.step (Below.refl _ _) (by decide) (by decide) Hβ0.out) (ApT.of_below (Below.refl _ _)) (by show _ = Value.agg #[vf 7, .int .i64 vd]; rw [h7, ← Hvd.out]) h7k); exact (fun f g h => by show Value.agg #[f 7, _] = Value.agg #[g 7, _]; rw [h 7 (by decide)]); (go_simp; refine hK _ ?_; clear hK K))
  (refine rel_pr (fun K hK => ?_); refine ⟨fun done vf W hI h0 hd hn hf R hR => ?_, ?_⟩; (have h7 : OwnSl W w0.heap.size 84 3 condR (vf 7) (ra.conds ++ rb.conds) := hf 14 (hd 14 (by decide)); have H7k := Lib.hid h7; obtain ⟨a7, c7, h7⟩ := h7.slice; generalize (ra.conds ++ rb.conds).length = n7 at h7; have H7 := Lib.hid h7; clear h0 hd hn hf; go_simp; exact hR _ _ (hI.step (bel_alloc (Below.refl _ _) _) (by decide) (by decide) Hβ0.out) (ApT.of_below (bel_alloc (Below.refl _ _) _)) trivial ⟨⟨_, rfl, hI.size, by rw [heap_last]; show some (Obj.cells #[.slice a7 n7 c7, .int .i64 vd] _) = some (Obj.cells #[vf 7, .int .i64 vd] _); rw [H7.out]⟩, H7k.out.below (bel_alloc (Below.refl _ _) _)⟩); (go_simp; refine hK _ ?_; clear hK K))
  (refine rel_pr (fun K hK => ?_); refine ⟨fun done vf W hI h0 hd hn hf R hR => ?_, ?_⟩; (have h15 : NewRow w0.heap.size 58 1 #[vf 7, .int .i64 vd] (vf 15) W ∧ OwnSl W w0.heap.size 84 3 condR (vf 7) (ra.conds ++ rb.conds) := hf 15 (hd 15 (by decide)); obtain ⟨⟨bn, hbv, hbn, hcn⟩, h7⟩ := h15; obtain ⟨a7, c7, h7⟩ := h7.slice; refine ob_plain rfl ?_; refine gives_append_at (.tmp 7) (.tmp 21) 22 rfl B 58 i0 _ 2 32 Tryz.underlying22 Hi.out hz0 hz1 hz2 rfl (by omega) pv rs.length rows.flatten (by rfl) (hI.own h0) ⟨bn, 0, none⟩ 1 1 [vf 7, .int .i64 vd] (by exact hbv) (by rfl) (World.news_of_block hcn) (by rw [h7]; simp [Value.oneCell']) (by omega) (by unfold maxLen; omega) (by omega) (by have := hI.size; have := HwA.out; omega) (fun v' w' h1 h2 h3 => hR _ _ (hI.appended (hn 18 (by decide)) Hcv.out h2 Hβ0.out) (ApT.of_grown h2) trivial ⟨by exact h1, by rcases h3 with h3 | h3; exact .inl h3; exact .inr (fun g hg => by have h9 : v'.ownBlock = some g := hg; rw [h3] at h9; injection h9 with h9; have := hI.size; omega)⟩)); (go_simp; refine hK _ ?_; clear hK K))
  (refine rel_ex (fun K hK => ?_); apply Exists.intro; refine ⟨fun done vf W hI h0 hd hn hf R hR => ?_, ?_, ?_⟩; (clear h0 hd hn hf; go_simp; exact hR _ _ (hI.step (Below.refl _ _) (by decide) (by decide) Hβ0.out) (ApT.of_below (Below.refl _ _)) rfl trivial); exact (fun _ _ _ => rfl); (go_simp; refine hK _ ?_; clear hK K))
  (refine rel_ex (fun K hK => ?_); apply Exists.intro; refine ⟨fun done vf W hI h0 hd hn hf R hR => ?_, ?_, ?_⟩; (have h16 : W.ownsRow B 58 2 (vf 16) (rs.length + 1) (rows.flatten ++ [vf 7, .int .i64 vd]) ∧ _ := hf 16 (hd 16 (by decide)); obtain ⟨gv, cpv, hv16, _, _⟩ := World.ownsRow.form h16.1 (by omega); have hst := hI.stored (off := 0) (v := vf 16) (hd 16 (by decide)) (by decide); have hbf := hI.before h0; have hcb := cells_of hbf; have hfb := not_frozen hbf; have Hst := Lib.hid hst; have Hset := Lib.hid (set_at (o := 0) (v := vf 16) hbf); have H16 := Lib.hid hv16; clear hd hn hf h16 hst hbf; go_simp; rw [← H16.out]; exact hR _ _ Hst.out ApT.of_store rfl Hset.out); exact (fun _ _ _ => rfl); (go_simp; refine hK _ ?_; clear hK K))
  intro done vf W hd hI hF
  have h7 : OwnSl W w0.heap.size 84 3 condR (vf 7) (ra.conds ++ rb.conds) := hF 7 (by decide)
  have h16 : W.ownsRow B 58 2 (vf 16) (rs.length + 1) (rows.flatten ++ [vf 7, .int .i64 vd]) ∧ ((vf 16).ownBlock = pv.ownBlock ∨ ∀ g, (vf 16).ownBlock = some g → w0.heap.size ≤ g) := hF 16 (by decide)
  have h18 : W.heap[β]? = some (.cells (#[pv, .int .i64 0].setIfInBounds 0 (vf 16)) 24) := hF 18 (by decide)
  have HN := Lib.hid (GatherI.step HJ.out HbJ.out hβ HwA.out hI Hro.out h16.1 h16.2 h18 h7 ruleT_ne)

  clear hd hI hF h7 h16 h18
  go_wp2
  exact bodyPost_end (results_none rfl _ _ _) rfl ⟨rfl, _, by rw [HP.out]; exact HN.out⟩
end Go.Proofs.YtioeliocdbckbaaGreatDoor
namespace Go.Proofs.YtioeliocdbckbaaGreatDoor
open Go.RowKit
attribute [local go_sem] gives givesUpon

theorem bothRow_take {of : Int → Int → Int} {q : TPol} {l : List TRule} {k : Nat} (h : k < l.length) : (l.take (k + 1)).flatMap (bothRow of q) = ((l.take k).flatMap (bothRow of q) ++ q.rules.map (pairRule of l[k])) ++ [pairRule of l[k] ⟨[], q.dflt⟩] := by
  rw [List.take_succ_eq_append_getElem h, List.flatMap_append]
  simp [bothRow, pairRule]
theorem both_len (of : Int → Int → Int) (q : TPol) : ∀ l : List TRule, (l.flatMap (bothRow of q)).length = l.length * (q.rules.length + 1)
  | [] => by simp
  | r :: l => by
    rw [List.flatMap_cons, List.length_append, both_len of q l, List.length_cons, Nat.add_mul]
    simp [bothRow]; omega
theorem both_size {of : Int → Int → Int} {p q : TPol} (hp : OkPol p) (hq : OkPol q) (k : Nat) : ((p.rules.take k).flatMap (bothRow of q)).length ≤ 14520 := by
  rw [both_len, List.length_take]
  have h1 := hp.len
  have h2 := hq.len
  have h3 : min k p.rules.length * (q.rules.length + 1) ≤ 120 * 121 := Nat.mul_le_mul (by omega) (by omega)
  omega
theorem map_take_succ {α β : Type} (f : α → β) {l : List α} {j : Nat} (h : j < l.length) : (l.take (j + 1)).map f = (l.take j).map f ++ [f l[j]] := by
  rw [List.take_succ_eq_append_getElem h, List.map_append]; rfl
theorem nil_conds' (w : World) (D : Nat → Prop) : RdConds w D (.slice none 0 0) [] := ⟨none, 0, rfl, Nat.le_refl _, by unfold maxLen; simp, fun _ => rfl, fun h => by cases h⟩

set_option maxRecDepth 100000 in
set_option maxHeartbeats 16000000 in
theorem rboth_any (ex : Bool) (u v : Value) (p q : TPol) (w : World) (hp : RdRules w (fun _ => True) u p.rules) (hq : RdRules w (fun _ => True) v q.rules) :
    Calls Tryz.prog 27 #[polV u p.dflt, polV v q.dflt, .bool ex] w fun e w' => ∃ r, e = .returned (.tuple #[polV r (pairE (bothOf ex) p q).1.dflt, .int .i64 (pairE (bothOf ex) p q).2]) ∧ RdRules w' (fun b => w.heap.size ≤ b) r (pairE (bothOf ex) p q).1.rules ∧ Below w.heap.size w w' := by
  have Hp := Lib.hid hp
  have Hq := Lib.hid hq
  obtain ⟨ap, cp, rfl, _⟩ := Sl.form hp
  obtain ⟨aq, cq, rfl, _⟩ := Sl.form hq
  clear hp hq
  go_enter Tryz.func27, Tryz.ntmps27
  go_wp2_with fail
  refine (rall_any _ [p, q] (fun _ => True) _ (two_pols (blk_at (by simp)) (Hp.out.below (bel_alloc (bel_alloc (bel_alloc (bel_alloc (bel_alloc (Below.refl _ _) _) _) _) _) _)) (Hq.out.below (bel_alloc (bel_alloc (bel_alloc (bel_alloc (bel_alloc (Below.refl _ _) _) _) _) _) _)) trivial)).mono ?_
  rintro e w1 ⟨rfl, hb1⟩
  have HB1 := Lib.hid ((Bx.three.push (by simp) (.cells #[.slice none 0 0, .int .i64 0] 24)).below ((bel_alloc (Below.refl _ _) _).trans (hb1.mono (by simp))))
  clear hb1
  by_cases h0 : polsE [p, q] = 0
  · have hpe : polE p = 0 := by rw [polsE_two] at h0; split at h0 <;> simp_all
    have hqe : polE q = 0 := by rw [polsE_two, if_pos hpe] at h0; exact h0
    have Hpe := Lib.hid hpe
    have Hqe := Lib.hid hqe
    have Hokp := Lib.hid ((okPol_iff p).1 hpe)
    have Hokq := Lib.hid ((okPol_iff q).1 hqe)
    have hlp := Hokp.out.len
    have hlq := Hokq.out.len
    rw [h0]
    clear h0 hpe hqe
    have htop : w.heap.size + 4 ≤ w1.heap.size := HB1.out.top
    obtain ⟨wB, hwB⟩ : ∃ wB, (w1.alloc (.cells #[ofFn (w.heap.size + 1 + 1)] 59)).alloc (.cells #[.slice none 0 0, .int .i64 0] 24) = wB := ⟨_, rfl⟩
    have HBB : Hid (Bx w [.cells #[.slice ap p.rules.length cp, .int .i64 p.dflt] 24, .cells #[.slice aq q.rules.length cq, .int .i64 q.dflt] 24, .cells #[.bool ex] 4, .cells #[.slice none 0 0, .int .i64 0] 24] wB) := by show Bx _ _ _; rw [← hwB]; exact (HB1.out.alloc _).alloc _
    have Hbox : Hid (wB.heap[w1.heap.size + 1]? = some (.cells #[.slice none 0 0, .int .i64 0] 24)) := by show _ = _; rw [← hwB]; exact blk_at (by simp)
    have Hφ : Hid (wB.heap[w1.heap.size]? = some (.cells #[ofFn (w.heap.size + 1 + 1)] 59)) := by show _ = _; rw [← hwB]; exact blk_old (heap_last _ _)
    have hszB : wB.heap.size = w1.heap.size + 2 := by rw [← hwB]; simp
    have HPB : Hid (RdRules wB (fun b => b < w.heap.size) (.slice ap p.rules.length cp) p.rules) := (rules_lt Hp.out).below HBB.out.bel
    have HQB : Hid (RdRules wB (fun b => b < w.heap.size) (.slice aq q.rules.length cq) q.rules) := (rules_lt Hq.out).below HBB.out.bel
    have hc0 := HBB.out.cells0
    go_wp2_with fail
    try rw [hwB]
    clear hc0 hwB
    go_loopw [32] (fun kv wr => ∃ (k : Nat) (pk : Value), kv = .int .i64 k ∧ k ≤ p.rules.length ∧ GatherI wB.heap.size (w1.heap.size + 1) (.int .i64 0) wB (.slice none 0 0) wr pk ((p.rules.take k).flatMap (bothRow (bothOf ex) q))) (fun kv _ => p.rules.length - (intOf kv).toNat)
    case atStart => exact ⟨0, _, rfl, by omega, GatherI.start Hbox.out OwnSl.nil⟩
    case round =>
      obtain ⟨k, pk, rfl, hk, hG⟩ := hrel
      obtain ⟨wk, rfl⟩ : ∃ wk : World, wk = wr := ⟨_, rfl⟩
      have HG := Lib.hid hG
      clear hG
      have hszk := HG.out.size
      have HPk : Hid (RdRules wk (fun b => b < w.heap.size) (.slice ap p.rules.length cp) p.rules) := HPB.out.keep (fun _ h _ => h) (fun b hb hl => HG.out.blk b hl (by have h1 : b < w.heap.size := hb; omega) (by simp [Value.ownBlock])) HG.out.size
      have HQk : Hid (RdRules wk (fun b => b < w.heap.size) (.slice aq q.rules.length cq) q.rules) := HQB.out.keep (fun _ h _ => h) (fun b hb hl => HG.out.blk b hl (by have h1 : b < w.heap.size := hb; omega) (by simp [Value.ownBlock])) HG.out.size
      have HBk : Hid (Bx w [.cells #[.slice ap p.rules.length cp, .int .i64 p.dflt] 24, .cells #[.slice aq q.rules.length cq, .int .i64 q.dflt] 24, .cells #[.bool ex] 4, .cells #[.slice none 0 0, .int .i64 0] 24] wk) := HBB.out.lift (B := w.heap.size + 4) (HG.out.belowB (Below.refl _ _) (by omega) (by omega) (fun g hg => by simp [Value.ownBlock] at hg)) (by simp)
      have Hφk : Hid (wk.heap[w1.heap.size]? = some (.cells #[ofFn (w.heap.size + 1 + 1)] 59)) := (HG.out.blk _ (by omega) (by omega) (by simp [Value.ownBlock])).trans Hφ.out
      have Hpk : Hid (∀ g, pk.ownBlock = some g → g < wk.heap.size ∧ wB.heap.size ≤ g) := fun g hg => by
        obtain ⟨rows, _, ho⟩ := HG.out.own
        exact ⟨(ho.lt g hg).2, (ho.lt g hg).1⟩
      by_cases hlt : k < p.rules.length
      · obtain ⟨ba, oa, rfl, _, _⟩ := Sl.at_ HPk.out (by omega)
        obtain ⟨ca, cca, hca0, hca1, hra, _, _, _⟩ := RdRules.cells HPk.out hlt
        have hcl := (Hokp.out.rules _ (List.getElem_mem hlt)).len
        have Htk := Lib.hid (bothRow_take (of := bothOf ex) (q := q) hlt)
        have Hbs := Lib.hid (both_size (of := bothOf ex) Hokp.out Hokq.out k)
        obtain ⟨ra, hrae⟩ : ∃ ra, p.rules[k] = ra := ⟨_, rfl⟩
        rw [hrae] at hca0 hca1 hra hcl Htk
        obtain ⟨rs, hrs⟩ : ∃ rs, (p.rules.take k).flatMap (bothRow (bothOf ex) q) = rs := ⟨_, rfl⟩
        rw [hrs] at HG Htk Hbs
        obtain ⟨wC, hwC⟩ : ∃ wC, wk.alloc (.cells #[.slice ca ra.conds.length cca, .int .i64 ra.verdict] 58) = wC := ⟨_, rfl⟩
        have HbC : Hid (Below wk.heap.size wk wC) := by show Below _ _ _; rw [← hwC]; exact bel_alloc (Below.refl _ _) _
        have hszC : wC.heap.size = wk.heap.size + 1 := by rw [← hwC]; simp
        have H13 : Hid (wC.heap[wk.heap.size]? = some (.cells #[.slice ca ra.conds.length cca, .int .i64 ra.verdict] 58)) := by show _ = _; rw [← hwC]; exact heap_last _ _
        have HGC := Lib.hid (HG.out.below HbC.out)
        have HraC : Hid (RdConds wC (fun b => b < w.heap.size) (.slice ca ra.conds.length cca) ra.conds) := hra.below HbC.out
        have HQC := Lib.hid (RdRules.below HQk.out HbC.out)
        have HBC := Lib.hid (HBk.out.below HbC.out)
        have HφC := Lib.hid (blk_below Hφk.out HbC.out)
        have hc1 := HBC.out.cells1
        clear hra hrae hrs
        go_wp2_with fail
        try rw [hwC]
        clear hc1 hca0 hca1 hwC
        go_loopw [39] (fun jv wj => ∃ (j : Nat) (pj : Value), jv = .int .i64 j ∧ j ≤ q.rules.length ∧ GatherI wB.heap.size (w1.heap.size + 1) (.int .i64 0) wC pk wj pj (rs ++ (q.rules.take j).map (pairRule (bothOf ex) ra))) (fun jv _ => q.rules.length - (intOf jv).toNat)
        case atStart => exact ⟨0, _, rfl, by omega, by simpa using GatherI.start HGC.out.box HGC.out.own⟩
        case round =>
          obtain ⟨j, pj, rfl, hj, hJ⟩ := hrel
          obtain ⟨wj, rfl⟩ : ∃ wj : World, wj = wr := ⟨_, rfl⟩
          have HJ := Lib.hid hJ
          clear hJ
          have hszj := HJ.out.size
          have H13j : Hid (wj.heap[wk.heap.size]? = some (.cells #[.slice ca ra.conds.length cca, .int .i64 ra.verdict] 58)) := (HJ.out.blk _ (by omega) (by omega) (fun e => by have := (Hpk.out _ e.symm).1; omega)).trans H13.out
          have HBj := Lib.hid (HBC.out.lift (B := w.heap.size + 4) (HJ.out.belowB (Below.refl _ _) (by omega) (by omega) (fun g hg => by have := (Hpk.out _ hg).2; omega)) (by simp))
          have Hφj : Hid (wj.heap[w1.heap.size]? = some (.cells #[ofFn (w.heap.size + 1 + 1)] 59)) := (HJ.out.blk _ (by omega) (by omega) (fun e => by have := (Hpk.out _ e.symm).2; omega)).trans HφC.out
          have HQj : Hid (RdRules wj (fun b => b < w.heap.size) (.slice aq q.rules.length cq) q.rules) := HQC.out.keep (fun _ h _ => h) (fun b hb hl => HJ.out.blk b hl (by have h1 : b < w.heap.size := hb; omega) (fun e => by have h1 : b < w.heap.size := hb; have := (Hpk.out _ e.symm).2; omega)) HJ.out.size
          have Hraj : Hid (RdConds wj (fun b => b < w.heap.size) (.slice ca ra.conds.length cca) ra.conds) := HraC.out.keep (fun _ h _ => h) (fun b hb hl => HJ.out.blk b hl (by have h1 : b < w.heap.size := hb; omega) (fun e => by have h1 : b < w.heap.size := hb; have := (Hpk.out _ e.symm).2; omega)) HJ.out.size
          by_cases hjt : j < q.rules.length
          · obtain ⟨bb, ob, rfl, _, _⟩ := Sl.at_ HQj.out (by omega)
            obtain ⟨cb, ccb, hcb0, hcb1, hrb, _, _, _⟩ := RdRules.cells HQj.out hjt
            have hcm := (Hokq.out.rules _ (List.getElem_mem hjt)).len
            have Htj := Lib.hid (map_take_succ (pairRule (bothOf ex) ra) hjt)
            obtain ⟨rb, hrbe⟩ : ∃ rb, q.rules[j] = rb := ⟨_, rfl⟩
            rw [hrbe] at hcb0 hcb1 hrb hcm Htj
            have HbS : Hid (Below wj.heap.size wj (wj.alloc (.cells #[.slice cb rb.conds.length ccb, .int .i64 rb.verdict] 58))) := bel_alloc (Below.refl _ _) _
            have hc13 : ∀ i, (wj.alloc (.cells #[.slice cb rb.conds.length ccb, .int .i64 rb.verdict] 58)).cell? ⟨wk.heap.size, i, none⟩ = _ := cells_of (blk_below H13j.out HbS.out)
            have Hrb := Lib.hid hrb
            have hlen : (rs ++ (q.rules.take j).map (pairRule (bothOf ex) ra)).length ≤ 20000 := by
              rw [List.length_append, List.length_map, List.length_take]
              have := Hbs.out
              omega
            have Hlen := Lib.hid hlen
            clear hrb hrbe hlen
            go_wp2_with (go_at_call 56; refine (rrule_any ex ra rb ca cb cca ccb _ (HJ.out.below HbS.out) (by omega) (by simp; omega) (by simp; omega) (blk_below (HBj.out.at_ 2 _ rfl) HbS.out) (by omega) (blk_below Hφj.out HbS.out) (by omega) ((Hraj.out.below HbS.out).keep (fun b hb _ => by have h1 : b < w.heap.size := hb; show b ≠ _; omega) (fun _ _ _ => rfl) (Nat.le_refl _)) ((Hrb.out.below HbS.out).keep (fun b hb _ => by have h1 : b < w.heap.size := hb; show b ≠ _; omega) (fun _ _ _ => rfl) (Nat.le_refl _)) hcl hcm Hlen.out).mono ?_; rintro e w5 ⟨rfl, pv5, hG5⟩; have HG5 := Lib.hid hG5; clear hG5)
            go_roundw
            case rel => first | exact ⟨j + 1, pv5, by go_num, by omega, by rw [Htj.out, ← List.append_assoc]; exact HG5.out⟩ | ((repeat apply Exists.intro); exact ⟨⟨j + 1, pv5, by go_num, by omega, by rw [Htj.out, ← List.append_assoc]; exact HG5.out⟩, rfl⟩)
            case measure => simp [intOf]; omega
          · obtain rfl : j = q.rules.length := by omega
            have hc13 := cells_of H13j.out
            have hc1 := HBj.out.cells1
            have hlen : (rs ++ (q.rules.take q.rules.length).map (pairRule (bothOf ex) ra)).length ≤ 20000 := by
              rw [List.length_append, List.length_map, List.length_take]
              have := Hbs.out
              omega
            have Hlen := Lib.hid hlen
            clear hlen
            go_wp2_with (go_at_call 56; refine (rrule_any ex ra ⟨[], q.dflt⟩ ca none cca 0 _ HJ.out (by omega) (by omega) (by omega) (HBj.out.at_ 2 _ rfl) (by omega) Hφj.out (by omega) (Hraj.out.keep (fun b hb _ => by have h1 : b < w.heap.size := hb; show b ≠ _; omega) (fun _ _ _ => rfl) (Nat.le_refl _)) (nil_conds' _ _) hcl (by simp) Hlen.out).mono ?_; rintro e w5 ⟨rfl, pv5, hG5⟩; have HG5 := Lib.hid hG5; clear hG5)
            have HN := Lib.hid (HGC.out.trans HG5.out)
            go_roundw
            case rel => first | exact ⟨k + 1, pv5, by go_num, by omega, by rw [Htk.out]; have := HN.out; rw [List.take_length] at this; exact this⟩ | ((repeat apply Exists.intro); exact ⟨⟨k + 1, pv5, by go_num, by omega, by rw [Htk.out]; have := HN.out; rw [List.take_length] at this; exact this⟩, rfl⟩)
            case measure => simp [intOf]; omega
      · obtain rfl : k = p.rules.length := by omega
        obtain ⟨rs, hrs⟩ : ∃ rs, (p.rules.take p.rules.length).flatMap (bothRow (bothOf ex) q) = rs := ⟨_, rfl⟩
        have Hbs := Lib.hid (both_size (of := bothOf ex) Hokp.out Hokq.out p.rules.length)
        rw [hrs] at HG Hbs
        have Hrs : Hid (p.rules.flatMap (bothRow (bothOf ex) q) = rs) := by show _ = _; rw [← hrs, List.take_length]
        clear hrs
        have hc1 := HBk.out.cells1
        go_wp2_with fail
        clear hc1
        go_loopw [58] (fun jv wj => ∃ (j : Nat) (pj : Value), jv = .int .i64 j ∧ j ≤ q.rules.length ∧ GatherI wB.heap.size (w1.heap.size + 1) (.int .i64 0) wk pk wj pj (rs ++ (q.rules.take j).map (pairRule (bothOf ex) ⟨[], p.dflt⟩))) (fun jv _ => q.rules.length - (intOf jv).toNat)
        case atStart => exact ⟨0, _, rfl, by omega, by simpa using GatherI.start HG.out.box HG.out.own⟩
        case round =>
          obtain ⟨j, pj, rfl, hj, hJ⟩ := hrel
          obtain ⟨wj, rfl⟩ : ∃ wj : World, wj = wr := ⟨_, rfl⟩
          have HJ := Lib.hid hJ
          clear hJ
          have hszj := HJ.out.size
          have HBj := Lib.hid (HBk.out.lift (B := w.heap.size + 4) (HJ.out.belowB (Below.refl _ _) (by omega) (by omega) (fun g hg => by have := (Hpk.out _ hg).2; omega)) (by simp))
          have Hφj : Hid (wj.heap[w1.heap.size]? = some (.cells #[ofFn (w.heap.size + 1 + 1)] 59)) := (HJ.out.blk _ (by omega) (by omega) (fun e => by have := (Hpk.out _ e.symm).2; omega)).trans Hφk.out
          have HQj : Hid (RdRules wj (fun b => b < w.heap.size) (.slice aq q.rules.length cq) q.rules) := HQk.out.keep (fun _ h _ => h) (fun b hb hl => HJ.out.blk b hl (by have h1 : b < w.heap.size := hb; omega) (fun e => by have h1 : b < w.heap.size := hb; have := (Hpk.out _ e.symm).2; omega)) HJ.out.size
          by_cases hjt : j < q.rules.length
          · obtain ⟨bb, ob, rfl, _, _⟩ := Sl.at_ HQj.out (by omega)
            obtain ⟨cb, ccb, hcb0, hcb1, hrb, _, _, _⟩ := RdRules.cells HQj.out hjt
            have hcm := (Hokq.out.rules _ (List.getElem_mem hjt)).len
            have Htj := Lib.hid (map_take_succ (pairRule (bothOf ex) ⟨[], p.dflt⟩) hjt)
            obtain ⟨rb, hrbe⟩ : ∃ rb, q.rules[j] = rb := ⟨_, rfl⟩
            rw [hrbe] at hcb0 hcb1 hrb hcm Htj
            have HbS : Hid (Below wj.heap.size wj (wj.alloc (.cells #[.slice cb rb.conds.length ccb, .int .i64 rb.verdict] 58))) := bel_alloc (Below.refl _ _) _
            have hc0 : ∀ i, (wj.alloc (.cells #[.slice cb rb.conds.length ccb, .int .i64 rb.verdict] 58)).cell? ⟨w.heap.size, i, none⟩ = _ := (HBj.out.below HbS.out).cells0
            have Hrb := Lib.hid hrb
            have hlen : (rs ++ (q.rules.take j).map (pairRule (bothOf ex) ⟨[], p.dflt⟩)).length ≤ 20000 := by
              rw [List.length_append, List.length_map, List.length_take]
              have := Hbs.out
              omega
            have Hlen := Lib.hid hlen
            clear hrb hrbe hlen
            go_wp2_with (go_at_call 56; refine (rrule_any ex ⟨[], p.dflt⟩ rb none cb 0 ccb _ (HJ.out.below HbS.out) (by omega) (by simp; omega) (by simp; omega) (blk_below (HBj.out.at_ 2 _ rfl) HbS.out) (by omega) (blk_below Hφj.out HbS.out) (by omega) (nil_conds' _ _) ((Hrb.out.below HbS.out).keep (fun b hb _ => by have h1 : b < w.heap.size := hb; show b ≠ _; omega) (fun _ _ _ => rfl) (Nat.le_refl _)) (by simp) hcm Hlen.out).mono ?_; rintro e w5 ⟨rfl, pv5, hG5⟩; have HG5 := Lib.hid hG5; clear hG5)
            go_roundw
            case rel => first | exact ⟨j + 1, pv5, by go_num, by omega, by rw [Htj.out, ← List.append_assoc]; exact HG5.out⟩ | ((repeat apply Exists.intro); exact ⟨⟨j + 1, pv5, by go_num, by omega, by rw [Htj.out, ← List.append_assoc]; exact HG5.out⟩, rfl⟩)
            case measure => simp [intOf]; omega
          · obtain rfl : j = q.rules.length := by omega
            obtain ⟨P, hP⟩ : ∃ P, pairPol (bothOf ex) p q = P := ⟨_, rfl⟩
            obtain ⟨vD, hvD⟩ : ∃ vD, bothOf ex p.dflt q.dflt = vD := ⟨_, rfl⟩
            have hPb := both_pairs (bothOf ex) p q
            rw [hP, hvD] at hPb
            have hPd : P.dflt = vD := by rw [hPb]
            have HGf := Lib.hid (HG.out.trans HJ.out)
            have HL : Hid (RdRules wj (fun b => wB.heap.size ≤ b ∧ NotPol wj b) pj P.rules) := by
              have := HGf.out.rules
              rw [List.take_length, ← Hrs.out] at this
              rw [hPb]
              exact this
            have HPE : Hid (pairE (bothOf ex) p q = if polE P = 0 then (P, 0) else (zeroPol, polE P)) := by
              show pairE _ p q = _
              unfold pairE
              rw [polsE_two, if_pos Hpe.out, Hqe.out, if_neg (by simp), hP]
              by_cases h : polE P = 0
              · rw [if_neg (by simp [h]), if_pos h]
              · rw [if_pos h, if_neg h]
            have HvD := Lib.hid hvD
            have Hpd := Lib.hid hPd
            obtain ⟨aP, cP, rfl, _⟩ := Sl.form HL.out
            have hc0 := HBj.out.cells0
            have hc1 := HBj.out.cells1
            have hcφ := cells_of Hφj.out
            have hcβ := cells_of HGf.out.box
            have hfβ := not_frozen HGf.out.box
            have Hst : Hid ((wj.setCell ⟨w1.heap.size + 1, 1, none⟩ (.int .i64 vD)).heap[w1.heap.size + 1]? = some (.cells #[.slice aP P.rules.length cP, .int .i64 vD] 24)) := set_at HGf.out.box
            have hsβ := cells_of Hst.out
            have HR2 : Hid (RdRules (wj.setCell ⟨w1.heap.size + 1, 1, none⟩ (.int .i64 vD)) (fun b => wB.heap.size ≤ b) (.slice aP P.rules.length cP) P.rules) := HL.out.keep (fun b h _ => h.1) (fun b hb _ => set_other (by show b ≠ w1.heap.size + 1; have := hb.1; omega)) (by rw [set_size]; exact Nat.le_refl _)
            have HB2 := Lib.hid (HBj.out.lift (B := w.heap.size + 4) (set_below (a := ⟨w1.heap.size + 1, 1, none⟩) (v := .int .i64 vD) (Below.refl _ _) (by show w.heap.size + 4 ≤ w1.heap.size + 1; omega)) (by simp))
            clear hP hvD hPb hPd
            go_wp2_with (go_at_call 55; refine (rof_any ex p.dflt q.dflt (w.heap.size + 1 + 1) _ (HBj.out.cells2 0)).mono ?_; rw [HvD.out]; rintro e w5 ⟨rfl, rfl⟩)
            clear hc0 hc1 hcφ hcβ hfβ hsβ
            revert Hst HR2 HB2
            generalize (wj.setCell ⟨w1.heap.size + 1, 1, none⟩ (.int .i64 vD)) = wz
            intro Hst HR2 HB2
            have HC : Hid (Calls Tryz.prog 58 #[polV (.slice aP P.rules.length cP) vD] wz fun e w' => e = .returned (.int .i64 (polE P)) ∧ Below wz.heap.size wz w') := by
              have := rpolcheck_any (.slice aP P.rules.length cP) P _ wz HR2.out
              rw [Hpd.out] at this
              exact this
            refine HC.out.mono ?_
            rintro e w6 ⟨rfl, hb6⟩
            have HB6 := Lib.hid (HB2.out.below hb6)
            have Hst6 := Lib.hid (blk_below Hst.out hb6)
            have HR6 := Lib.hid (RdRules.below HR2.out hb6)
            clear hb6
            have hc3 : ∀ i, w6.cell? ⟨w.heap.size + 1 + 1 + 1, i, none⟩ = _ := cells_of (HB6.out.at_ 3 _ rfl)
            have hf3 : ∀ i, w6.frozen? ⟨w.heap.size + 1 + 1 + 1, i, none⟩ = false := not_frozen (HB6.out.at_ 3 _ rfl)
            by_cases h0 : polE P = 0
            · have HE : Hid (pairE (bothOf ex) p q = (P, 0)) := by show pairE _ p q = _; rw [HPE.out, if_pos h0]
              rw [h0]
              have hcb := cells_of Hst6.out
              have HB7 := Lib.hid (HB6.out.set (i := 3) rfl 0 (.slice aP P.rules.length cP))
              have HB8 := Lib.hid (HB7.out.set (i := 3) rfl 1 (.int .i64 vD))
              have hc8 : ∀ i, ((w6.setCell ⟨w.heap.size + 1 + 1 + 1, 0, none⟩ (.slice aP P.rules.length cP)).setCell ⟨w.heap.size + 1 + 1 + 1, 1, none⟩ (.int .i64 vD)).cell? ⟨w.heap.size + 1 + 1 + 1, i, none⟩ = _ := cells_of (HB8.out.at_ 3 _ rfl)
              have HR8 : Hid (RdRules ((w6.setCell ⟨w.heap.size + 3, 0, none⟩ (.slice aP P.rules.length cP)).setCell ⟨w.heap.size + 3, 1, none⟩ (.int .i64 vD)) (fun b => w.heap.size ≤ b) (.slice aP P.rules.length cP) P.rules) :=
                HR6.out.keep (fun b h _ => by have h1 : wB.heap.size ≤ b := h; show _ ≤ b; omega) (fun b hb _ => by have h1 : wB.heap.size ≤ b := hb; rw [set_other (by show b ≠ w.heap.size + 3; omega), set_other (by show b ≠ w.heap.size + 3; omega)]) (by rw [set_size, set_size]; exact Nat.le_refl _)
              clear h0
              go_wp2
              refine bodyPost_ret (v := .tuple #[polV (.slice aP P.rules.length cP) vD, .int .i64 0]) ?_ rfl (by rw [HE.out]; exact ⟨_, by rw [Hpd.out], HR8.out, HB8.out.bel⟩)
              rw [results_cell_tmp rfl]
              go_simp
            · have hb0 : (polE P != 0) = true := bne_iff_ne.2 h0
              have HE : Hid (pairE (bothOf ex) p q = (zeroPol, polE P)) := by show pairE _ p q = _; rw [HPE.out, if_neg h0]
              have HB7 := Lib.hid (HB6.out.set (i := 3) rfl 0 (.slice none 0 0))
              have HB8 := Lib.hid (HB7.out.set (i := 3) rfl 1 (.int .i64 0))
              have hc8 : ∀ i, ((w6.setCell ⟨w.heap.size + 1 + 1 + 1, 0, none⟩ (.slice none 0 0)).setCell ⟨w.heap.size + 1 + 1 + 1, 1, none⟩ (.int .i64 0)).cell? ⟨w.heap.size + 1 + 1 + 1, i, none⟩ = _ := cells_of (HB8.out.at_ 3 _ rfl)
              clear h0
              go_wp2
              refine bodyPost_ret (v := .tuple #[polV (.slice none 0 0) 0, .int .i64 (polE P)]) ?_ rfl (by rw [HE.out]; exact ⟨_, rfl, nil_rules _ _, HB8.out.bel⟩)
              rw [results_cell_tmp rfl]
              go_simp
  · have hb0 : (polsE [p, q] != 0) = true := bne_iff_ne.2 h0
    have HE : Hid (pairE (bothOf ex) p q = (zeroPol, polsE [p, q])) := by show pairE _ p q = _; unfold pairE; rw [if_pos h0]
    have hc3 : ∀ i, w1.cell? ⟨w.heap.size + 1 + 1 + 1, i, none⟩ = _ := cells_of (HB1.out.at_ 3 _ rfl)
    have hf3 : ∀ i, w1.frozen? ⟨w.heap.size + 1 + 1 + 1, i, none⟩ = false := not_frozen (HB1.out.at_ 3 _ rfl)
    have HB7 := Lib.hid (HB1.out.set (i := 3) rfl 0 (.slice none 0 0))
    have HB8 := Lib.hid (HB7.out.set (i := 3) rfl 1 (.int .i64 0))
    have hc8 : ∀ i, ((w1.setCell ⟨w.heap.size + 1 + 1 + 1, 0, none⟩ (.slice none 0 0)).setCell ⟨w.heap.size + 1 + 1 + 1, 1, none⟩ (.int .i64 0)).cell? ⟨w.heap.size + 1 + 1 + 1, i, none⟩ = _ := cells_of (HB8.out.at_ 3 _ rfl)
    generalize polsE [p, q] = E at *
    clear h0
    go_wp2
    refine bodyPost_ret (v := .tuple #[polV (.slice none 0 0) 0, .int .i64 E]) ?_ rfl (by rw [HE.out]; exact ⟨_, rfl, nil_rules _ _, HB8.out.bel⟩)
    rw [results_cell_tmp rfl]
    go_simp
end Go.Proofs.YtioeliocdbckbaaGreatDoor
