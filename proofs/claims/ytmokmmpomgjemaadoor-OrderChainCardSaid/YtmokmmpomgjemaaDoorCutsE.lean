/- Walk: point.Cuts. Condition: the values' bytes. -/
import Derived.Test.YtmokmmpomgjemaaDoorCuts
import Derived.Test.YtmokmmpomgjemaaDoorPolCheck
namespace Go.Proofs.YtmokmmpomgjemaaDoor
open Go.RowKit

/-- chapter 6's Cuts, errors too. -/
def cutsE (l : List TPol) (f : Int) : List Int × Int := if polsE l ≠ 0 then ([], polsE l) else if f < 0 ∨ 5 ≤ f then ([], 5) else (cutsOf l f, 0)

set_option maxRecDepth 100000 in
set_option maxHeartbeats 4000000 in
theorem cutsE_any (v : Value) (l : List TPol) (f : Int) (D : Nat → Prop) (w : World) (h : RdPols w D v l) (hn : polsE l = 0 → 0 ≤ f → f < 5 → (cutVals l f).length * 8 ≤ 140737488355328) :
    Calls Tryd.prog 18 #[v, .int .i64 f] w fun e w' => ∃ v', e = .returned (.tuple #[v', .int .i64 (cutsE l f).2]) ∧ OwnSl w' w.heap.size 3 1 intR v' (cutsE l f).1 ∧ Below w.heap.size w w' := by
  have H := Lib.hid h
  obtain ⟨a, c, rfl, hlc, hcm, hat⟩ := Sl.form h
  have Hn := Lib.hid hn
  clear h hn
  go_enter Tryd.func18, Tryd.ntmps18
  go_wp2_with fail
  go_loopw [11] (fun kv wr => ∃ k : Nat, kv = .int .i64 k ∧ k ≤ l.length ∧ polsE (l.drop k) = polsE l ∧ Below w.heap.size w wr) (fun kv _ => l.length - (intOf kv).toNat)
  case atStart => exact ⟨0, rfl, Nat.zero_le _, rfl, Below.refl _ _⟩
  case round =>
    obtain ⟨k, rfl, hk, hdr, hb⟩ := hrel
    have Hdr := Lib.hid hdr
    have Hb := Lib.hid hb
    have hsz := hb.size
    clear hdr hb
    by_cases hlt : k < l.length
    · obtain ⟨b, o, rfl, hDb, hblt⟩ := hat (by omega)
      obtain ⟨ca, cc, hc0w, hc1w, hrd, hcl, hcmx, hcat⟩ := RdPols.cells H.out hlt
      have Hs := Lib.hid (polsE_drop l k hlt)
      obtain ⟨p, hp⟩ : ∃ p, l[k] = p := ⟨_, rfl⟩
      rw [hp] at hc0w hc1w hrd hcl hcat Hs
      have Hrd := Lib.hid hrd
      have hc0 := (Hb.out.cell (p := ⟨b, o + k * 2, none⟩) hblt).trans hc0w
      have hc1 := (Hb.out.cell (p := ⟨b, o + k * 2 + 1, none⟩) hblt).trans hc1w
      clear hrd hp hc0w hc1w
      go_wp2_with fail
      refine (polcheck_any _ p D _ (RdRules.below Hrd.out (bel_alloc Hb.out _))).mono ?_
      rintro e w1 ⟨rfl, hb1⟩
      have Hb1 := Lib.hid (bel_alloc_call Hb.out hb1)
      clear hb1 hc0 hc1
      by_cases h0 : polE p = 0
      · have H0 := Lib.hid h0
        rw [h0]
        clear h0
        go_wp2
        go_roundw
        case rel => exact ⟨k + 1, by go_num, by omega, by have := Hs.out; rw [if_pos H0.out, Hdr.out] at this; exact this.symm, Hb1.out⟩
        case measure => simp [intOf]; omega
      · have hb0 : (polE p != 0) = true := bne_iff_ne.2 h0
        have HE : Hid (cutsE l f = ([], polE p)) := by
          have e : polsE l = polE p := by have := Hs.out; rw [if_neg h0, Hdr.out] at this; exact this
          show cutsE l f = _
          unfold cutsE
          rw [e, if_pos h0]
        clear h0
        go_wp2
        go_ret2
        rw [HE.out]
        exact ⟨_, rfl, OwnSl.nil, Hb1.out⟩
    · obtain rfl : k = l.length := by omega
      have h0 : polsE l = 0 := by have := Hdr.out; rw [List.drop_length] at this; exact this.symm
      have H0 := Lib.hid h0
      clear h0
      by_cases hf : f < 0 ∨ 5 ≤ f
      · have HE : Hid (cutsE l f = ([], 5)) := by
          show cutsE l f = _
          unfold cutsE
          rw [if_neg (by rw [H0.out]; simp), if_pos hf]
        by_cases hf0 : f < 0
        · have hd : decide (f < 0) = true := decide_eq_true hf0
          clear hf
          go_wp2
          go_ret2
          rw [HE.out]
          exact ⟨_, rfl, OwnSl.nil, Hb.out⟩
        · have hd : decide (f < 0) = false := decide_eq_false hf0
          have hd2 : decide (5 ≤ f) = true := decide_eq_true (by omega)
          clear hf
          go_wp2
          go_ret2
          rw [HE.out]
          exact ⟨_, rfl, OwnSl.nil, Hb.out⟩
      · have HE : Hid (cutsE l f = (cutsOf l f, 0)) := by
          show cutsE l f = _
          unfold cutsE
          rw [if_neg (by rw [H0.out]; simp), if_neg hf]
        have hd : decide (f < 0) = false := decide_eq_false (by omega)
        have hd2 : decide (5 ≤ f) = false := decide_eq_false (by omega)
        have Hn2 := Lib.hid (Hn.out H0.out (by omega) (by omega))
        clear hf
        go_wp2_with fail
        refine (cuts_any _ l f D _ (RdPols.below H.out Hb.out) ((polsE_iff l).1 H0.out) Hn2.out).mono ?_
        rintro e w1 ⟨v1, rfl, ho1, hb1⟩
        have Ho1 := Lib.hid ho1
        have Hb1 := Lib.hid (bel_call Hb.out hb1)
        obtain ⟨a1, c1, rfl⟩ := ho1.slice
        clear ho1 hb1
        go_wp2
        go_ret2
        rw [HE.out]
        exact ⟨_, rfl, Ho1.out.base hsz, Hb1.out⟩
end Go.Proofs.YtmokmmpomgjemaaDoor
