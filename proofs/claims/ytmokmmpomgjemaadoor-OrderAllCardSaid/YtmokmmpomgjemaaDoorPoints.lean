/- Walk: point.Points. Condition: the values' bytes. -/
import Derived.Test.YtmokmmpomgjemaaDoorCutsE
namespace Go.Proofs.YtmokmmpomgjemaaDoor
open Go.RowKit

theorem infoCall : (Tryd.prog.info? 26).map (fun i => (i.zero, i.size, i.bytes)) = some (some (.agg #[.int .i64 0, .int .i64 0, .int .i64 0, .int .i64 0, .int .i64 0]), 5, 40) := by kernel_rfl
def callR (x : TCall) (cs : List Value) : Prop := cs = [.int .i64 x.a0, .int .i64 x.a1, .int .i64 x.a2, .int .i64 x.a3, .int .i64 x.a4]
def RdCalls (w : World) (D : Nat → Prop) (v : Value) (l : List TCall) : Prop := Sl w D 5 callR v l
theorem RdCalls.below {w w' : World} {D : Nat → Prop} {v : Value} {l : List TCall} (h : RdCalls w D v l) (hb : Below w.heap.size w w') : RdCalls w' D v l :=
  Sl.mono h (fun _ h _ => h) (fun b _ hlt => hb.block b hlt) hb.size (fun _ _ _ h => h)
theorem RdCalls.cells {w : World} {D : Nat → Prop} {b o n c : Nat} {s : Option Nat} {l : List TCall} (h : RdCalls w D (.slice (some ⟨b, o, s⟩) n c) l) {i : Nat} (hi : i < l.length) :
    w.cell? ⟨b, o + i * 5, none⟩ = some (.int .i64 l[i].a0) ∧ w.cell? ⟨b, o + i * 5 + 1, none⟩ = some (.int .i64 l[i].a1) ∧ w.cell? ⟨b, o + i * 5 + 2, none⟩ = some (.int .i64 l[i].a2) ∧ w.cell? ⟨b, o + i * 5 + 3, none⟩ = some (.int .i64 l[i].a3) ∧ w.cell? ⟨b, o + i * 5 + 4, none⟩ = some (.int .i64 l[i].a4) := by
  obtain ⟨cs, hcs, hr, hcell⟩ := Sl.get h hi
  unfold callR at hr
  subst hr
  exact ⟨hcell 0 _ rfl, hcell 1 _ rfl, hcell 2 _ rfl, hcell 3 _ rfl, hcell 4 _ rfl⟩
theorem callR_one (y : TCall) (cs : List Value) (h : callR y cs) : ∀ c ∈ cs, c.oneCell' = true := by
  unfold callR at h; subst h; intro c hc; simp at hc; rcases hc with rfl | rfl | rfl | rfl | rfl <;> rfl
@[reducible] def callArr (x : TCall) : Array Value := #[.int .i64 x.a0, .int .i64 x.a1, .int .i64 x.a2, .int .i64 x.a3, .int .i64 x.a4]
theorem callArr_set (x : TCall) (k : Nat) (h : k < 5) (n : Int) : (callArr x).setIfInBounds k (.int .i64 n) = callArr (x.set k n) := by
  match k, h with
  | 0, _ => rfl
  | 1, _ => rfl
  | 2, _ => rfl
  | 3, _ => rfl
  | 4, _ => rfl
theorem callArr_get (x : TCall) (k : Nat) (h : k < 5) : (callArr x)[k]? = some (.int .i64 (x.get k)) := by
  match k, h with
  | 0, _ => rfl
  | 1, _ => rfl
  | 2, _ => rfl
  | 3, _ => rfl
  | 4, _ => rfl
theorem set_set (x : TCall) (k : Nat) (m n : Int) : (x.set k m).set k n = x.set k n := by
  match k with
  | 0 => rfl
  | 1 => rfl
  | 2 => rfl
  | 3 => rfl
  | k + 4 => rfl
theorem one_call {W : World} {x : TCall} {T : TypeId} {b : Nat} (hb : b = W.heap.size) : RdCalls (W.alloc (.cells (callArr x) T)) (fun _ => True) (.slice (some ⟨b, 0, none⟩) 1 1) [x] :=
  sl_block (R := callR) (sz := 5) (xs := [x]) (rows := [[.int .i64 x.a0, .int .i64 x.a1, .int .i64 x.a2, .int .i64 x.a3, .int .i64 x.a4]]) (RowsOf.cons RowsOf.nil rfl rfl) (blk_at hb) rfl trivial (by simp [maxLen])
theorem pointsE_err2 {l : List TPol} (h0 : polsE l = 0) {k : Nat} (hk : k < 5) (h : 1000 < sizes l (k + 1)) : pointsE l = ([], 2) := by
  unfold pointsE
  rw [if_neg (by rw [h0]; simp), if_pos (Nat.lt_of_lt_of_le h (sizes_le l (by omega)))]

set_option maxRecDepth 100000 in
set_option maxHeartbeats 8000000 in
theorem points_any (v : Value) (l : List TPol) (D : Nat → Prop) (w : World) (h : RdPols w D v l) (hn : polsE l = 0 → ∀ f : Int, 0 ≤ f → f < 5 → (cutVals l f).length * 8 ≤ 140737488355328) :
    Calls Tryd.prog 11 #[v] w fun e w' => ∃ v', e = .returned (.tuple #[v', .int .i64 (pointsE l).2]) ∧ OwnSl w' w.heap.size 26 5 callR v' (pointsE l).1 ∧ Below w.heap.size w w' := by
  have H := Lib.hid h
  have Hn := Lib.hid hn
  obtain ⟨i0, hi, hz0, hz1, hz2⟩ := info_parts infoCall
  have Hi := Lib.hid hi
  clear h hn hi
  go_enter Tryd.func11, Tryd.ntmps11
  go_wp2_with fail
  go_loopw [4, 15] (fun ov kv wr => ∃ (k : Nat) (vs : Value), kv = .int .i64 k ∧ vs = ov ∧ k ≤ 5 ∧ (k ≠ 0 → polsE l = 0) ∧ sizes l k ≤ 1000 ∧ OwnSl wr w.heap.size 26 5 callR vs (stage l k) ∧ Below w.heap.size w wr) (fun _ kv _ => 5 - (intOf kv).toNat)
  case atStart =>
    refine ⟨0, _, rfl, rfl, by omega, fun h => absurd rfl h, by simp [sizes], ?_, (Below.refl _ _).alloc (Nat.le_refl _) _⟩
    exact ⟨[[.int .i64 0, .int .i64 0, .int .i64 0, .int .i64 0, .int .i64 0]], RowsOf.cons RowsOf.nil rfl rfl, by simp [stage], .inr ⟨w.heap.size, 1, _, rfl, Nat.le_refl _, heap_last _ _, by simp [stage], by simp [maxLen], by simp, by simp [stage]⟩⟩
  case round =>
    obtain ⟨k, vs, rfl, rfl, hk, hp0, hs, hown, hb⟩ := hrel
    have Hp0 := Lib.hid hp0
    have Hown := Lib.hid hown
    have Hb := Lib.hid hb
    have hsz := hb.size
    have Hs := Lib.hid hs
    obtain ⟨a, c, rfl⟩ := hown.slice
    clear hp0 hown hb hs
    by_cases hlt : k < 5
    · go_wp2_with fail
      refine (cutsE_any v l k D _ (H.out.belowR Hb.out (fun _ _ _ ⟨u, h1, h2⟩ => ⟨u, h1, h2.below Hb.out⟩)) (fun h0 h1 h2 => Hn.out h0 _ h1 h2)).mono ?_
      rintro e w1 ⟨v1, rfl, ho1, hb1⟩
      have Hb1 := Lib.hid (bel_call Hb.out hb1)
      have Hbr := Lib.hid hb1
      have Ho1 := Lib.hid ho1
      have hsz1 := hb1.size
      obtain ⟨a1, c1, rfl⟩ := ho1.slice
      clear ho1 hb1
      by_cases h0 : polsE l = 0
      · have H0 := Lib.hid h0
        have HE : Hid (cutsE l k = (cutsOf l k, 0)) := by
          show cutsE l k = _
          unfold cutsE
          rw [if_neg (by rw [h0]; simp), if_neg (by omega)]
        have Ho2 : Hid (RdInts w1 (fun _ => True) (.slice a1 (cutsOf l k).length c1) (cutsOf l k)) := by
          have := Ho1.out.sl (D := fun _ => True) (fun _ _ => trivial)
          rw [HE.out] at this
          exact this
        have hlen : (cutsOf l k).length ≤ 17592186044416 := by
          have h1 := Hn.out h0 k (by omega) (by omega)
          have h2 : (cutsOf l k).length ≤ (cutVals l k).length := by
            unfold cutsOf
            refine Nat.le_trans (List.length_filter_le _ _) ?_
            have h3 : ∀ m : List Int, (setOf m).length ≤ m.length := fun m => by
              have h4 : ∀ (x : Int) (m : List Int), (insU x m).length ≤ m.length + 1 := fun x m => by
                induction m with
                | nil => simp [insU]
                | cons y m ih => unfold insU; split <;> (try split) <;> simp <;> omega
              induction m with
              | nil => simp [setOf]
              | cons x m ih => have := h4 x (setOf m); simp [setOf]; omega
            exact h3 _
          omega
        have Hss : Hid (sizes l (k + 1) = sizes l k * (cutsOf l k).length) := rfl
        have Hst : Hid ((stage l k).length = sizes l k) := stage_length l k
        rw [HE.out]
        obtain ⟨C, hC⟩ : ∃ C, C = cutsOf l k := ⟨_, rfl⟩
        rw [← hC] at Ho2 hlen Hss ⊢
        have HC := Lib.hid hC
        have hmul : (((stage l k).length : Int) * (C.length : Int)) = (((stage l k).length * C.length : Nat) : Int) := by rw [Int.natCast_mul]
        have hmb : (stage l k).length * C.length ≤ 1000 * 17592186044416 := Nat.mul_le_mul (by rw [Hst.out]; exact Hs.out) hlen
        have hwr : IntKind.i64.wrap (((stage l k).length : Int) * (C.length : Int)) = ((stage l k).length : Int) * (C.length : Int) := by rw [hmul, IntKind.wrap_i64]; omega
        clear h0 hC hmul
        by_cases hbig : 1000 < sizes l (k + 1)
        · have hd : decide ((1000 : Int) < ((stage l k).length : Int) * (C.length : Int)) = true := decide_eq_true (by rw [← Int.natCast_mul, Hst.out, ← Hss.out]; omega)
          have HP : Hid (pointsE l = ([], 2)) := pointsE_err2 H0.out hlt hbig
          have Hhb := Lib.hid hbig
          clear hbig hmb
          go_wp2_with fail
          go_ret2
          rw [HP.out]
          exact ⟨_, rfl, OwnSl.nil, Hb1.out⟩
        · have hd : decide ((1000 : Int) < ((stage l k).length : Int) * (C.length : Int)) = false := decide_eq_false (by rw [← Int.natCast_mul, Hst.out, ← Hss.out]; omega)
          have Hhb := Lib.hid hbig
          clear hbig hmb
          have Hsl : Hid (RdCalls w1 (fun _ => True) (.slice a (stage l k).length c) (stage l k)) := (Hown.out.sl (fun _ _ => trivial)).belowR Hbr.out (fun _ _ _ h => h)
          obtain ⟨S, hS⟩ : ∃ S, S = stage l k := ⟨_, rfl⟩
          have Hnext : Hid (stage l (k + 1) = S.flatMap fun x => C.map fun n => x.set k n) := by show _ = _; rw [hS, HC.out]; rfl
          have hSl : S.length ≤ 1000 := by rw [hS, Hst.out]; exact Hs.out
          have hsl1 : S.length * C.length ≤ 1000 := by have := Hhb.out; rw [Hss.out, ← Hst.out, ← hS] at this; omega
          rw [← hS] at Hsl hd hwr ⊢
          have Hpl := Lib.hid (show ∀ j, j ≤ S.length → ((S.take j).flatMap fun x => C.map fun n => x.set k n).length = j * C.length from fun j hj => by
            rw [List.length_flatMap]
            have : ((S.take j).map fun x => (C.map fun n => x.set k n).length) = List.replicate j C.length := by
              apply List.ext_getElem
              · simp; omega
              · intro i h1 h2; simp
            rw [this, List.sum_replicate_nat])
          clear hS
          go_wp2_with fail
          clear hd hwr
          have hatS := fun h0 => Sl.at_ Hsl.out h0
          have hatC := fun h0 => Sl.at_ Ho2.out h0
          go_loopw [8, 35] (fun ov jv wr => ∃ (j : Nat) (vn : Value), jv = .int .i64 j ∧ vn = ov ∧ j ≤ S.length ∧ OwnSl wr w1.heap.size 26 5 callR vn ((S.take j).flatMap fun x => C.map fun n => x.set k n) ∧ Below w1.heap.size w1 wr) (fun _ jv _ => S.length - (intOf jv).toNat)
          case atStart => exact ⟨0, _, rfl, rfl, Nat.zero_le _, OwnSl.nil, Below.refl _ _⟩
          case round =>
            obtain ⟨j, vn, rfl, rfl, hj, hownn, hbn⟩ := hrel
            have Hownn := Lib.hid hownn
            have Hbn := Lib.hid hbn
            have hszn := hbn.size
            clear hownn hbn
            by_cases hjl : j < S.length
            · obtain ⟨b, o, hab, _, hblt⟩ := hatS (by omega)
              subst hab
              obtain ⟨h0c, h1c, h2c, h3c, h4c⟩ := RdCalls.cells (Hsl.out.below Hbn.out) hjl
              have Hs1 := Lib.hid (flatMap_take (fun x : TCall => C.map fun n => x.set k n) S j hjl)
              obtain ⟨x, hx⟩ : ∃ x, S[j] = x := ⟨_, rfl⟩
              rw [hx] at h0c h1c h2c h3c h4c Hs1
              have Hpj := Lib.hid (Hpl.out j (by omega))
              obtain ⟨L, hL⟩ : ∃ L, L = (S.take j).flatMap fun x => C.map fun n => x.set k n := ⟨_, rfl⟩
              rw [← hL] at Hownn Hs1 Hpj
              have hjc : j * C.length + C.length ≤ 1000 := by
                have : (j + 1) * C.length ≤ S.length * C.length := Nat.mul_le_mul_right _ hjl
                rw [Nat.add_mul] at this; omega
              obtain ⟨wo, rfl⟩ : ∃ wo : World, wo = wr := ⟨_, rfl⟩
              have hob : vn.ownBlock ≠ some wo.heap.size := fun e => by obtain ⟨rows, _, hrw⟩ := Hownn.out; have := (hrw.lt _ e).2; omega
              have Hob := Lib.hid hob
              clear hx hL hob
              go_wp2_with fail
              clear h0c h1c h2c h3c h4c
              go_loopw [8, 41] (fun ov iv wr => ∃ (i : Nat) (vi : Value) (y : TCall), iv = .int .i64 i ∧ vi = ov ∧ i ≤ C.length ∧ OwnSl wr w1.heap.size 26 5 callR vi (L ++ (C.take i).map fun n => x.set k n) ∧ Below w1.heap.size w1 wr ∧ wr.heap[wo.heap.size]? = some (.cells (callArr y) 26) ∧ (∀ n, y.set k n = x.set k n) ∧ vi.ownBlock ≠ some wo.heap.size ∧ wo.heap.size < wr.heap.size) (fun _ iv _ => C.length - (intOf iv).toNat)
              case atStart => exact ⟨0, vn, x, rfl, rfl, by omega, by simpa using Hownn.out.below (bel_alloc (Below.refl _ _) _), Hbn.out.trans ((bel_alloc (Below.refl _ wo) _).mono hszn), heap_last _ _, fun _ => rfl, Hob.out, by simp⟩
              case round =>
                obtain ⟨i, vi, y, rfl, rfl, hi, howni, hbi, hbox, hys, hnob, hszi⟩ := hrel
                have Howni := Lib.hid howni
                have Hbi := Lib.hid hbi
                have Hbox := Lib.hid hbox
                have Hys := Lib.hid hys
                have Hnob := Lib.hid hnob
                have hszj := hbi.size
                clear howni hbi hbox hys hnob
                by_cases hil : i < C.length
                · obtain ⟨b2, o2, hab2, _, hblt2⟩ := hatC (by omega)
                  subst hab2
                  have hc0 := RdInts.cell (Ho2.out.belowR Hbi.out (fun _ _ _ h => h)) hil
                  have Hta := Lib.hid (List.take_succ_eq_append_getElem hil)
                  obtain ⟨n, hn⟩ : ∃ n, C[i] = n := ⟨_, rfl⟩
                  rw [hn] at hc0 Hta
                  obtain ⟨z, hz⟩ : ∃ z, y.set k n = z := ⟨_, rfl⟩
                  have Hz := Lib.hid hz
                  have hbc := cells_of Hbox.out
                  have hbf := not_frozen Hbox.out
                  have hgetk : (callArr y)[k]? = some (.int .i64 (y.get k)) := callArr_get y k hlt
                  have Hset : Hid ((wr.setCell ⟨wo.heap.size, k, none⟩ (.int .i64 n)).heap[wo.heap.size]? = some (.cells (callArr z) 26)) := by
                    have := set_at (o := k) (v := .int .i64 n) Hbox.out
                    rwa [callArr_set y k hlt, hz] at this
                  have hsc := cells_of Hset.out
                  clear hn hz
                  have Hown3 := Lib.hid ((Howni.out.set (a := ⟨wo.heap.size, k, none⟩) (x := .int .i64 n) Hnob.out).below (bel_alloc (Below.refl _ _) (.cells (callArr z) 26)))
                  have Hbi3 := Lib.hid ((set_below (a := ⟨wo.heap.size, k, none⟩) (v := .int .i64 n) Hbi.out hszn).alloc (by rw [set_size]; exact hszj) (.cells (callArr z) 26))
                  have Hbox3 := Lib.hid (blk_old (o := (.cells (callArr z) 26)) Hset.out)
                  have Hll : Hid ((L ++ (C.take i).map fun n => x.set k n).length + 1 ≤ 1000) := by
                    show _ ≤ _
                    rw [List.length_append, List.length_map, List.length_take, Hpj.out]; omega
                  go_wp2_with (at_builtin; refine wpList_app2 rfl _ _ 38 rfl w1.heap.size 26 i0 _ 5 40 Tryd.underlying38 Hi.out hz0 hz1 hz2 rfl (by decide) _ _ rfl Hown3.out _ _ rfl (one_call (x := z) (by simp)) (fun y _ cs h => callR_one y cs h) (by have := Hll.out; show _ + 1 ≤ maxLen; unfold maxLen; omega) (by have := Hll.out; show (_ + 1) * 40 ≤ _; omega) (by simp; omega) ?_; intro v' w3 hown' hg hat'; have Hown' := Lib.hid hown'; have Hb3 := Lib.hid (Hown3.out.grown Hbi3.out hg (by simp; omega) (Nat.le_refl _)); have Hx3 := Lib.hid ((hg.block wo.heap.size (by simp; omega) (fun e => Hnob.out e.symm)).trans Hbox3.out); have Hn3 : Hid (v'.ownBlock ≠ some wo.heap.size) := (fun e => hat'.elim (fun e' => Hnob.out (e'.symm.trans e)) (fun e' => by have := e'.symm.trans e; simp at this; omega)); have hs3 : wo.heap.size < w3.heap.size := (by have := hg.size; simp at this; omega); clear hown' hg hat')
                  go_roundw
                  case rel => exact ⟨i + 1, v', z, by go_num, rfl, by omega, by rw [Hta.out, List.map_append, ← List.append_assoc]; have := Hown'.out; rw [← Hz.out, Hys.out] at this; exact this, Hb3.out, Hx3.out, fun m => by rw [← Hz.out, set_set]; exact Hys.out m, Hn3.out, hs3⟩
                  case measure => simp [intOf]; omega
                · obtain rfl : i = C.length := by omega
                  have Hr : Hid (OwnSl wr w1.heap.size 26 5 callR vi ((S.take (j + 1)).flatMap fun x => C.map fun n => x.set k n)) := by
                    have := Howni.out
                    rw [List.take_length] at this
                    show OwnSl _ _ _ _ _ _ _
                    rw [Hs1.out]; exact this
                  go_wp2
                  go_roundw
                  case rel => exact ⟨j + 1, vi, by go_num, rfl, by omega, Hr.out, Hbi.out⟩
                  case measure => simp [intOf]; omega
            · obtain rfl : j = S.length := by omega
              go_wp2
              go_roundw
              case rel => exact ⟨k + 1, vn, by go_num, rfl, by omega, fun _ => H0.out, by have := Hhb.out; omega, by have := Hownn.out; rw [List.take_length] at this; rw [Hnext.out]; exact this.base (by omega), Hb1.out.trans (Hbn.out.mono (by omega))⟩
              case measure => simp [intOf]; omega
      · have hk0 : k = 0 := by
          rcases Nat.eq_zero_or_pos k with h | h
          · exact h
          · exact absurd (Hp0.out (by omega)) h0
        have HE : Hid (cutsE l k = ([], polsE l)) := by show cutsE l k = _; unfold cutsE; rw [if_pos h0]
        have HP : Hid (pointsE l = ([], polsE l)) := by show pointsE l = _; unfold pointsE; rw [if_pos h0]
        have hb0 : (polsE l != 0) = true := bne_iff_ne.2 h0
        rw [HE.out]
        clear h0
        go_wp2
        go_ret2
        rw [HP.out]
        exact ⟨_, rfl, OwnSl.nil, Hb1.out⟩
    · obtain rfl : k = 5 := by omega
      have HP : Hid (pointsE l = (stage l 5, 0)) := by
        show pointsE l = _
        unfold pointsE
        rw [if_neg (by rw [Hp0.out (by omega)]; simp), if_neg (by have := Hs.out; omega)]
      go_wp2
      go_ret2
      rw [HP.out]
      exact ⟨_, rfl, Hown.out, Hb.out⟩
end Go.Proofs.YtmokmmpomgjemaaDoor
