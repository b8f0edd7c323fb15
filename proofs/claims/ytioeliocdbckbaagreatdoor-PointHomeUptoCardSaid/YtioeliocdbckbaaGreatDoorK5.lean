/- Texts laid one behind the other: Points, Judge, Judge2, Judge3, Looser, Short, Shelf, Whole. No condition beyond theirs. -/
import Derived.Test.YtioeliocdbckbaaGreatDoorK4
import Derived.Test.YtioeliocdbckbaaGreatDoorK3
import Derived.Test.YtioeliocdbckbaaGreatDoorK2
import Derived.Laws.ResultCell
import Derived.Shelf.Small.Bits
import Derived.Shelf.Utf8.RuneCount
import Derived.Shelf.Strconv.Itoa0
import Derived.Shelf.Strconv.Itoa1
import Derived.Shelf.LaysM
import Derived.Shelf.Strconv.Itoa2
import Derived.Shelf.Strconv.Itoa3
import Derived.Shelf.Strconv.Itoa4
import Derived.Shelf.Strconv.ParseIntEmpty
import Derived.Shelf.Strconv.Clone
import Derived.Shelf.Strconv.SyntaxError
import Derived.Shelf.LaysC
import Derived.Shelf.Strconv.ToError
import Derived.Shelf.Strconv.Lower
import Derived.Shelf.Strconv.ParseUint10
import Derived.Shelf.Strconv.ParseUint10Empty
import Derived.Shelf.Strconv.ParseUint10Any
import Derived.Shelf.Strconv.ParseInt10
import Derived.Shelf.Strconv.RangeError
import Derived.Shelf.Strconv.ToErrorRange
import Derived.Shelf.Strconv.ParseUintEmpty
import Derived.Shelf.Strconv.ParseUint10b64
import Derived.Shelf.Strconv.ParseUint10b32
import Derived.Shelf.Strconv.ParseUint10b16
import Derived.Shelf.Strconv.ParseUint10b8
import Derived.Shelf.Strconv.ParseUint10At
import Derived.Shelf.Strconv.ParseInt10At64
import Derived.Shelf.Strconv.ParseInt10At32
import Derived.Shelf.Strconv.ParseInt10At16
import Derived.Shelf.Strconv.ParseInt10At8
import Derived.Shelf.Strconv.ParseInt10All
import Derived.Shelf.Strconv.ParseIntPublic10
import Derived.Shelf.Strconv.ErrVarParseInt
import Derived.Shelf.Strings.Search1
import Derived.Shelf.Strings.Search2
import Derived.Shelf.Strings.Search3
import Derived.Shelf.Strings.Cut
import Derived.Shelf.Strings.Count
import Derived.Shelf.Strings.Shaped
import Derived.Shelf.Sort.Plain
import Derived.Shelf.Strings.Split
import Derived.Shelf.Strings.Fields
import Derived.Shelf.Strings.SplitShaped
import Derived.Shelf.Unicode.Latin
import Derived.Shelf.Unicode.Decode
import Derived.Shelf.Strings.RuneCount
import Derived.Shelf.Strings.Explode
import Derived.Shelf.Unicode.DecodeSlow
import Derived.Shelf.Unicode.DecodeAny
import Derived.Shelf.Unicode.Is16White
import Derived.Shelf.Unicode.IsSpaceAny
import Derived.Shelf.Unicode.Is16Any
import Derived.Shelf.Unicode.Is32Any
import Derived.Shelf.Unicode.ExclAny
import Derived.Shelf.Slices.Equal
import Derived.Ground.Names2Prog
import Derived.Shelf.Slices.Clone
import Derived.Shelf.Slices.CompactI
import Derived.Shelf.Slices.SearchI
import Derived.Shelf.Slices.Cells
import Derived.Ground.SlgnProg
import Derived.Shelf.SlicesE.Clone
import Derived.Test.YtioeliocdbckbaaGreatDoorProg
import Derived.Lib.ParseIntB
import Derived.Lib.ItoaMem
namespace Go.Proofs.YtioeliocdbckbaaGreatDoor
open Go.RowKit

theorem infoCall : (Tryz.prog.info? 26).map (fun i => (i.zero, i.size, i.bytes)) = some (some (.agg #[.int .i64 0, .int .i64 0, .int .i64 0, .int .i64 0, .int .i64 0]), 5, 40) := by kernel_rfl
def callR (x : TCall) (cs : List Value) : Prop := cs = [.int .i64 x.a0, .int .i64 x.a1, .int .i64 x.a2, .int .i64 x.a3, .int .i64 x.a4]
def RdCalls (w : World) (D : Nat → Prop) (v : Value) (l : List TCall) : Prop := Sl w D 5 callR v l
theorem RdCalls.below {w w' : World} {D : Nat → Prop} {v : Value} {l : List TCall} (h : RdCalls w D v l) (hb : Below w.heap.size w w') : RdCalls w' D v l :=
  Sl.mono h (fun _ h _ => h) (fun b _ hlt => hb.block b hlt) hb.size (fun _ _ _ h => h)
theorem RdCalls.cells {w : World} {D : Nat → Prop} {b o n c : Nat} {s : Option Nat} {l : List TCall} (h : RdCalls w D (.slice (some ⟨b, o, s⟩) n c) l) {i : Nat} (hi : i < l.length) :
    w.cell? ⟨b, o + i * 5, none⟩ = some (.int .i64 l[i].a0) ∧ w.cell? ⟨b, o + i * 5 + 1, none⟩ = some (.int .i64 l[i].a1) ∧ w.cell? ⟨b, o + i * 5 + 2, none⟩ = some (.int .i64 l[i].a2) ∧ w.cell? ⟨b, o + i * 5 + 3, none⟩ = some (.int .i64 l[i].a3) ∧ w.cell? ⟨b, o + i * 5 + 4, none⟩ = some (.int .i64 l[i].a4) := by
  obtain ⟨cs, hcs, hr, hcell⟩ := Sl.get h hi
  unfold callR at hr
  subst hr
  exact ⟨hcell 0 _ rfl, hcell 1 _ rfl, hcell 2 _ rfl, hcell 3 _ rfl, hcell 4 _ rfl⟩
theorem callR_one (y : TCall) (cs : List Value) (h : callR y cs) : ∀ c ∈ cs, c.oneCell' = true := by
  unfold callR at h; subst h; intro c hc; simp at hc; rcases hc with rfl | rfl | rfl | rfl | rfl <;> rfl
@[reducible] def callArr (x : TCall) : Array Value := #[.int .i64 x.a0, .int .i64 x.a1, .int .i64 x.a2, .int .i64 x.a3, .int .i64 x.a4]
theorem callArr_set (x : TCall) (k : Nat) (h : k < 5) (n : Int) : (callArr x).setIfInBounds k (.int .i64 n) = callArr (x.set k n) := by
  match k, h with
  | 0, _ => rfl
  | 1, _ => rfl
  | 2, _ => rfl
  | 3, _ => rfl
  | 4, _ => rfl
theorem callArr_get (x : TCall) (k : Nat) (h : k < 5) : (callArr x)[k]? = some (.int .i64 (x.get k)) := by
  match k, h with
  | 0, _ => rfl
  | 1, _ => rfl
  | 2, _ => rfl
  | 3, _ => rfl
  | 4, _ => rfl
theorem set_set (x : TCall) (k : Nat) (m n : Int) : (x.set k m).set k n = x.set k n := by
  match k with
  | 0 => rfl
  | 1 => rfl
  | 2 => rfl
  | 3 => rfl
  | k + 4 => rfl
theorem one_call {W : World} {x : TCall} {T : TypeId} {b : Nat} (hb : b = W.heap.size) : RdCalls (W.alloc (.cells (callArr x) T)) (fun _ => True) (.slice (some ⟨b, 0, none⟩) 1 1) [x] :=
  sl_block (R := callR) (sz := 5) (xs := [x]) (rows := [[.int .i64 x.a0, .int .i64 x.a1, .int .i64 x.a2, .int .i64 x.a3, .int .i64 x.a4]]) (RowsOf.cons RowsOf.nil rfl rfl) (blk_at hb) rfl trivial (by simp [maxLen])
theorem pointsE_err2 {l : List TPol} (h0 : polsE l = 0) {k : Nat} (hk : k < 5) (h : 1000 < sizes l (k + 1)) : pointsE l = ([], 2) := by
  unfold pointsE
  rw [if_neg (by rw [h0]; simp), if_pos (Nat.lt_of_lt_of_le h (sizes_le l (by omega)))]

set_option maxRecDepth 100000 in
set_option maxHeartbeats 8000000 in
theorem points_any (v : Value) (l : List TPol) (D : Nat → Prop) (w : World) (h : RdPols w D v l) (hn : polsE l = 0 → ∀ f : Int, 0 ≤ f → f < 5 → (cutVals l f).length * 8 ≤ 140737488355328) :
    Calls Tryz.prog 19 #[v] w fun e w' => ∃ v', e = .returned (.tuple #[v', .int .i64 (pointsE l).2]) ∧ OwnSl w' w.heap.size 26 5 callR v' (pointsE l).1 ∧ Below w.heap.size w w' := by
  have H := Lib.hid h
  have Hn := Lib.hid hn
  obtain ⟨i0, hi, hz0, hz1, hz2⟩ := info_parts infoCall
  have Hi := Lib.hid hi
  clear h hn hi
  go_enter Tryz.func19, Tryz.ntmps19
  go_wp2_with fail
  go_loopw [4, 15] (fun ov kv wr => ∃ (k : Nat) (vs : Value), kv = .int .i64 k ∧ vs = ov ∧ k ≤ 5 ∧ (k ≠ 0 → polsE l = 0) ∧ sizes l k ≤ 1000 ∧ OwnSl wr w.heap.size 26 5 callR vs (stage l k) ∧ Below w.heap.size w wr) (fun _ kv _ => 5 - (intOf kv).toNat)
  case atStart =>
    refine ⟨0, _, rfl, rfl, by omega, fun h => absurd rfl h, by simp [sizes], ?_, (Below.refl _ _).alloc (Nat.le_refl _) _⟩
    exact ⟨[[.int .i64 0, .int .i64 0, .int .i64 0, .int .i64 0, .int .i64 0]], RowsOf.cons RowsOf.nil rfl rfl, by simp [stage], .inr ⟨w.heap.size, 1, _, rfl, Nat.le_refl _, heap_last _ _, by simp [stage], by simp [maxLen], by simp, by simp [stage]⟩⟩
  case round =>
    obtain ⟨k, vs, rfl, rfl, hk, hp0, hs, hown, hb⟩ := hrel
    have Hp0 := Lib.hid hp0
    have Hown := Lib.hid hown
    have Hb := Lib.hid hb
    have hsz := hb.size
    have Hs := Lib.hid hs
    obtain ⟨a, c, rfl⟩ := hown.slice
    clear hp0 hown hb hs
    by_cases hlt : k < 5
    · go_wp2_with fail
      refine (cutsE_any v l k D _ (H.out.belowR Hb.out (fun _ _ _ ⟨u, h1, h2⟩ => ⟨u, h1, h2.below Hb.out⟩)) (fun h0 h1 h2 => Hn.out h0 _ h1 h2)).mono ?_
      rintro e w1 ⟨v1, rfl, ho1, hb1⟩
      have Hb1 := Lib.hid (bel_call Hb.out hb1)
      have Hbr := Lib.hid hb1
      have Ho1 := Lib.hid ho1
      have hsz1 := hb1.size
      obtain ⟨a1, c1, rfl⟩ := ho1.slice
      clear ho1 hb1
      by_cases h0 : polsE l = 0
      · have H0 := Lib.hid h0
        have HE : Hid (cutsE l k = (cutsOf l k, 0)) := by
          show cutsE l k = _
          unfold cutsE
          rw [if_neg (by rw [h0]; simp), if_neg (by omega)]
        have Ho2 : Hid (RdInts w1 (fun _ => True) (.slice a1 (cutsOf l k).length c1) (cutsOf l k)) := by
          have := Ho1.out.sl (D := fun _ => True) (fun _ _ => trivial)
          rw [HE.out] at this
          exact this
        have hlen : (cutsOf l k).length ≤ 17592186044416 := by
          have h1 := Hn.out h0 k (by omega) (by omega)
          have h2 : (cutsOf l k).length ≤ (cutVals l k).length := by
            unfold cutsOf
            refine Nat.le_trans (List.length_filter_le _ _) ?_
            have h3 : ∀ m : List Int, (setOf m).length ≤ m.length := fun m => by
              have h4 : ∀ (x : Int) (m : List Int), (insU x m).length ≤ m.length + 1 := fun x m => by
                induction m with
                | nil => simp [insU]
                | cons y m ih => unfold insU; split <;> (try split) <;> simp <;> omega
              induction m with
              | nil => simp [setOf]
              | cons x m ih => have := h4 x (setOf m); simp [setOf]; omega
            exact h3 _
          omega
        have Hss : Hid (sizes l (k + 1) = sizes l k * (cutsOf l k).length) := rfl
        have Hst : Hid ((stage l k).length = sizes l k) := stage_length l k
        rw [HE.out]
        obtain ⟨C, hC⟩ : ∃ C, C = cutsOf l k := ⟨_, rfl⟩
        rw [← hC] at Ho2 hlen Hss ⊢
        have HC := Lib.hid hC
        have hmul : (((stage l k).length : Int) * (C.length : Int)) = (((stage l k).length * C.length : Nat) : Int) := by rw [Int.natCast_mul]
        have hmb : (stage l k).length * C.length ≤ 1000 * 17592186044416 := Nat.mul_le_mul (by rw [Hst.out]; exact Hs.out) hlen
        have hwr : IntKind.i64.wrap (((stage l k).length : Int) * (C.length : Int)) = ((stage l k).length : Int) * (C.length : Int) := by rw [hmul, IntKind.wrap_i64]; omega
        clear h0 hC hmul
        by_cases hbig : 1000 < sizes l (k + 1)
        · have hd : decide ((1000 : Int) < ((stage l k).length : Int) * (C.length : Int)) = true := decide_eq_true (by rw [← Int.natCast_mul, Hst.out, ← Hss.out]; omega)
          have HP : Hid (pointsE l = ([], 2)) := pointsE_err2 H0.out hlt hbig
          have Hhb := Lib.hid hbig
          clear hbig hmb
          go_wp2_with fail
          go_ret2
          rw [HP.out]
          exact ⟨_, rfl, OwnSl.nil, Hb1.out⟩
        · have hd : decide ((1000 : Int) < ((stage l k).length : Int) * (C.length : Int)) = false := decide_eq_false (by rw [← Int.natCast_mul, Hst.out, ← Hss.out]; omega)
          have Hhb := Lib.hid hbig
          clear hbig hmb
          have Hsl : Hid (RdCalls w1 (fun _ => True) (.slice a (stage l k).length c) (stage l k)) := (Hown.out.sl (fun _ _ => trivial)).belowR Hbr.out (fun _ _ _ h => h)
          obtain ⟨S, hS⟩ : ∃ S, S = stage l k := ⟨_, rfl⟩
          have Hnext : Hid (stage l (k + 1) = S.flatMap fun x => C.map fun n => x.set k n) := by show _ = _; rw [hS, HC.out]; rfl
          have hSl : S.length ≤ 1000 := by rw [hS, Hst.out]; exact Hs.out
          have hsl1 : S.length * C.length ≤ 1000 := by have := Hhb.out; rw [Hss.out, ← Hst.out, ← hS] at this; omega
          rw [← hS] at Hsl hd hwr ⊢
          have Hpl := Lib.hid (show ∀ j, j ≤ S.length → ((S.take j).flatMap fun x => C.map fun n => x.set k n).length = j * C.length from fun j hj => by
            rw [List.length_flatMap]
            have : ((S.take j).map fun x => (C.map fun n => x.set k n).length) = List.replicate j C.length := by
              apply List.ext_getElem
              · simp; omega
              · intro i h1 h2; simp
            rw [this, List.sum_replicate_nat])
          clear hS
          go_wp2_with fail
          clear hd hwr
          have hatS := fun h0 => Sl.at_ Hsl.out h0
          have hatC := fun h0 => Sl.at_ Ho2.out h0
          go_loopw [8, 35] (fun ov jv wr => ∃ (j : Nat) (vn : Value), jv = .int .i64 j ∧ vn = ov ∧ j ≤ S.length ∧ OwnSl wr w1.heap.size 26 5 callR vn ((S.take j).flatMap fun x => C.map fun n => x.set k n) ∧ Below w1.heap.size w1 wr) (fun _ jv _ => S.length - (intOf jv).toNat)
          case atStart => exact ⟨0, _, rfl, rfl, Nat.zero_le _, OwnSl.nil, Below.refl _ _⟩
          case round =>
            obtain ⟨j, vn, rfl, rfl, hj, hownn, hbn⟩ := hrel
            have Hownn := Lib.hid hownn
            have Hbn := Lib.hid hbn
            have hszn := hbn.size
            clear hownn hbn
            by_cases hjl : j < S.length
            · obtain ⟨b, o, hab, _, hblt⟩ := hatS (by omega)
              subst hab
              obtain ⟨h0c, h1c, h2c, h3c, h4c⟩ := RdCalls.cells (Hsl.out.below Hbn.out) hjl
              have Hs1 := Lib.hid (flatMap_take (fun x : TCall => C.map fun n => x.set k n) S j hjl)
              obtain ⟨x, hx⟩ : ∃ x, S[j] = x := ⟨_, rfl⟩
              rw [hx] at h0c h1c h2c h3c h4c Hs1
              have Hpj := Lib.hid (Hpl.out j (by omega))
              obtain ⟨L, hL⟩ : ∃ L, L = (S.take j).flatMap fun x => C.map fun n => x.set k n := ⟨_, rfl⟩
              rw [← hL] at Hownn Hs1 Hpj
              have hjc : j * C.length + C.length ≤ 1000 := by
                have : (j + 1) * C.length ≤ S.length * C.length := Nat.mul_le_mul_right _ hjl
                rw [Nat.add_mul] at this; omega
              obtain ⟨wo, rfl⟩ : ∃ wo : World, wo = wr := ⟨_, rfl⟩
              have hob : vn.ownBlock ≠ some wo.heap.size := fun e => by obtain ⟨rows, _, hrw⟩ := Hownn.out; have := (hrw.lt _ e).2; omega
              have Hob := Lib.hid hob
              clear hx hL hob
              go_wp2_with fail
              clear h0c h1c h2c h3c h4c
              go_loopw [8, 41] (fun ov iv wr => ∃ (i : Nat) (vi : Value) (y : TCall), iv = .int .i64 i ∧ vi = ov ∧ i ≤ C.length ∧ OwnSl wr w1.heap.size 26 5 callR vi (L ++ (C.take i).map fun n => x.set k n) ∧ Below w1.heap.size w1 wr ∧ wr.heap[wo.heap.size]? = some (.cells (callArr y) 26) ∧ (∀ n, y.set k n = x.set k n) ∧ vi.ownBlock ≠ some wo.heap.size ∧ wo.heap.size < wr.heap.size) (fun _ iv _ => C.length - (intOf iv).toNat)
              case atStart => exact ⟨0, vn, x, rfl, rfl, by omega, by simpa using Hownn.out.below (bel_alloc (Below.refl _ _) _), Hbn.out.trans ((bel_alloc (Below.refl _ wo) _).mono hszn), heap_last _ _, fun _ => rfl, Hob.out, by simp⟩
              case round =>
                obtain ⟨i, vi, y, rfl, rfl, hi, howni, hbi, hbox, hys, hnob, hszi⟩ := hrel
                have Howni := Lib.hid howni
                have Hbi := Lib.hid hbi
                have Hbox := Lib.hid hbox
                have Hys := Lib.hid hys
                have Hnob := Lib.hid hnob
                have hszj := hbi.size
                clear howni hbi hbox hys hnob
                by_cases hil : i < C.length
                · obtain ⟨b2, o2, hab2, _, hblt2⟩ := hatC (by omega)
                  subst hab2
                  have hc0 := RdInts.cell (Ho2.out.belowR Hbi.out (fun _ _ _ h => h)) hil
                  have Hta := Lib.hid (List.take_succ_eq_append_getElem hil)
                  obtain ⟨n, hn⟩ : ∃ n, C[i] = n := ⟨_, rfl⟩
                  rw [hn] at hc0 Hta
                  obtain ⟨z, hz⟩ : ∃ z, y.set k n = z := ⟨_, rfl⟩
                  have Hz := Lib.hid hz
                  have hbc := cells_of Hbox.out
                  have hbf := not_frozen Hbox.out
                  have hgetk : (callArr y)[k]? = some (.int .i64 (y.get k)) := callArr_get y k hlt
                  have Hset : Hid ((wr.setCell ⟨wo.heap.size, k, none⟩ (.int .i64 n)).heap[wo.heap.size]? = some (.cells (callArr z) 26)) := by
                    have := set_at (o := k) (v := .int .i64 n) Hbox.out
                    rwa [callArr_set y k hlt, hz] at this
                  have hsc := cells_of Hset.out
                  clear hn hz
                  have Hown3 := Lib.hid ((Howni.out.set (a := ⟨wo.heap.size, k, none⟩) (x := .int .i64 n) Hnob.out).below (bel_alloc (Below.refl _ _) (.cells (callArr z) 26)))
                  have Hbi3 := Lib.hid ((set_below (a := ⟨wo.heap.size, k, none⟩) (v := .int .i64 n) Hbi.out hszn).alloc (by rw [set_size]; exact hszj) (.cells (callArr z) 26))
                  have Hbox3 := Lib.hid (blk_old (o := (.cells (callArr z) 26)) Hset.out)
                  have Hll : Hid ((L ++ (C.take i).map fun n => x.set k n).length + 1 ≤ 1000) := by
                    show _ ≤ _
                    rw [List.length_append, List.length_map, List.length_take, Hpj.out]; omega
                  go_wp2_with (at_builtin; refine wpList_app2 rfl _ _ 40 rfl w1.heap.size 26 i0 _ 5 40 Tryz.underlying40 Hi.out hz0 hz1 hz2 rfl (by decide) _ _ rfl Hown3.out _ _ rfl (one_call (x := z) (by simp)) (fun y _ cs h => callR_one y cs h) (by have := Hll.out; show _ + 1 ≤ maxLen; unfold maxLen; omega) (by have := Hll.out; show (_ + 1) * 40 ≤ _; omega) (by simp; omega) ?_; intro v' w3 hown' hg hat'; have Hown' := Lib.hid hown'; have Hb3 := Lib.hid (Hown3.out.grown Hbi3.out hg (by simp; omega) (Nat.le_refl _)); have Hx3 := Lib.hid ((hg.block wo.heap.size (by simp; omega) (fun e => Hnob.out e.symm)).trans Hbox3.out); have Hn3 : Hid (v'.ownBlock ≠ some wo.heap.size) := (fun e => hat'.elim (fun e' => Hnob.out (e'.symm.trans e)) (fun e' => by have := e'.symm.trans e; simp at this; omega)); have hs3 : wo.heap.size < w3.heap.size := (by have := hg.size; simp at this; omega); clear hown' hg hat')
                  go_roundw
                  case rel => exact ⟨i + 1, v', z, by go_num, rfl, by omega, by rw [Hta.out, List.map_append, ← List.append_assoc]; have := Hown'.out; rw [← Hz.out, Hys.out] at this; exact this, Hb3.out, Hx3.out, fun m => by rw [← Hz.out, set_set]; exact Hys.out m, Hn3.out, hs3⟩
                  case measure => simp [intOf]; omega
                · obtain rfl : i = C.length := by omega
                  have Hr : Hid (OwnSl wr w1.heap.size 26 5 callR vi ((S.take (j + 1)).flatMap fun x => C.map fun n => x.set k n)) := by
                    have := Howni.out
                    rw [List.take_length] at this
                    show OwnSl _ _ _ _ _ _ _
                    rw [Hs1.out]; exact this
                  go_wp2
                  go_roundw
                  case rel => exact ⟨j + 1, vi, by go_num, rfl, by omega, Hr.out, Hbi.out⟩
                  case measure => simp [intOf]; omega
            · obtain rfl : j = S.length := by omega
              go_wp2
              go_roundw
              case rel => exact ⟨k + 1, vn, by go_num, rfl, by omega, fun _ => H0.out, by have := Hhb.out; omega, by have := Hownn.out; rw [List.take_length] at this; rw [Hnext.out]; exact this.base (by omega), Hb1.out.trans (Hbn.out.mono (by omega))⟩
              case measure => simp [intOf]; omega
      · have hk0 : k = 0 := by
          rcases Nat.eq_zero_or_pos k with h | h
          · exact h
          · exact absurd (Hp0.out (by omega)) h0
        have HE : Hid (cutsE l k = ([], polsE l)) := by show cutsE l k = _; unfold cutsE; rw [if_pos h0]
        have HP : Hid (pointsE l = ([], polsE l)) := by show pointsE l = _; unfold pointsE; rw [if_pos h0]
        have hb0 : (polsE l != 0) = true := bne_iff_ne.2 h0
        rw [HE.out]
        clear h0
        go_wp2
        go_ret2
        rw [HP.out]
        exact ⟨_, rfl, OwnSl.nil, Hb1.out⟩
    · obtain rfl : k = 5 := by omega
      have HP : Hid (pointsE l = (stage l 5, 0)) := by
        show pointsE l = _
        unfold pointsE
        rw [if_neg (by rw [Hp0.out (by omega)]; simp), if_neg (by have := Hs.out; omega)]
      go_wp2
      go_ret2
      rw [HP.out]
      exact ⟨_, rfl, Hown.out, Hb.out⟩
end Go.Proofs.YtioeliocdbckbaaGreatDoor
namespace Go.Proofs.YtioeliocdbckbaaGreatDoor
open Go.RowKit

@[reducible] def callCells (x : TCall) : Array Value := #[.int .i64 x.a0, .int .i64 x.a1, .int .i64 x.a2, .int .i64 x.a3, .int .i64 x.a4]
@[reducible] def condV (c : TCond) : Value := .agg #[.int .i64 c.f, .int .i64 c.op, .int .i64 c.v]

set_option maxHeartbeats 2000000 in
theorem holds_any (c : TCond) (x : TCall) (w : World) (hf0 : 0 ≤ c.f) (hf1 : c.f < 5) (ho0 : 1 ≤ c.op) (ho1 : c.op ≤ 4) : Calls Tryz.prog 69 #[condV c, callV x] w fun e w' => e = .returned (.bool (holdsB c x)) ∧ Below w.heap.size w w' := by
  obtain ⟨f, op, v⟩ := c
  dsimp only at hf0 hf1 ho0 ho1
  obtain ⟨m, rfl⟩ := Int.eq_ofNat_of_zero_le hf0
  have hm : m < 5 := by omega
  have hc : ∀ o, ((w.alloc o).alloc (.cells (callCells x) 26)).cell? ⟨w.heap.size + 1, m, none⟩ = some (.int .i64 (x.get m)) := fun o => by
    rw [World.cell?_alloc_at _ _ _ _ (by simp)]; exact cell5 x m hm
  have Hx : Hid (holdsB ⟨m, op, v⟩ x = if op = 1 then x.get m == v else if op = 2 then x.get m != v else if op = 3 then decide (x.get m < v) else decide (v ≤ x.get m)) := rfl
  have hop : op = 1 ∨ op = 2 ∨ op = 3 ∨ op = 4 := by omega
  rcases hop with rfl | rfl | rfl | rfl
  · rw [Hx.out]; simp only [if_true]
    clear Hx ho0 ho1
    go_enter Tryz.func69, Tryz.ntmps69
    go_wp2
    go_ret
    exact ⟨rfl, bel_alloc (bel_alloc (Below.refl _ _) _) _⟩
  · rw [Hx.out]; simp only [if_true, show ¬ ((2 : Int) = 1) by decide, if_false]
    clear Hx ho0 ho1
    go_enter Tryz.func69, Tryz.ntmps69
    go_wp2
    go_ret
    exact ⟨rfl, bel_alloc (bel_alloc (Below.refl _ _) _) _⟩
  · rw [Hx.out]; simp only [if_true, show ¬ ((3 : Int) = 1) by decide, show ¬ ((3 : Int) = 2) by decide, if_false]
    clear Hx ho0 ho1
    go_enter Tryz.func69, Tryz.ntmps69
    go_wp2
    go_ret
    exact ⟨rfl, bel_alloc (bel_alloc (Below.refl _ _) _) _⟩
  · rw [Hx.out]; simp only [show ¬ ((4 : Int) = 1) by decide, show ¬ ((4 : Int) = 2) by decide, show ¬ ((4 : Int) = 3) by decide, if_false]
    clear Hx ho0 ho1
    go_enter Tryz.func69, Tryz.ntmps69
    go_wp2
    go_ret
    exact ⟨rfl, bel_alloc (bel_alloc (Below.refl _ _) _) _⟩

theorem which1_any (c : TCond) (x : TCall) (bx : Nat) (w : World) (hok : OkCond c) (hx : ∀ j, w.cell? ⟨bx, j, none⟩ = (callCells x)[j]?) (hbx : bx < w.heap.size) :
    Calls Tryz.prog 68 #[condV c, .pointer (some ⟨bx, 0, none⟩)] w fun e w' => e = .returned (.bool (!holdsB c x)) ∧ Below w.heap.size w w' := by
  have hx' : ∀ o j, (w.alloc o).cell? ⟨bx, j, none⟩ = (callCells x)[j]? := fun o j => (World.cell?_alloc_lt w o ⟨bx, j, none⟩ hbx).trans (hx j)
  have Hok := Lib.hid hok
  clear hok hx
  go_enter Tryz.func68, Tryz.ntmps68
  go_wp2_with fail
  refine (holds_any c x _ Hok.out.f0 Hok.out.f1 Hok.out.o0 Hok.out.o1).mono ?_
  rintro e w1 ⟨rfl, hb1⟩
  go_wp2
  go_ret
  exact ⟨rfl, bel_alloc_call (Below.refl _ _) hb1⟩

theorem allHold_take {x : TCall} {l : List TCond} {k : Nat} (hk : k < l.length) (h : allHold x (l.take k) = true) (hh : holdsB l[k] x = true) : allHold x (l.take (k + 1)) = true := by
  rw [List.take_succ_eq_append_getElem hk]
  unfold allHold at *
  rw [List.all_append, h]
  simp [hh]
theorem allHold_not {x : TCall} {l : List TCond} {k : Nat} (hk : k < l.length) (hh : holdsB l[k] x = false) : allHold x l = false := by
  unfold allHold
  rw [List.all_eq_false]
  exact ⟨l[k], List.getElem_mem hk, by simp [hh]⟩

set_option maxHeartbeats 2000000 in
theorem indexFunc_any (v : Value) (l : List TCond) (x : TCall) (bx : Nat) (D : Nat → Prop) (w : World) (h : RdConds w D v l) (hok : ∀ c ∈ l, OkCond c) (hx : ∀ j, w.cell? ⟨bx, j, none⟩ = (callCells x)[j]?) (hbx : bx < w.heap.size) :
    Calls Tryz.prog 88 #[v, .func (.func 68) #[] #[.pointer (some ⟨bx, 0, none⟩)]] w fun e w' =>
      ∃ n : Int, e = .returned (.int .i64 n) ∧ decide (0 ≤ n) = (!allHold x l) ∧ Below w.heap.size w w' := by
  obtain ⟨a, c, rfl, hlc, hcm, hat⟩ := Sl.form h
  have H := Lib.hid h
  have Hok := Lib.hid hok
  have Hx := Lib.hid hx
  clear h hok hx
  go_enter Tryz.func88, Tryz.ntmps88
  go_wp2_with fail
  go_loopw [8] (fun i wr => ∃ k : Nat, k ≤ l.length ∧ i = .int .i64 k ∧ allHold x (l.take k) = true ∧ Below w.heap.size w wr) (fun i _ => l.length - (intOf i).toNat)
  case atStart => exact ⟨0, by omega, rfl, rfl, Below.refl _ _⟩
  case round =>
    obtain ⟨k, hk, rfl, hall, hbw⟩ := hrel
    have Hall := Lib.hid hall
    have hsz := hbw.size
    clear hall
    by_cases hlt : k < l.length
    · obtain ⟨b, o, rfl, hDb, hb⟩ := hat (by omega)
      obtain ⟨c0, c1, c2⟩ := RdConds.cells (RdConds.below H.out hbw) hlt
      go_wp2_with fail
      refine (which1_any l[k] x bx _ (Hok.out _ (List.getElem_mem hlt)) (fun j => (hbw.cell (p := ⟨bx, j, none⟩) hbx).trans (Hx.out j)) (by omega)).mono ?_
      rintro e w1 ⟨rfl, hb1⟩
      cases hh : holdsB l[k] x with
      | true =>
        have Hn := Lib.hid (allHold_take hlt Hall.out hh)
        clear hh
        go_wp2
        go_roundw
        case rel => exact ⟨k + 1, by omega, by go_num, Hn.out, bel_call hbw hb1⟩
        case measure => simp [intOf]; omega
      | false =>
        have Hn := Lib.hid (allHold_not hlt hh)
        clear hh
        go_wp2
        go_ret
        exact ⟨_, rfl, by rw [Hn.out]; simp, bel_call hbw hb1⟩
    · obtain rfl : k = l.length := by omega
      have Hn : Hid (allHold x l = true) := by have := Hall.out; rwa [List.take_length] at this
      go_wp2
      go_ret
      exact ⟨_, rfl, by rw [Hn.out]; simp, hbw⟩

theorem containsFunc_any (v : Value) (l : List TCond) (x : TCall) (bx : Nat) (D : Nat → Prop) (w : World) (h : RdConds w D v l) (hok : ∀ c ∈ l, OkCond c) (hx : ∀ j, w.cell? ⟨bx, j, none⟩ = (callCells x)[j]?) (hbx : bx < w.heap.size) :
    Calls Tryz.prog 67 #[v, .func (.func 68) #[] #[.pointer (some ⟨bx, 0, none⟩)]] w fun e w' => e = .returned (.bool (!allHold x l)) ∧ Below w.heap.size w w' := by
  have H := Lib.hid h
  have Hok := Lib.hid hok
  have Hx := Lib.hid hx
  clear h hok hx
  go_enter Tryz.func67, Tryz.ntmps67
  go_wp2_with fail
  refine (indexFunc_any v l x bx D _ H.out Hok.out Hx.out hbx).mono ?_
  rintro e w1 ⟨n, rfl, hn, hb1⟩
  have Hn := Lib.hid hn
  clear hn
  go_wp2
  go_ret
  exact ⟨ret_bool (by rw [← Hn.out]), hb1⟩
end Go.Proofs.YtioeliocdbckbaaGreatDoor
namespace Go.Proofs.YtioeliocdbckbaaGreatDoor
open Go.RowKit

set_option maxHeartbeats 2000000 in
theorem which_any (v : Value) (p : TPol) (x : TCall) (D : Nat → Prop) (w : World) (h : RdRules w D v p.rules) (hok : OkPol p) :
    Calls Tryz.prog 42 #[polV v p.dflt, callV x] w fun e w' => e = .returned (.int .i64 (which x p.rules)) ∧ Below w.heap.size w w' := by
  obtain ⟨rs, d⟩ := p
  dsimp only at h ⊢
  obtain ⟨a, c, rfl, hlc, hcm, hat⟩ := Sl.form h
  have H := Lib.hid h
  have Hok := Lib.hid hok
  have hmk : ∀ (fn : Fn) (first cap : Array Value) (w : World), (Instr.makeFunc fn first cap).run Tryz.prog w = .ok (.func fn first cap) w := fun _ _ _ _ => rfl
  clear h hok
  go_enter Tryz.func42, Tryz.ntmps42
  go_wp2_with fail
  go_loopw [10] (fun i wr => ∃ k : Nat, k ≤ rs.length ∧ i = .int .i64 k ∧ which x rs = k + which x (rs.drop k) ∧ Below (w.heap.size + 2) ((w.alloc (.cells #[.slice a rs.length c, .int .i64 d] 24)).alloc (.cells (callCells x) 26)) wr) (fun i _ => rs.length - (intOf i).toNat)
  case atStart => exact ⟨0, by omega, rfl, by simp, Below.refl _ _⟩
  case round =>
    obtain ⟨k, hk, rfl, hgo, hbx⟩ := hrel
    have Hgo := Lib.hid hgo
    have hsz := size_box2 hbx
    have Hb := Lib.hid (bel_box2 hbx)
    obtain ⟨hc1, hc2⟩ := box2_cells hbx
    clear hgo
    by_cases hlt : k < rs.length
    · obtain ⟨b, o, rfl, hDb, hb⟩ := hat (by omega)
      obtain ⟨a', c', k0, k1, hr, hlc', hcm', hat'⟩ := RdRules.cells (RdRules.below H.out Hb.out) hlt
      have Hr := Lib.hid hr
      have Hd := Lib.hid (which_drop x rs k hlt)
      have Hrok := Lib.hid (Hok.out.rules _ (List.getElem_mem hlt))
      have HC := Lib.hid hc2
      clear hr hc1 hc2 hat'
      go_wp2_with fail
      refine (containsFunc_any _ rs[k].conds x (w.heap.size + 1) D _ (RdConds.below Hr.out (bel_alloc (Below.refl _ _) _)) Hrok.out.conds (fun j => (World.cell?_alloc_lt _ _ ⟨w.heap.size + 1, j, none⟩ (show w.heap.size + 1 < wr.heap.size by omega)).trans (HC.out j)) (by simp; omega)).mono ?_
      rintro e w1 ⟨rfl, hb1⟩
      have hb2 : Below (w.heap.size + 2) wr w1 := ((Below.refl _ _).alloc (by omega) _).trans (hb1.mono (by simp; omega))
      have Hb1 := Lib.hid (hbx.trans hb2)
      clear hb1 hb2
      cases hh : allHold x rs[k].conds with
      | true =>
        have Hn := Lib.hid (show which x rs = k by rw [Hgo.out, Hd.out, if_pos hh]; omega)
        clear hh
        go_wp2
        go_ret
        exact ⟨ret_int (by rw [Hn.out]), bel_box2 Hb1.out⟩
      | false =>
        have Hn := Lib.hid (show which x rs = (k + 1 : Nat) + which x (rs.drop (k + 1)) by rw [Hgo.out, Hd.out, hh]; simp; omega)
        clear hh
        go_wp2
        go_roundw
        case rel => exact ⟨k + 1, by omega, by go_num, Hn.out, Hb1.out⟩
        case measure => simp [intOf]; omega
    · obtain rfl : k = rs.length := by omega
      have Hn := Lib.hid (show which x rs = rs.length by rw [Hgo.out, List.drop_length]; rfl)
      go_wp2
      go_ret
      exact ⟨ret_int (by rw [Hn.out]), Hb.out⟩
end Go.Proofs.YtioeliocdbckbaaGreatDoor
namespace Go.Proofs.YtioeliocdbckbaaGreatDoor
open Go.RowKit

/-- the two boxes of Judge, kept. -/
theorem box2_step {w wr w1 : World} {o o' : Obj} (hb : Below (w.heap.size + 2) ((w.alloc o).alloc o') wr) (h1 : Below wr.heap.size wr w1) : Below (w.heap.size + 2) ((w.alloc o).alloc o') w1 := hb.trans (h1.mono (size_box2 hb))

set_option maxHeartbeats 4000000 in
theorem judge_any (v : Value) (p : TPol) (x : TCall) (D : Nat → Prop) (w : World) (h : RdRules w D v p.rules) :
    Calls Tryz.prog 18 #[polV v p.dflt, callV x] w fun e w' => e = .returned (.tuple #[.int .i64 (judgeE p x).1, .int .i64 (judgeE p x).2.1, .int .i64 (judgeE p x).2.2]) ∧ Below w.heap.size w w' := by
  have H := Lib.hid h
  obtain ⟨a, c, rfl, hlc, hcm, hat⟩ := Sl.form h
  clear h
  by_cases hp : polE p = 0
  · have Hp := Lib.hid hp
    by_cases hx : x.ok
    · have e : judgeE p x = ((judged p x).1, ((judged p x).2 : Int), 0) := by unfold judgeE; rw [if_neg (by omega), if_pos hx]
      have hxe : Hid (callE x = 0) := if_pos hx
      have Hle := Lib.hid (which_le x p.rules)
      rw [e]
      clear e hp hx
      go_enter Tryz.func18, Tryz.ntmps18
      go_wp2_with fail
      refine (polcheck_any _ p D _ (RdRules.below H.out (bel_alloc (bel_alloc (Below.refl _ _) _) _))).mono ?_
      rw [Hp.out]
      rintro e w1 ⟨rfl, hb1⟩
      have hb1' : Below (w.heap.size + 2) _ w1 := hb1.mono (by simp)
      obtain ⟨hc1, hc2⟩ := box2_cells hb1'
      clear hb1
      go_wp2_with fail
      refine (callcheck_any x _).mono ?_
      rw [hxe.out]
      rintro e w2 ⟨rfl, hb2⟩
      have hb2' := box2_step hb1' hb2
      clear hc1 hc2 hb1' hb2
      obtain ⟨hc1, hc2⟩ := box2_cells hb2'
      go_wp2_with fail
      refine (which_any _ p x D _ (RdRules.below H.out (bel_box2 hb2')) ((okPol_iff p).1 Hp.out)).mono ?_
      rintro e w3 ⟨rfl, hb3⟩
      have hb3' := box2_step hb2' hb3
      clear hc1 hc2 hb2' hb3
      obtain ⟨hc1, hc2⟩ := box2_cells hb3'
      have Hb := Lib.hid (bel_box2 hb3')
      have hsz := size_box2 hb3'
      by_cases hw : which x p.rules = p.rules.length
      · have hj : Hid (judged p x = (p.dflt, p.rules.length)) := by
          show judged p x = _
          unfold judged verdictAt
          rw [hw, List.getElem?_eq_none (Nat.le_refl _)]
        have b0 : ((which x p.rules : Int) == (p.rules.length : Int)) = true := beq_iff_eq.2 (by omega)
        have b1 : (which x p.rules == p.rules.length) = true := beq_iff_eq.2 hw
        have Hw := Lib.hid hw
        clear hw
        go_wp2
        go_ret3
        exact ⟨by rw [hj.out, Hw.out]; rfl, Hb.out⟩
      · have hlt : which x p.rules < p.rules.length := by have := Hle.out; omega
        have hj : Hid (judged p x = (p.rules[which x p.rules].verdict, which x p.rules)) := by
          show judged p x = _
          unfold judged verdictAt
          rw [List.getElem?_eq_getElem hlt]
        have b0 : ((which x p.rules : Int) == (p.rules.length : Int)) = false := beq_eq_false_iff_ne.2 (by omega)
        have b1 : (which x p.rules == p.rules.length) = false := beq_eq_false_iff_ne.2 hw
        obtain ⟨b, o, rfl, hDb, hbb⟩ := hat (by omega)
        obtain ⟨a', c', k0, k1, hr, hlc', hcm', hat'⟩ := RdRules.cells (RdRules.below H.out Hb.out) hlt
        clear hw hr hat' k0
        go_wp2
        go_ret3
        exact ⟨by rw [hj.out]; rfl, Hb.out⟩
    · have e : judgeE p x = (0, 0, 3) := by unfold judgeE; rw [if_neg (by omega), if_neg hx]
      have hxe : Hid (callE x = 3) := if_neg hx
      rw [e]
      clear e hp hx
      go_enter Tryz.func18, Tryz.ntmps18
      go_wp2_with fail
      refine (polcheck_any _ p D _ (RdRules.below H.out (bel_alloc (bel_alloc (Below.refl _ _) _) _))).mono ?_
      rw [Hp.out]
      rintro e w1 ⟨rfl, hb1⟩
      have hb1' : Below (w.heap.size + 2) _ w1 := hb1.mono (by simp)
      obtain ⟨hc1, hc2⟩ := box2_cells hb1'
      clear hb1
      go_wp2_with fail
      refine (callcheck_any x _).mono ?_
      rw [hxe.out]
      rintro e w2 ⟨rfl, hb2⟩
      have hb2' := box2_step hb1' hb2
      clear hc1 hc2 hb1' hb2
      go_wp2
      go_ret3
      exact ⟨rfl, bel_box2 hb2'⟩
  · have e : judgeE p x = (0, 0, polE p) := by unfold judgeE; rw [if_pos hp]
    have d : (polE p != 0) = true := bne_iff_ne.2 hp
    rw [e]
    clear e hp
    go_enter Tryz.func18, Tryz.ntmps18
    go_wp2_with fail
    refine (polcheck_any _ p D _ (RdRules.below H.out (bel_alloc (bel_alloc (Below.refl _ _) _) _))).mono ?_
    rintro e w1 ⟨rfl, hb1⟩
    have hb1' : Below (w.heap.size + 2) _ w1 := hb1.mono (by simp)
    clear hb1
    go_wp2
    go_ret3
    exact ⟨rfl, bel_box2 hb1'⟩
end Go.Proofs.YtioeliocdbckbaaGreatDoor
namespace Go.Proofs.YtioeliocdbckbaaGreatDoor
open Go.RowKit

/-- two policies, side by side in a block. -/
theorem two_pols {W : World} {b : Nat} {T : TypeId} {D : Nat → Prop} {u v : Value} {p q : TPol} (hb : W.heap[b]? = some (.cells #[u, .int .i64 p.dflt, v, .int .i64 q.dflt] T)) (hp : RdRules W D u p.rules) (hq : RdRules W D v q.rules) (hD : D b) : RdPols W D (.slice (some ⟨b, 0, none⟩) 2 2) [p, q] :=
  sl_block (xs := [p, q]) (rows := [[u, .int .i64 p.dflt], [v, .int .i64 q.dflt]]) (RowsOf.cons (RowsOf.cons RowsOf.nil ⟨_, rfl, hq⟩ rfl) ⟨_, rfl, hp⟩ rfl) hb rfl hD (by simp [maxLen])
theorem one_pol {W : World} {b : Nat} {T : TypeId} {D : Nat → Prop} {u : Value} {p : TPol} (hb : W.heap[b]? = some (.cells #[u, .int .i64 p.dflt] T)) (hp : RdRules W D u p.rules) (hD : D b) : RdPols W D (.slice (some ⟨b, 0, none⟩) 1 1) [p] :=
  sl_block (xs := [p]) (rows := [[u, .int .i64 p.dflt]]) (RowsOf.cons RowsOf.nil ⟨_, rfl, hp⟩ rfl) hb rfl hD (by simp [maxLen])
theorem condCuts_len (f : Int) (c : TCond) : (condCuts f c).length ≤ 2 := by unfold condCuts; split <;> (try split) <;> simp
theorem flatMap_len {α β : Type} (g : α → List β) (m : Nat) : ∀ l : List α, (∀ x ∈ l, (g x).length ≤ m) → (l.flatMap g).length ≤ l.length * m
  | [], _ => by simp
  | x :: l, h => by
    have h1 := h x (List.mem_cons_self ..)
    have h2 := flatMap_len g m l (fun y hy => h y (List.mem_cons_of_mem _ hy))
    rw [List.flatMap_cons, List.length_append, List.length_cons, Nat.add_mul]; omega
theorem polCuts_len {p : TPol} (h : OkPol p) (f : Int) : (polCuts f p).length ≤ 2400 := by
  have h1 : ∀ r ∈ p.rules, (ruleCuts f r).length ≤ 20 := fun r hr => by
    have := flatMap_len (condCuts f) 2 r.conds (fun c _ => condCuts_len f c)
    have := (h.rules r hr).len
    show (r.conds.flatMap (condCuts f)).length ≤ 20
    omega
  have := flatMap_len (ruleCuts f) 20 p.rules h1
  have := h.len
  show (p.rules.flatMap (ruleCuts f)).length ≤ 2400
  omega
theorem vals_len {l : List TPol} (h : polsE l = 0) (hl : l.length ≤ 2) (f : Int) : (cutVals l f).length * 8 ≤ 140737488355328 := by
  have h1 := flatMap_len (polCuts f) 2400 l (fun p hp => polCuts_len ((polsE_iff l).1 h p hp) f)
  unfold cutVals
  simp only [List.length_cons]
  have : l.length * 2400 ≤ 2 * 2400 := Nat.mul_le_mul_right _ hl
  omega
theorem find_drop (g : TCall → Bool) (l : List TCall) (k : Nat) (h : k < l.length) : (l.drop k).find? g = if g l[k] then some l[k] else (l.drop (k + 1)).find? g := by
  rw [List.drop_eq_getElem_cons h, List.find?_cons]
  cases g l[k] <;> rfl
theorem judgeE_says {p : TPol} (h : OkPol p) {x : TCall} (hx : x.ok) : judgeE p x = (says p x, ((judged p x).2 : Int), 0) := by
  unfold judgeE
  rw [if_neg (by rw [(okPol_iff p).2 h]; simp), if_pos hx]
  rfl

set_option maxRecDepth 100000 in
set_option maxHeartbeats 8000000 in
theorem looser_any (u v : Value) (p q : TPol) (w : World) (hp : RdRules w (fun _ => True) u p.rules) (hq : RdRules w (fun _ => True) v q.rules) :
    Calls Tryz.prog 11 #[polV u p.dflt, polV v q.dflt] w fun e w' => e = .returned (.tuple #[.bool (looserE p q).1, callV (looserE p q).2.1, .int .i64 (looserE p q).2.2]) ∧ Below w.heap.size w w' := by
  have Hp := Lib.hid hp
  have Hq := Lib.hid hq
  obtain ⟨ap, cp, rfl, _⟩ := Sl.form hp
  obtain ⟨aq, cq, rfl, _⟩ := Sl.form hq
  clear hp hq
  go_enter Tryz.func11, Tryz.ntmps11
  go_wp2_with fail
  refine (points_any _ [p, q] (fun _ => True) _ (two_pols (blk_at (by simp)) (Hp.out.below (bel_alloc (bel_alloc (bel_alloc (bel_alloc (Below.refl _ _) _) _) _) _)) (Hq.out.below (bel_alloc (bel_alloc (bel_alloc (bel_alloc (Below.refl _ _) _) _) _) _)) trivial) (fun h0 f _ _ => vals_len h0 (by simp) f)).mono ?_
  rintro e w1 ⟨v1, rfl, ho1, hb1⟩
  have HB1 := Lib.hid (Bx.three.below ((bel_alloc (Below.refl _ _) _).trans (hb1.mono (by simp))))
  have Ho1 := Lib.hid ho1
  obtain ⟨a1, c1, rfl⟩ := ho1.slice
  clear ho1 hb1
  by_cases h0 : (pointsE [p, q]).2 = 0
  · obtain ⟨hok, hsz5, hpe⟩ := pointsE_ok h0
    have HL : Hid (looserE p q = looserGo ((stage [p, q] 5).find? (looserAt p q))) := by
      refine looserE_eq (p := p) (q := q) ?_
      unfold looserE
      rw [if_neg (by rw [h0]; simp)]
      split <;> rfl
    have Hok := Lib.hid hok
    have HokP := Lib.hid (hok p (by simp))
    have HokQ := Lib.hid (hok q (by simp))
    rw [hpe] at Ho1 ⊢
    have Hl1 : Hid (RdCalls w1 (fun _ => True) (.slice a1 (stage [p, q] 5).length c1) (stage [p, q] 5)) := Ho1.out.sl (fun _ _ => trivial)
    have hSl : (stage [p, q] 5).length ≤ 1000 := by rw [stage_length]; assumption
    have Hpo := Lib.hid (fun x (hx : x ∈ stage [p, q] 5) => point_ok hok hx)
    obtain ⟨S, hS⟩ : ∃ S, S = stage [p, q] 5 := ⟨_, rfl⟩
    rw [← hS] at Hl1 HL Hpo hSl ⊢
    have hat := fun h0 => Sl.at_ Hl1.out h0
    clear h0 hok hpe hS Ho1 hsz5
    go_wp2_with fail
    go_loopw [30] (fun kv wr => ∃ k : Nat, kv = .int .i64 k ∧ k ≤ S.length ∧ (S.drop k).find? (looserAt p q) = S.find? (looserAt p q) ∧ Below w1.heap.size w1 wr) (fun kv _ => S.length - (intOf kv).toNat)
    case atStart => exact ⟨0, rfl, Nat.zero_le _, rfl, Below.refl _ _⟩
    case round =>
      obtain ⟨k, rfl, hk, hfd, hb⟩ := hrel
      have Hfd := Lib.hid hfd
      have Hb := Lib.hid hb
      have hszr := hb.size
      have HBr := Lib.hid (HB1.out.below hb)
      have hc0 := HBr.out.cells0
      have hc1 := HBr.out.cells1
      clear hfd hb
      by_cases hlt : k < S.length
      · obtain ⟨b, o, rfl, _, hblt⟩ := hat (by omega)
        obtain ⟨h0c, h1c, h2c, h3c, h4c⟩ := RdCalls.cells (Hl1.out.below Hb.out) hlt
        have Hs := Lib.hid (find_drop (looserAt p q) S k hlt)
        have Hxo := Lib.hid (Hpo.out S[k] (List.getElem_mem hlt))
        obtain ⟨x, hx⟩ : ∃ x, S[k] = x := ⟨_, rfl⟩
        rw [hx] at h0c h1c h2c h3c h4c Hs Hxo
        have HJp := Lib.hid (judgeE_says HokP.out Hxo.out)
        have HJq := Lib.hid (judgeE_says HokQ.out Hxo.out)
        have HBa := Lib.hid (HBr.out.alloc (.cells (callArr x) 26))
        have Hxb : Hid ((wr.alloc (.cells (callArr x) 26)).heap[wr.heap.size]? = some (.cells (callArr x) 26)) := heap_last _ _
        have hc0' := HBa.out.cells0
        have hcx' := cells_of Hxb.out
        clear hx hc0 hc1
        go_wp2_with fail
        refine (judge_any _ p x _ _ (Hp.out.below HBa.out.bel)).mono ?_
        rw [HJp.out]
        rintro e w2 ⟨rfl, hb2⟩
        have HB2 := Lib.hid (HBa.out.below hb2)
        have Hx2 := Lib.hid (blk_below Hxb.out hb2)
        have Hbb2 := Lib.hid (bel_alloc_call (Hb.out.mono (Nat.le_refl _)) hb2)
        have hc1 := HB2.out.cells1
        have hcx := cells_of Hx2.out
        clear hb2 hc0' hcx' h0c h1c h2c h3c h4c
        go_wp2_with fail
        refine (judge_any _ q x _ _ (Hq.out.below HB2.out.bel)).mono ?_
        rw [HJq.out]
        rintro e w3 ⟨rfl, hb3⟩
        have HB3 := Lib.hid (HB2.out.below hb3)
        have Hx3 := Lib.hid (blk_below Hx2.out hb3)
        have Hbb3 := Lib.hid (bel_call Hbb2.out hb3)
        clear hb3 hc1 hcx
        by_cases hgt : says q x < says p x
        · have hd : decide (says q x < says p x) = true := decide_eq_true hgt
          have HR : Hid (looserE p q = (true, x, 0)) := by
            show looserE p q = _
            rw [HL.out, ← Hfd.out, Hs.out, if_pos (by unfold looserAt; exact hd)]
            rfl
          have hcx := cells_of Hx3.out
          have hc2 := HB3.out.cells2
          have hf2 : ∀ j, w3.frozen? ⟨w.heap.size + 1 + 1, j, none⟩ = false := fun j => HB3.out.free (i := 2) rfl j
          clear hgt
          go_wp2_with fail
          go_region
          have HBf := Lib.hid ((HB3.out.setCall2 (x := ⟨0, 0, 0, 0, 0⟩) (y := x)).drew)
          have hcf := HBf.out.cells2
          go_wp2
          refine bodyPost_ret (v := .tuple #[.bool true, callV x, .int .i64 0]) ?_ rfl ⟨by rw [HR.out], HBf.out.bel⟩
          simp [results, Tryz.results11, go_sem, hcf]
        · have hd : decide (says q x < says p x) = false := decide_eq_false hgt
          have HR : Hid ((S.drop (k + 1)).find? (looserAt p q) = S.find? (looserAt p q)) := by
            show _ = _
            have := Hs.out
            rw [if_neg (by unfold looserAt; rw [hd]; simp), Hfd.out] at this
            exact this.symm
          clear hgt
          go_wp2
          go_roundw
          case rel => exact ⟨k + 1, by go_num, by omega, HR.out, Hbb3.out⟩
          case measure => simp [intOf]; omega
      · obtain rfl : k = S.length := by omega
        have HR : Hid (looserE p q = (false, zeroCall, 0)) := by
          show looserE p q = _
          rw [HL.out, ← Hfd.out, List.drop_length]
          rfl
        have hc2 := HBr.out.cells2
        have hf2 : ∀ j, wr.frozen? ⟨w.heap.size + 1 + 1, j, none⟩ = false := fun j => HBr.out.free (i := 2) rfl j
        clear hc0 hc1
        have HBf := Lib.hid (HBr.out.setCall2 (x := ⟨0, 0, 0, 0, 0⟩) (y := ⟨0, 0, 0, 0, 0⟩))
        have hcf := HBf.out.cells2
        go_wp2
        refine bodyPost_ret (v := .tuple #[.bool false, callV ⟨0, 0, 0, 0, 0⟩, .int .i64 0]) ?_ rfl ⟨by rw [HR.out]; rfl, HBf.out.bel⟩
        simp [results, Tryz.results11, go_sem, hcf]
  · have HL : Hid (looserE p q = (false, zeroCall, (pointsE [p, q]).2)) := by
      show looserE p q = _
      unfold looserE
      rw [if_pos h0]
    have hb0 : ((pointsE [p, q]).2 != 0) = true := bne_iff_ne.2 h0
    have hc2 := HB1.out.cells2
    have hf2 : ∀ j, w1.frozen? ⟨w.heap.size + 1 + 1, j, none⟩ = false := fun j => HB1.out.free (i := 2) rfl j
    clear h0
    have HBf := Lib.hid (HB1.out.setCall2 (x := ⟨0, 0, 0, 0, 0⟩) (y := ⟨0, 0, 0, 0, 0⟩))
    have hcf := HBf.out.cells2
    go_wp2
    refine bodyPost_ret (v := .tuple #[.bool false, callV ⟨0, 0, 0, 0, 0⟩, .int .i64 (pointsE [p, q]).2]) ?_ rfl ⟨by rw [HL.out]; rfl, HBf.out.bel⟩
    simp [results, Tryz.results11, go_sem, hcf]

set_option maxRecDepth 100000 in
set_option maxHeartbeats 4000000 in
theorem alike_any (u v : Value) (p q : TPol) (w : World) (hp : RdRules w (fun _ => True) u p.rules) (hq : RdRules w (fun _ => True) v q.rules) :
    Calls Tryz.prog 13 #[polV u p.dflt, polV v q.dflt] w fun e w' => e = .returned (.tuple #[.bool (alikeE p q).1, .int .i64 (alikeE p q).2]) ∧ Below w.heap.size w w' := by
  have Hp := Lib.hid hp
  have Hq := Lib.hid hq
  obtain ⟨ap, cp, rfl, _⟩ := Sl.form hp
  obtain ⟨aq, cq, rfl, _⟩ := Sl.form hq
  obtain ⟨⟨A1, A2, A3⟩, hA⟩ : ∃ A, looserE p q = A := ⟨_, rfl⟩
  obtain ⟨⟨B1, B2, B3⟩, hB⟩ : ∃ B, looserE q p = B := ⟨_, rfl⟩
  have HA := Lib.hid hA
  have HB := Lib.hid hB
  have HE : Hid (alikeE p q = if A3 ≠ 0 then (false, A3) else (!A1 && !B1, B3)) := by show alikeE p q = _; unfold alikeE; rw [hA, hB]
  clear hp hq hA hB
  go_enter Tryz.func13, Tryz.ntmps13
  go_wp2_with fail
  refine (looser_any _ _ p q _ (Hp.out.below (bel_alloc (bel_alloc (Below.refl _ _) _) _)) (Hq.out.below (bel_alloc (bel_alloc (Below.refl _ _) _) _))).mono ?_
  rw [HA.out]
  rintro e w1 ⟨rfl, hb1⟩
  have HB1 := Lib.hid (Bx.two.below hb1)
  have hc0 := HB1.out.cells0
  have hc1 := HB1.out.cells1
  clear hb1
  have HB2 := Lib.hid (HB1.out.alloc (.cells (callArr A2) 26))
  have hc0' := HB2.out.cells0
  have hc1' := HB2.out.cells1
  clear hc0 hc1
  by_cases h0 : A3 = 0
  · subst h0
    go_wp2_with fail
    refine (looser_any _ _ q p _ (Hq.out.below HB2.out.bel) (Hp.out.below HB2.out.bel)).mono ?_
    rw [HB.out]
    rintro e w2 ⟨rfl, hb2⟩
    have HB3 := Lib.hid (HB2.out.below hb2)
    clear hb2 hc0' hc1'
    have HR : Hid (alikeE p q = (!A1 && !B1, B3)) := by show alikeE p q = _; rw [HE.out, if_neg (by simp)]
    cases A1 <;> cases B1
    all_goals
      go_wp2
      go_ret2
      rw [HR.out]
      exact ⟨rfl, HB3.out.bel.trans ((bel_alloc (Below.refl _ _) _).mono HB3.out.bel.size)⟩
  · have hb0 : (A3 != 0) = true := bne_iff_ne.2 h0
    have HR : Hid (alikeE p q = (false, A3)) := by show alikeE p q = _; rw [HE.out, if_pos h0]
    clear h0
    go_wp2
    go_ret2
    rw [HR.out]
    exact ⟨rfl, HB2.out.bel⟩
end Go.Proofs.YtioeliocdbckbaaGreatDoor
namespace Go.Proofs.YtioeliocdbckbaaGreatDoor
open Go.RowKit Go.Maps
attribute [local go_sem] gives givesUpon

/-- which rules are used, as the map has it. -/
def usedF (ks : List Nat) (z : Int) : Bool := ks.any fun i => decide ((i : Int) = z)
theorem usedF_nil : usedF [] = fun _ => false := rfl
theorem usedF_snoc (ks : List Nat) (k : Nat) : usedF (ks ++ [k]) = fun t => if t = (k : Int) then true else usedF ks t := by
  funext t
  unfold usedF
  rw [List.any_append]
  by_cases e : t = (k : Int)
  · subst e; simp
  · rw [if_neg e]
    have : decide ((k : Int) = t) = false := decide_eq_false (fun h => e h.symm)
    simp [this]
theorem usedF_at (ks : List Nat) (k : Nat) : usedF ks (k : Int) = ks.contains k := by
  unfold usedF
  rw [Bool.eq_iff_iff, List.any_eq_true, List.contains_iff_mem]
  constructor
  · rintro ⟨x, hx, e⟩
    have : (x : Int) = k := of_decide_eq_true e
    have : x = k := by omega
    subst this; exact hx
  · intro h; exact ⟨k, h, by simp⟩
theorem usedBy_take {p : TPol} {L : List TCall} {k : Nat} (h : k < L.length) : usedBy p (L.take (k + 1)) = usedBy p (L.take k) ++ [which L[k] p.rules] := by
  unfold usedBy
  rw [List.take_succ_eq_append_getElem h, List.map_append]
  rfl
/-- what the region of Short makes. -/
def shortG (w0 : World) (cs : List TCond) (vd : Int) (k : Nat) (vf : Nat → Value) (W : World) : Prop :=
  if k = 4 then OwnSl W w0.heap.size 84 3 condR (vf 4) cs else if k = 7 then OwnSl W w0.heap.size 84 3 condR (vf 4) cs else if k = 8 then NewRow w0.heap.size 58 1 #[vf 4, .int .i64 vd] (vf 8) W ∧ OwnSl W w0.heap.size 84 3 condR (vf 4) cs else True
theorem shortG_keep {w0 w w' : World} {cs : List TCond} {vd : Int} {k : Nat} {vf : Nat → Value} (hb : ∀ b, w0.heap.size ≤ b → b < w.heap.size → w'.heap[b]? = w.heap[b]?) (h : shortG w0 cs vd k vf w) : shortG w0 cs vd k vf w' := by
  unfold shortG at h ⊢
  split
  · rename_i e; rw [if_pos e] at h; exact h.keepFrom hb
  · rename_i e
    rw [if_neg e] at h
    split
    · rename_i e2; rw [if_pos e2] at h; exact h.keepFrom hb
    · rename_i e2
      rw [if_neg e2] at h
      split
      · rename_i e3; rw [if_pos e3] at h; exact ⟨h.1.keep hb, h.2.keepFrom hb⟩
      · trivial
/-- a world but for one block. -/
structure SameBut (β : Nat) (w w' : World) : Prop where
  os : w'.os = w.os
  tape : w'.tape = w.tape
  output : w'.output = w.output
  size : w.heap.size ≤ w'.heap.size
  blk : ∀ b, b < w.heap.size → b ≠ β → w'.heap[b]? = w.heap[b]?
theorem SameBut.refl (β : Nat) (w : World) : SameBut β w w := ⟨rfl, rfl, rfl, Nat.le_refl _, fun _ _ _ => rfl⟩
theorem SameBut.below {β : Nat} {w w' w'' : World} (h : SameBut β w w') (hb : Below w'.heap.size w' w'') : SameBut β w w'' := ⟨hb.os.trans h.os, hb.tape.trans h.tape, hb.output.trans h.output, Nat.le_trans h.size hb.size, fun b hl hn => (hb.block b (Nat.lt_of_lt_of_le hl h.size)).trans (h.blk b hl hn)⟩
theorem SameBut.set {β o : Nat} {v : Value} {w w' : World} (h : SameBut β w w') : SameBut β w (w'.setCell ⟨β, o, none⟩ v) := ⟨h.os, h.tape, h.output, by rw [set_size]; exact h.size, fun b hl hn => by rw [set_other (by exact hn)]; exact h.blk b hl hn⟩
theorem SameBut.bel {β B : Nat} {w w' : World} (h : SameBut β w w') (hB : B ≤ β) (hs : B ≤ w.heap.size) : Below B w w' := ⟨h.os, h.tape, h.output, h.size, fun b hl => h.blk b (by omega) (by omega)⟩

set_option maxRecDepth 100000 in
set_option maxHeartbeats 16000000 in
theorem short_any (u : Value) (p : TPol) (w : World) (hp : RdRules w (fun _ => True) u p.rules) :
    Calls Tryz.prog 26 #[polV u p.dflt] w fun e w' => ∃ r, e = .returned (.tuple #[polV r (shortE p).1.dflt, .int .i64 (shortE p).2]) ∧ RdRules w' (fun b => w.heap.size ≤ b ∧ NotPol w' b) r (shortE p).1.rules ∧ Below w.heap.size w w' := by
  have Hp := Lib.hid hp
  obtain ⟨ap, cp, rfl, _⟩ := Sl.form hp
  clear hp
  have hmm := @run_makeMap Tryz.prog
  go_enter Tryz.func26, Tryz.ntmps26
  go_wp2_with fail
  have HB := Lib.hid (Bx.three (w := w) (o := .cells #[.slice ap p.rules.length cp, .int .i64 p.dflt] 24) (o' := .cells #[.slice none 0 0, .int .i64 0] 24) (o2 := .cells #[.slice ap p.rules.length cp, .int .i64 p.dflt] 24))
  refine (points_any _ [p] (fun _ => True) _ (one_pol (blk_at (by simp)) (Hp.out.below HB.out.bel) trivial) (fun h0 f _ _ => vals_len h0 (by simp) f)).mono ?_
  rintro e w1 ⟨v1, rfl, ho1, hb1⟩
  have HB1 := Lib.hid (HB.out.below hb1)
  have hs1 : w.heap.size + 3 ≤ w1.heap.size := HB1.out.top
  have Ho1 := Lib.hid ho1
  obtain ⟨a1, c1, rfl⟩ := ho1.slice
  clear ho1 hb1
  by_cases h0 : (pointsE [p]).2 = 0
  · obtain ⟨hok, hsz5, hpe⟩ := pointsE_ok h0
    have HE : Hid (shortE p = (shortPol p, 0)) := shortE_of (hok p (by simp)) hsz5
    have HokP := Lib.hid (hok p (by simp))
    have hlp := HokP.out.len
    rw [hpe] at Ho1 ⊢
    dsimp only at Ho1 ⊢
    have Hl1 : Hid (RdCalls w1 (fun _ => True) (.slice a1 (stage [p] 5).length c1) (stage [p] 5)) := Ho1.out.sl (fun _ _ => trivial)
    have hSl : (stage [p] 5).length ≤ 1000 := by rw [stage_length]; assumption
    have Hpo := Lib.hid (fun x (hx : x ∈ stage [p] 5) => point_ok hok hx)
    have HSP : Hid (shortPol p = ⟨trimD p.dflt (usedRules (usedBy p (stage [p] 5)) p.rules 0), p.dflt⟩) := rfl
    obtain ⟨S, hS⟩ : ∃ S, S = stage [p] 5 := ⟨_, rfl⟩
    rw [← hS] at Hl1 Hpo hSl HSP ⊢
    have hat := fun h0 => Sl.at_ Hl1.out h0
    clear h0 hok hpe hS Ho1 hsz5
    go_wp2_with fail
    clear hmm
    go_loopw [29] (fun kv wr => ∃ k : Nat, kv = .int .i64 k ∧ k ≤ S.length ∧ BoolMap wr w1.heap.size k (usedF (usedBy p (S.take k))) ∧ Below w1.heap.size w1 wr) (fun kv _ => S.length - (intOf kv).toNat)
    case atStart => exact ⟨0, rfl, Nat.zero_le _, BoolMap.made w1, bel_alloc (Below.refl _ _) _⟩
    case round =>
      obtain ⟨k, rfl, hk, hm, hb⟩ := hrel
      have Hm := Lib.hid hm
      have Hb := Lib.hid hb
      have hszr := hb.size
      have HBr := Lib.hid (HB1.out.below hb)
      have hc0 := HBr.out.cells0
      clear hm hb
      by_cases hlt : k < S.length
      · obtain ⟨b, o, rfl, _, hblt⟩ := hat (by omega)
        obtain ⟨h0c, h1c, h2c, h3c, h4c⟩ := RdCalls.cells (Hl1.out.below Hb.out) hlt
        have Hxo := Lib.hid (Hpo.out S[k] (List.getElem_mem hlt))
        have Hut := Lib.hid (usedBy_take (p := p) hlt)
        obtain ⟨x, hx⟩ : ∃ x, S[k] = x := ⟨_, rfl⟩
        rw [hx] at h0c h1c h2c h3c h4c Hxo Hut
        have Hwl := Lib.hid (which_le x p.rules)
        have HBx := Lib.hid (HBr.out.alloc (.cells #[.int .i64 x.a0, .int .i64 x.a1, .int .i64 x.a2, .int .i64 x.a3, .int .i64 x.a4] 26))
        have hc0' := HBx.out.cells0
        clear hx
        go_wp2_with fail
        clear h0c h1c h2c h3c h4c hc0'
        refine (judge_any _ p x (fun _ => True) _ (Hp.out.below HBx.out.bel)).mono ?_
        rw [judgeE_says HokP.out Hxo.out]
        rintro e w3 ⟨rfl, hb3⟩
        have Hm3 := Lib.hid ((Hm.out.below (bel_alloc (Below.refl _ _) _)).below hb3)
        have Hb3 := Lib.hid ((Hb.out.trans ((bel_alloc (Below.refl wr.heap.size wr) _).mono hszr)).trans (hb3.mono (by simp; omega)))
        obtain ⟨wi, hwi⟩ : ∃ wi, which x p.rules = wi := ⟨_, rfl⟩
        have hj : (judged p x).2 = wi := by rw [← hwi]; rfl
        rw [hwi] at Hut Hwl
        rw [hj]
        have hwl := Hwl.out
        clear hb3 hwi hj
        go_wp2_with (at_mapUpdate; refine wpList_putBool rfl _ _ _ rfl w1.heap.size k _ rfl Hm3.out (by unfold maxLen; omega) (wi : Int) (by omega) (by omega) true rfl rfl ?_; intro w5 hm5 hg5; have Hm5 := Lib.hid hm5; have Hb5 := Lib.hid (Below.grown Hb3.out hg5 Hb3.out.size (fun g hg => by injection hg with hg; omega)); clear hm5 hg5)
        go_roundw
        case rel => exact ⟨k + 1, by go_num, by omega, by rw [Hut.out, usedF_snoc]; exact Hm5.out, Hb5.out⟩
        case measure => simp [intOf]; omega
      · obtain rfl : k = S.length := by omega
        obtain ⟨wo, rfl⟩ : ∃ wo : World, wo = wr := ⟨_, rfl⟩
        rw [List.take_length] at Hm
        have hbm : w1.heap.size < wo.heap.size := Hm.out.lt
        obtain ⟨ks, hks⟩ : ∃ ks, usedBy p S = ks := ⟨_, rfl⟩
        rw [hks] at Hm HSP
        have HBS := Lib.hid (HBr.out.alloc (.cells #[.slice none 0 0, .int .i64 p.dflt] 24))
        have HboxS := Lib.hid (heap_last wo (.cells #[.slice none 0 0, .int .i64 p.dflt] 24))
        have HmS := Lib.hid (Hm.out.below (bel_alloc (Below.refl _ _) (.cells #[.slice none 0 0, .int .i64 p.dflt] 24)))
        have hcS := HBS.out.cells0
        obtain ⟨i0, hi, hz0, hz1, hz2⟩ := info_parts infocRule
        have Hi := Lib.hid hi
        clear hks hi
        go_wp2_with fail
        clear hcS hc0
        go_loopw [49] (fun kv wk => ∃ (k : Nat) (pk : Value), kv = .int .i64 k ∧ k ≤ p.rules.length ∧ GatherI (wo.heap.size + 1) wo.heap.size (.int .i64 p.dflt) (wo.alloc (.cells #[.slice none 0 0, .int .i64 p.dflt] 24)) (.slice none 0 0) wk pk (usedRules ks (p.rules.take k) 0)) (fun kv _ => p.rules.length - (intOf kv).toNat)
        case atStart => exact ⟨0, _, rfl, by omega, GatherI.start HboxS.out OwnSl.nil⟩
        case round =>
          obtain ⟨k, pv, rfl, hk, hG⟩ := hrel
          obtain ⟨wk, rfl⟩ : ∃ wk : World, wk = wr := ⟨_, rfl⟩
          have HG := Lib.hid hG
          clear hG
          have hszk : wo.heap.size + 1 ≤ wk.heap.size := by have := HG.out.size; simpa using this
          have HBk : Hid (Bx w [.cells #[.slice ap p.rules.length cp, .int .i64 p.dflt] 24, .cells #[.slice none 0 0, .int .i64 0] 24, .cells #[.slice ap p.rules.length cp, .int .i64 p.dflt] 24] wk) := HBS.out.lift (B := w.heap.size + 3) (HG.out.belowB (Below.refl _ _) (by simp; omega) (by omega) (fun g hg => by simp [Value.ownBlock] at hg)) (by simp)
          by_cases hlt : k < p.rules.length
          · have Hpk := Lib.hid ((rules_lt Hp.out).below HBk.out.bel)
            obtain ⟨ba, oa, rfl, hDa, hba⟩ := Sl.at_ Hpk.out (by omega)
            obtain ⟨ca, cca, hca0, hca1, hra, hla, hma, _⟩ := RdRules.cells Hpk.out hlt
            have Hkr := Lib.hid (HokP.out.rules p.rules[k] (List.getElem_mem hlt))
            have Htk := Lib.hid (used_take (ks := ks) hlt)
            obtain ⟨ra, hrae⟩ : ∃ ra, p.rules[k] = ra := ⟨_, rfl⟩
            rw [hrae] at hca0 hca1 hra hla Hkr Htk
            have Hra := Lib.hid hra
            have hcl := Hkr.out.len
            have Hmk : Hid (BoolMap wk w1.heap.size S.length (usedF ks)) := HmS.out.keep (HG.out.blk w1.heap.size (by simp; omega) (by omega) (by simp [Value.ownBlock]))
            have hlk := ((Hmk.out.below (bel_alloc (Below.refl _ _) (.cells #[.slice ca ra.conds.length cca, .int .i64 ra.verdict] 58))).look (z := (k : Int)) (by omega) (by omega))
            rw [usedF_at] at hlk
            obtain ⟨bu, hbu⟩ : ∃ bu, ks.contains k = bu := ⟨_, rfl⟩
            rw [hbu] at hlk Htk
            have Hul : Hid ((usedRules ks (p.rules.take k) 0).length ≤ 120) := by
              have h1 := used_len ks (p.rules.take k)
              rw [List.length_take] at h1
              show _ ≤ _
              omega
            obtain ⟨rs, hrs⟩ : ∃ rs, usedRules ks (p.rules.take k) 0 = rs := ⟨_, rfl⟩
            rw [hrs] at HG Htk Hul
            have hrl : rs.length ≤ 120 := Hul.out
            clear hra hrae hrs hbu
            cases bu with
            | true =>
              have H14 : Hid ((wk.alloc (.cells #[.slice ca ra.conds.length cca, .int .i64 ra.verdict] 58)).heap[wk.heap.size]? = some (.cells #[.slice ca ra.conds.length cca, .int .i64 ra.verdict] 58)) := heap_last _ _
              have Hra0 : Hid (RdConds (wk.alloc (.cells #[.slice ca ra.conds.length cca, .int .i64 ra.verdict] 58)) (fun b => b ≠ wo.heap.size) (.slice ca ra.conds.length cca) ra.conds) := (Hra.out.keep (D' := fun b => b ≠ wo.heap.size) (fun b h _ => by have : b < w.heap.size := h; omega) (fun _ _ _ => rfl) (Nat.le_refl _)).below (bel_alloc (Below.refl _ _) _)
              have Hbox0 : Hid ((wk.alloc (.cells #[.slice ca ra.conds.length cca, .int .i64 ra.verdict] 58)).heap[wo.heap.size]? = some (.cells #[pv, .int .i64 p.dflt] 24)) := blk_old HG.out.box
              obtain ⟨rows, hro, hrow⟩ := HG.out.own
              have Hcv : Hid (∀ g, pv.ownBlock = some g → g ≠ wo.heap.size) := fun g hg => by have := (hrow.lt g hg).1; omega
              have Hro := Lib.hid hro
              have Hrow : Hid ((wk.alloc (.cells #[.slice ca ra.conds.length cca, .int .i64 ra.verdict] 58)).ownsRow (wo.heap.size + 1) 58 2 pv rs.length rows.flatten) := ownsRow_keep1 hrow fun b _ hl _ => (bel_alloc (Below.refl wk.heap.size wk) _).block b hl
              have Hβ0 : Hid (wo.heap.size < (wk.alloc (.cells #[.slice ca ra.conds.length cca, .int .i64 ra.verdict] 58)).heap.size) := by show _ < _; simp; omega
              have H14lt : Hid (wk.heap.size < (wk.alloc (.cells #[.slice ca ra.conds.length cca, .int .i64 ra.verdict] 58)).heap.size) := by show _ < _; simp
              have H14ne : Hid (wk.heap.size ≠ wo.heap.size) := by show _ ≠ _; omega
              have HwA : Hid (wo.heap.size + 1 ≤ (wk.alloc (.cells #[.slice ca ra.conds.length cca, .int .i64 ra.verdict] 58)).heap.size) := by show _ ≤ _; simp; omega
              clear hro hrow
              go_wp2_with fail
              clear hca0 hca1 hlk
              revert H14 Hra0 Hbox0 Hrow Hβ0 H14lt HwA
              obtain ⟨w0, hw0⟩ : ∃ w0, wk.alloc (.cells #[.slice ca ra.conds.length cca, .int .i64 ra.verdict] 58) = w0 := ⟨_, rfl⟩
              have HbJ : Hid (Below wk.heap.size wk w0) := by show Below _ _ _; rw [← hw0]; exact bel_alloc (Below.refl _ _) _
              rw [hw0]
              clear hw0
              intro H14 Hra0 Hbox0 Hrow Hβ0 H14lt HwA
              refine wp_region_apr wo.heap.size 24 #[pv, .int .i64 p.dflt] 0 (wo.heap.size + 1) 58 2 pv rs.length rows.flatten 1 (fun vf => [vf 4, .int .i64 ra.verdict]) 9 11 (shortG w0 ra.conds ra.verdict) (by kernel_rfl) (by kernel_rfl) _ rfl Hbox0.out Hrow.out (by omega) Hcv.out (by decide) (by decide) (fun k vf w1 w2 hb _ h => shortG_keep hb h)
                (fun k f g w1 hfg hk h => by
                  unfold shortG at h ⊢
                  split
                  · rename_i e; subst e; rw [if_pos rfl, hk] at h; exact h
                  · rename_i e
                    rw [if_neg e] at h
                    split
                    · rename_i e2; subst e2; rw [if_pos rfl, hfg 4 (by decide)] at h; exact h
                    · rename_i e2
                      rw [if_neg e2] at h
                      split
                      · rename_i e3; subst e3; rw [if_pos rfl, hk, hfg 4 (by decide)] at h; exact h
                      · trivial) (fun f g h => by show [f 4, _] = [g 4, _]; rw [h 4 (by decide)]) ?_
              (refine rel_ex (fun K hK => ?_); apply Exists.intro; refine ⟨fun done vf W hI h0 hd hn hf R hR => ?_, ?_, ?_⟩; (clear h0 hd hn hf; go_simp; exact hR _ _ (hI.step (Below.refl _ _) (by decide) (by decide) Hβ0.out) (ApT.of_below (Below.refl _ _)) rfl trivial); exact (fun _ _ _ => rfl); (go_simp; refine hK _ ?_; clear hK K))
              (refine rel_ex (fun K hK => ?_); apply Exists.intro; refine ⟨fun done vf W hI h0 hd hn hf R hR => ?_, ?_, ?_⟩; (have hcell := cells_of (hI.before (hn 11 (by decide))); clear h0 hd hn hf; go_simp; exact hR _ _ (hI.step (Below.refl _ _) (by decide) (by decide) Hβ0.out) (ApT.of_below (Below.refl _ _)) rfl trivial); exact (fun _ _ _ => rfl); (go_simp; refine hK _ ?_; clear hK K))
              (refine rel_ex (fun K hK => ?_); apply Exists.intro; refine ⟨fun done vf W hI h0 hd hn hf R hR => ?_, ?_, ?_⟩; (clear h0 hd hn hf; go_simp; exact hR _ _ (hI.step (Below.refl _ _) (by decide) (by decide) Hβ0.out) (ApT.of_below (Below.refl _ _)) rfl trivial); exact (fun _ _ _ => rfl); (go_simp; refine hK _ ?_; clear hK K))
              (refine rel_ex (fun K hK => ?_); apply Exists.intro; refine ⟨fun done vf W hI h0 hd hn hf R hR => ?_, ?_, ?_⟩; (have hcell := cells_of ((hI.old (hn 9 (by decide)) _ H14lt.out H14ne.out).trans H14.out); clear h0 hd hn hf; go_simp; exact hR _ _ (hI.step (Below.refl _ _) (by decide) (by decide) Hβ0.out) (ApT.of_below (Below.refl _ _)) rfl trivial); exact (fun _ _ _ => rfl); (go_simp; refine hK _ ?_; clear hK K))
              (refine rel_pr (fun K hK => ?_); refine ⟨fun done vf W hI h0 hd hn hf R hR => ?_, ?_⟩; (have HW := Lib.hid (hI.old (hn 9 (by decide))); have Hsz := Lib.hid hI.size; clear h0 hd hn hf; go_simp; go_at_call 53; refine (cloneCond_any condR oneCond (.slice ca ra.conds.length cca) ra.conds (fun _ => True) W (Hra0.out.keep (fun _ _ _ => trivial) (fun b hb hl => HW.out b hl hb) Hsz.out) (by omega)).mono ?_; (rintro e w5 ⟨v5, rfl, ho5, hb5⟩; exact ⟨_, rfl, hR _ _ (hI.step hb5 (by decide) (by decide) Hβ0.out) (ApT.of_below hb5) trivial (show OwnSl w5 w0.heap.size 84 3 condR v5 ra.conds from ho5.base Hsz.out)⟩)); (go_simp; refine hK _ ?_; clear hK K))
              (refine rel_ex (fun K hK => ?_); apply Exists.intro; refine ⟨fun done vf W hI h0 hd hn hf R hR => ?_, ?_, ?_⟩; (clear h0 hd hn hf; go_simp; exact hR _ _ (hI.step (Below.refl _ _) (by decide) (by decide) Hβ0.out) (ApT.of_below (Below.refl _ _)) rfl trivial); exact (fun _ _ _ => rfl); (go_simp; refine hK _ ?_; clear hK K))
              (refine rel_ex (fun K hK => ?_); apply Exists.intro; refine ⟨fun done vf W hI h0 hd hn hf R hR => ?_, ?_, ?_⟩; (have hcell := cells_of ((hI.old (hn 9 (by decide)) _ H14lt.out H14ne.out).trans H14.out); clear h0 hd hn hf; go_simp; exact hR _ _ (hI.step (Below.refl _ _) (by decide) (by decide) Hβ0.out) (ApT.of_below (Below.refl _ _)) rfl trivial); exact (fun _ _ _ => rfl); (go_simp; refine hK _ ?_; clear hK K))
              (refine rel_ex (fun K hK => ?_); refine ⟨fun vf => .agg #[vf 4, .int .i64 ra.verdict], fun done vf W hI h0 hd hn hf R hR => ?_, ?_, ?_⟩; (have h7 : OwnSl W w0.heap.size 84 3 condR (vf 4) ra.conds := hf 4 (hd 4 (by decide)); have h7k := h7; obtain ⟨a7, c7, h7⟩ := h7.slice; generalize ra.conds.length = n7 at h7; clear h0 hd hn hf; go_simp; exact hR _ _ (hI.step (Below.refl _ _) (by decide) (by decide) Hβ0.out) (ApT.of_below (Below.refl _ _)) (by show _ = Value.agg #[vf 4, .int .i64 ra.verdict]; rw [h7]) h7k); exact (fun f g h => by show Value.agg #[f 4, _] = Value.agg #[g 4, _]; rw [h 4 (by decide)]); (go_simp; refine hK _ ?_; clear hK K))
              (refine rel_pr (fun K hK => ?_); refine ⟨fun done vf W hI h0 hd hn hf R hR => ?_, ?_⟩; (have h7 : OwnSl W w0.heap.size 84 3 condR (vf 4) ra.conds := hf 7 (hd 7 (by decide)); have H7k := Lib.hid h7; obtain ⟨a7, c7, h7⟩ := h7.slice; generalize ra.conds.length = n7 at h7; have H7 := Lib.hid h7; clear h0 hd hn hf; go_simp; exact hR _ _ (hI.step (bel_alloc (Below.refl _ _) _) (by decide) (by decide) Hβ0.out) (ApT.of_below (bel_alloc (Below.refl _ _) _)) trivial ⟨⟨_, rfl, hI.size, by rw [heap_last]; show some (Obj.cells #[.slice a7 n7 c7, .int .i64 ra.verdict] _) = some (Obj.cells #[vf 4, .int .i64 ra.verdict] _); rw [H7.out]⟩, H7k.out.below (bel_alloc (Below.refl _ _) _)⟩); (go_simp; refine hK _ ?_; clear hK K))
              (refine rel_pr (fun K hK => ?_); refine ⟨fun done vf W hI h0 hd hn hf R hR => ?_, ?_⟩; (have h15 : NewRow w0.heap.size 58 1 #[vf 4, .int .i64 ra.verdict] (vf 8) W ∧ OwnSl W w0.heap.size 84 3 condR (vf 4) ra.conds := hf 8 (hd 8 (by decide)); obtain ⟨⟨bn, hbv, hbn, hcn⟩, h7⟩ := h15; obtain ⟨a7, c7, h7⟩ := h7.slice; refine ob_plain rfl ?_; refine gives_append_at (.tmp 58) (.tmp 65) 22 rfl (wo.heap.size + 1) 58 i0 _ 2 32 Tryz.underlying22 Hi.out hz0 hz1 hz2 rfl (by omega) pv rs.length rows.flatten (by rfl) (hI.own h0) ⟨bn, 0, none⟩ 1 1 [vf 4, .int .i64 ra.verdict] (by exact hbv) (by rfl) (World.news_of_block hcn) (by rw [h7]; simp [Value.oneCell']) (by omega) (by unfold maxLen; omega) (by omega) (by have := hI.size; have := HwA.out; omega) (fun v' w' h1 h2 h3 => hR _ _ (hI.appended (hn 11 (by decide)) Hcv.out h2 Hβ0.out) (ApT.of_grown h2) trivial ⟨by exact h1, by rcases h3 with h3 | h3; exact .inl h3; exact .inr (fun g hg => by have h9 : v'.ownBlock = some g := hg; rw [h3] at h9; injection h9 with h9; have := hI.size; omega)⟩)); (go_simp; refine hK _ ?_; clear hK K))
              (refine rel_ex (fun K hK => ?_); apply Exists.intro; refine ⟨fun done vf W hI h0 hd hn hf R hR => ?_, ?_, ?_⟩; (clear h0 hd hn hf; go_simp; exact hR _ _ (hI.step (Below.refl _ _) (by decide) (by decide) Hβ0.out) (ApT.of_below (Below.refl _ _)) rfl trivial); exact (fun _ _ _ => rfl); (go_simp; refine hK _ ?_; clear hK K))
              (refine rel_ex (fun K hK => ?_); apply Exists.intro; refine ⟨fun done vf W hI h0 hd hn hf R hR => ?_, ?_, ?_⟩; (have h16 : W.ownsRow (wo.heap.size + 1) 58 2 (vf 9) (rs.length + 1) (rows.flatten ++ [vf 4, .int .i64 ra.verdict]) ∧ _ := hf 9 (hd 9 (by decide)); obtain ⟨gv, cpv, hv16, _, _⟩ := World.ownsRow.form h16.1 (by omega); have hst := hI.stored (off := 0) (v := vf 9) (hd 9 (by decide)) (by decide); have hbf := hI.before h0; have hcb := cells_of hbf; have hfb := not_frozen hbf; have Hst := Lib.hid hst; have Hset := Lib.hid (set_at (o := 0) (v := vf 9) hbf); have H16 := Lib.hid hv16; clear hd hn hf h16 hst hbf; go_simp; rw [← H16.out]; exact hR _ _ Hst.out ApT.of_store rfl Hset.out); exact (fun _ _ _ => rfl); (go_simp; refine hK _ ?_; clear hK K))
              intro done vf W hd hI hF
              have h7 : OwnSl W w0.heap.size 84 3 condR (vf 4) ra.conds := hF 4 (by decide)
              have h16 : W.ownsRow (wo.heap.size + 1) 58 2 (vf 9) (rs.length + 1) (rows.flatten ++ [vf 4, .int .i64 ra.verdict]) ∧ ((vf 9).ownBlock = pv.ownBlock ∨ ∀ g, (vf 9).ownBlock = some g → w0.heap.size ≤ g) := hF 9 (by decide)
              have h18 : W.heap[wo.heap.size]? = some (.cells (#[pv, .int .i64 p.dflt].setIfInBounds 0 (vf 9)) 24) := hF 11 (by decide)
              have HN := Lib.hid (GatherI.step HG.out HbJ.out (by omega) HwA.out hI Hro.out h16.1 h16.2 h18 h7 ruleT_ne)
              clear hd hI hF h7 h16 h18
              go_wp2
              go_roundw
              case rel => exact ⟨k + 1, vf 9, by go_num, by omega, by rw [Htk.out]; exact HN.out⟩
              case measure => simp [intOf]; omega
            | false =>
              have HN := Lib.hid (HG.out.below (bel_alloc (Below.refl _ _) (.cells #[.slice ca ra.conds.length cca, .int .i64 ra.verdict] 58)))
              go_wp2
              go_roundw
              case rel => exact ⟨k + 1, pv, by go_num, by omega, by rw [Htk.out, if_neg (by simp), List.append_nil]; exact HN.out⟩
              case measure => simp [intOf]; omega
          · obtain rfl : k = p.rules.length := by omega
            rw [List.take_length] at HG
            have Hul : Hid ((usedRules ks p.rules 0).length ≤ 120) := by have h1 := used_len ks p.rules; show _ ≤ _; omega
            obtain ⟨L2, hL2⟩ : ∃ L2, usedRules ks p.rules 0 = L2 := ⟨_, rfl⟩
            rw [hL2] at HG HSP Hul
            obtain ⟨aP, cP, rfl, hcP, hcM, hatP⟩ := Sl.form HG.out.rules
            have hcb := cells_of HG.out.box
            have hll := Hul.out
            clear hL2
            go_wp2_with fail
            clear hcb
            go_loopw [15] (fun nv wn => ∃ n : Nat, nv = .int .i64 n ∧ n ≤ L2.length ∧ SameBut wo.heap.size wk wn ∧ wn.heap[wo.heap.size]? = some (.cells #[.slice aP n cP, .int .i64 p.dflt] 24) ∧ trimD p.dflt (L2.take n) = trimD p.dflt L2) (fun nv _ => (intOf nv).toNat)
            case atStart => exact ⟨L2.length, rfl, Nat.le_refl _, SameBut.refl _ _, HG.out.box, by rw [List.take_length]⟩
            case round =>
              obtain ⟨n, rfl, hn, hS, hbx, htr⟩ := hrel
              have HS := Lib.hid hS
              have Hbx := Lib.hid hbx
              have Htr := Lib.hid htr
              have hszn := hS.size
              have HRn : Hid (RdRules wr (fun b => wo.heap.size + 1 ≤ b ∧ NotPol wr b) (.slice aP L2.length cP) L2) := HG.out.rules.keep (fun b h hl => ⟨h.1, h.2.keep (HS.out.blk b hl (by have := h.1; omega))⟩) (fun b hb hl => HS.out.blk b hl (by have := hb.1; omega)) HS.out.size
              clear hS hbx htr
              have HBr2 := Lib.hid (HBk.out.lift (B := w.heap.size + 3) (HS.out.bel (by omega) (by omega)) (by simp))
              rcases Nat.eq_zero_or_pos n with rfl | hpos
              · have Hfin : Hid (trimD p.dflt L2 = L2.take 0) := by show _ = _; rw [← Htr.out]; simp [trimD]
                go_wp2_with fail
                refine wp_region_exact3 wr.heap.size (Nat.le_refl _) (by kernel_rfl) (by kernel_rfl) ?_
                repeat (refine monoE_step (fun K hK => ?_); apply Exists.intro; refine ⟨fun W hC R hR => ?_, ?_⟩; ((go_simp; exact hR _ _ (Below.refl _ _) rfl)); (go_simp; refine hK _ ?_; clear hK K))
                intro wn hCn
                have HBn := Lib.hid (HBr2.out.below hCn.2)
                have Hbr := Lib.hid (blk_below Hbx.out hCn.2)
                have Hrd : Hid (RdRules wn (fun b => wo.heap.size + 1 ≤ b ∧ NotPol wn b) (.slice aP 0 cP) (L2.take 0)) := (show RdRules wr (fun b => wo.heap.size + 1 ≤ b ∧ NotPol wr b) (.slice aP 0 cP) (L2.take 0) from Sl.take HRn.out (Nat.zero_le _)).keep (fun b h hl => ⟨h.1, h.2.keep (hCn.2.block b hl)⟩) (fun b _ hl => hCn.2.block b hl) hCn.2.size
                clear hCn
                have hcb := cells_of Hbr.out
                have HB7 := Lib.hid (HBn.out.set (i := 1) rfl 0 (.slice aP 0 cP))
                have HB8 := Lib.hid (HB7.out.set (i := 1) rfl 1 (.int .i64 p.dflt))
                have hc2 := HBn.out.cells1
                have hf2 := HBn.out.free1
                have hc3 := HB8.out.cells1
                have HR8 : Hid (RdRules ((wn.setCell ⟨w.heap.size + 1, 0, none⟩ (.slice aP 0 cP)).setCell ⟨w.heap.size + 1, 1, none⟩ (.int .i64 p.dflt)) (fun b => w.heap.size ≤ b ∧ NotPol ((wn.setCell ⟨w.heap.size + 1, 0, none⟩ (.slice aP 0 cP)).setCell ⟨w.heap.size + 1, 1, none⟩ (.int .i64 p.dflt)) b) (.slice aP 0 cP) (L2.take 0)) := by
                  have hsame : ∀ b, wo.heap.size + 1 ≤ b → (((wn.setCell ⟨w.heap.size + 1, 0, none⟩ (.slice aP 0 cP)).setCell ⟨w.heap.size + 1, 1, none⟩ (.int .i64 p.dflt))).heap[b]? = wn.heap[b]? := fun b hb => by rw [set_other (by show b ≠ w.heap.size + 1; omega), set_other (by show b ≠ w.heap.size + 1; omega)]
                  exact Hrd.out.keep (fun b h _ => ⟨by have := h.1; omega, h.2.keep (hsame b h.1)⟩) (fun b hb _ => hsame b hb.1) (by rw [set_size, set_size]; exact Nat.le_refl _)
                go_wp2
                refine bodyPost_ret (v := .tuple #[polV (.slice aP 0 cP) p.dflt, .int .i64 0]) ?_ rfl (by rw [HE.out, HSP.out, Hfin.out]; exact ⟨_, rfl, HR8.out, HB8.out.bel⟩)
                rw [results_cell_tmp rfl]
                go_simp
              · obtain ⟨m, rfl⟩ : ∃ m, n = m + 1 := ⟨n - 1, by omega⟩
                obtain ⟨bP, oP, rfl, hDP, hbP⟩ := hatP (by omega)
                have hbPn : bP < wr.heap.size := by omega
                obtain ⟨cx, ccx, _, hv1, _⟩ := RdRules.cells HRn.out (i := m) (by omega)
                obtain ⟨vm, hvm⟩ : ∃ vm, L2[m].verdict = vm := ⟨_, rfl⟩
                rw [hvm] at hv1
                have HC : Hid (∀ W, Cls wr.heap.size wr W → (∀ j, W.cell? ⟨wo.heap.size, j, none⟩ = (#[.slice (some ⟨bP, oP, none⟩) (m + 1) cP, .int .i64 p.dflt] : Array Value)[j]?) ∧ W.cell? ⟨bP, oP + m * 2 + 1, none⟩ = some (.int .i64 vm)) := fun W hW =>
                  ⟨cells_of (blk_below Hbx.out hW.2), (hW.2.cell (p := ⟨bP, oP + m * 2 + 1, none⟩) hbPn).trans hv1⟩
                have Hvm := Lib.hid hvm
                have e1 : ((m : Int) + 1 - 1) = (m : Int) := by omega
                have hwm : IntKind.i64.wrap (m : Int) = (m : Int) := IntWalk.i64_in _ (by omega)
                have hm0 : (0 : Int) ≤ (m : Int) := by omega
                have hm1 : (m : Int) < (m : Int) + 1 := by omega
                clear hvm hv1
                go_wp2_with fail
                refine wp_region_exact3 wr.heap.size (Nat.le_refl _) (by kernel_rfl) (by kernel_rfl) ?_
                repeat (refine monoE_step (fun K hK => ?_); apply Exists.intro; refine ⟨fun W hC R hR => ?_, ?_⟩; ((have hcc := HC.out W hC; go_simp; exact hR _ _ (Below.refl _ _) rfl)); (go_simp; refine hK _ ?_; clear hK K))
                intro wn hCn
                have HBn := Lib.hid (HBr2.out.below hCn.2)
                have Hbr := Lib.hid (blk_below Hbx.out hCn.2)
                have HSn := Lib.hid (HS.out.below hCn.2)
                have Hrd : Hid (RdRules wn (fun b => wo.heap.size + 1 ≤ b ∧ NotPol wn b) (.slice (some ⟨bP, oP, none⟩) (m + 1) cP) (L2.take (m + 1))) := (show RdRules wr (fun b => wo.heap.size + 1 ≤ b ∧ NotPol wr b) (.slice (some ⟨bP, oP, none⟩) (m + 1) cP) (L2.take (m + 1)) from Sl.take HRn.out (by omega)).keep (fun b h hl => ⟨h.1, h.2.keep (hCn.2.block b hl)⟩) (fun b _ hl => hCn.2.block b hl) hCn.2.size
                clear hCn
                by_cases hv : vm = p.dflt
                · have d : (vm == p.dflt) = true := beq_iff_eq.2 hv
                  simp only [d]
                  have Htd := Lib.hid (trim_down (d := p.dflt) (l := L2) (n := m) (by omega) (Hvm.out.trans hv))
                  have hcb := cells_of Hbr.out
                  have hfb := not_frozen Hbr.out
                  have Hst := Lib.hid (set_at (o := 0) (v := .slice (some ⟨bP, oP, none⟩) m cP) Hbr.out)
                  clear hv
                  go_wp2
                  go_roundw
                  case rel => exact ⟨m, by go_num, by omega, HSn.out.set, Hst.out, by rw [← Htd.out]; exact Htr.out⟩
                  case measure => simp [intOf]
                · have d : (vm == p.dflt) = false := by simpa using hv
                  simp only [d]
                  have Hfin : Hid (trimD p.dflt L2 = L2.take (m + 1)) := by show _ = _; rw [← Htr.out, trim_stop (by omega) (by rw [Hvm.out]; exact hv)]
                  clear hv
                  have hcb := cells_of Hbr.out
                  have HB7 := Lib.hid (HBn.out.set (i := 1) rfl 0 (.slice (some ⟨bP, oP, none⟩) (m + 1) cP))
                  have HB8 := Lib.hid (HB7.out.set (i := 1) rfl 1 (.int .i64 p.dflt))
                  have hc2 := HBn.out.cells1
                  have hf2 := HBn.out.free1
                  have hc3 := HB8.out.cells1
                  have HR8 : Hid (RdRules ((wn.setCell ⟨w.heap.size + 1, 0, none⟩ (.slice (some ⟨bP, oP, none⟩) (m + 1) cP)).setCell ⟨w.heap.size + 1, 1, none⟩ (.int .i64 p.dflt)) (fun b => w.heap.size ≤ b ∧ NotPol ((wn.setCell ⟨w.heap.size + 1, 0, none⟩ (.slice (some ⟨bP, oP, none⟩) (m + 1) cP)).setCell ⟨w.heap.size + 1, 1, none⟩ (.int .i64 p.dflt)) b) (.slice (some ⟨bP, oP, none⟩) (m + 1) cP) (L2.take (m + 1))) := by
                    have hsame : ∀ b, wo.heap.size + 1 ≤ b → (((wn.setCell ⟨w.heap.size + 1, 0, none⟩ (.slice (some ⟨bP, oP, none⟩) (m + 1) cP)).setCell ⟨w.heap.size + 1, 1, none⟩ (.int .i64 p.dflt))).heap[b]? = wn.heap[b]? := fun b hb => by rw [set_other (by show b ≠ w.heap.size + 1; omega), set_other (by show b ≠ w.heap.size + 1; omega)]
                    exact Hrd.out.keep (fun b h _ => ⟨by have := h.1; omega, h.2.keep (hsame b h.1)⟩) (fun b hb _ => hsame b hb.1) (by rw [set_size, set_size]; exact Nat.le_refl _)
                  go_wp2
                  refine bodyPost_ret (v := .tuple #[polV (.slice (some ⟨bP, oP, none⟩) (m + 1) cP) p.dflt, .int .i64 0]) ?_ rfl (by rw [HE.out, HSP.out, Hfin.out]; exact ⟨_, rfl, HR8.out, HB8.out.bel⟩)
                  rw [results_cell_tmp rfl]
                  go_simp
  · have hb0 : ((pointsE [p]).2 != 0) = true := bne_iff_ne.2 h0
    have HE : Hid (shortE p = (zeroPol, (pointsE [p]).2)) := by show shortE p = _; unfold shortE; rw [if_pos h0]
    have hc2 := HB1.out.cells1
    have hf2 := HB1.out.free1
    have HB7 := Lib.hid (HB1.out.set (i := 1) rfl 0 (.slice none 0 0))
    have HB8 := Lib.hid (HB7.out.set (i := 1) rfl 1 (.int .i64 0))
    have hc3 := HB8.out.cells1
    clear h0
    go_wp2
    refine bodyPost_ret (v := .tuple #[polV (.slice none 0 0) 0, .int .i64 (pointsE [p]).2]) ?_ rfl (by rw [HE.out]; exact ⟨_, rfl, nil_rules _ _, HB8.out.bel⟩)
    rw [results_cell_tmp rfl]
    go_simp
end Go.Proofs.YtioeliocdbckbaaGreatDoor
namespace Go.Proofs
open Go.Shelf
def Tryz.laysM173_ren : Go.Shelf.Ren := ⟨fun | 173 => 96 | 246 => 110 | 283 => 135 | 284 => 136 | 285 => 137 | 286 => 138 | 129 => 122 | 317 => 154 | 318 => 155 | 319 => 156 | 320 => 157 | 337 => 159 | 338 => 160 | n => n, fun | 2 => 2 | 3 => 3 | 9 => 9 | 4 => 4 | 171 => 173 | 0 => 0 | 53 => 162 | 37 => 175 | 5 => 5 | 173 => 176 | 212 => 204 | 51 => 149 | 20 => 20 | 213 => 205 | 46 => 140 | 232 => 217 | 233 => 218 | n => n, fun | 17 => 5 | 18 => 8 | 19 => 9 | n => n⟩
theorem Tryz.laysM173 : Go.Proofs.LaysM.n173 Tryz.prog Tryz.laysM173_ren := {
  mixed := by kernel_rfl
  f129 := Tryz.func122.trans (congrArg some (by kernel_rfl))
  f173 := Tryz.func96.trans (congrArg some (by kernel_rfl))
  f246 := Tryz.func110.trans (congrArg some (by kernel_rfl))
  f283 := Tryz.func135.trans (congrArg some (by kernel_rfl))
  f284 := Tryz.func136.trans (congrArg some (by kernel_rfl))
  f285 := Tryz.func137.trans (congrArg some (by kernel_rfl))
  f286 := Tryz.func138.trans (congrArg some (by kernel_rfl))
  f317 := Tryz.func154.trans (congrArg some (by kernel_rfl))
  f318 := Tryz.func155.trans (congrArg some (by kernel_rfl))
  f319 := Tryz.func156.trans (congrArg some (by kernel_rfl))
  f320 := Tryz.func157.trans (congrArg some (by kernel_rfl))
  f337 := Tryz.func159.trans (congrArg some (by kernel_rfl))
  f338 := Tryz.func160.trans (congrArg some (by kernel_rfl))
  t0 := Tryz.underlying0
  a0 := Tryz.isAgg0
  z0 := Tryz.sizeOf0
  v0 := Tryz.zeroValue0
  t2 := Tryz.underlying2
  a2 := Tryz.isAgg2
  z2 := Tryz.sizeOf2
  v2 := Tryz.zeroValue2
  t3 := Tryz.underlying3
  a3 := Tryz.isAgg3
  z3 := Tryz.sizeOf3
  v3 := Tryz.zeroValue3
  t4 := Tryz.underlying4
  a4 := Tryz.isAgg4
  z4 := Tryz.sizeOf4
  v4 := Tryz.zeroValue4
  t5 := Tryz.underlying5
  a5 := Tryz.isAgg5
  z5 := Tryz.sizeOf5
  v5 := Tryz.zeroValue5
  t9 := Tryz.underlying9
  a9 := Tryz.isAgg9
  z9 := Tryz.sizeOf9
  v9 := Tryz.zeroValue9
  t20 := Tryz.underlying20
  a20 := Tryz.isAgg20
  z20 := Tryz.sizeOf20
  v20 := Tryz.zeroValue20
  t37 := Tryz.underlying175
  a37 := Tryz.isAgg175
  z37 := Tryz.sizeOf175
  v37 := Tryz.zeroValue175
  t46 := Tryz.underlying140
  a46 := Tryz.isAgg140
  z46 := Tryz.sizeOf140
  v46 := Tryz.zeroValue140
  t51 := Tryz.underlying149
  a51 := Tryz.isAgg149
  z51 := Tryz.sizeOf149
  v51 := Tryz.zeroValue149
  t53 := Tryz.underlying162
  a53 := Tryz.isAgg162
  z53 := Tryz.sizeOf162
  v53 := Tryz.zeroValue162
  t171 := Tryz.underlying173
  a171 := Tryz.isAgg173
  z171 := Tryz.sizeOf173
  v171 := Tryz.zeroValue173
  t173 := Tryz.underlying176
  a173 := Tryz.isAgg176
  z173 := Tryz.sizeOf176
  v173 := Tryz.zeroValue176
  t212 := Tryz.underlying204
  a212 := Tryz.isAgg204
  z212 := Tryz.sizeOf204
  v212 := Tryz.zeroValue204
  t213 := Tryz.underlying205
  a213 := Tryz.isAgg205
  z213 := Tryz.sizeOf205
  t232 := Tryz.underlying217
  a232 := Tryz.isAgg217
  z232 := Tryz.sizeOf217
  v232 := Tryz.zeroValue217
  t233 := Tryz.underlying218
  a233 := Tryz.isAgg218
  z233 := Tryz.sizeOf218
  v233 := Tryz.zeroValue218
  g17 := by kernel_rfl
  g18 := by kernel_rfl
  g19 := by kernel_rfl
  i0 := by kernel_rfl
  i2 := by kernel_rfl
  i3 := by kernel_rfl
  i4 := by kernel_rfl
  i5 := by kernel_rfl
  i9 := by kernel_rfl
  i20 := by kernel_rfl
  i37 := by kernel_rfl
  i46 := by kernel_rfl
  i51 := by kernel_rfl
  i53 := by kernel_rfl
  i171 := by kernel_rfl
  i173 := by kernel_rfl
  i212 := by kernel_rfl
  i232 := by kernel_rfl
  i233 := by kernel_rfl
  m17 := by kernel_rfl
  m18 := by kernel_rfl
  m19 := by kernel_rfl }
open Go.RowKit Go.Sort Go.Lib in
theorem Tryz.strconv_FormatInt_10 (n : Int) (h0 : -9223372036854775808 ≤ n) (h1 : n ≤ 9223372036854775807) (w : World) (htab : Lib.TabIs Tryz.prog w "internal/strconv.uint64pow10" .u64 Lib.pow10Tab) :
    Calls Tryz.prog 96 #[.int .i64 n, .int .i64 10] w fun e w' => e = .returned (.string ⟨(Lib.itoa n).toArray⟩) ∧ ∃ k os, w' = grow (w.drewN k) os := Any.strconv_FormatInt_10 Tryz.laysM173 n h0 h1 w htab
def Tryz.laysC174_ren : Go.Shelf.Ren := ⟨fun | 174 => 95 | 247 => 108 | 245 => 109 | 287 => 130 | 279 => 131 | 280 => 132 | 281 => 133 | 282 => 134 | 321 => 150 | 322 => 151 | 316 => 152 | 171 => 81 | 205 => 153 | 243 => 99 | 246 => 110 | 283 => 135 | 284 => 136 | 285 => 137 | 286 => 138 | 129 => 122 | 317 => 154 | 318 => 155 | 319 => 156 | 320 => 157 | 337 => 159 | 338 => 160 | n => n, fun | 9 => 9 | 3 => 3 | 2 => 2 | 75 => 131 | 85 => 132 | 4 => 4 | 167 => 167 | 5 => 5 | 53 => 162 | 175 => 168 | 46 => 140 | 168 => 170 | 37 => 175 | 0 => 0 | 210 => 201 | 21 => 21 | 127 => 213 | 145 => 216 | 143 => 214 | 171 => 173 | 173 => 176 | 212 => 204 | 51 => 149 | 20 => 20 | 213 => 205 | 232 => 217 | 233 => 218 | 80 => 219 | n => n, fun | 15 => 3 | 16 => 4 | 17 => 5 | 18 => 8 | 19 => 9 | n => n⟩
theorem Tryz.laysC174 : Go.Proofs.LaysC.n174 Tryz.prog Tryz.laysC174_ren := {
  mixed := by kernel_rfl
  f129 := Tryz.func122.trans (congrArg some (by kernel_rfl))
  f171 := Tryz.func81.trans (congrArg some (by kernel_rfl))
  f174 := Tryz.func95.trans (congrArg some (by kernel_rfl))
  f205 := Tryz.func153.trans (congrArg some (by kernel_rfl))
  f243 := Tryz.func99.trans (congrArg some (by kernel_rfl))
  f245 := Tryz.func109.trans (congrArg some (by kernel_rfl))
  f246 := Tryz.func110.trans (congrArg some (by kernel_rfl))
  f247 := Tryz.func108.trans (congrArg some (by kernel_rfl))
  f279 := Tryz.func131.trans (congrArg some (by kernel_rfl))
  f280 := Tryz.func132.trans (congrArg some (by kernel_rfl))
  f281 := Tryz.func133.trans (congrArg some (by kernel_rfl))
  f282 := Tryz.func134.trans (congrArg some (by kernel_rfl))
  f283 := Tryz.func135.trans (congrArg some (by kernel_rfl))
  f284 := Tryz.func136.trans (congrArg some (by kernel_rfl))
  f285 := Tryz.func137.trans (congrArg some (by kernel_rfl))
  f286 := Tryz.func138.trans (congrArg some (by kernel_rfl))
  f287 := Tryz.func130.trans (congrArg some (by kernel_rfl))
  f316 := Tryz.func152.trans (congrArg some (by kernel_rfl))
  f317 := Tryz.func154.trans (congrArg some (by kernel_rfl))
  f318 := Tryz.func155.trans (congrArg some (by kernel_rfl))
  f319 := Tryz.func156.trans (congrArg some (by kernel_rfl))
  f320 := Tryz.func157.trans (congrArg some (by kernel_rfl))
  f321 := Tryz.func150.trans (congrArg some (by kernel_rfl))
  f322 := Tryz.func151.trans (congrArg some (by kernel_rfl))
  f337 := Tryz.func159.trans (congrArg some (by kernel_rfl))
  f338 := Tryz.func160.trans (congrArg some (by kernel_rfl))
  t0 := Tryz.underlying0
  a0 := Tryz.isAgg0
  z0 := Tryz.sizeOf0
  v0 := Tryz.zeroValue0
  t2 := Tryz.underlying2
  a2 := Tryz.isAgg2
  z2 := Tryz.sizeOf2
  v2 := Tryz.zeroValue2
  t3 := Tryz.underlying3
  a3 := Tryz.isAgg3
  z3 := Tryz.sizeOf3
  v3 := Tryz.zeroValue3
  t4 := Tryz.underlying4
  a4 := Tryz.isAgg4
  z4 := Tryz.sizeOf4
  v4 := Tryz.zeroValue4
  t5 := Tryz.underlying5
  a5 := Tryz.isAgg5
  z5 := Tryz.sizeOf5
  v5 := Tryz.zeroValue5
  t9 := Tryz.underlying9
  a9 := Tryz.isAgg9
  z9 := Tryz.sizeOf9
  v9 := Tryz.zeroValue9
  t20 := Tryz.underlying20
  a20 := Tryz.isAgg20
  z20 := Tryz.sizeOf20
  v20 := Tryz.zeroValue20
  t21 := Tryz.underlying21
  a21 := Tryz.isAgg21
  z21 := Tryz.sizeOf21
  v21 := Tryz.zeroValue21
  t37 := Tryz.underlying175
  a37 := Tryz.isAgg175
  z37 := Tryz.sizeOf175
  v37 := Tryz.zeroValue175
  t46 := Tryz.underlying140
  a46 := Tryz.isAgg140
  z46 := Tryz.sizeOf140
  v46 := Tryz.zeroValue140
  t51 := Tryz.underlying149
  a51 := Tryz.isAgg149
  z51 := Tryz.sizeOf149
  v51 := Tryz.zeroValue149
  t53 := Tryz.underlying162
  a53 := Tryz.isAgg162
  z53 := Tryz.sizeOf162
  v53 := Tryz.zeroValue162
  t75 := Tryz.underlying131
  a75 := Tryz.isAgg131
  z75 := Tryz.sizeOf131
  v75 := Tryz.zeroValue131
  t85 := Tryz.underlying132
  a85 := Tryz.isAgg132
  z85 := Tryz.sizeOf132
  v85 := Tryz.zeroValue132
  t127 := Tryz.underlying213
  a127 := Tryz.isAgg213
  z127 := Tryz.sizeOf213
  v127 := Tryz.zeroValue213
  t143 := Tryz.underlying214
  a143 := Tryz.isAgg214
  z143 := Tryz.sizeOf214
  v143 := Tryz.zeroValue214
  t145 := Tryz.underlying216
  a145 := Tryz.isAgg216
  z145 := Tryz.sizeOf216
  v145 := Tryz.zeroValue216
  t167 := Tryz.underlying167
  a167 := Tryz.isAgg167
  z167 := Tryz.sizeOf167
  v167 := Tryz.zeroValue167
  t168 := Tryz.underlying170
  a168 := Tryz.isAgg170
  z168 := Tryz.sizeOf170
  v168 := Tryz.zeroValue170
  t171 := Tryz.underlying173
  a171 := Tryz.isAgg173
  z171 := Tryz.sizeOf173
  v171 := Tryz.zeroValue173
  t173 := Tryz.underlying176
  a173 := Tryz.isAgg176
  z173 := Tryz.sizeOf176
  v173 := Tryz.zeroValue176
  t175 := Tryz.underlying168
  a175 := Tryz.isAgg168
  z175 := Tryz.sizeOf168
  v175 := Tryz.zeroValue168
  t210 := Tryz.underlying201
  a210 := Tryz.isAgg201
  z210 := Tryz.sizeOf201
  v210 := Tryz.zeroValue201
  t212 := Tryz.underlying204
  a212 := Tryz.isAgg204
  z212 := Tryz.sizeOf204
  v212 := Tryz.zeroValue204
  t213 := Tryz.underlying205
  a213 := Tryz.isAgg205
  z213 := Tryz.sizeOf205
  t232 := Tryz.underlying217
  a232 := Tryz.isAgg217
  z232 := Tryz.sizeOf217
  v232 := Tryz.zeroValue217
  t233 := Tryz.underlying218
  a233 := Tryz.isAgg218
  z233 := Tryz.sizeOf218
  v233 := Tryz.zeroValue218
  g15 := by kernel_rfl
  g16 := by kernel_rfl
  g17 := by kernel_rfl
  g18 := by kernel_rfl
  g19 := by kernel_rfl
  t80 := Tryz.underlying219
  a80 := Tryz.isAgg219
  z80 := Tryz.sizeOf219
  v80 := Tryz.zeroValue219
  i0 := by kernel_rfl
  i2 := by kernel_rfl
  i3 := by kernel_rfl
  i4 := by kernel_rfl
  i5 := by kernel_rfl
  i9 := by kernel_rfl
  i20 := by kernel_rfl
  i21 := by kernel_rfl
  i37 := by kernel_rfl
  i46 := by kernel_rfl
  i51 := by kernel_rfl
  i53 := by kernel_rfl
  i75 := by kernel_rfl
  i80 := by kernel_rfl
  i85 := by kernel_rfl
  i127 := by kernel_rfl
  i143 := by kernel_rfl
  i145 := by kernel_rfl
  i167 := by kernel_rfl
  i168 := by kernel_rfl
  i171 := by kernel_rfl
  i173 := by kernel_rfl
  i175 := by kernel_rfl
  i210 := by kernel_rfl
  i212 := by kernel_rfl
  i232 := by kernel_rfl
  i233 := by kernel_rfl
  m15 := by kernel_rfl
  m16 := by kernel_rfl
  m17 := by kernel_rfl
  m18 := by kernel_rfl
  m19 := by kernel_rfl
  c0 := by kernel_rfl
  c2 := by kernel_rfl
  c3 := by kernel_rfl
  c4 := by kernel_rfl
  c5 := by kernel_rfl
  c9 := by kernel_rfl
  c20 := by kernel_rfl
  c21 := by kernel_rfl
  c37 := by kernel_rfl
  c46 := by kernel_rfl
  c51 := by kernel_rfl
  c53 := by kernel_rfl
  c75 := by kernel_rfl
  c80 := by kernel_rfl
  c85 := by kernel_rfl
  c127 := by kernel_rfl
  c143 := by kernel_rfl
  c145 := by kernel_rfl
  c167 := by kernel_rfl
  c168 := by kernel_rfl
  c171 := by kernel_rfl
  c173 := by kernel_rfl
  c175 := by kernel_rfl
  c210 := by kernel_rfl
  c212 := by kernel_rfl
  c213 := by kernel_rfl
  c232 := by kernel_rfl
  c233 := by kernel_rfl }
open Go.RowKit in
theorem Tryz.strconv_ParseInt_10_at64_ok (s : ByteArray) (hmax : s.size ≤ 9223372036854775806) (v : Int) (h : Lib.parseIntB 64 s.data.toList = .ok v) (w : World) :
    Calls Tryz.prog 95 #[.string s, .int .i64 10, .int .i64 64] w fun e w' => e = .returned (.tuple #[.int .i64 v, .nilIface]) ∧ (w' = w ∨ ∃ t, w' = Lib.bytesWorld w 5 t) := Any.strconv_ParseInt_10_at64_ok Tryz.laysC174 s hmax v h w
open Go.RowKit in
theorem Tryz.strconv_ParseInt_10_at64_range (s : ByteArray) (hlim : s.size ≤ 281474976710656) (h : Lib.parseIntB 64 s.data.toList = .range) (ev : Value) (w : World) (hv : w.cell? ⟨4, 0, none⟩ = some ev) (hev : ev = .nilIface ∨ ∃ te pe, ev = .iface te pe) :
    Calls Tryz.prog 95 #[.string s, .int .i64 10, .int .i64 64] w fun e w' => ∃ N, e = .returned (.tuple #[.int .i64 (Lib.intSat 64 s.data.toList), .iface 170 (.pointer (some ⟨N, 0, none⟩))]) ∧ w.heap.size ≤ N ∧ w'.heap[N]? = some (.cells #[.string ⟨#[80, 97, 114, 115, 101, 73, 110, 116]⟩, .string s, ev] 201 (0, 0)) ∧ Below w.heap.size w w' := Any.strconv_ParseInt_10_at64_range Tryz.laysC174 s hlim h ev w hv hev
def Tryz.lays145_ren : Go.Shelf.Ren := ⟨fun | 145 => 77 | 220 => 93 | 219 => 104 | 217 => 123 | 225 => 124 | 224 => 125 | 267 => 126 | 266 => 147 | 314 => 148 | n => n, fun | 9 => 9 | 4 => 4 | 59 => 112 | 3 => 3 | 5 => 5 | 46 => 140 | 146 => 195 | 51 => 149 | n => n, fun | 1 => 2 | n => n⟩
theorem Tryz.lays145 : Go.Proofs.Lays.n145 Tryz.prog Tryz.lays145_ren := {
  mixed := by kernel_rfl
  f145 := Tryz.func77.trans (congrArg some (by kernel_rfl))
  f217 := Tryz.func123.trans (congrArg some (by kernel_rfl))
  f219 := Tryz.func104.trans (congrArg some (by kernel_rfl))
  f220 := Tryz.func93.trans (congrArg some (by kernel_rfl))
  f224 := Tryz.func125.trans (congrArg some (by kernel_rfl))
  f225 := Tryz.func124.trans (congrArg some (by kernel_rfl))
  f266 := Tryz.func147.trans (congrArg some (by kernel_rfl))
  f267 := Tryz.func126.trans (congrArg some (by kernel_rfl))
  f314 := Tryz.func148.trans (congrArg some (by kernel_rfl))
  t3 := Tryz.underlying3
  a3 := Tryz.isAgg3
  z3 := Tryz.sizeOf3
  v3 := Tryz.zeroValue3
  t4 := Tryz.underlying4
  a4 := Tryz.isAgg4
  z4 := Tryz.sizeOf4
  v4 := Tryz.zeroValue4
  t5 := Tryz.underlying5
  a5 := Tryz.isAgg5
  z5 := Tryz.sizeOf5
  v5 := Tryz.zeroValue5
  t9 := Tryz.underlying9
  a9 := Tryz.isAgg9
  z9 := Tryz.sizeOf9
  v9 := Tryz.zeroValue9
  t46 := Tryz.underlying140
  a46 := Tryz.isAgg140
  z46 := Tryz.sizeOf140
  v46 := Tryz.zeroValue140
  t51 := Tryz.underlying149
  a51 := Tryz.isAgg149
  z51 := Tryz.sizeOf149
  v51 := Tryz.zeroValue149
  t59 := Tryz.underlying112
  a59 := Tryz.isAgg112
  z59 := Tryz.sizeOf112
  v59 := Tryz.zeroValue112
  t146 := Tryz.underlying195
  a146 := Tryz.isAgg195
  z146 := Tryz.sizeOf195
  v146 := Tryz.zeroValue195
  g1 := by kernel_rfl }
open Go.RowKit Go.Lib in
theorem Tryz.strings_Cut (s sep : ByteArray) (m : Int) (w : World) (hs : s.size < 4294967281) (hm : w.cell? ⟨2, 0, none⟩ = some (.int .i64 m)) :
    Calls Tryz.prog 77 #[.string s, .string sep] w fun e w' => e = .returned (.tuple #[.string ⟨(Lib.cut s.data.toList sep.data.toList).1.toArray⟩, .string ⟨(Lib.cut s.data.toList sep.data.toList).2.1.toArray⟩, .bool (Lib.cut s.data.toList sep.data.toList).2.2]) ∧ ∃ n, w' = w.drewN n := Any.strings_Cut Tryz.lays145 s sep m w hs hm
def Tryz.lays146_ren : Go.Shelf.Ren := ⟨fun | 146 => 78 | 221 => 94 | 268 => 105 | 138 => 106 | 143 => 107 | 195 => 127 | 197 => 128 | 218 => 129 | 219 => 104 | 260 => 149 | 217 => 123 | 225 => 124 | 224 => 125 | 267 => 126 | 266 => 147 | 314 => 148 | n => n, fun | 9 => 9 | 31 => 114 | 3 => 3 | 4 => 4 | 0 => 0 | 105 => 165 | 21 => 21 | 5 => 5 | 46 => 140 | 119 => 135 | 139 => 212 | 138 => 211 | 146 => 195 | 51 => 149 | n => n, fun | 1 => 2 | 3 => 6 | 4 => 7 | n => n⟩
theorem Tryz.lays146 : Go.Proofs.Lays.n146 Tryz.prog Tryz.lays146_ren := {
  mixed := by kernel_rfl
  f138 := Tryz.func106.trans (congrArg some (by kernel_rfl))
  f143 := Tryz.func107.trans (congrArg some (by kernel_rfl))
  f146 := Tryz.func78.trans (congrArg some (by kernel_rfl))
  f195 := Tryz.func127.trans (congrArg some (by kernel_rfl))
  f197 := Tryz.func128.trans (congrArg some (by kernel_rfl))
  f217 := Tryz.func123.trans (congrArg some (by kernel_rfl))
  f218 := Tryz.func129.trans (congrArg some (by kernel_rfl))
  f219 := Tryz.func104.trans (congrArg some (by kernel_rfl))
  f221 := Tryz.func94.trans (congrArg some (by kernel_rfl))
  f224 := Tryz.func125.trans (congrArg some (by kernel_rfl))
  f225 := Tryz.func124.trans (congrArg some (by kernel_rfl))
  f260 := Tryz.func149.trans (congrArg some (by kernel_rfl))
  f266 := Tryz.func147.trans (congrArg some (by kernel_rfl))
  f267 := Tryz.func126.trans (congrArg some (by kernel_rfl))
  f268 := Tryz.func105.trans (congrArg some (by kernel_rfl))
  f314 := Tryz.func148.trans (congrArg some (by kernel_rfl))
  t0 := Tryz.underlying0
  a0 := Tryz.isAgg0
  z0 := Tryz.sizeOf0
  v0 := Tryz.zeroValue0
  t3 := Tryz.underlying3
  a3 := Tryz.isAgg3
  z3 := Tryz.sizeOf3
  v3 := Tryz.zeroValue3
  t4 := Tryz.underlying4
  a4 := Tryz.isAgg4
  z4 := Tryz.sizeOf4
  v4 := Tryz.zeroValue4
  t5 := Tryz.underlying5
  a5 := Tryz.isAgg5
  z5 := Tryz.sizeOf5
  v5 := Tryz.zeroValue5
  t9 := Tryz.underlying9
  a9 := Tryz.isAgg9
  z9 := Tryz.sizeOf9
  v9 := Tryz.zeroValue9
  t21 := Tryz.underlying21
  a21 := Tryz.isAgg21
  z21 := Tryz.sizeOf21
  v21 := Tryz.zeroValue21
  t31 := Tryz.underlying114
  a31 := Tryz.isAgg114
  z31 := Tryz.sizeOf114
  v31 := Tryz.zeroValue114
  t46 := Tryz.underlying140
  a46 := Tryz.isAgg140
  z46 := Tryz.sizeOf140
  v46 := Tryz.zeroValue140
  t51 := Tryz.underlying149
  a51 := Tryz.isAgg149
  z51 := Tryz.sizeOf149
  v51 := Tryz.zeroValue149
  t105 := Tryz.underlying165
  a105 := Tryz.isAgg165
  z105 := Tryz.sizeOf165
  v105 := Tryz.zeroValue165
  t119 := Tryz.underlying135
  a119 := Tryz.isAgg135
  z119 := Tryz.sizeOf135
  t138 := Tryz.underlying211
  a138 := Tryz.isAgg211
  z138 := Tryz.sizeOf211
  v138 := Tryz.zeroValue211
  t139 := Tryz.underlying212
  a139 := Tryz.isAgg212
  z139 := Tryz.sizeOf212
  v139 := Tryz.zeroValue212
  t146 := Tryz.underlying195
  a146 := Tryz.isAgg195
  z146 := Tryz.sizeOf195
  v146 := Tryz.zeroValue195
  g1 := by kernel_rfl
  g3 := by kernel_rfl
  g4 := by kernel_rfl }
open Go.RowKit Go.Lib in
theorem Tryz.strings_Split (s sep : ByteArray) (m : Int) (w : World) (hs : s.size < 4294967281) (hm : w.cell? ⟨2, 0, none⟩ = some (.int .i64 m)) (h1 : 1 ≤ sep.size) :
    Calls Tryz.prog 78 #[.string s, .string sep] w fun e w' =>
      e = .returned (.slice (some ⟨w.heap.size, 0, none⟩) (Lib.countB s sep + 1) (Lib.countB s sep + 1)) ∧ w' = w.alloc (.cells ((Lib.splitB sep 0 (Lib.countB s sep) s).map Value.string).toArray 9) := Any.strings_Split Tryz.lays146 (by kernel_rfl) s sep m w hs hm h1
end Go.Proofs
namespace Go.Proofs.YtioeliocdbckbaaGreatDoor

/-- a whole number of a word, and is it one? -/
def wholeS (l : List UInt8) : Int × Bool := match Lib.parseIntB 64 l with
  | .ok v => (v, Lib.itoa v == l)
  | .range => (Lib.intSat 64 l, false)
  | _ => (0, false)
theorem parse_in {l : List UInt8} {v : Int} (h : Lib.parseIntB 64 l = .ok v) : -9223372036854775808 ≤ v ∧ v ≤ 9223372036854775807 := by
  unfold Lib.parseIntB at h
  split at h
  · cases h
  · rename_i c r
    dsimp only at h
    split at h
    · cases h
    · cases h
    · rename_i u _
      split at h
      · cases h
      · rename_i h1
        split at h
        · cases h
        · rename_i h2
          injection h with h
          subst h
          simp only [Nat.reducePow, Nat.reduceSub] at h1 h2
          split <;> rename_i hn <;> simp [hn] at h1 h2 <;> omega

/-! ### numerals -/
def valOf (acc : Nat) (l : List UInt8) : Nat := l.foldl (fun a c => a * 10 + (c.toNat - 48)) acc
theorem valOf_ge : ∀ (l : List UInt8) (acc : Nat), acc ≤ valOf acc l
  | [], _ => Nat.le_refl _
  | c :: r, acc => by
    have := valOf_ge r (acc * 10 + (c.toNat - 48))
    show acc ≤ valOf (acc * 10 + (c.toNat - 48)) r
    omega
theorem parse_val : ∀ (l : List UInt8) (acc : Nat), (∀ c ∈ l, 48 ≤ c.toNat ∧ c.toNat ≤ 57) → valOf acc l ≤ 65535 → Lib.parseUintM (2 ^ 64 - 1) acc l = .ok (valOf acc l)
  | [], _, _, _ => rfl
  | c :: r, acc, hd, hv => by
    have hc := hd c (List.mem_cons_self ..)
    have h1 : acc * 10 + (c.toNat - 48) ≤ 65535 := Nat.le_trans (valOf_ge r _) hv
    unfold Lib.parseUintM
    rw [if_pos hc, if_neg (by omega), if_neg (by omega)]
    exact parse_val r _ (fun x hx => hd x (List.mem_cons_of_mem _ hx)) hv
theorem digit_byte {d : Nat} (h : d < 10) : (UInt8.ofNat (48 + d)).toNat = 48 + d := by
  rw [UInt8.toNat_ofNat']; omega
theorem dec_digits : ∀ (n u : Nat), u ≤ n → (∀ c ∈ Lib.decDigits u, 48 ≤ c.toNat ∧ c.toNat ≤ 57) ∧ valOf 0 (Lib.decDigits u) = u ∧ Lib.decDigits u ≠ []
  | 0, u, h => by
    obtain rfl : u = 0 := by omega
    rw [Lib.decDigits_one (by omega)]
    refine ⟨fun c hc => ?_, by simp [valOf], by simp⟩
    simp only [List.mem_singleton] at hc
    subst hc
    rw [digit_byte (by omega)]; omega
  | n + 1, u, h => by
    by_cases hu : u < 10
    · rw [Lib.decDigits_one hu]
      refine ⟨fun c hc => ?_, ?_, by simp⟩
      · simp only [List.mem_singleton] at hc
        subst hc
        rw [digit_byte hu]; omega
      · simp only [valOf, List.foldl_cons, List.foldl_nil]
        rw [digit_byte hu]; omega
    · obtain ⟨h1, h2, h3⟩ := dec_digits n (u / 10) (by omega)
      rw [Lib.decDigits, dif_neg hu]
      refine ⟨fun c hc => ?_, ?_, by simp⟩
      · rcases List.mem_append.1 hc with hc | hc
        · exact h1 c hc
        · simp only [List.mem_singleton] at hc
          subst hc
          rw [digit_byte (by omega)]; omega
      · unfold valOf at h2 ⊢
        rw [List.foldl_append, h2]
        simp only [List.foldl_cons, List.foldl_nil]
        rw [digit_byte (by omega)]; omega
theorem itoa_digits {v : Int} (h0 : 0 ≤ v) : (∀ c ∈ Lib.itoa v, 48 ≤ c.toNat ∧ c.toNat ≤ 57) ∧ Lib.itoa v ≠ [] := by
  unfold Lib.itoa
  rw [if_neg (by omega)]
  have := dec_digits v.toNat v.toNat (Nat.le_refl _)
  exact ⟨this.1, this.2.2⟩
theorem parse_itoa {v : Int} (h0 : 0 ≤ v) (h1 : v ≤ 65535) : Lib.parseIntB 64 (Lib.itoa v) = .ok v := by
  obtain ⟨n, rfl⟩ := Int.eq_ofNat_of_zero_le h0
  rw [Lib.itoa_nonneg]
  obtain ⟨hd, hv, hne⟩ := dec_digits n n (Nat.le_refl _)
  have hp := parse_val (Lib.decDigits n) 0 hd (by rw [hv]; omega)
  rw [hv] at hp
  cases hl : Lib.decDigits n with
  | nil => exact absurd hl hne
  | cons c r =>
    rw [hl] at hd hp
    have hc := hd c (List.mem_cons_self ..)
    have hs : ¬ (c.toNat = 43 ∨ c.toNat = 45) := by omega
    have hn : ¬ c.toNat = 45 := by omega
    unfold Lib.parseIntB
    dsimp only
    rw [if_neg hs]
    have hu : Lib.parseUintB 64 (c :: r) = .ok n := by
      unfold Lib.parseUintB
      rw [if_neg (by simp)]
      exact hp
    rw [hu]
    simp only [hn, not_false_eq_true, true_and, false_and, if_false]
    rw [if_neg (by simp only [Nat.reducePow, Nat.reduceSub]; omega)]
theorem whole_itoa {v : Int} (h0 : 0 ≤ v) (h1 : v ≤ 65535) : wholeS (Lib.itoa v) = (v, true) := by
  unfold wholeS
  rw [parse_itoa h0 h1]
  simp
theorem whole_some {l : List UInt8} (h : (wholeS l).2 = true) : l = Lib.itoa (wholeS l).1 := by
  unfold wholeS at h ⊢
  split at h
  · exact (beq_iff_eq.1 h).symm
  · cases h
  · cases h
end Go.Proofs.YtioeliocdbckbaaGreatDoor
