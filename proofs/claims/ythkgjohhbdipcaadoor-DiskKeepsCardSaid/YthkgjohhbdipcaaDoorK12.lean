/- Texts laid one behind the other: KeepsSpec, Lines, DiskRd, DCheck, ConcatByte, CloneByte, RelV, AppR, ByteRows. No condition beyond theirs. -/
import Derived.Test.YthkgjohhbdipcaaDoorK8
import Derived.Test.YthkgjohhbdipcaaDoorK10
import Derived.Test.YthkgjohhbdipcaaDoorK5
import Derived.Test.YthkgjohhbdipcaaDoorProg
import Derived.KernelRfl
import Derived.Deep.LoopGhost
import Derived.Test.YthkgjohhbdipcaaDoorK3
import Derived.Test.YthkgjohhbdipcaaDoorK4
import Derived.Lib.AppendStr
set_option linter.all false
namespace Go.Proofs.YthkgjohhbdipcaaDoor

def putStep (s : TDisk × List TRec) (r : TRec) : TDisk × List TRec := if (putE s.1 r).2 = 0 then ((putE s.1 r).1, s.2 ++ [r]) else s
/-- what the law's closure makes of a disk: at most 15 records are put, those that are refused are left out. -/
def putAll (d : TDisk) (l : List TRec) : TDisk × List TRec := (l.take 15).foldl putStep (d, [])
theorem put_log {s m : List TRec} (hs : ∀ x ∈ s, recE x = 0) (h40 : s.length ≤ 40) (hn : (logW s).length + (logW m).length ≤ 60000) {r : TRec} (hp : (putE ⟨logW s, logW m⟩ r).2 = 0) :
    recE r = 0 ∧ (logW s).length + (logW (m ++ [r])).length ≤ 60000 ∧ (putE ⟨logW s, logW m⟩ r).1 = ⟨logW s, logW (m ++ [r])⟩ := by
  have a := (diskE_log (w := logW m) hs h40 hn).1
  have e : logW (m ++ [r]) = logW m ++ lineW r := by rw [logW_append]; simp [logW]
  unfold putE at hp ⊢
  rw [if_neg (by rw [a]; simp)] at hp ⊢
  split at hp
  · rename_i h1; exact absurd hp h1
  · rename_i h1
    split at hp
    · simp at hp
    · rename_i h2
      rw [if_neg h1, if_neg h2, e]
      refine ⟨by simpa using h1, ?_, ?_⟩
      · simp [lineW] at h2 ⊢; omega
      · simp [lineW]
theorem putAll_log : ∀ (l : List TRec) {s m acc : List TRec}, (∀ x ∈ s, recE x = 0) → s.length ≤ 40 → (∀ x ∈ m, recE x = 0) → (logW s).length + (logW m).length ≤ 60000 →
    ∃ x : List TRec, l.foldl putStep (⟨logW s, logW m⟩, acc) = (⟨logW s, logW (m ++ x)⟩, acc ++ x) ∧ (∀ r ∈ x, recE r = 0) ∧ x.length ≤ l.length ∧ (logW s).length + (logW (m ++ x)).length ≤ 60000
  | [], s, m, acc, _, _, _, hn => ⟨[], by simp, by simp, Nat.le_refl _, by simpa using hn⟩
  | r :: l, s, m, acc, hs, h40, hm, hn => by
    rw [List.foldl_cons]
    by_cases hp : (putE ⟨logW s, logW m⟩ r).2 = 0
    · obtain ⟨a, b, c⟩ := put_log hs h40 hn hp
      have e : putStep (⟨logW s, logW m⟩, acc) r = (⟨logW s, logW (m ++ [r])⟩, acc ++ [r]) := by unfold putStep; rw [if_pos hp, c]
      obtain ⟨x, x1, x2, x3, x4⟩ := putAll_log l (acc := acc ++ [r]) hs h40 (m := m ++ [r]) (fun y hy => by
        rcases List.mem_append.1 hy with hy | hy
        · exact hm y hy
        · simp at hy; subst hy; exact a) b
      refine ⟨r :: x, ?_, ?_, by simp; omega, by simpa using x4⟩
      · rw [e, x1]; simp
      · intro y hy
        rcases List.mem_cons.1 hy with hy | hy
        · subst hy; exact a
        · exact x2 y hy
    · have e : putStep (⟨logW s, logW m⟩, acc) r = (⟨logW s, logW m⟩, acc) := by unfold putStep; rw [if_neg hp]
      obtain ⟨x, x1, x2, x3, x4⟩ := putAll_log l (acc := acc) hs h40 hm hn
      exact ⟨x, by rw [e, x1], x2, by simp; omega, x4⟩
theorem logW_nil : logW [] = [] := rfl
theorem disk_keeps (safe more : List TRec) : ∃ a b : List TRec, putAll zeroDisk safe = (⟨[], logW a⟩, a) ∧ syncE ⟨[], logW a⟩ = (⟨logW a, []⟩, 0) ∧ putAll ⟨logW a, []⟩ more = (⟨logW a, logW b⟩, b) ∧ a.length ≤ 15 ∧ b.length ≤ 15 ∧ (logW a).length + (logW b).length ≤ 60000 ∧
    ∀ k : Nat, k ≤ (logW b).length → ∃ j, j ≤ b.length ∧ crashE ⟨logW a, logW b⟩ (k : Int) = (⟨logW a, (logW b).take k⟩, 0) ∧ recoverE ⟨logW a, (logW b).take k⟩ = (⟨logW (a ++ b.take j), []⟩, a ++ b.take j, 0) ∧ recoverE ⟨logW (a ++ b.take j), []⟩ = (⟨logW (a ++ b.take j), []⟩, a ++ b.take j, 0) := by
  obtain ⟨a, a1, a2, a3, a4⟩ := putAll_log (safe.take 15) (s := []) (m := []) (acc := []) (by simp) (by simp) (by simp) (by simp [logW])
  simp only [List.nil_append, logW_nil] at a1 a4
  have ha15 : a.length ≤ 15 := by rw [List.length_take] at a3; omega
  obtain ⟨b, b1, b2, b3, b4⟩ := putAll_log (more.take 15) (s := a) (m := []) (acc := []) a2 (by omega) (by simp) (by simp [logW] at a4 ⊢; exact a4)
  simp only [List.nil_append, logW_nil] at b1 b4
  have hb15 : b.length ≤ 15 := by rw [List.length_take] at b3; omega
  have hsz : (logW a).length ≤ 60000 := by simpa using a4
  refine ⟨a, b, a1, ?_, b1, ha15, hb15, b4, fun k hk => ?_⟩
  · have e1 : diskE ⟨logW [], logW a⟩ = 0 := (diskE_log (l := []) (w := logW a) (by simp) (by simp) (by simpa [logW] using hsz)).1
    have e2 : diskE ⟨logW a, []⟩ = 0 := (diskE_log (w := []) a2 (by omega) (by simpa using hsz)).1
    rw [logW_nil] at e1
    unfold syncE
    rw [if_neg (by rw [e1]; simp)]
    dsimp only
    rw [List.nil_append, if_neg (by rw [e2]; simp)]
  · obtain ⟨j, j1, j2, j3⟩ := lines_take b k (40 - a.length) b2 (by omega)
    have e1 := (diskE_log (w := logW b) a2 (by omega) b4).1
    have hlt : ((logW b).take k).length ≤ (logW b).length := by rw [List.length_take]; omega
    obtain ⟨e2, e3⟩ := diskE_log (w := (logW b).take k) a2 (by omega) (by omega)
    obtain ⟨_, _, t, t1, t2, _⟩ := linesOf_spec ((logW b).take k) (40 - a.length)
    rw [j2] at t1
    have e4 : ((logW b).take k).take (logW (b.take j)).length = logW (b.take j) := by rw [t1]; simp
    have hall : ∀ r ∈ a ++ b.take j, recE r = 0 := fun r hr => by
      rcases List.mem_append.1 hr with hr | hr
      · exact a2 r hr
      · exact b2 r (List.mem_of_mem_take hr)
    have hlen : (logW (a ++ b.take j)).length ≤ 60000 := by
      rw [logW_append, List.length_append]
      have := congrArg List.length t1
      rw [List.length_append] at this
      omega
    obtain ⟨e5, e6⟩ := diskE_log (w := []) hall (by rw [List.length_append, List.length_take]; omega) (by simpa using hlen)
    refine ⟨j, j1, ?_, ?_, ?_⟩
    · unfold crashE
      rw [if_neg (by rw [e1]; simp), if_neg (by show ¬ ((k : Int) < 0 ∨ ((logW b).length : Int) < (k : Int)); omega)]
      simp
    · unfold recoverE restOf
      rw [if_neg (by rw [e2]; simp)]
      dsimp only
      rw [e3]
      dsimp only
      rw [j2, j3, e4, logW_append]
    · unfold recoverE restOf
      rw [if_neg (by rw [e5]; simp)]
      dsimp only
      rw [e6]
      dsimp only
      rw [lines_nil]
      simp
end Go.Proofs.YthkgjohhbdipcaaDoor
namespace Go.Proofs.YthkgjohhbdipcaaDoor
open Go.RowKit

theorem infoRecL : (Tryd.prog.info? 34).map (fun i => (i.zero, i.size, i.bytes)) = some (some (.agg #[.int .i64 0, .int .i64 0, .int .i64 0, .slice none 0 0, .int .i64 0]), 5, 56) := by kernel_rfl
def strLen : Value → Nat
  | .string b => b.size
  | _ => 0
/-- a row of records of the call's own; what they lead to lies elsewhere. -/
def OwnRecs (W : World) (B : Nat) (v : Value) (l : List TRec) : Prop := OwnSl W B 34 5 (recR W (fun b => B ≤ b ∧ v.ownBlock ≠ some b)) v l
theorem OwnRecs.nil {W : World} {B : Nat} : OwnRecs W B (.slice none 0 0) [] := OwnSl.nil
theorem OwnRecs.below {W W' : World} {B : Nat} {v : Value} {l : List TRec} (h : OwnRecs W B v l) (hb : Below W.heap.size W W') : OwnRecs W' B v l :=
  (OwnSl.below h hb).monoR fun _ _ _ hr => hr.keep (fun _ hx _ => hx) (fun x _ hl => hb.block x hl) hb.size
theorem OwnRecs.read {W : World} {B : Nat} {v : Value} {l : List TRec} (h : OwnRecs W B v l) : RdRecs W (fun b => B ≤ b) v l :=
  OwnSl.sl (OwnSl.monoR h fun _ _ _ hr => hr.keep (fun _ hx _ => hx.1) (fun _ _ _ => rfl) (Nat.le_refl _)) (fun _ hb => hb)
theorem OwnRecs.app {W W' : World} {B : Nat} {v v' : Value} {l : List TRec} (h : OwnSl W' B 34 5 (recR W (fun b => B ≤ b ∧ v.ownBlock ≠ some b)) v' l) (hg : W.grownBy W' v.ownBlock) (hat : v'.ownBlock = v.ownBlock ∨ v'.ownBlock = some W.heap.size) : OwnRecs W' B v' l :=
  h.monoR fun _ _ _ hr => hr.keep (fun x hx hl => ⟨hx.1, fun e => by
    rcases hat with h9 | h9
    · exact hx.2 (h9.symm.trans e)
    · rw [h9] at e; injection e with e; omega⟩) (fun x hx hl => hg.block x hl (fun e => hx.2 e.symm)) hg.size
theorem OwnRecs.lt {W : World} {B : Nat} {v : Value} {l : List TRec} (h : OwnRecs W B v l) : ∀ g, v.ownBlock = some g → g < W.heap.size := fun g hg => by
  obtain ⟨o, h1, _⟩ := OwnSl.typed h g hg
  exact (Array.getElem?_eq_some_iff.1 h1).1
set_option maxRecDepth 100000 in
set_option maxHeartbeats 16000000 in
theorem lines_any (S : List UInt8) (most : Nat) (w : World) (hL : Laid w) (hs : S.length ≤ 60000) (hm : most ≤ 40) :
    Calls Tryd.prog 50 #[.string (bsL S), .int .i64 most] w fun e w' => ∃ v, e = .returned (.tuple #[v, .int .i64 ((linesOf S most).2.1 : Nat), .int .i64 (linesOf S most).2.2]) ∧ OwnRecs w' w.heap.size v (linesOf S most).1 ∧ Below w.heap.size w w' := by
  have HL := Lib.hid hL
  have hsz : (bsL S).size = S.length := by simp [bsL, ByteArray.size]
  obtain ⟨i0, hi, hz0, hz1, hz2⟩ := info_parts infoRecL
  have Hi := Lib.hid hi
  clear hL hi
  go_enter Tryd.func50, Tryd.ntmps50
  go_wp2_with fail
  clear hsz
  go_loopw [0, 7] (fun sv lv wr => ∃ (T : List UInt8) (rs : List TRec), sv = .string (bsL T) ∧ T.length ≤ S.length ∧ rs.length ≤ most ∧ linesOf S most = (rs ++ (linesOf T (most - rs.length)).1, (S.length - T.length) + (linesOf T (most - rs.length)).2.1, (linesOf T (most - rs.length)).2.2) ∧ OwnRecs wr w.heap.size lv rs ∧ Below w.heap.size w wr) (fun sv _ _ => strLen sv)
  case atStart => exact ⟨S, [], rfl, Nat.le_refl _, Nat.zero_le _, by simp, OwnRecs.nil, Below.refl _ _⟩
  case round =>
    obtain ⟨T, rs, rfl, hT, hrs, hspec, hown, hbel⟩ := hrel
    have HS := Lib.hid hspec
    have Ho := Lib.hid hown
    have Hb := Lib.hid hbel
    have hszr := hbel.size
    obtain ⟨al, cl, rfl⟩ := OwnSl.slice hown
    clear hspec hown hbel
    by_cases h0 : T = []
    · subst h0
      have HF : Hid (linesOf S most = (rs, S.length, 0)) := by show _ = _; rw [HS.out, lines_nil]; simp
      have hs1 : (bsL []).toList = [] := by rw [ByteArray.toList_eq]; rfl
      clear HS
      go_wp2
      (try simp only [Exit.inBlock, Exit.then])
      refine bodyPost_ret (v := .tuple #[.slice al rs.length cl, .int .i64 S.length, .int .i64 0]) ?_ rfl (by rw [HF.out]; exact ⟨_, rfl, Ho.out, Hb.out⟩)
      simp [results, Tryd.results50, go_sem]
      try omega
    · obtain ⟨hca, hcb⟩ := cut_len T 10
      rcases cut_cases T 10 with ⟨hno, hc⟩ | ⟨a, t, hTe, ha, hc⟩
      · have HF : Hid (linesOf S most = (rs, S.length - T.length, 8)) := by show _ = _; rw [HS.out, lines_torn hno h0]; simp
        have Hc := Lib.hid hc
        have Hne : Hid (T ≠ []) := h0
        have hsz : (bsL T).size = T.length := by simp [bsL, ByteArray.size]
        have hs1 : (bsL T).toList = T := by rw [ByteArray.toList_eq]; rfl
        have hsub : IntKind.i64.wrap ((S.length : Int) - (T.length : Int)) = ((S.length - T.length : Nat) : Int) := by rw [show ((S.length - T.length : Nat) : Int) = (S.length : Int) - (T.length : Int) by omega]; exact IntWalk.i64_in _ (by omega)
        have hb1 : (T == []) = false := by cases T with
          | nil => exact absurd rfl h0
          | cons _ _ => rfl
        clear HS hno hc h0 hca hcb
        go_wp2_with fail
        refine (cutc_any 10 T _ (HL.out.below Hb.out) (by omega)).mono ?_
        rw [Hc.out]
        rintro e w1 ⟨rfl, hb2⟩
        have Ho1 := Lib.hid (OwnRecs.below Ho.out hb2)
        have Hb1 := Lib.hid (bel_call Hb.out hb2)
        clear hb2
        dsimp only
        go_wp2
        (try simp only [Exit.inBlock, Exit.then])
        refine bodyPost_ret (v := .tuple #[.slice al rs.length cl, .int .i64 ((S.length - T.length : Nat) : Int), .int .i64 8]) ?_ rfl (by rw [HF.out]; exact ⟨_, rfl, Ho1.out, Hb1.out⟩)
        simp [results, Tryd.results50, go_sem]
        try omega
      · subst hTe
        have Hc := Lib.hid hc
        have HLC := Lib.hid (lines_cons ha (most - rs.length) (t := t))
        have hlt : a.length + t.length + 1 ≤ S.length := by simp at hT; omega
        clear hT
        have hal : a.length ≤ 60000 := by omega
        have hTl : (a ++ 10 :: t).length = a.length + t.length + 1 := by simp; omega
        obtain ⟨TT, hTT⟩ : ∃ TT, a ++ 10 :: t = TT := ⟨_, rfl⟩
        have HTT := Lib.hid hTT
        rw [hTT] at HS Hc HLC hTl h0 ⊢
        have hsz : (bsL TT).size = TT.length := by simp [bsL, ByteArray.size]
        have hs1 : (bsL TT).toList = TT := by rw [ByteArray.toList_eq]; rfl
        have hsub : IntKind.i64.wrap ((S.length : Int) - (TT.length : Int)) = ((S.length - TT.length : Nat) : Int) := by rw [show ((S.length - TT.length : Nat) : Int) = (S.length : Int) - (TT.length : Int) by omega]; exact IntWalk.i64_in _ (by omega)
        have hb1 : (TT == []) = false := by cases TT with
          | nil => exact absurd rfl h0
          | cons _ _ => rfl
        have hTn : TT ≠ [] := h0
        have hTl2 : TT.length ≤ S.length := by omega
        have HTl := Lib.hid hTl
        clear hTl
        clear hc h0 hca hcb ha hTT
        go_wp2_with fail
        refine (cutc_any 10 TT _ (HL.out.below Hb.out) (by omega)).mono ?_
        rw [Hc.out]
        rintro e w1 ⟨rfl, hb2⟩
        have Ho1 := Lib.hid (OwnRecs.below Ho.out hb2)
        have Hb1 := Lib.hid (bel_call Hb.out hb2)
        clear hb2 Ho Hb
        dsimp only
        go_wp2_with fail
        refine (nparse_any a _ (HL.out.below Hb1.out)).mono ?_
        obtain ⟨⟨x, xe⟩, hx⟩ : ∃ E, readRec a = E := ⟨_, rfl⟩
        have Hx := Lib.hid hx
        rw [nreadE_short hal, hx]
        rintro e w2 ⟨ux, rfl, hrx, hb3⟩
        dsimp only at hrx
        obtain ⟨ax, cx, rfl, _⟩ := Sl.form hrx
        dsimp only
        have HA := Lib.hid (bel_alloc (Below.refl w2.heap.size w2) (.cells #[.int .i64 x.kind, .int .i64 x.cell, .int .i64 x.from_, .slice ax x.p.rules.length cx, .int .i64 x.p.dflt] 34))
        have Ho2 := Lib.hid (OwnRecs.below (OwnRecs.below Ho1.out hb3) HA.out)
        have Hb2 := Lib.hid (bel_call (bel_call Hb1.out hb3) HA.out)
        have Hx2 := Lib.hid (heap_last w2 (.cells #[.int .i64 x.kind, .int .i64 x.cell, .int .i64 x.from_, .slice ax x.p.rules.length cx, .int .i64 x.p.dflt] 34))
        have Hrx := Lib.hid (RdRules.below hrx HA.out)
        have Hown1 : Hid (∀ g, (Value.slice al rs.length cl).ownBlock = some g → g < w1.heap.size) := OwnRecs.lt Ho1.out
        have Hw1 : Hid (w.heap.size ≤ w1.heap.size) := Hb1.out.size
        clear hx hrx hb3 Ho1 Hb1
        by_cases hxe : xe = 0
        · subst hxe
          by_cases hmo : rs.length = most
          · have HF : Hid (linesOf S most = (rs, S.length - TT.length, 2)) := by show _ = _; rw [HS.out, HLC.out, Hx.out, if_neg (by simp), if_pos (by omega)]; simp
            have hmo' : ((rs.length : Int) == (most : Int)) = true := beq_iff_eq.2 (by omega)
            clear hmo HS HLC
            go_wp2
            (try simp only [Exit.inBlock, Exit.then])
            refine bodyPost_ret (v := .tuple #[.slice al rs.length cl, .int .i64 ((S.length - TT.length : Nat) : Int), .int .i64 2]) ?_ rfl (by rw [HF.out]; exact ⟨_, rfl, Ho2.out, Hb2.out⟩)
            simp [results, Tryd.results50, go_sem]
            try omega
          · have hmo' : ((rs.length : Int) == (most : Int)) = false := beq_eq_false_iff_ne.2 (by omega)
            have HF : Hid (linesOf S most = ((rs ++ [x]) ++ (linesOf t (most - (rs ++ [x]).length)).1, (S.length - t.length) + (linesOf t (most - (rs ++ [x]).length)).2.1, (linesOf t (most - (rs ++ [x]).length)).2.2)) := by
              show _ = _
              have e1 : most - rs.length - 1 = most - (rs ++ [x]).length := by simp; omega
              rw [HS.out, HLC.out, Hx.out, if_neg (by simp), if_neg (by omega), e1]
              refine Prod.ext (by simp) (Prod.ext ?_ rfl)
              dsimp only
              have := HTl.out
              clear hsub Hown1
              omega
            have hrs40 : rs.length ≤ 40 := by omega
            have hrsl : (rs ++ [x]).length ≤ most := by simp; omega
            clear hmo HS HLC
            have hqx := cells_of Hx2.out
            have HA3 := Lib.hid (bel_alloc (Below.refl (w2.alloc (.cells #[.int .i64 x.kind, .int .i64 x.cell, .int .i64 x.from_, .slice ax x.p.rules.length cx, .int .i64 x.p.dflt] 34)).heap.size (w2.alloc (.cells #[.int .i64 x.kind, .int .i64 x.cell, .int .i64 x.from_, .slice ax x.p.rules.length cx, .int .i64 x.p.dflt] 34))) (.cells #[.int .i64 x.kind, .int .i64 x.cell, .int .i64 x.from_, .slice ax x.p.rules.length cx, .int .i64 x.p.dflt] 34))
            have Ho3 := Lib.hid (OwnRecs.below Ho2.out HA3.out)
            have Hb3 := Lib.hid (bel_call Hb2.out HA3.out)
            have HR1 : Hid (Sl ((w2.alloc (.cells #[.int .i64 x.kind, .int .i64 x.cell, .int .i64 x.from_, .slice ax x.p.rules.length cx, .int .i64 x.p.dflt] 34)).alloc (.cells #[.int .i64 x.kind, .int .i64 x.cell, .int .i64 x.from_, .slice ax x.p.rules.length cx, .int .i64 x.p.dflt] 34)) (fun _ => True) 5 (recR ((w2.alloc (.cells #[.int .i64 x.kind, .int .i64 x.cell, .int .i64 x.from_, .slice ax x.p.rules.length cx, .int .i64 x.p.dflt] 34)).alloc (.cells #[.int .i64 x.kind, .int .i64 x.cell, .int .i64 x.from_, .slice ax x.p.rules.length cx, .int .i64 x.p.dflt] 34)) (fun b => w.heap.size ≤ b ∧ (Value.slice al rs.length cl).ownBlock ≠ some b)) (.slice (some ⟨w2.heap.size + 1, 0, none⟩) 1 1) [x]) :=
              sl_block (sz := 5) (xs := [x]) (rows := [[.int .i64 x.kind, .int .i64 x.cell, .int .i64 x.from_, .slice ax x.p.rules.length cx, .int .i64 x.p.dflt]]) (RowsOf.cons RowsOf.nil ⟨_, rfl, Hrx.out.keep (fun b hb _ => by
                have h1 : w1.heap.size ≤ b := hb
                exact ⟨by have := Hw1.out; omega, fun e => by have := Hown1.out b e; omega⟩) (fun b _ hl => HA3.out.block b hl) HA3.out.size⟩ rfl) (blk_at (by simp)) rfl trivial (by simp [maxLen])
            go_wp2_with (at_builtin; (
              refine wpList_app2 rfl _ _ 40 rfl w.heap.size 34 i0 _ 5 56 Tryd.underlying40 Hi.out hz0 hz1 hz2 rfl (by decide) _ _ rfl Ho3.out _ _ rfl HR1.out (fun y _ cs h => recR_one y cs h) (by show _ + 1 ≤ maxLen; unfold maxLen; omega) (by show (_ + 1) * 56 ≤ _; omega) Hb3.out.size ?_
              intro v8 w8 hown8 hg8 hat8
              have Ho8 := Lib.hid (OwnRecs.app hown8 hg8 hat8)
              have Hb8 := Lib.hid (OwnSl.grown Ho3.out Hb3.out hg8 Hb3.out.size (Nat.le_refl _))
              clear hown8 hg8 hat8))
            go_roundw
            case rel => first | exact ⟨t, rs ++ [x], rfl, by have := HTl.out; omega, hrsl, HF.out, Ho8.out, Hb8.out⟩ | ((repeat apply Exists.intro); exact ⟨⟨t, rs ++ [x], rfl, by have := HTl.out; omega, hrsl, HF.out, Ho8.out, Hb8.out⟩, rfl⟩)
            case measure => simp [strLen, bsL, ByteArray.size]; have := HTl.out; omega
        · have hne : (xe != 0) = true := bne_iff_ne.2 hxe
          have HF : Hid (linesOf S most = (rs, S.length - TT.length, xe)) := by show _ = _; rw [HS.out, HLC.out, Hx.out, if_pos hxe]; simp
          clear hxe HS HLC
          go_wp2
          (try simp only [Exit.inBlock, Exit.then])
          refine bodyPost_ret (v := .tuple #[.slice al rs.length cl, .int .i64 ((S.length - TT.length : Nat) : Int), .int .i64 xe]) ?_ rfl (by rw [HF.out]; exact ⟨_, rfl, Ho2.out, Hb2.out⟩)
          simp [results, Tryd.results50, go_sem]
          try omega
end Go.Proofs.YthkgjohhbdipcaaDoor
namespace Go.Proofs.YthkgjohhbdipcaaDoor
open Go.RowKit

/-- a disk as a value. -/
@[reducible] def diskV (u v : Value) : Value := .agg #[u, v]
def RdDisk (w : World) (D : Nat → Prop) (u v : Value) (d : TDisk) : Prop := RdBytes w D u d.safe ∧ RdBytes w D v d.wait
theorem RdDisk.keep {w w' : World} {D D' : Nat → Prop} {u v : Value} {d : TDisk} (h : RdDisk w D u v d) (hD : ∀ b, D b → b < w.heap.size → D' b)
    (hw : ∀ b, D b → b < w.heap.size → w'.heap[b]? = w.heap[b]?) (hs : w.heap.size ≤ w'.heap.size) : RdDisk w' D' u v d := ⟨RdBytes.keep h.1 hD hw hs, RdBytes.keep h.2 hD hw hs⟩
theorem RdDisk.below {w w' : World} {D : Nat → Prop} {u v : Value} {d : TDisk} (h : RdDisk w D u v d) (hb : Below w.heap.size w w') : RdDisk w' D u v d := ⟨RdBytes.below h.1 hb, RdBytes.below h.2 hb⟩
theorem RdDisk.true {w : World} {D : Nat → Prop} {u v : Value} {d : TDisk} (h : RdDisk w D u v d) : RdDisk w (fun _ => True) u v d := ⟨RdBytes.true h.1, RdBytes.true h.2⟩
theorem RdDisk.lt {w : World} {D : Nat → Prop} {u v : Value} {d : TDisk} (h : RdDisk w D u v d) : RdDisk w (fun b => b < w.heap.size) u v d := ⟨RdBytes.lt h.1, RdBytes.lt h.2⟩
theorem nil_disk (w : World) (D : Nat → Prop) : RdDisk w D (.slice none 0 0) (.slice none 0 0) zeroDisk := ⟨nil_bytes w D, nil_bytes w D⟩
end Go.Proofs.YthkgjohhbdipcaaDoor
namespace Go.Proofs.YthkgjohhbdipcaaDoor
open Go.RowKit

set_option maxRecDepth 100000 in
set_option maxHeartbeats 4000000 in
theorem dcheck_any (u v : Value) (d : TDisk) (D : Nat → Prop) (w : World) (h : RdDisk w D u v d) (hL : Laid w) :
    Calls Tryd.prog 47 #[diskV u v] w fun e w' => e = .returned (.int .i64 (diskE d)) ∧ Below w.heap.size w w' := by
  have HL := Lib.hid hL
  have H1 := Lib.hid h.1
  obtain ⟨a1, c1, rfl, hc1, _⟩ := Sl.form h.1
  obtain ⟨a2, c2, rfl, hc2, _⟩ := Sl.form h.2
  have hm1 : d.safe.length ≤ 9223372036854775807 := by omega
  have hm2 : d.wait.length ≤ 9223372036854775807 := by omega
  clear h hL hc1 hc2
  have HB := Lib.hid (Bx.one (w := w) (o := .cells #[.slice a1 d.safe.length c1, .slice a2 d.wait.length c2] 43))
  have hcv : (convert 41 9 (.slice a1 d.safe.length c1)).run Tryd.prog (w.alloc (.cells #[.slice a1 d.safe.length c1, .slice a2 d.wait.length c2] 43)) = .ok (.string (bsL d.safe)) (w.alloc (.cells #[.slice a1 d.safe.length c1, .slice a2 d.wait.length c2] 43)) := bytes_string (RdBytes.below H1.out HB.out.bel)
  by_cases h1 : 60000 < d.safe.length
  · have HE : Hid (diskE d = 2) := if_pos (by omega)
    have h1' : (60000 : Int) < (d.safe.length : Int) := by omega
    have HBL := Lib.hid HB.out.bel
    clear hcv
    go_enter Tryd.func47, Tryd.ntmps47
    go_wp2
    go_ret
    exact ⟨by rw [HE.out]; rfl, HBL.out⟩
  · have h1' : ¬ (60000 : Int) < (d.safe.length : Int) := by omega
    have hsub : IntKind.i64.wrap (60000 - (d.safe.length : Int)) = 60000 - (d.safe.length : Int) := IntWalk.i64_in _ (by omega)
    by_cases h2 : 60000 < d.safe.length + d.wait.length
    · have HE : Hid (diskE d = 2) := if_pos h2
      have h2' : 60000 - (d.safe.length : Int) < (d.wait.length : Int) := by omega
      have HBL := Lib.hid HB.out.bel
      clear hcv
      go_enter Tryd.func47, Tryd.ntmps47
      go_wp2
      go_ret
      exact ⟨by rw [HE.out]; rfl, HBL.out⟩
    · have HE : Hid (diskE d = (linesOf d.safe 40).2.2) := if_neg h2
      have h2' : ¬ 60000 - (d.safe.length : Int) < (d.wait.length : Int) := by omega
      have Hs : Hid (d.safe.length ≤ 60000) := by show _ ≤ _; omega
      go_enter Tryd.func47, Tryd.ntmps47
      go_wp2_with fail
      clear hcv
      refine (lines_any d.safe 40 _ (HL.out.below HB.out.bel) Hs.out (by decide)).mono ?_
      rintro e w1 ⟨v1, rfl, _, hb1⟩
      have HBf := Lib.hid (HB.out.below hb1).bel
      clear hb1
      go_wp2
      go_ret
      exact ⟨by rw [HE.out]; rfl, HBf.out⟩
end Go.Proofs.YthkgjohhbdipcaaDoor
namespace Go.Proofs.YthkgjohhbdipcaaDoor
open Go.RowKit

theorem infoByte : (Tryd.prog.info? 5).map (fun i => (i.zero, i.size, i.bytes)) = some (some (.int .u8 0), 1, 1) := by kernel_rfl

set_option maxHeartbeats 1000000 in
theorem growByte_nil (n : Nat) (w : World) (hn : n * 1 ≤ 140737488355328) : Calls Tryd.prog 65 #[.slice none 0 0, .int .i64 n] w fun e w' => ∃ v, e = .returned v ∧ OwnSl w' w.heap.size 5 1 byteR v ([] : List UInt8) ∧ Below w.heap.size w w' := by
  by_cases h0 : n = 0
  · subst h0
    go_enter Tryd.func65, Tryd.ntmps65
    go_wp2
    go_ret
    exact ⟨_, rfl, OwnSl.nil, Below.refl _ _⟩
  · obtain ⟨i0, hi, hz0, hz1, hz2⟩ := info_parts infoByte
    have hrun := fun (W : World) (ty : TypeId) => Lib.run_append_nil_zeros (P := Tryd.prog) W 41 3 ty 5 i0 (.int .u8 0) .i64 .i64 Tryd.underlying41 Tryd.underlying3 hi hz0 n (by omega) (by rw [hz1]; omega) (by omega) (by rw [hz2]; omega)
    have hgc : ∀ W : World, grownCap W n 0 5 ≤ maxLen := fun W => grownCap_le_maxLen W n 0 5 (by unfold maxLen; omega)
    have h1 : 0 < (n : Int) := by omega
    have h2 : (n : Int) ≤ 9223372036854775807 := by omega
    have Hrun := Lib.hid hrun
    have Hz := Lib.hid hz1
    clear hrun hi hz0 hz1 hz2 h0 hn
    go_enter Tryd.func65, Tryd.ntmps65
    go_wp2_with (at_builtin; refine Lib.wpList_append_run _ rfl _ _ _ _ rfl _ _ rfl rfl _ _ (Hrun.out _ _) ?_)
    go_ret
    refine ⟨_, rfl, ⟨[], RowsOf.nil, by simp, .inr ⟨w.heap.size, grownCap w n 0 5, _, rfl, Nat.le_refl _, blk_at rfl, by simp, hgc w, ?_, by simp⟩⟩, (bel_alloc (Below.refl _ _) _).drew⟩
    have hge := grownCap_ge w n 0 5
    simp [size_zeroCells]
    omega

theorem oneByte (y : UInt8) (cs : List Value) (h : byteR y cs) : ∀ c ∈ cs, c.oneCell' = true := by
  unfold byteR at h; subst h; simp [Value.oneCell']
/-- a slice of slices. -/
def rowsRByte (w : World) (D : Nat → Prop) (l : List UInt8) (cs : List Value) : Prop := ∃ u, cs = [u] ∧ Sl w D 1 byteR u l
set_option maxRecDepth 100000 in
set_option maxHeartbeats 2000000 in
theorem concatByte_any (v : Value) (ls : List (List UInt8)) (D : Nat → Prop) (w : World) (h : Sl w D 1 (rowsRByte w D) v ls) (hn : lenTo ls ls.length * 1 ≤ 140737488355328) :
    Calls Tryd.prog 49 #[v] w fun e w' => ∃ v', e = .returned v' ∧ OwnSl w' w.heap.size 5 1 byteR v' ls.flatten ∧ Below w.heap.size w w' := by
  obtain ⟨a, c, rfl, hlc, hcm, hat⟩ := Sl.form h
  obtain ⟨i0, hi, hz0, hz1, hz2⟩ := info_parts infoByte
  have H := Lib.hid h
  clear h
  have hrow : ∀ k (hk : k < ls.length) b o, a = some ⟨b, o, none⟩ → ∃ (u : Value) (cu : Option Addr × Nat), u = Value.slice cu.1 ls[k].length cu.2 ∧ Sl w D 1 byteR u ls[k] ∧ ∀ wr, Below w.heap.size w wr → wr.cell? ⟨b, o + k, none⟩ = some u := fun k hk b o e => by
    subst e
    obtain ⟨cs, hcs, ⟨u, hu, hs⟩, hcell⟩ := Sl.get H.out hk
    obtain ⟨a', c', hv, _⟩ := Sl.form hs
    refine ⟨u, (a', c'), hv, hs, fun wr hb => ?_⟩
    subst hu
    have hc := hcell 0 u rfl
    rw [Nat.mul_one] at hc
    exact (hb.cell (p := ⟨b, o + k, none⟩) (World.block_lt_of_cell? _ _ hc)).trans hc
  have Hrow := Lib.hid hrow
  have Hn := Lib.hid hn
  have hn' : lenTo ls ls.length ≤ 140737488355328 := by omega
  clear hrow hn
  go_enter Tryd.func49, Tryd.ntmps49
  go_wp2_with fail
  go_loop [3, 11] (fun s i => ∃ k : Nat, k ≤ ls.length ∧ i = .int .i64 k ∧ s = .int .i64 (lenTo ls k)) (fun _ i => ls.length - (intOf i).toNat)
  case atStart => exact ⟨0, by omega, rfl, rfl⟩
  case round =>
    obtain ⟨k, hk, rfl, rfl⟩ := hrel
    by_cases hlt : k < ls.length
    · obtain ⟨b, o, rfl, hDb, hb⟩ := hat (by omega)
      obtain ⟨u, ⟨a', c'⟩, rfl, hs, hc⟩ := Hrow.out k hlt b o rfl
      have hcw := hc w (Below.refl _ _)
      have hle := lenTo_le ls (k + 1) (by omega)
      have Hs := Lib.hid (lenTo_succ ls k hlt)
      have hle' : lenTo ls k + ls[k].length ≤ 140737488355328 := by have := Hs.out; omega
      clear hs hc
      go_wp2
      go_round
      case rel => exact ⟨k + 1, by omega, by go_num, by rw [Hs.out]; go_num⟩
      case measure => simp [intOf]; omega
    · obtain rfl : k = ls.length := by omega
      go_wp2_with fail
      refine (growByte_nil (lenTo ls ls.length) _ Hn.out).mono ?_
      rintro e w1 ⟨vg, rfl, hown, hb1⟩
      go_wp2_with fail
      go_loopw [6, 27] (fun s i wr => ∃ (k : Nat) (vs : Value), k ≤ ls.length ∧ i = .int .i64 k ∧ vs = s ∧ OwnSl wr w.heap.size 5 1 byteR vs (ls.take k).flatten ∧ Below w.heap.size w wr) (fun _ i _ => ls.length - (intOf i).toNat)
      case atStart => exact ⟨0, vg, by omega, rfl, rfl, by simpa using hown, hb1⟩
      case round =>
        obtain ⟨k, vs, hk, rfl, rfl, hown, hbw⟩ := hrel
        have Hown := Lib.hid hown
        have hsz := hbw.size
        clear hown
        by_cases hlt : k < ls.length
        · obtain ⟨b, o, rfl, hDb, hb⟩ := hat (by omega)
          obtain ⟨u, ⟨a', c'⟩, rfl, hs, hc⟩ := Hrow.out k hlt b o rfl
          have hcw := hc wr hbw
          have hle := lenTo_le ls (k + 1) (by omega)
          have Hl := Lib.hid (lenTo_succ ls k hlt)
          have hs' : Sl wr D 1 byteR (.slice a' ls[k].length c') ls[k] := Sl.mono hs (fun _ h _ => h) (fun b _ hlt => hbw.block b hlt) hbw.size (fun _ _ _ h => h)
          have Hs' := Lib.hid hs'
          have Hs := Lib.hid (flat_take_succ ls k hlt)
          clear hs hc hs'
          go_wp2_with (at_builtin; refine wpList_app rfl _ _ 41 rfl w.heap.size 5 i0 _ 1 1 Tryd.underlying41 hi hz0 hz1 hz2 rfl (by decide) _ _ rfl Hown.out _ _ rfl Hs'.out (fun y _ cs h => oneByte y cs h) (by have := Hl.out; unfold lenTo at *; unfold maxLen; omega) (by have := Hn.out; have := Hl.out; unfold lenTo at *; omega) hsz ?_; intro v' w2 hown' hg)
          go_roundw
          case rel => exact ⟨k + 1, v', by omega, by go_num, rfl, by rw [← flat_take_succ ls k hlt]; exact hown', Hown.out.grown hbw hg hsz (Nat.le_refl _)⟩
          case measure => simp [intOf]; omega
        · obtain rfl : k = ls.length := by omega
          have Hf : Hid (OwnSl wr w.heap.size 5 1 byteR vs ls.flatten) := by have := Hown.out; rwa [List.take_length] at this
          go_wp2
          go_ret
          exact ⟨_, rfl, Hf.out, hbw⟩
end Go.Proofs.YthkgjohhbdipcaaDoor
namespace Go.Proofs.YthkgjohhbdipcaaDoor
open Go.RowKit

set_option maxRecDepth 100000 in
set_option maxHeartbeats 1000000 in
theorem cloneByte_any {α : Type} (R : α → List Value → Prop) (h1R : ∀ (y : α) (cs : List Value), R y cs → ∀ c ∈ cs, c.oneCell' = true) (v : Value) (xs : List α) (D : Nat → Prop) (w : World) (h : Sl w D 1 R v xs) (hn : xs.length * 1 ≤ 140737488355328) :
    Calls Tryd.prog 48 #[v] w fun e w' => ∃ v', e = .returned v' ∧ OwnSl w' w.heap.size 5 1 R v' xs ∧ Below w.heap.size w w' := by
  obtain ⟨i0, hi, hz0, hz1, hz2⟩ := info_parts infoByte
  have H := Lib.hid h
  obtain ⟨a, c, rfl, hlc, hcm, hnil, hat⟩ := h
  have Hi := Lib.hid hi
  clear hi
  cases a with
  | none =>
    have hc := hnil rfl
    subst hc
    have hx : xs = [] := List.length_eq_zero_iff.1 (by omega)
    subst hx
    have hq := fun (a : Option Addr) (n c : Nat) (W : World) => Lib.run_eql_slice_nil (P := Tryd.prog) W 41 5 a n c 0 0 Tryd.underlying41
    go_enter Tryd.func48, Tryd.ntmps48
    go_wp2
    go_ret
    exact ⟨_, rfl, OwnSl.nil, Below.refl _ _⟩
  | some ad =>
    have H2 := Lib.hid (H.out.belowR (bel_alloc (Below.refl _ w) (.cells #[] 5)) (fun _ _ _ h => h))
    have Hown : Hid (OwnSl (w.alloc (.cells #[] 5)) w.heap.size 5 1 R (.slice (some ⟨w.heap.size, 0, none⟩) 0 0) ([] : List α)) :=
      ⟨[], RowsOf.nil, by simp, .inr ⟨w.heap.size, 0, #[], rfl, Nat.le_refl _, heap_last _ _, by simp, by simp, by simp, by simp⟩⟩
    clear hat hnil
    have hq := fun (a : Option Addr) (n c : Nat) (W : World) => Lib.run_eql_slice_nil (P := Tryd.prog) W 41 5 a n c 0 0 Tryd.underlying41
    go_enter Tryd.func48, Tryd.ntmps48
    go_wp2_with (at_builtin; refine wpList_app rfl _ _ 41 rfl w.heap.size 5 i0 _ 1 1 Tryd.underlying41 Hi.out hz0 hz1 hz2 rfl (by decide) _ _ rfl Hown.out _ _ rfl H2.out (fun y _ cs h => h1R y cs h) (by show 0 + _ ≤ maxLen; unfold maxLen; omega) (by show (0 + _) * 1 ≤ _; omega) (by simp) ?_; intro v' w3 hown' hg)
    go_ret
    exact ⟨_, rfl, hown', Hown.out.grown (bel_alloc (Below.refl _ _) _) hg (by simp) (Nat.le_refl _)⟩
end Go.Proofs.YthkgjohhbdipcaaDoor
namespace Go.Proofs.YthkgjohhbdipcaaDoor.RV
open Go.RowKit

section
variable (P : Program) (ops : Array Oper) (Inv : (Nat → Bool) → (Nat → Value) → World → Prop) (T : Nat → (Nat → Value) → World → World → Prop) (F : Nat → (Nat → Bool) → (Nat → Value) → World → Prop) (bs : List (List Nat)) (Q : Act → World → Prop) (n : Nat)
def relOb (i : Nat) (o : Oper) (av : (Nat → Value) → Act) (E : (Nat → Value) → Value → Prop) : Prop :=
  ∀ (done : Nat → Bool) (vf : Nat → Value) (w : World), Inv done vf w → done i = false → (∀ k ∈ (prune o).after.toList.map (fun e => e.on), done k = true) → (∀ k : Nat, i ∈ bs.getD k [] → done k = false) → (∀ k, done k = true → F k done vf w) →
    ∀ R : Value → World → Prop, (∀ (v : Value) (w' : World), Inv (updDone done i) (updVal vf i v) w' → T i vf w w' → E vf v → F i (updDone done i) (updVal vf i v) w' → R v w') → if Region.wanted o (yielded ops (av vf).tmps) then gives P o (av vf) w R else R undef w
def relWalk : List Oper → Nat → ((Nat → Value) → Act) → Prop
  | [], _, av => ∀ (done : Nat → Bool) (vf : Nat → Value) (w : World), (∀ k, k < n → done k = true) → Inv done vf w → (∀ k, k < n → F k done vf w) → Q (av vf) w
  | o :: l, i, av => (∃ X : (Nat → Value) → Value, Proper bs i X ∧ relOb P ops Inv T F bs i o av (fun vf v => v = X vf) ∧ relWalk l (i + 1) (fun vf => (av vf).put o.dst (X vf))) ∨
      (relOb P ops Inv T F bs i o av (fun _ _ => True) ∧ relWalk l (i + 1) (fun vf => (av vf).put o.dst (vf i)))
end
section
variable {P : Program} {ops : Array Oper} {Inv : (Nat → Bool) → (Nat → Value) → World → Prop} {T : Nat → (Nat → Value) → World → World → Prop} {F : Nat → (Nat → Bool) → (Nat → Value) → World → Prop} {bs : List (List Nat)} {Q : Act → World → Prop} {n : Nat} {o : Oper} {l : List Oper} {i : Nat} {av : (Nat → Value) → Act}
/-- an operation whose value is told. -/
theorem rel_ex (h : ∀ K : ((Nat → Value) → Act) → Prop, (∀ a', relWalk P ops Inv T F bs Q n l (i + 1) a' → K a') → ∃ X : (Nat → Value) → Value, relOb P ops Inv T F bs i o av (fun vf v => v = X vf) ∧ Proper bs i X ∧ K (fun vf => (av vf).put o.dst (X vf))) : relWalk P ops Inv T F bs Q n (o :: l) i av := by
  obtain ⟨X, h1, h2, h3⟩ := h _ (fun _ h => h)
  exact .inl ⟨X, h2, h1, h3⟩
/-- an operation whose value meets a fact. -/
theorem rel_pr (h : ∀ K : ((Nat → Value) → Act) → Prop, (∀ a', relWalk P ops Inv T F bs Q n l (i + 1) a' → K a') → relOb P ops Inv T F bs i o av (fun _ _ => True) ∧ K (fun vf => (av vf).put o.dst (vf i))) : relWalk P ops Inv T F bs Q n (o :: l) i av := by
  exact .inr (h _ (fun _ h => h))
end
section
variable {P : Program} {ops : Array Oper} {Inv : (Nat → Bool) → (Nat → Value) → World → Prop} {T : Nat → (Nat → Value) → World → World → Prop} {F : Nat → (Nat → Bool) → (Nat → Value) → World → Prop} {bs : List (List Nat)} {Q : Act → World → Prop} {n : Nat}
theorem rel_ext : ∀ (l : List Oper) (i : Nat) (av : (Nat → Value) → Act), relWalk P ops Inv T F bs Q n l i av → ∃ Xs : Nat → Option ((Nat → Value) → Value),
    (∀ k X, Xs k = some X → Proper bs k X) ∧ (∀ j o, l[j]? = some o → relOb P ops Inv T F bs (i + j) o (fun vf => lexAct (valsOf Xs vf) (l.take j) i (av vf)) (exOf (Xs (i + j)))) ∧
    (∀ (done : Nat → Bool) (vf : Nat → Value) (w : World), (∀ k, k < n → done k = true) → Inv done vf w → (∀ k, k < n → F k done vf w) → Q (lexAct (valsOf Xs vf) l i (av vf)) w)
  | [], i, av, h => ⟨fun _ => none, (fun _ _ h => by cases h), (fun j o hj => by simp at hj), h⟩
  | o :: l, i, av, h => by
    have main : ∀ (X0 : Option ((Nat → Value) → Value)), (∀ X, X0 = some X → Proper bs i X) → relOb P ops Inv T F bs i o av (exOf X0) →
        (∃ Xs : Nat → Option ((Nat → Value) → Value), (∀ k X, Xs k = some X → Proper bs k X) ∧ (∀ j o', l[j]? = some o' → relOb P ops Inv T F bs (i + 1 + j) o' (fun vf => lexAct (valsOf Xs vf) (l.take j) (i + 1) ((av vf).put o.dst (valOr X0 vf i))) (exOf (Xs (i + 1 + j)))) ∧
          (∀ (done : Nat → Bool) (vf : Nat → Value) (w : World), (∀ k, k < n → done k = true) → Inv done vf w → (∀ k, k < n → F k done vf w) → Q (lexAct (valsOf Xs vf) l (i + 1) ((av vf).put o.dst (valOr X0 vf i))) w)) →
        ∃ Xs : Nat → Option ((Nat → Value) → Value), (∀ k X, Xs k = some X → Proper bs k X) ∧ (∀ j o', (o :: l)[j]? = some o' → relOb P ops Inv T F bs (i + j) o' (fun vf => lexAct (valsOf Xs vf) ((o :: l).take j) i (av vf)) (exOf (Xs (i + j)))) ∧
          (∀ (done : Nat → Bool) (vf : Nat → Value) (w : World), (∀ k, k < n → done k = true) → Inv done vf w → (∀ k, k < n → F k done vf w) → Q (lexAct (valsOf Xs vf) (o :: l) i (av vf)) w) := by
      rintro X0 hp0 hob ⟨Xs, hp, hobs, hend⟩
      let Ys : Nat → Option ((Nat → Value) → Value) := fun k => if k = i then X0 else Xs k
      have yi : Ys i = X0 := if_pos rfl
      have yk : ∀ k, i + 1 ≤ k → Ys k = Xs k := fun k hk => if_neg (by omega)
      have hv : ∀ vf, valsOf Ys vf i = (valOr X0 vf i) := fun vf => by unfold valsOf; rw [yi]
      have hc : ∀ (m : List Oper) (vf : Nat → Value) (a : Act), lexAct (valsOf Ys vf) m (i + 1) a = lexAct (valsOf Xs vf) m (i + 1) a := fun m vf a => lexAct_congr m (i + 1) a fun k hk => by unfold valsOf; rw [yk k hk]
      refine ⟨Ys, fun k X hk => ?_, fun j o' hj => ?_, fun done vf w hd hI hF => ?_⟩
      · by_cases e : k = i
        · subst e; rw [yi] at hk; exact hp0 X hk
        · have : Ys k = Xs k := if_neg e
          rw [this] at hk; exact hp k X hk
      · cases j with
        | zero =>
          simp only [List.getElem?_cons_zero, Option.some.injEq] at hj
          subst hj
          rw [Nat.add_zero, yi]
          exact hob
        | succ j =>
          have := hobs j o' (by simpa using hj)
          rw [show i + (j + 1) = i + 1 + j by omega, yk _ (by omega)]
          refine (congrArg (fun a => relOb P ops Inv T F bs (i + 1 + j) o' a (exOf (Xs (i + 1 + j)))) ?_).mp this
          funext vf
          simp only [List.take_succ_cons, lexAct, hv]
          exact (hc _ _ _).symm
      · simp only [lexAct, hv]
        rw [hc]
        exact hend done vf w hd hI hF
    rcases h with ⟨X, hp, hob, hw⟩ | ⟨hob, hw⟩
    · exact main (some X) (fun Y e => by injection e with e; subst e; exact hp) (fun done vf w h1 h2 h3 h4 h5 R hR => hob done vf w h1 h2 h3 h4 h5 R fun v w' a b c d => hR v w' a b (fun Y e => by injection e with e; subst e; exact c) d) (rel_ext l (i + 1) _ hw)
    · exact main none (fun Y e => by cases e) (fun done vf w h1 h2 h3 h4 h5 R hR => hob done vf w h1 h2 h3 h4 h5 R fun v w' a b _ d => hR v w' a b (fun Y e => by cases e) d) (rel_ext l (i + 1) _ hw)
end

/-- What holds when the operations that are listed have been done. -/
structure RelInv (l : List Oper) (Xs : Nat → Option ((Nat → Value) → Value)) (Inv : (Nat → Bool) → (Nat → Value) → World → Prop) (F : Nat → (Nat → Bool) → (Nat → Value) → World → Prop) (a : Act) (vf : Nat → Value) (listed : Array Bool) (a' : Act) (w' : World) : Prop where
  cls : Inv (fun k => listed[k]? == some true) vf w'
  down : ∀ (j : Nat) (o : Oper), l[j]? = some o → listed[j]? = some true → ∀ e ∈ o.after, listed[e.on]? = some true
  lsize : listed.size = l.length
  defers : a'.defers = a.defers
  size : a'.tmps.size = a.tmps.size
  vals : ∀ j, listed[j]? = some true → vf j = valsOf Xs vf j
  facts : ∀ j, listed[j]? = some true → F j (fun k => listed[k]? == some true) vf w'
  slots : ∀ (j : Nat) (o : Oper), l[j]? = some o → listed[j]? = some true → ∀ d, o.dst = some d → a'.tmps[d]? = some (vf j)
  rest : ∀ t, (∀ (j : Nat) (o : Oper), l[j]? = some o → listed[j]? = some true → o.dst ≠ some t) → a'.tmps[t]? = a.tmps[t]?

section
variable {P : Program} {l : List Oper} {Inv : (Nat → Bool) → (Nat → Value) → World → Prop} {T : Nat → (Nat → Value) → World → World → Prop} {F : Nat → (Nat → Bool) → (Nat → Value) → World → Prop} {Q : Exit → Act → World → Prop} {a : Act}
theorem wpAny_rel (hB : monoB2 l a.tmps.size = true) (hpr : ∀ o ∈ l, prune o = o)
    (hst : ∀ (i : Nat) (done : Nat → Bool) (vf : Nat → Value) (w w' : World), Inv done vf w → done i = false → (∀ m ∈ (befores l []).getD i [], done m = true) → (∀ m, done m = true → F m done vf w) → T i vf w w' → ∀ k, done k = true → F k (updDone done i) vf w')
    (hF : ∀ (k : Nat) (done : Nat → Bool) (f g : Nat → Value) (w : World), (∀ m ∈ (befores l []).getD k [], f m = g m) → f k = g k → F k done f w → F k done g w)
    (h : relWalk P l.toArray Inv T F (befores l []) (Q .normal) l.length l 0 (fun _ => a)) :
    ∃ Xs, ∀ (fuel : Nat) (listed : Array Bool) (vf : Nat → Value) (a' : Act) (w' : World), (undone listed l.length).length ≤ fuel → RelInv l Xs Inv F a vf listed a' w' → wpAny P .any l.toArray Q fuel listed a' w' := by
  obtain ⟨Xs, hpX, hobs, hend⟩ := rel_ext l 0 _ h
  refine ⟨Xs, ?_⟩
  have hS := fun {i : Nat} {o : Oper} (hi : l[i]? = some o) => monoB2_spec hB hi
  have fin : ∀ (listed : Array Bool) (vf : Nat → Value) (a' : Act) (w' : World), (∀ j, j < l.length → listed[j]? = some true) → RelInv l Xs Inv F a vf listed a' w' → Q .normal a' w' := by
    intro listed vf a' w' hall hI
    have hq := hend _ vf w' (fun k hk => by simp [hall k hk]) hI.cls (fun k hk => hI.facts k (hall k hk))
    have ea : a' = lexAct (valsOf Xs vf) l 0 a := by
      obtain ⟨hz, hd⟩ := lexAct_size (valsOf Xs vf) l 0 a
      have ht : a'.tmps = (lexAct (valsOf Xs vf) l 0 a).tmps := by
        apply Array.ext_getElem?
        intro t
        by_cases hex : ∃ (j : Nat) (o : Oper), l[j]? = some o ∧ o.dst = some t
        · obtain ⟨j, o, hj, hdt⟩ := hex
          have hjl := (List.getElem?_eq_some_iff.1 hj).1
          obtain ⟨hlt, huniq⟩ := (hS hj).2.2.2 t hdt
          rw [lexAct_same _ l 0 a j o hj hdt huniq hlt, Nat.zero_add, ← hI.vals j (hall j hjl)]
          exact hI.slots j o hj (hall j hjl) t hdt
        · have hn : ∀ (j : Nat) (o : Oper), l[j]? = some o → o.dst ≠ some t := fun j o hj e => hex ⟨j, o, hj, e⟩
          rw [lexAct_other _ l 0 a (fun o ho => by obtain ⟨j, hj⟩ := List.getElem?_of_mem ho; exact hn j o hj)]
          exact hI.rest t (fun j o hj _ => hn j o hj)
      cases a'; cases hx : lexAct (valsOf Xs vf) l 0 a
      rw [hx] at ht hd
      have := hI.defers
      simp_all
    rw [ea]; exact hq
  have allIf : ∀ (listed : Array Bool), listed.size = l.length → Region.ready .any l.toArray listed = [] → ∀ j, j < l.length → listed[j]? = some true := by
    intro listed hsz hr j
    induction j using Nat.strongRecOn with
    | ind j ih =>
      intro hj
      have hsome : listed[j]? = some listed[j] := Array.getElem?_eq_getElem (by omega)
      cases hb : listed[j] with
      | true => rw [hsome, hb]
      | false =>
        have : j ∈ Region.ready .any l.toArray listed := by
          rw [mem_ready]
          refine ⟨by simp [Array.getD_eq_getD_getElem?, hsome, hb], l[j], by simp [hj], fun e he _ => ?_⟩
          have h1 := ((hS (List.getElem?_eq_getElem hj)).2.1 e he).1
          have h2 := ih e.on h1 (by omega)
          simp [Array.getD_eq_getD_getElem?, h2]
        rw [hr] at this
        cases this
  intro fuel
  induction fuel with
  | zero =>
    intro listed vf a' w' hf hI
    have hall : ∀ j, j < l.length → listed[j]? = some true := by
      intro j hj
      have h0 : undone listed l.length = [] := List.eq_nil_of_length_eq_zero (by omega)
      unfold undone at h0
      rw [List.filter_eq_nil_iff] at h0
      simpa using h0 j (List.mem_range.2 hj)
    refine ⟨?_, fin _ _ _ _ hall hI⟩
    rw [List.eq_nil_iff_forall_not_mem]
    intro j hj
    obtain ⟨h0, o, ho, _⟩ := mem_ready.1 hj
    have hj' : j < l.length := by
      have := (Array.getElem?_eq_some_iff.1 ho).1
      simpa using this
    simp [Array.getD_eq_getD_getElem?, hall j hj'] at h0
  | succ fuel ih =>
    intro listed vf a' w' hf hI
    refine ⟨fun hr => fin _ _ _ _ (allIf listed hI.lsize hr) hI, fun i hi => ?_⟩
    obtain ⟨h0, o, ho, hdep⟩ := mem_ready.1 hi
    have hil : l[i]? = some o := by simpa using ho
    have hilt : i < l.length := (List.getElem?_eq_some_iff.1 hil).1
    have hnl : listed[i]? ≠ some true := fun e => by simp [Array.getD_eq_getD_getElem?, e] at h0
    obtain ⟨hsel, hafter, hlooks, hdst⟩ := hS hil
    have hdone : ∀ e ∈ o.after, listed[e.on]? = some true := fun e he => by
      have := hdep e he (hafter e he).2
      rw [Array.getD_eq_getD_getElem?] at this
      cases hx : listed[e.on]? with
      | none => simp [hx] at this
      | some b => simp [hx] at this; rw [this]
    have hob := hobs i o hil
    rw [Nat.zero_add] at hob
    have hclosed : ∀ k m : Nat, m ∈ (befores l []).getD k [] → listed[k]? = some true → listed[m]? = some true := fun k m hk hlk =>
      befores_spec l [] (fun k i => listed[k]? = some true → listed[i]? = some true) (fun k i h => by simp at h) (fun j o' e hj he hlj => by
        simp at hlj; exact hI.down j o' hj hlj e he) (fun a b c h1 h2 h3 => h2 (h1 h3)) k m hk hlk
    have hsame : ∀ t ∈ o.looksAt l.toArray, (lexAct (valsOf Xs vf) (l.take i) 0 a).tmps[t]? = a'.tmps[t]? := by
      intro t ht
      by_cases hex : ∃ (j : Nat) (o' : Oper), l[j]? = some o' ∧ o'.dst = some t
      · obtain ⟨j, o', hj, hdt⟩ := hex
        rcases hlooks t ht j o' hj hdt with ⟨hji, e, he, hej⟩ | hbef
        rotate_left
        · have hij : i < j := befores_spec l [] (fun k i => i < k) (fun k i h => by simp at h) (fun j o' e hj he => by
            have := ((hS (show l[j]? = some o' from hj)).2.1 e he).1; simpa using this) (fun a b c h1 h2 => Nat.lt_trans h2 h1) j i hbef
          have hnj : listed[j]? ≠ some true := fun hlj => hnl (hclosed j i hbef hlj)
          obtain ⟨_, huniq⟩ := (hS hj).2.2.2 t hdt
          rw [lexAct_other _ (l.take i) 0 a (fun o'' ho'' => by
            obtain ⟨k, hk⟩ := List.getElem?_of_mem ho''
            have hki : k < i := by have := (List.getElem?_eq_some_iff.1 hk).1; simp at this; omega
            rw [List.getElem?_take_of_lt hki] at hk
            exact huniq k o'' hk (by omega))]
          refine (hI.rest t fun k o'' hk hlk => ?_).symm
          by_cases hkj : k = j
          · subst hkj; exact absurd hlk hnj
          · exact huniq k o'' hk hkj
        have hlj : listed[j]? = some true := hej ▸ hdone e he
        obtain ⟨hlt, huniq⟩ := (hS hj).2.2.2 t hdt
        rw [lexAct_same _ (l.take i) 0 a j o' (by rw [List.getElem?_take_of_lt hji]; exact hj) hdt (fun j' o'' hj' hne => huniq j' o'' (by
          have hlt' : j' < i := by
            have := (List.getElem?_eq_some_iff.1 hj').1
            simp at this; omega
          rw [List.getElem?_take_of_lt hlt'] at hj'; exact hj') hne) hlt, Nat.zero_add, ← hI.vals j hlj]
        exact (hI.slots j o' hj hlj t hdt).symm
      · have hn : ∀ (j : Nat) (o : Oper), l[j]? = some o → o.dst ≠ some t := fun j o hj e => hex ⟨j, o, hj, e⟩
        rw [lexAct_other _ (l.take i) 0 a (fun o' ho' => by obtain ⟨j, hj⟩ := List.getElem?_of_mem (List.mem_of_mem_take ho'); exact hn j o' hj)]
        exact (hI.rest t (fun j o hj _ => hn j o hj)).symm
    have hexec : execOp (lexAct (valsOf Xs vf) (l.take i) 0 a).eval o = execOp a'.eval o := by
      refine execOp_congr o hsel fun x hx => ?_
      cases x with
      | tmp t =>
        have := hsame t (List.mem_append_left _ (List.mem_filterMap.2 ⟨.tmp t, by simpa using hx, rfl⟩))
        simp [Act.eval, Array.getD_eq_getD_getElem?, this]
      | _ => rfl
    have hwant : Region.wanted o (yielded l.toArray (lexAct (valsOf Xs vf) (l.take i) 0 a).tmps) = Region.wanted o (yielded l.toArray a'.tmps) := by
      unfold Region.wanted
      cases hg : o.guard with
      | none => rfl
      | some gw =>
        obtain ⟨g, want⟩ := gw
        have hy : yielded l.toArray (lexAct (valsOf Xs vf) (l.take i) 0 a).tmps g = yielded l.toArray a'.tmps g := by
          unfold yielded
          cases ht : (l.toArray[g]?).bind (·.dst) with
          | none => rfl
          | some t =>
            have := hsame t (by simp only [Oper.looksAt, hg, ht]; simp)
            simp only [Option.bind_some, this]
        simp only [hy]
    have hnot : ∀ k : Nat, i ∈ (befores l []).getD k [] → ((fun k => listed[k]? == some true) k) = false := by
      intro k hk
      cases hx : (listed[k]? == some true) with
      | false => exact hx
      | true => exact absurd (hclosed k i hk (by simpa using hx)) hnl
    have hbi : ∀ m ∈ (befores l []).getD i [], listed[m]? = some true := fun m hm => by
      have hmi : m < i := befores_spec l [] (fun k i => i < k) (fun k i h => by simp at h) (fun j o' e hj he => by
          have := ((hS (show l[j]? = some o' from hj)).2.1 e he).1; simpa using this) (fun a b c h1 h2 => Nat.lt_trans h2 h1) i m hm
      have key := befores_spec l [] (fun k m => (k = i ∨ listed[k]? = some true) → (m = i ∨ listed[m]? = some true)) (fun k m h => by simp at h) (fun j o' e hj he hlj => by
        rw [List.length_nil, Nat.zero_add] at hlj
        rcases hlj with rfl | hlj
        · rw [hil] at hj
          obtain rfl : o = o' := by simpa using hj
          exact .inr (hdone e he)
        · exact .inr (hI.down j o' hj hlj e he)) (fun a b c h1 h2 h3 => h2 (h1 h3)) i m hm (.inl rfl)
      rcases key with h | h
      · omega
      · exact h
    have hres := hob _ vf w' hI.cls (by simpa using hnl) (fun k hk => by
      rw [hpr o (List.mem_of_getElem? hil)] at hk
      obtain ⟨e, he, rfl⟩ := List.mem_map.1 hk
      simp [hdone e (by simpa using he)]) hnot (fun k hk => hI.facts k (by simpa using hk))
      (fun v w'' => Inv (updDone (fun k => listed[k]? == some true) i) (updVal vf i v) w'' ∧ T i vf w' w'' ∧ exOf (Xs i) vf v ∧ F i (updDone (fun k => listed[k]? == some true) i) (updVal vf i v) w'') (fun v w'' h0 h1 h2 h3 => ⟨h0, h1, h2, h3⟩)
    rw [hwant] at hres
    have next : ∀ v w'', Inv (updDone (fun k => listed[k]? == some true) i) (updVal vf i v) w'' → T i vf w' w'' → exOf (Xs i) vf v → F i (updDone (fun k => listed[k]? == some true) i) (updVal vf i v) w'' → wpAny P .any l.toArray Q fuel (listed.setIfInBounds i true) (a'.put o.dst v) w'' := by
      intro v w'' hIv hT hE hFv
      have hu := undone_set hilt (by rw [hI.lsize]; exact Nat.le_refl _) hnl
      have hset : ∀ j, (listed.setIfInBounds i true)[j]? = some true → j = i ∨ (j ≠ i ∧ listed[j]? = some true) := fun j hj => by
        by_cases e : j = i
        · exact .inl e
        · rw [Array.getElem?_setIfInBounds_ne (Ne.symm e)] at hj
          exact .inr ⟨e, hj⟩
      have hagree : ∀ j, listed[j]? = some true → ∀ m ∈ (befores l []).getD j [], vf m = updVal vf i v m := fun j hj m hm => by
        have hm' := hclosed j m hm hj
        unfold updVal
        rw [if_neg (fun e : m = i => hnl (e ▸ hm'))]
      have hagreei : ∀ m ∈ (befores l []).getD i [], vf m = updVal vf i v m := fun m hm => by
        have hmi : m < i := befores_spec l [] (fun k i => i < k) (fun k i h => by simp at h) (fun j o' e hj he => by
            have := ((hS (show l[j]? = some o' from hj)).2.1 e he).1; simpa using this) (fun a b c h1 h2 => Nat.lt_trans h2 h1) i m hm
        unfold updVal
        rw [if_neg (by omega)]
      have hfun : updDone (fun k => listed[k]? == some true) i = fun k => (listed.setIfInBounds i true)[k]? == some true := by
        funext k
        unfold updDone
        by_cases e : k = i
        · subst e; rw [if_pos rfl, Array.getElem?_setIfInBounds_self_of_lt (by rw [hI.lsize]; exact hilt)]; simp
        · rw [if_neg e, Array.getElem?_setIfInBounds_ne (Ne.symm e)]
      refine ih _ (updVal vf i v) _ _ (by omega) ⟨?_, ?_, by simp [hI.lsize], ?_, ?_, ?_, ?_, ?_, ?_⟩
      · rw [← hfun]; exact hIv
      · intro j o' hj hlj e he
        by_cases hje : j = i
        · subst hje
          rw [hil] at hj
          obtain rfl : o = o' := by simpa using hj
          have := hdone e he
          by_cases hei : e.on = j
          · rw [hei, Array.getElem?_setIfInBounds_self_of_lt (by rw [hI.lsize]; exact hilt)]
          · rw [Array.getElem?_setIfInBounds_ne (Ne.symm hei)]; exact this
        · rw [Array.getElem?_setIfInBounds_ne (Ne.symm hje)] at hlj
          have := hI.down j o' hj hlj e he
          by_cases hei : e.on = i
          · rw [hei, Array.getElem?_setIfInBounds_self_of_lt (by rw [hI.lsize]; exact hilt)]
          · rw [Array.getElem?_setIfInBounds_ne (Ne.symm hei)]; exact this
      · rw [← hI.defers]; cases o.dst <;> rfl
      · rw [← hI.size]; cases o.dst <;> simp [Act.put]
      · intro j hj
        rcases hset j hj with rfl | ⟨hne, hj'⟩
        · have e1 : updVal vf j v j = v := if_pos rfl
          rw [e1]
          unfold valsOf
          cases hx : Xs j with
          | none => exact e1.symm
          | some X => exact (hE X hx).trans (hpX j X hx _ _ hagreei)
        · have e1 : updVal vf i v j = vf j := if_neg hne
          rw [e1, hI.vals j hj']
          unfold valsOf
          cases hx : Xs j with
          | none => exact e1.symm
          | some X => exact hpX j X hx _ _ (hagree j hj')
      · intro j hj
        rw [← hfun]
        rcases hset j hj with rfl | ⟨hne, hj'⟩
        · exact hFv
        · refine hF j _ vf _ w'' (hagree j hj') (by unfold updVal; rw [if_neg hne]) ?_
          exact hst i _ vf w' w'' hI.cls (by simpa using hnl) (fun m hm => by simpa using hbi m hm) (fun m hm => hI.facts m (by simpa using hm)) hT j (by simpa using hj')
      · intro j o' hj hlj d hd
        rcases hset j hlj with rfl | ⟨hne, hj'⟩
        · rw [hil] at hj
          obtain rfl : o = o' := by simpa using hj
          rw [hd, put_get_same (by rw [hI.size]; exact (hdst d hd).1)]
          unfold updVal; rw [if_pos rfl]
        · rw [put_get_other (fun e' => (hdst d e').2 j o' hj hne hd)]
          unfold updVal; rw [if_neg hne]
          exact hI.slots j o' hj hj' d hd
      · intro t ht
        have hti : o.dst ≠ some t := ht i o hil (by rw [Array.getElem?_setIfInBounds_self_of_lt (by rw [hI.lsize]; exact hilt)])
        rw [put_get_other hti]
        refine hI.rest t fun j o' hj hlj => ?_
        by_cases e : j = i
        · subst e; exact absurd hlj hnl
        · exact ht j o' hj (by rw [Array.getElem?_setIfInBounds_ne (Ne.symm e)]; exact hlj)
    unfold wpOp
    rw [ho]
    by_cases hw : Region.wanted o (yielded l.toArray a'.tmps) = true
    · simp only [hw, if_true] at hres ⊢
      refine .inl (wp_of_gives (R := fun v w'' => Inv (updDone (fun k => listed[k]? == some true) i) (updVal vf i v) w'' ∧ T i vf w' w'' ∧ exOf (Xs i) vf v ∧ F i (updDone (fun k => listed[k]? == some true) i) (updVal vf i v) w'') ?_ fun v w'' ⟨h0, h1, h2, h3⟩ => next v w'' h0 h1 h2 h3)
      unfold gives at hres ⊢
      rw [← hexec]; exact hres
    · simp only [hw] at hres ⊢
      exact next _ _ hres.1 hres.2.1 hres.2.2.1 hres.2.2.2
end
theorem prune_prune (o : Oper) : prune (prune o) = prune o := by
  unfold prune
  simp only [Array.filter_filter, Bool.and_self]
theorem rel_prune {P : Program} {Inv : (Nat → Bool) → (Nat → Value) → World → Prop} {T : Nat → (Nat → Value) → World → World → Prop} {F : Nat → (Nat → Bool) → (Nat → Value) → World → Prop} {bs : List (List Nat)} {Q : Act → World → Prop} {n : Nat} {ops' : List Oper} :
    ∀ (l : List Oper) (i : Nat) (av : (Nat → Value) → Act), relWalk P ops'.toArray Inv T F bs Q n l i av → relWalk P (ops'.map prune).toArray Inv T F bs Q n (l.map prune) i av
  | [], _, _, h => h
  | o :: l, i, av, h => by
    have one : ∀ E, relOb P ops'.toArray Inv T F bs i o av E → relOb P (ops'.map prune).toArray Inv T F bs i (prune o) av E := fun E h1 done vf w a b c d e R hR => by
      rw [prune_prune] at c
      have := h1 done vf w a b c d e R hR
      rw [← yielded_prune] at this
      exact this
    rcases h with ⟨X, hp, h1, h2⟩ | ⟨h1, h2⟩
    · exact .inl ⟨X, hp, one _ h1, rel_prune l (i + 1) _ h2⟩
    · exact .inr ⟨one _ h1, rel_prune l (i + 1) _ h2⟩
/-- THE LAW. -/
theorem wp_region_rel {P : Program} {l : List Oper} {Q : Exit → Act → World → Prop} {a : Act} {id : Nat} {w : World} (Inv : (Nat → Bool) → (Nat → Value) → World → Prop) (T : Nat → (Nat → Value) → World → World → Prop) (F : Nat → (Nat → Bool) → (Nat → Value) → World → Prop)
    (hm : P.follows .mixedOrders = true) (hB : monoB2 (l.map prune) a.tmps.size = true) (bs : List (List Nat)) (hbs : befores (l.map prune) [] = bs)
    (hst : ∀ (i : Nat) (done : Nat → Bool) (vf : Nat → Value) (w w' : World), Inv done vf w → done i = false → (∀ m ∈ bs.getD i [], done m = true) → (∀ m, done m = true → F m done vf w) → T i vf w w' → ∀ k, done k = true → F k (updDone done i) vf w')
    (hF : ∀ (k : Nat) (done : Nat → Bool) (f g : Nat → Value) (w : World), (∀ m ∈ bs.getD k [], f m = g m) → f k = g k → F k done f w → F k done g w)
    (hC : Inv (fun _ => false) (fun _ => undef) w.drew) (h : relWalk P l.toArray Inv T F bs (Q .normal) l.length l 0 (fun _ => a)) : (Code.region id l.toArray true).wp P Q a w := by
  subst hbs
  have h' := rel_prune (ops' := l) l 0 _ h
  rw [show l.length = (l.map prune).length by simp] at h'
  obtain ⟨Xs, hX⟩ := wpAny_rel hB (fun o ho => by obtain ⟨o', _, rfl⟩ := List.mem_map.1 ho; exact prune_prune o') hst hF h'
  refine wp_region_any hm (wpAny_prune _ _ _ _ (hX _ _ (fun _ => undef) _ _ ?_ ⟨?_, ?_, by simp, rfl, rfl, ?_, ?_, ?_, fun _ _ => rfl⟩))
  · have := List.length_filter_le (fun i => (Array.replicate l.toArray.size false)[i]? != some true) (List.range (l.map prune).length)
    simpa [undone] using this
  · refine (congrArg (fun d => Inv d _ _) ?_).mp hC
    funext k
    rw [Array.getElem?_replicate]
    split <;> simp
  · intro j o hj hl
    rw [Array.getElem?_replicate] at hl
    split at hl <;> simp at hl
  · intro j hl
    rw [Array.getElem?_replicate] at hl
    split at hl <;> simp at hl
  · intro j hl
    rw [Array.getElem?_replicate] at hl
    split at hl <;> simp at hl
  · intro j o hj hl
    rw [Array.getElem?_replicate] at hl
    split at hl <;> simp at hl
end Go.Proofs.YthkgjohhbdipcaaDoor.RV
namespace Go.Proofs.YthkgjohhbdipcaaDoor
open Go.RowKit

/-- The operation append, and where the new row lies. -/
theorem gives_append_at {P : Program} {w : World} {o : Oper} {a : Act} {R : Value → World → Prop} (s x : Operand) (t : TypeId)
    (ho : o.op = .call { callee := .builtin .append, args := #[s, x], argTypes := #[t, t] })
    (base : Nat) (e : TypeId) (i : TypeInfo) (z : Value) (size bytes : Nat) (ht : P.underlying t = some (.slice e)) (hi : P.info? e = some i) (hz : i.zero = some z)
    (hsize : i.size = size) (hby : i.bytes = bytes) (hzs : z.cells.size = size) (hsz : 0 < size)
    (v : Value) (n : Nat) (xs : List Value) (hs : a.eval s = v) (hown : w.ownsRow base e size v n xs)
    (ad : Addr) (m c : Nat) (news : List Value) (hx : a.eval x = .slice (some ad) m c) (hl : news.length = m * size) (hnews : ∀ j u, news[j]? = some u → w.cell? (ad.add j) = some u) (h1 : ∀ u ∈ news, u.oneCell' = true)
    (hm : 0 < m) (h63 : n + m ≤ maxLen) (hbytes : (n + m) * bytes ≤ 140737488355328) (hbase : base ≤ w.heap.size)
    (h : ∀ v' w', w'.ownsRow base e size v' (n + m) (xs ++ news) → w.grownBy w' v.ownBlock → (v'.ownBlock = v.ownBlock ∨ v'.ownBlock = some w.heap.size) → R v' w') : gives P o a w R := by
  obtain ⟨g, cap, w', hr, h2, h3, h4, _⟩ := run_append_lies (P := P) w t o.type base e i z size bytes ht hi hz hsize hby hzs hsz v n xs hown ad m c news hl hnews h1 hm h63 hbytes hbase _ rfl
  unfold gives execOp
  simp only [ho, resolve, invoke, builtin, Sem.run_bind, Sem.run_pure, Result.andThen_ok, List.map_toArray, List.map_cons, List.map_nil, hs, hx, hr]
  refine h _ _ h2 h3 ?_
  rcases h4 with h4 | h4
  · left; rw [h4]; rfl
  · right; rw [h4]; rfl

/-- The worlds of such a region: w0 is the world at its head; β the box; cv the slice, with n elements; ia, is: the numbers of the append and of the store. -/
structure ApInv (w0 : World) (β : Nat) (T : TypeId) (box : Array Value) (base : Nat) (E : TypeId) (sz : Nat) (cv : Value) (n : Nat) (cells : List Value) (ia is : Nat) (done : Nat → Bool) (W : World) : Prop where
  os : W.os = w0.os
  tape : W.tape = w0.tape
  output : W.output = w0.output
  size : w0.heap.size ≤ W.heap.size
  blk : ∀ b, b < w0.heap.size → b ≠ β → some b ≠ cv.ownBlock → W.heap[b]? = w0.heap[b]?
  before : done is = false → W.heap[β]? = some (.cells box T)
  old : done ia = false → ∀ b, b < w0.heap.size → b ≠ β → W.heap[b]? = w0.heap[b]?
  own : done ia = false → W.ownsRow base E sz cv n cells
def ApT (β : Nat) (cv : Value) (ia is : Nat) (i : Nat) (_ : Nat → Value) (w w' : World) : Prop := w.heap.size ≤ w'.heap.size ∧ ∀ b, b < w.heap.size → (i = is → b ≠ β) → (i = ia → some b ≠ cv.ownBlock) → w'.heap[b]? = w.heap[b]?
def apF (w0 : World) (β : Nat) (T : TypeId) (box : Array Value) (off base : Nat) (E : TypeId) (sz : Nat) (cv : Value) (n : Nat) (cells : List Value) (m : Nat) (news : (Nat → Value) → List Value) (ia is : Nat) (G : Nat → (Nat → Value) → World → Prop) (k : Nat) (_ : Nat → Bool) (vf : Nat → Value) (W : World) : Prop :=
  if k = ia then W.ownsRow base E sz (vf ia) (n + m) (cells ++ news vf) ∧ ((vf ia).ownBlock = cv.ownBlock ∨ ∀ g, (vf ia).ownBlock = some g → w0.heap.size ≤ g)
  else if k = is then W.heap[β]? = some (.cells (box.setIfInBounds off (vf ia)) T) else G k vf W
section
variable {w0 W W' : World} {β : Nat} {T : TypeId} {box : Array Value} {off base : Nat} {E : TypeId} {sz n m ia is i : Nat} {cv : Value} {cells : List Value} {done : Nat → Bool} {vf : Nat → Value}
theorem ownsRow_same {v : Value} (h : W.ownsRow base E sz v n cells) (hb : ∀ b, base ≤ b → b < W.heap.size → v.ownBlock = some b → W'.heap[b]? = W.heap[b]?) : W'.ownsRow base E sz v n cells := ownsRow_keep1 h hb
theorem ApInv.step (h : ApInv w0 β T box base E sz cv n cells ia is done W) (hb : Below W.heap.size W W') (h1 : i ≠ ia) (h2 : i ≠ is) (hβ : β < w0.heap.size) : ApInv w0 β T box base E sz cv n cells ia is (updDone done i) W' where
  os := hb.os.trans h.os
  tape := hb.tape.trans h.tape
  output := hb.output.trans h.output
  size := Nat.le_trans h.size hb.size
  blk := fun b hlt hn ho => (hb.block b (Nat.lt_of_lt_of_le hlt h.size)).trans (h.blk b hlt hn ho)
  before := fun hd => by
    have : done is = false := by simpa [updDone, Ne.symm h2] using hd
    rw [hb.block β (Nat.lt_of_lt_of_le hβ h.size)]; exact h.before this
  old := fun hd b hlt hn => by
    have : done ia = false := by simpa [updDone, Ne.symm h1] using hd
    exact (hb.block b (Nat.lt_of_lt_of_le hlt h.size)).trans (h.old this b hlt hn)
  own := fun hd => by
    have : done ia = false := by simpa [updDone, Ne.symm h1] using hd
    exact ownsRow_keep1 (h.own this) fun b _ hlt _ => hb.block b hlt
theorem ApT.of_below (hb : Below W.heap.size W W') : ApT β cv ia is i vf W W' := ⟨hb.size, fun b hlt _ _ => hb.block b hlt⟩
theorem ApInv.appended (h : ApInv w0 β T box base E sz cv n cells ia is done W) (hd : done is = false) (hcv : ∀ g, cv.ownBlock = some g → g ≠ β) (hg : W.grownBy W' cv.ownBlock) (hβ : β < w0.heap.size) : ApInv w0 β T box base E sz cv n cells ia is (updDone done ia) W' where
  os := hg.os.trans h.os
  tape := hg.tape.trans h.tape
  output := hg.output.trans h.output
  size := Nat.le_trans h.size hg.size
  blk := fun b hlt hn ho => (hg.block b (Nat.lt_of_lt_of_le hlt h.size) ho).trans (h.blk b hlt hn ho)
  before := fun _ => by rw [hg.block β (Nat.lt_of_lt_of_le hβ h.size) (fun e => hcv β e.symm rfl)]; exact h.before hd
  old := fun hd => by simp [updDone] at hd
  own := fun hd => by simp [updDone] at hd
theorem ApT.of_grown (hg : W.grownBy W' cv.ownBlock) : ApT β cv ia is ia vf W W' := ⟨hg.size, fun b hlt _ h => hg.block b hlt (h rfl)⟩
theorem ApInv.stored {v : Value} (h : ApInv w0 β T box base E sz cv n cells ia is done W) (hda : done ia = true) (hne : is ≠ ia) :
    ApInv w0 β T box base E sz cv n cells ia is (updDone done is) (W.setCell ⟨β, off, none⟩ v) where
  os := h.os
  tape := h.tape
  output := h.output
  size := by rw [set_size]; exact h.size
  blk := fun b hlt hn ho => by rw [set_other (by exact hn)]; exact h.blk b hlt hn ho
  before := fun hd => by simp [updDone] at hd
  old := fun hd => by simp [updDone, Ne.symm hne, hda] at hd
  own := fun hd => by simp [updDone, Ne.symm hne, hda] at hd
theorem ApT.of_store {v : Value} : ApT β cv ia is is vf W (W.setCell ⟨β, off, none⟩ v) := ⟨by rw [set_size]; exact Nat.le_refl _, fun b _ hn _ => set_other (by exact hn rfl)⟩
end
/-- THE LAW. -/
theorem wp_region_apr {P : Program} {l : List Oper} {Q : Exit → Act → World → Prop} {a : Act} {id : Nat} {w0 : World} (β : Nat) (T : TypeId) (box : Array Value) (off base : Nat) (E : TypeId) (sz : Nat) (cv : Value) (n : Nat) (cells : List Value) (m : Nat) (news : (Nat → Value) → List Value) (ia is : Nat) (G : Nat → (Nat → Value) → World → Prop)
    (hm : P.follows .mixedOrders = true) (hB : monoB2 (l.map prune) a.tmps.size = true) (bs : List (List Nat)) (hbs : befores (l.map prune) [] = bs)
    (hbox : w0.heap[β]? = some (.cells box T)) (hown : w0.ownsRow base E sz cv n cells) (hβ : β < base) (hcv : ∀ g, cv.ownBlock = some g → g ≠ β) (his : ia ≠ is) (hia : ia ∈ bs.getD is [])
    (hG : ∀ (k : Nat) (vf : Nat → Value) (w w' : World), (∀ b, w0.heap.size ≤ b → b < w.heap.size → w'.heap[b]? = w.heap[b]?) → w.heap.size ≤ w'.heap.size → G k vf w → G k vf w')
    (hGp : ∀ (k : Nat) (f g : Nat → Value) (w : World), (∀ m ∈ bs.getD k [], f m = g m) → f k = g k → G k f w → G k g w) (hN : ∀ f g : Nat → Value, (∀ m ∈ bs.getD ia [], f m = g m) → news f = news g)
    (h : relWalk P l.toArray (ApInv w0 β T box base E sz cv n cells ia is) (ApT β cv ia is) (apF w0 β T box off base E sz cv n cells m news ia is G) bs (Q .normal) l.length l 0 (fun _ => a)) : (Code.region id l.toArray true).wp P Q a w0 := by
  have hβ' : β < w0.heap.size := (Array.getElem?_eq_some_iff.1 hbox).1
  have hlt : ∀ g, cv.ownBlock = some g → g < w0.heap.size := fun g hg => (hown.lt g hg).2
  refine wp_region_rel _ _ _ hm hB bs hbs (fun i done vf w1 w2 _ hd hbf hf hT k hk => ?_) (fun k done f g w1 hfg hk hF => ?_) ⟨rfl, rfl, rfl, Nat.le_refl _, fun _ _ _ _ => rfl, fun _ => hbox, fun _ _ _ _ => rfl, fun _ => ownsRow_keep1 hown fun _ _ _ _ => rfl⟩ h
  · have hki : k ≠ i := fun e => by rw [e, hd] at hk; cases hk
    have hF := hf k hk
    unfold apF at hF ⊢
    split
    · rename_i e
      rw [if_pos e] at hF
      refine ⟨ownsRow_keep1 hF.1 fun b hb hl ho => hT.2 b hl (fun _ => by omega) (fun e' => absurd (e.trans e'.symm) hki), hF.2⟩
    · rename_i e
      rw [if_neg e] at hF
      split
      · rename_i e2
        rw [if_pos e2] at hF
        rw [hT.2 β (Array.getElem?_eq_some_iff.1 hF).1 (fun e' => absurd (e2.trans e'.symm) hki) (fun _ e' => hcv β e'.symm rfl)]
        exact hF
      · rename_i e2
        rw [if_neg e2] at hF
        exact hG k vf _ _ (fun b hb hl => hT.2 b hl (fun _ => by omega) (fun _ e' => by have := hlt b e'.symm; omega)) hT.1 hF
  · unfold apF at hF ⊢
    split
    · rename_i e
      subst e
      rw [if_pos rfl, hk, hN f g hfg] at hF
      exact hF
    · rename_i e
      rw [if_neg e] at hF
      split
      · rename_i e2
        subst e2
        rw [if_pos rfl, hfg ia hia] at hF
        exact hF
      · rename_i e2
        rw [if_neg e2] at hF
        exact hGp k f g w1 hfg hk hF
/-- what buildSlice lays: one row. -/
def NewRow (B : Nat) (E : TypeId) (m : Nat) (cs : Array Value) (v : Value) (W : World) : Prop := ∃ b, v = .slice (some ⟨b, 0, none⟩) m m ∧ B ≤ b ∧ W.heap[b]? = some (.cells cs E)
theorem NewRow.keep {B : Nat} {E : TypeId} {m : Nat} {cs : Array Value} {v : Value} {w w' : World} (h : NewRow B E m cs v w) (hb : ∀ b, B ≤ b → b < w.heap.size → w'.heap[b]? = w.heap[b]?) : NewRow B E m cs v w' := by
  obtain ⟨b, hv, hB, hc⟩ := h
  refine ⟨b, hv, hB, ?_⟩
  rw [hb b hB (Array.getElem?_eq_some_iff.1 hc).1]; exact hc
theorem OwnSl.keepFrom {α : Type} {w w' : World} {base : Nat} {e : TypeId} {sz : Nat} {R : α → List Value → Prop} {v : Value} {xs : List α} (h : OwnSl w base e sz R v xs) (hb : ∀ b, base ≤ b → b < w.heap.size → w'.heap[b]? = w.heap[b]?) : OwnSl w' base e sz R v xs := by
  obtain ⟨rows, hr, ho⟩ := h
  exact ⟨rows, hr, ownsRow_keep1 ho fun b hbb hl _ => hb b hbb hl⟩
/-- A region that makes an own slice (io), what is appended (ib), and appends it (ia). -/
def ap1F (io ib ia : Nat) (O N A : Value → World → Prop) (k : Nat) (done : Nat → Bool) (vf : Nat → Value) (W : World) : Prop :=
  if k = ia then A (vf ia) W else if k = io then (done ia = false → O (vf io) W) else if k = ib then (done ia = false → N (vf ib) W) else True
def ap1T (ia : Nat) (i : Nat) (_ : Nat → Value) (w w' : World) : Prop := i ≠ ia → Below w.heap.size w w'
theorem wp_region_ap1 {P : Program} {l : List Oper} {Q : Exit → Act → World → Prop} {a : Act} {id : Nat} {w0 : World} (B : Nat) (hBw : B ≤ w0.heap.size) (io ib ia : Nat) (O N A : Value → World → Prop)
    (hm : P.follows .mixedOrders = true) (hB : monoB2 (l.map prune) a.tmps.size = true) (bs : List (List Nat)) (hbs : befores (l.map prune) [] = bs)
    (hO : ∀ v w w', Below w.heap.size w w' → O v w → O v w') (hN : ∀ v w w', Below w.heap.size w w' → N v w → N v w') (hA : ∀ v w w', Below w.heap.size w w' → A v w → A v w')
    (h : relWalk P l.toArray (initI B w0) (ap1T ia) (ap1F io ib ia O N A) bs (Q .normal) l.length l 0 (fun _ => a)) : (Code.region id l.toArray true).wp P Q a w0 := by
  refine wp_region_rel _ _ _ hm hB bs hbs (fun i done vf w1 w2 _ hd hbf hf hT k hk => ?_) (fun k done f g w1 hfg hk hF => ?_) ⟨hBw, (Below.refl _ _).drew⟩ h
  · have hki : k ≠ i := fun e => by rw [e, hd] at hk; cases hk
    have hF := hf k hk
    unfold ap1F at hF ⊢
    split
    · rename_i e
      rw [if_pos e] at hF
      exact hA _ _ _ (hT (fun e' => hki (e.trans e'.symm))) hF
    · rename_i e
      rw [if_neg e] at hF
      split
      · rename_i e2
        rw [if_pos e2] at hF
        intro hx
        unfold updDone at hx
        split at hx
        · cases hx
        · rename_i hia
          exact hO _ _ _ (hT (fun e' => hia e'.symm)) (hF hx)
      · rename_i e2
        rw [if_neg e2] at hF
        split
        · rename_i e3
          rw [if_pos e3] at hF
          intro hx
          unfold updDone at hx
          split at hx
          · cases hx
          · rename_i hia
            exact hN _ _ _ (hT (fun e' => hia e'.symm)) (hF hx)
        · trivial
  · unfold ap1F at hF ⊢
    split
    · rename_i e
      subst e
      rw [if_pos rfl, hk] at hF
      exact hF
    · rename_i e
      rw [if_neg e] at hF
      split
      · rename_i e2
        subst e2
        rw [if_pos rfl, hk] at hF
        exact hF
      · rename_i e2
        rw [if_neg e2] at hF
        split
        · rename_i e3
          subst e3
          rw [if_pos rfl, hk] at hF
          exact hF
        · trivial
theorem NewRow.below {B : Nat} {E : TypeId} {m : Nat} {cs : Array Value} {v : Value} {w w' : World} (h : NewRow B E m cs v w) (hb : Below w.heap.size w w') : NewRow B E m cs v w' := h.keep fun b _ hl => hb.block b hl
end Go.Proofs.YthkgjohhbdipcaaDoor
namespace Go.Proofs.YthkgjohhbdipcaaDoor
open Go.RowKit

abbrev OwnB (W : World) (B : Nat) (v : Value) (l : List UInt8) : Prop := OwnSl W B 5 1 byteR v l
theorem OwnB.read {W : World} {B : Nat} {v : Value} {l : List UInt8} (h : OwnB W B v l) : RdBytes W (fun b => B ≤ b) v l := OwnSl.sl h (fun _ hb => hb)
theorem OwnB.lt {W : World} {B : Nat} {v : Value} {l : List UInt8} (h : OwnB W B v l) : ∀ g, v.ownBlock = some g → g < W.heap.size := fun g hg => by
  obtain ⟨o, h1, _⟩ := OwnSl.typed h g hg
  exact (Array.getElem?_eq_some_iff.1 h1).1
theorem OwnB.base {W : World} {B B' : Nat} {v : Value} {l : List UInt8} (h : OwnB W B v l) (hB : B' ≤ B) : OwnB W B' v l := by
  obtain ⟨rows, hr, h1, h2⟩ := h
  refine ⟨rows, hr, h1, ?_⟩
  rcases h2 with h2 | ⟨g, cap, cur, hv, hg, r⟩
  · exact .inl h2
  · exact .inr ⟨g, cap, cur, hv, Nat.le_trans hB hg, r⟩
def Apart (v v' : Value) : Prop := ∀ g, v.ownBlock = some g → v'.ownBlock = some g → False
/-- rows of one's own, each in its own block. -/
structure BRows (W : World) (B : Nat) (ps : List (Value × List UInt8)) : Prop where
  own : ∀ p ∈ ps, OwnB W B p.1 p.2
  apart : ps.Pairwise (fun p q => Apart p.1 q.1)
section
variable {W W' : World} {B : Nat} {ps : List (Value × List UInt8)} {v v' : Value} {l l' : List UInt8}
theorem BRows.nil : BRows W B [] := ⟨fun _ h => by simp at h, List.Pairwise.nil⟩
theorem BRows.below (h : BRows W B ps) (hb : Below W.heap.size W W') : BRows W' B ps := ⟨fun p hp => OwnSl.below (h.own p hp) hb, h.apart⟩
theorem BRows.cons (h : BRows W B ps) (hb : Below W.heap.size W W') (hB : B ≤ W.heap.size) (ho : OwnB W' W.heap.size v l) : BRows W' B ((v, l) :: ps) := by
  refine ⟨fun p hp => ?_, List.Pairwise.cons (fun q hq g h1 h2 => ?_) h.apart⟩
  · rcases List.mem_cons.1 hp with rfl | hp
    · exact ho.base hB
    · exact OwnSl.below (h.own p hp) hb
  · have h3 := OwnSl.block ho g h1
    have h4 := (h.own q hq).lt g h2
    omega
theorem BRows.snoc (h : BRows W B ps) (hb : Below W.heap.size W W') (hB : B ≤ W.heap.size) (ho : OwnB W' W.heap.size v l) : BRows W' B (ps ++ [(v, l)]) := by
  refine ⟨fun p hp => ?_, List.pairwise_append.2 ⟨h.apart, by simp, fun q hq p hp g h1 h2 => ?_⟩⟩
  · rcases List.mem_append.1 hp with hp | hp
    · exact OwnSl.below (h.own p hp) hb
    · simp at hp; subst hp; exact ho.base hB
  · simp at hp; subst hp
    have h3 := OwnSl.block ho g h2
    have h4 := (h.own q hq).lt g h1
    omega
/-- the last one is grown. -/
theorem BRows.grow (h : BRows W B (ps ++ [(v, l)])) (hg : W.grownBy W' v.ownBlock) (ho : OwnB W' B v' l') (hat : v'.ownBlock = v.ownBlock ∨ v'.ownBlock = some W.heap.size) : BRows W' B (ps ++ [(v', l')]) := by
  obtain ⟨h1, _, h3⟩ := List.pairwise_append.1 h.apart
  have hap : ∀ q ∈ ps, Apart q.1 v := fun q hq => h3 q hq (v, l) (by simp)
  refine ⟨fun p hp => ?_, List.pairwise_append.2 ⟨h1, by simp, fun q hq p hp g e1 e2 => ?_⟩⟩
  · rcases List.mem_append.1 hp with hp | hp
    · have ho := h.own p (List.mem_append_left _ hp)
      obtain ⟨rows, hr, hw⟩ := ho
      refine ⟨rows, hr, ownsRow_keep1 hw fun b _ hl hb => hg.block b hl (fun e => hap p hp b hb e.symm)⟩
    · simp at hp; subst hp; exact ho
  · simp at hp; subst hp
    rcases hat with h9 | h9
    · exact hap q hq g e1 (h9.symm.trans e2)
    · have e3 : some W.heap.size = some g := h9.symm.trans e2
      injection e3 with e3
      have := (h.own q (List.mem_append_left _ hq)).lt g e1
      omega
theorem BRows.drop1 {p : Value × List UInt8} (h : BRows W B (p :: ps)) : BRows W B ps := ⟨fun q hq => h.own q (List.mem_cons_of_mem _ hq), (List.pairwise_cons.1 h.apart).2⟩
end
/-- append(b, s...) onto a row of one's own, and where the new one lies. -/
theorem append_string_at {P : Program} (w : World) (base : Nat) (t u ty e : TypeId) (i : TypeInfo) (ht : P.underlying t = some (.slice e)) (hu : P.underlying u = some .string) (hi : P.info? e = some i) (hz : i.zero = some (.int .u8 0))
    (hsize : i.size = 1) (hby : i.bytes = 1) (v : Value) (n : Nat) (xs : List Value) (hown : w.ownsRow base e 1 v n xs) (s : ByteArray) (h63 : n + s.size ≤ maxLen) (hbytes : n + s.size ≤ 140737488355328) (hbase : base ≤ w.heap.size) :
    ∃ v' w', (Builtin.append_ #[t, u] ty #[v, .string s]).run P w = .ok v' w' ∧ w'.ownsRow base e 1 v' (n + s.size) (xs ++ Lib.strCells s) ∧ w.grownBy w' v.ownBlock ∧ (v'.ownBlock = v.ownBlock ∨ v'.ownBlock = some w.heap.size) := by
  obtain ⟨v', w', hr, h2, h3, h4⟩ := Lib.run_append_own_string (P := P) w base t u ty e i ht hu hi hz hsize hby v n xs hown s h63 hbytes hbase
  refine ⟨v', w', hr, h2, h3, ?_⟩
  have hsmall : n + s.size ≤ 9223372036854775807 := by simp only [maxLen] at h63; omega
  have hxl : xs.length = n := by simpa using hown.1
  rcases hown.2 with ⟨rfl, rfl⟩ | ⟨g, cap, cur, rfl, hbg, hg, hnc, hcm, hcs, htake⟩
  · by_cases hm : s.size = 0
    · left
      rw [h4.2 ⟨rfl, hm⟩]
    · right
      have hr2 := run_append_nil_string (P := P) w t u ty e i (.int .u8 0) ht hu hi hz s (by omega) (by omega) (by rw [hby]; omega)
      rw [hr] at hr2
      injection hr2 with h5 _
      rw [h5]; rfl
  · by_cases hroom : n + s.size ≤ cap
    · left
      have hcs' : cur.size = cap := by simpa using hcs
      have hr2 := Lib.run_append_room_string (P := P) w t u ty e i ht hu hi hsize g n cap cur hg s hroom (by omega)
      rw [hr] at hr2
      injection hr2 with h5 _
      rw [h5]; rfl
    · right
      have holds : ∀ j u, xs[j]? = some u → w.cell? ((⟨g, 0, none⟩ : Addr).add j) = some u := World.ownsRow.cells hown (g := g) rfl
      have hr2 := Lib.run_append_grow_string (P := P) w t u ty e i (.int .u8 0) ht hu hi hz ⟨g, 0, none⟩ n cap xs (by rw [hsize]; simpa using hxl) holds s (by omega) (by omega) (by rw [hby]; exact growslice_fits (by omega) (by omega))
      rw [hr] at hr2
      injection hr2 with h5 _
      rw [h5]; rfl
theorem rows_bytes (l : List UInt8) : RowsOf 1 byteR l (l.map fun b => [Value.int .u8 b.toNat]) := by
  refine ⟨by simp, fun r hr => ?_, fun i x r hx hr => ?_⟩
  · obtain ⟨b, _, rfl⟩ := List.mem_map.1 hr; rfl
  · rw [List.getElem?_map, hx] at hr
    simp at hr
    exact hr.symm
theorem flat_bytes : ∀ (l : List UInt8), (l.map fun b => [Value.int .u8 b.toNat]).flatten = l.map fun b => Value.int .u8 b.toNat
  | [] => rfl
  | b :: l => by rw [List.map_cons, List.flatten_cons, flat_bytes l]; rfl
/-- the operation append(b, s...) of a region. -/
theorem gives_append_string {P : Program} {w : World} {o : Oper} {a : Act} {R : Value → World → Prop} (sl x : Operand) (t u : TypeId)
    (ho : o.op = .call { callee := .builtin .append, args := #[sl, x], argTypes := #[t, u] }) (base : Nat) (e : TypeId) (i : TypeInfo) (ht : P.underlying t = some (.slice e)) (hu : P.underlying u = some .string) (hi : P.info? e = some i) (hz : i.zero = some (.int .u8 0))
    (hsize : i.size = 1) (hby : i.bytes = 1) (v : Value) (l : List UInt8) (hs : a.eval sl = v) (hown : OwnSl w base e 1 byteR v l) (s : ByteArray) (hx : a.eval x = .string s)
    (hbytes : l.length + s.size ≤ 140737488355328) (hbase : base ≤ w.heap.size)
    (h : ∀ v' w', OwnSl w' base e 1 byteR v' (l ++ s.data.toList) → w.grownBy w' v.ownBlock → (v'.ownBlock = v.ownBlock ∨ v'.ownBlock = some w.heap.size) → R v' w') : gives P o a w R := by
  obtain ⟨rows, hr0, ho0⟩ := hown
  obtain ⟨v', w', hr, h2, h3, h4⟩ := append_string_at (P := P) w base t u o.type e i ht hu hi hz hsize hby v l.length rows.flatten ho0 s (by unfold maxLen; omega) hbytes hbase
  unfold gives execOp
  simp only [ho, resolve, invoke, builtin, Sem.run_bind, Sem.run_pure, Result.andThen_ok, List.map_toArray, List.map_cons, List.map_nil, hs, hx, hr]
  refine h _ _ ⟨rows ++ (s.data.toList.map fun b => [Value.int .u8 b.toNat]), hr0.app (rows_bytes _), ?_⟩ h3 h4
  rw [List.flatten_append, flat_bytes, List.length_append]
  exact h2
/-- the operation append(b, c...) of a region, both rows of bytes. -/
theorem gives_append_bytes {P : Program} {w : World} {o : Oper} {a : Act} {R : Value → World → Prop} (sl x : Operand) (t : TypeId)
    (ho : o.op = .call { callee := .builtin .append, args := #[sl, x], argTypes := #[t, t] }) (base : Nat) (e : TypeId) (i : TypeInfo) (ht : P.underlying t = some (.slice e)) (hi : P.info? e = some i) (hz : i.zero = some (.int .u8 0))
    (hsize : i.size = 1) (hby : i.bytes = 1) (v : Value) (l : List UInt8) (hs : a.eval sl = v) (hown : OwnSl w base e 1 byteR v l) (u : Value) (m : List UInt8) (D : Nat → Prop) (hx : a.eval x = u) (hu : RdBytes w D u m) (hm0 : 0 < m.length)
    (hbytes : l.length + m.length ≤ 140737488355328) (hbase : base ≤ w.heap.size)
    (h : ∀ v' w', OwnSl w' base e 1 byteR v' (l ++ m) → w.grownBy w' v.ownBlock → (v'.ownBlock = v.ownBlock ∨ v'.ownBlock = some w.heap.size) → R v' w') : gives P o a w R := by
  obtain ⟨rows, hr0, ho0⟩ := hown
  obtain ⟨au, cu, rowsu, hv, hru, hcm, hnone, hcell⟩ := hu.rows
  cases au with
  | none => exact absurd (hnone rfl).2 (by intro e; rw [e] at hm0; simp at hm0)
  | some ad =>
    refine gives_append_at sl x t ho base e i (.int .u8 0) 1 1 ht hi hz hsize hby rfl (by decide) v l.length rows.flatten hs ho0 ad m.length cu rowsu.flatten (by rw [hx, hv]) (by rw [flat_len rowsu hru.size, hru.len]) (hcell ad rfl) (fun c hc => ?_) hm0 (by unfold maxLen; omega) (by omega) hbase fun v' w' h1 h2 h3 => h v' w' ⟨rows ++ rowsu, hr0.app hru, by rw [List.flatten_append, List.length_append]; exact h1⟩ h2 h3
    obtain ⟨r, hrm, hcr⟩ := List.mem_flatten.1 hc
    obtain ⟨k, hk⟩ := List.getElem?_of_mem hrm
    have hkl : k < m.length := by rw [← hru.len]; exact (List.getElem?_eq_some_iff.1 hk).1
    have := hru.rel k _ r (List.getElem?_eq_getElem hkl) hk
    unfold byteR at this
    subst this
    simp at hcr
    subst hcr
    rfl
end Go.Proofs.YthkgjohhbdipcaaDoor
