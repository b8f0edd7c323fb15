/- Texts laid one behind the other: ConcatIns, CloneIns, CloneChain, CompSpec, ChainSpec, Code, Run, Chain, ChainCopy, Delta, CompRule, Compile. No condition beyond theirs. -/
import Derived.Test.YtioeliocdbckbaaGreatDoorProg
import Derived.Test.YtioeliocdbckbaaGreatDoorK2
import Derived.KernelRfl
import Derived.Deep.LoopGhost
import Derived.Test.YtioeliocdbckbaaGreatDoorK3
import Derived.Test.YtioeliocdbckbaaGreatDoorK4
import Derived.Test.YtioeliocdbckbaaGreatDoorK5
import Derived.Laws.ResultCell
namespace Go.Proofs.YtioeliocdbckbaaGreatDoor
open Go.RowKit

theorem infoIns : (Tryz.prog.info? 102).map (fun i => (i.zero, i.size, i.bytes)) = some (some (.agg #[.int .i64 0, .int .i64 0, .int .i64 0, .int .i64 0]), 4, 32) := by kernel_rfl

set_option maxHeartbeats 1000000 in
theorem growIns_nil (n : Nat) (w : World) (hn : n * 32 ≤ 140737488355328) : Calls Tryz.prog 103 #[.slice none 0 0, .int .i64 n] w fun e w' => ∃ v, e = .returned v ∧ OwnSl w' w.heap.size 102 4 insR v ([] : List TIns) ∧ Below w.heap.size w w' := by
  by_cases h0 : n = 0
  · subst h0
    go_enter Tryz.func103, Tryz.ntmps103
    go_wp2
    go_ret
    exact ⟨_, rfl, OwnSl.nil, Below.refl _ _⟩
  · obtain ⟨i0, hi, hz0, hz1, hz2⟩ := info_parts infoIns
    have hrun := fun (W : World) (ty : TypeId) => Lib.run_append_nil_zeros (P := Tryz.prog) W 70 3 ty 102 i0 (.agg #[.int .i64 0, .int .i64 0, .int .i64 0, .int .i64 0]) .i64 .i64 Tryz.underlying70 Tryz.underlying3 hi hz0 n (by omega) (by rw [hz1]; omega) (by omega) (by rw [hz2]; omega)
    have hgc : ∀ W : World, grownCap W n 0 102 ≤ maxLen := fun W => grownCap_le_maxLen W n 0 102 (by unfold maxLen; omega)
    have h1 : 0 < (n : Int) := by omega
    have h2 : (n : Int) ≤ 9223372036854775807 := by omega
    have Hrun := Lib.hid hrun
    have Hz := Lib.hid hz1
    clear hrun hi hz0 hz1 hz2 h0 hn
    go_enter Tryz.func103, Tryz.ntmps103
    go_wp2_with (at_builtin; refine Lib.wpList_append_run _ rfl _ _ _ _ rfl _ _ rfl rfl _ _ (Hrun.out _ _) ?_)
    go_ret
    refine ⟨_, rfl, ⟨[], RowsOf.nil, by simp, .inr ⟨w.heap.size, grownCap w n 0 102, _, rfl, Nat.le_refl _, blk_at rfl, by simp, hgc w, ?_, by simp⟩⟩, (bel_alloc (Below.refl _ _) _).drew⟩
    have hge := grownCap_ge w n 0 102
    simp [size_zeroCells]
    omega

theorem oneIns (y : TIns) (cs : List Value) (h : insR y cs) : ∀ c ∈ cs, c.oneCell' = true := by
  unfold insR at h; subst h; simp [Value.oneCell']
/-- a slice of slices. -/
def rowsRIns (w : World) (D : Nat → Prop) (l : List TIns) (cs : List Value) : Prop := ∃ u, cs = [u] ∧ Sl w D 4 insR u l
set_option maxRecDepth 100000 in
set_option maxHeartbeats 2000000 in
theorem concatIns_any (v : Value) (ls : List (List TIns)) (D : Nat → Prop) (w : World) (h : Sl w D 1 (rowsRIns w D) v ls) (hn : lenTo ls ls.length * 32 ≤ 140737488355328) :
    Calls Tryz.prog 89 #[v] w fun e w' => ∃ v', e = .returned v' ∧ OwnSl w' w.heap.size 102 4 insR v' ls.flatten ∧ Below w.heap.size w w' := by
  obtain ⟨a, c, rfl, hlc, hcm, hat⟩ := Sl.form h
  obtain ⟨i0, hi, hz0, hz1, hz2⟩ := info_parts infoIns
  have H := Lib.hid h
  clear h
  have hrow : ∀ k (hk : k < ls.length) b o, a = some ⟨b, o, none⟩ → ∃ (u : Value) (cu : Option Addr × Nat), u = Value.slice cu.1 ls[k].length cu.2 ∧ Sl w D 4 insR u ls[k] ∧ ∀ wr, Below w.heap.size w wr → wr.cell? ⟨b, o + k, none⟩ = some u := fun k hk b o e => by
    subst e
    obtain ⟨cs, hcs, ⟨u, hu, hs⟩, hcell⟩ := Sl.get H.out hk
    obtain ⟨a', c', hv, _⟩ := Sl.form hs
    refine ⟨u, (a', c'), hv, hs, fun wr hb => ?_⟩
    subst hu
    have hc := hcell 0 u rfl
    rw [Nat.mul_one] at hc
    exact (hb.cell (p := ⟨b, o + k, none⟩) (World.block_lt_of_cell? _ _ hc)).trans hc
  have Hrow := Lib.hid hrow
  have Hn := Lib.hid hn
  have hn' : lenTo ls ls.length ≤ 140737488355328 := by omega
  clear hrow hn
  go_enter Tryz.func89, Tryz.ntmps89
  go_wp2_with fail
  go_loop [3, 11] (fun s i => ∃ k : Nat, k ≤ ls.length ∧ i = .int .i64 k ∧ s = .int .i64 (lenTo ls k)) (fun _ i => ls.length - (intOf i).toNat)
  case atStart => exact ⟨0, by omega, rfl, rfl⟩
  case round =>
    obtain ⟨k, hk, rfl, rfl⟩ := hrel
    by_cases hlt : k < ls.length
    · obtain ⟨b, o, rfl, hDb, hb⟩ := hat (by omega)
      obtain ⟨u, ⟨a', c'⟩, rfl, hs, hc⟩ := Hrow.out k hlt b o rfl
      have hcw := hc w (Below.refl _ _)
      have hle := lenTo_le ls (k + 1) (by omega)
      have Hs := Lib.hid (lenTo_succ ls k hlt)
      have hle' : lenTo ls k + ls[k].length ≤ 140737488355328 := by have := Hs.out; omega
      clear hs hc
      go_wp2
      go_round
      case rel => exact ⟨k + 1, by omega, by go_num, by rw [Hs.out]; go_num⟩
      case measure => simp [intOf]; omega
    · obtain rfl : k = ls.length := by omega
      go_wp2_with fail
      refine (growIns_nil (lenTo ls ls.length) _ Hn.out).mono ?_
      rintro e w1 ⟨vg, rfl, hown, hb1⟩
      go_wp2_with fail
      go_loopw [6, 27] (fun s i wr => ∃ (k : Nat) (vs : Value), k ≤ ls.length ∧ i = .int .i64 k ∧ vs = s ∧ OwnSl wr w.heap.size 102 4 insR vs (ls.take k).flatten ∧ Below w.heap.size w wr) (fun _ i _ => ls.length - (intOf i).toNat)
      case atStart => exact ⟨0, vg, by omega, rfl, rfl, by simpa using hown, hb1⟩
      case round =>
        obtain ⟨k, vs, hk, rfl, rfl, hown, hbw⟩ := hrel
        have Hown := Lib.hid hown
        have hsz := hbw.size
        clear hown
        by_cases hlt : k < ls.length
        · obtain ⟨b, o, rfl, hDb, hb⟩ := hat (by omega)
          obtain ⟨u, ⟨a', c'⟩, rfl, hs, hc⟩ := Hrow.out k hlt b o rfl
          have hcw := hc wr hbw
          have hle := lenTo_le ls (k + 1) (by omega)
          have Hl := Lib.hid (lenTo_succ ls k hlt)
          have hs' : Sl wr D 4 insR (.slice a' ls[k].length c') ls[k] := Sl.mono hs (fun _ h _ => h) (fun b _ hlt => hbw.block b hlt) hbw.size (fun _ _ _ h => h)
          have Hs' := Lib.hid hs'
          have Hs := Lib.hid (flat_take_succ ls k hlt)
          clear hs hc hs'
          go_wp2_with (at_builtin; refine wpList_app rfl _ _ 70 rfl w.heap.size 102 i0 _ 4 32 Tryz.underlying70 hi hz0 hz1 hz2 rfl (by decide) _ _ rfl Hown.out _ _ rfl Hs'.out (fun y _ cs h => oneIns y cs h) (by have := Hl.out; unfold lenTo at *; unfold maxLen; omega) (by have := Hn.out; have := Hl.out; unfold lenTo at *; omega) hsz ?_; intro v' w2 hown' hg)
          go_roundw
          case rel => exact ⟨k + 1, v', by omega, by go_num, rfl, by rw [← flat_take_succ ls k hlt]; exact hown', Hown.out.grown hbw hg hsz (Nat.le_refl _)⟩
          case measure => simp [intOf]; omega
        · obtain rfl : k = ls.length := by omega
          have Hf : Hid (OwnSl wr w.heap.size 102 4 insR vs ls.flatten) := by have := Hown.out; rwa [List.take_length] at this
          go_wp2
          go_ret
          exact ⟨_, rfl, Hf.out, hbw⟩
end Go.Proofs.YtioeliocdbckbaaGreatDoor
namespace Go.Proofs.YtioeliocdbckbaaGreatDoor
open Go.RowKit

set_option maxRecDepth 100000 in
set_option maxHeartbeats 1000000 in
theorem cloneIns_any {α : Type} (R : α → List Value → Prop) (h1R : ∀ (y : α) (cs : List Value), R y cs → ∀ c ∈ cs, c.oneCell' = true) (v : Value) (xs : List α) (D : Nat → Prop) (w : World) (h : Sl w D 4 R v xs) (hn : xs.length * 32 ≤ 140737488355328) :
    Calls Tryz.prog 92 #[v] w fun e w' => ∃ v', e = .returned v' ∧ OwnSl w' w.heap.size 102 4 R v' xs ∧ Below w.heap.size w w' := by
  obtain ⟨i0, hi, hz0, hz1, hz2⟩ := info_parts infoIns
  have H := Lib.hid h
  obtain ⟨a, c, rfl, hlc, hcm, hnil, hat⟩ := h
  have Hi := Lib.hid hi
  clear hi
  cases a with
  | none =>
    have hc := hnil rfl
    subst hc
    have hx : xs = [] := List.length_eq_zero_iff.1 (by omega)
    subst hx
    have hq := fun (a : Option Addr) (n c : Nat) (W : World) => Lib.run_eql_slice_nil (P := Tryz.prog) W 70 102 a n c 0 0 Tryz.underlying70
    go_enter Tryz.func92, Tryz.ntmps92
    go_wp2
    go_ret
    exact ⟨_, rfl, OwnSl.nil, Below.refl _ _⟩
  | some ad =>
    have H2 := Lib.hid (H.out.belowR (bel_alloc (Below.refl _ w) (.cells #[] 102)) (fun _ _ _ h => h))
    have Hown : Hid (OwnSl (w.alloc (.cells #[] 102)) w.heap.size 102 4 R (.slice (some ⟨w.heap.size, 0, none⟩) 0 0) ([] : List α)) :=
      ⟨[], RowsOf.nil, by simp, .inr ⟨w.heap.size, 0, #[], rfl, Nat.le_refl _, heap_last _ _, by simp, by simp, by simp, by simp⟩⟩
    clear hat hnil
    have hq := fun (a : Option Addr) (n c : Nat) (W : World) => Lib.run_eql_slice_nil (P := Tryz.prog) W 70 102 a n c 0 0 Tryz.underlying70
    go_enter Tryz.func92, Tryz.ntmps92
    go_wp2_with (at_builtin; refine wpList_app rfl _ _ 70 rfl w.heap.size 102 i0 _ 4 32 Tryz.underlying70 Hi.out hz0 hz1 hz2 rfl (by decide) _ _ rfl Hown.out _ _ rfl H2.out (fun y _ cs h => h1R y cs h) (by show 0 + _ ≤ maxLen; unfold maxLen; omega) (by show (0 + _) * 32 ≤ _; omega) (by simp) ?_; intro v' w3 hown' hg)
    go_ret
    exact ⟨_, rfl, hown', Hown.out.grown (bel_alloc (Below.refl _ _) _) hg (by simp) (Nat.le_refl _)⟩
end Go.Proofs.YtioeliocdbckbaaGreatDoor
namespace Go.Proofs.YtioeliocdbckbaaGreatDoor
open Go.RowKit

theorem infocChain : (Tryz.prog.info? 70).map (fun i => (i.zero, i.size, i.bytes)) = some (some (.slice none 0 0), 1, 24) := by kernel_rfl

set_option maxRecDepth 100000 in
set_option maxHeartbeats 1000000 in
theorem cloneChain_any {α : Type} (R : α → List Value → Prop) (h1R : ∀ (y : α) (cs : List Value), R y cs → ∀ c ∈ cs, c.oneCell' = true) (v : Value) (xs : List α) (D : Nat → Prop) (w : World) (h : Sl w D 1 R v xs) (hn : xs.length * 24 ≤ 140737488355328) :
    Calls Tryz.prog 91 #[v] w fun e w' => ∃ v', e = .returned v' ∧ OwnSl w' w.heap.size 70 1 R v' xs ∧ Below w.heap.size w w' := by
  obtain ⟨i0, hi, hz0, hz1, hz2⟩ := info_parts infocChain
  have H := Lib.hid h
  obtain ⟨a, c, rfl, hlc, hcm, hnil, hat⟩ := h
  have Hi := Lib.hid hi
  clear hi
  cases a with
  | none =>
    have hc := hnil rfl
    subst hc
    have hx : xs = [] := List.length_eq_zero_iff.1 (by omega)
    subst hx
    have hq := fun (a : Option Addr) (n c : Nat) (W : World) => Lib.run_eql_slice_nil (P := Tryz.prog) W 73 70 a n c 0 0 Tryz.underlying73
    go_enter Tryz.func91, Tryz.ntmps91
    go_wp2
    go_ret
    exact ⟨_, rfl, OwnSl.nil, Below.refl _ _⟩
  | some ad =>
    have H2 := Lib.hid (H.out.belowR (bel_alloc (Below.refl _ w) (.cells #[] 70)) (fun _ _ _ h => h))
    have Hown : Hid (OwnSl (w.alloc (.cells #[] 70)) w.heap.size 70 1 R (.slice (some ⟨w.heap.size, 0, none⟩) 0 0) ([] : List α)) :=
      ⟨[], RowsOf.nil, by simp, .inr ⟨w.heap.size, 0, #[], rfl, Nat.le_refl _, heap_last _ _, by simp, by simp, by simp, by simp⟩⟩
    clear hat hnil
    have hq := fun (a : Option Addr) (n c : Nat) (W : World) => Lib.run_eql_slice_nil (P := Tryz.prog) W 73 70 a n c 0 0 Tryz.underlying73
    go_enter Tryz.func91, Tryz.ntmps91
    go_wp2_with (at_builtin; refine wpList_app rfl _ _ 73 rfl w.heap.size 70 i0 _ 1 24 Tryz.underlying73 Hi.out hz0 hz1 hz2 rfl (by decide) _ _ rfl Hown.out _ _ rfl H2.out (fun y _ cs h => h1R y cs h) (by show 0 + _ ≤ maxLen; unfold maxLen; omega) (by show (0 + _) * 24 ≤ _; omega) (by simp) ?_; intro v' w3 hown' hg)
    go_ret
    exact ⟨_, rfl, hown', Hown.out.grown (bel_alloc (Below.refl _ _) _) hg (by simp) (Nat.le_refl _)⟩
end Go.Proofs.YtioeliocdbckbaaGreatDoor
namespace Go.Proofs.YtioeliocdbckbaaGreatDoor

def jumpIns (c : TCond) (skip : Int) : TIns :=
  if c.op = 2 then ⟨2, c.v, skip, 0⟩ else if c.op = 3 then ⟨3, c.v, 0, skip⟩ else if c.op = 4 then ⟨3, c.v, skip, 0⟩ else ⟨2, c.v, 0, skip⟩
/-- a rule as instructions. -/
def condIns : List TCond → Int → List TIns
  | [], v => [⟨4, v, 0, 0⟩]
  | c :: r, v => ⟨1, c.f, 0, 0⟩ :: jumpIns c (2 * r.length + 1) :: condIns r v
def rulesIns : List TRule → List TIns
  | [] => []
  | r :: l => condIns r.conds r.verdict ++ rulesIns l
def filterL (p : TPol) : List TIns := rulesIns p.rules ++ [⟨4, p.dflt, 0, 0⟩]
/-- chapter 5's Compile, errors too. -/
def filterE (p : TPol) : List TIns × Int := if polE p ≠ 0 then ([], polE p) else if 1500 < (filterL p).length then ([], 2) else (filterL p, 0)

theorem condIns_len : ∀ (l : List TCond) (v : Int), (condIns l v).length = 2 * l.length + 1
  | [], _ => rfl
  | c :: r, v => by simp only [condIns, List.length_cons, condIns_len r v]; omega
theorem rulesIns_snoc : ∀ (l : List TRule) (r : TRule), rulesIns (l ++ [r]) = rulesIns l ++ condIns r.conds r.verdict
  | [], r => by simp [rulesIns]
  | x :: l, r => by simp only [List.cons_append, rulesIns, rulesIns_snoc l r, List.append_assoc]
theorem rulesIns_len {l : List TRule} (h : ∀ r ∈ l, r.conds.length ≤ 10) : (rulesIns l).length ≤ 21 * l.length := by
  induction l with
  | nil => simp [rulesIns]
  | cons r l ih =>
    have h1 := h r (List.mem_cons_self ..)
    have h2 := ih fun x hx => h x (List.mem_cons_of_mem _ hx)
    simp only [rulesIns, List.length_append, condIns_len, List.length_cons]
    omega

theorem jump_ok {c : TCond} (h : OkCond c) {s n : Int} (h0 : 0 ≤ s) (h1 : s < n) : insE (jumpIns c s) n = 0 := by
  have hv := h.v1
  have hm : mostOf c.f ≤ 65535 := by unfold mostOf; split <;> (try split) <;> omega
  have := h.v0
  have h0' : ¬ c.v < 0 := by omega
  have h1' : ¬ c.v > 65535 := by omega
  clear hv hm this
  unfold jumpIns insE
  split
  · (simp [h0', h1']; omega)
  · split
    · (simp [h0', h1']; omega)
    · split
      · (simp [h0', h1']; omega)
      · (simp [h0', h1']; omega)
theorem ret_ok {v n : Int} (h0 : 0 ≤ v) (h1 : v ≤ 4) : insE ⟨4, v, 0, 0⟩ n = 0 := by
  unfold insE
  dsimp only
  rw [if_pos (.inr rfl), if_neg (by omega), if_neg (by omega)]
theorem load_ok {v n : Int} (h0 : 0 ≤ v) (h1 : v ≤ 4) : insE ⟨1, v, 0, 0⟩ n = 0 := by
  unfold insE
  dsimp only
  rw [if_pos (.inl rfl), if_neg (by omega), if_neg (by omega)]
theorem condIns_go : ∀ (cs : List TCond) (v : Int) (l : List TIns), (∀ c ∈ cs, OkCond c) → 0 ≤ v → v ≤ 4 → l ≠ [] → codeGo l = 0 → codeGo (condIns cs v ++ l) = 0
  | [], v, l, _, h0, h1, _, hl => by
    simp only [condIns, List.cons_append, List.nil_append, codeGo]
    rw [if_pos (ret_ok h0 h1)]; exact hl
  | c :: cs, v, l, hc, h0, h1, hn, hl => by
    have ih := condIns_go cs v l (fun x hx => hc x (List.mem_cons_of_mem _ hx)) h0 h1 hn hl
    have hk := hc c (List.mem_cons_self ..)
    have hlen : 0 < l.length := List.length_pos_iff.2 hn
    simp only [condIns, List.cons_append, codeGo]
    rw [if_pos (load_ok hk.f0 (by have := hk.f1; omega)), if_pos (jump_ok hk (by omega) (by rw [List.length_append, condIns_len]; omega))]
    exact ih
theorem rulesIns_go : ∀ (rs : List TRule) (l : List TIns), (∀ r ∈ rs, OkRule r) → l ≠ [] → codeGo l = 0 → codeGo (rulesIns rs ++ l) = 0
  | [], l, _, _, hl => hl
  | r :: rs, l, hr, hn, hl => by
    have hk := hr r (List.mem_cons_self ..)
    have ih := rulesIns_go rs l (fun x hx => hr x (List.mem_cons_of_mem _ hx)) hn hl
    simp only [rulesIns, List.append_assoc]
    exact condIns_go _ _ _ hk.conds hk.v0 hk.v1 (by simp [hn]) ih
theorem lastK_snoc : ∀ (l : List TIns) (x : TIns), lastK (l ++ [x]) = x.k
  | [], x => rfl
  | [y], x => rfl
  | y :: z :: l, x => by
    have := lastK_snoc (z :: l) x
    simp only [List.cons_append] at this ⊢
    simp only [lastK]
    exact this
theorem filter_code {p : TPol} (h : OkPol p) : codeE (filterL p) = if 1500 < (filterL p).length then 2 else 0 := by
  have h1 : codeGo (filterL p) = 0 := rulesIns_go p.rules _ h.rules (by simp) (by simp only [codeGo]; rw [if_pos (ret_ok h.d0 h.d1)])
  have h2 : lastK (filterL p) = 4 := lastK_snoc _ _
  have h3 : (filterL p).length ≠ 0 := by simp [filterL]
  unfold codeE
  split
  · rw [if_pos (by omega)]
  · simp only [h1, ne_eq, not_true_eq_false, if_false]
    rw [if_neg (by omega)]

/-! ### a filter says what its policy says -/
theorem jump_next {c : TCond} (h : OkCond c) (x : TCall) (s : Nat) : insNext (jumpIns c s) (x.get c.f) = if holdsB c x then 0 else s := by
  have h0 := h.o0
  have h1 := h.o1
  have e : c.op = 1 ∨ c.op = 2 ∨ c.op = 3 ∨ c.op = 4 := by omega
  unfold jumpIns insNext holdsB
  rcases e with e | e | e | e <;> simp only [e] <;> simp only [Int.reduceEq, if_true, if_false, true_and, false_and, or_false, false_or]
  · by_cases e : x.get c.f = c.v <;> simp [e]
  · by_cases e : x.get c.f = c.v <;> simp [e]
  · by_cases e : x.get c.f < c.v <;> simp [e]
  · by_cases e : x.get c.f < c.v
    · have : ¬ c.v ≤ x.get c.f := by omega
      simp [e, this]
    · have : c.v ≤ x.get c.f := by omega
      simp [e, this]
theorem jumpIns_k (c : TCond) (s : Int) : (jumpIns c s).k = 2 ∨ (jumpIns c s).k = 3 := by
  unfold jumpIns
  split
  · exact .inl rfl
  · split
    · exact .inr rfl
    · split
      · exact .inr rfl
      · exact .inl rfl
theorem condIns_run (x : TCall) : ∀ (cs : List TCond) (v : Int) (l : List TIns) (f : Nat) (n : Int) (d : Nat), (∀ c ∈ cs, OkCond c) → (condIns cs v ++ l).length ≤ f →
    (allHold x cs = true ∧ (runGo x f (condIns cs v ++ l) n d).1 = v) ∨ (allHold x cs = false ∧ ∃ (f' : Nat) (n' : Int) (d' : Nat), l.length ≤ f' ∧ runGo x f (condIns cs v ++ l) n d = runGo x f' l n' d')
  | [], v, l, f, n, d, _, hf => by
    refine .inl ⟨rfl, ?_⟩
    cases f with
    | zero => simp [condIns] at hf
    | succ f => simp only [condIns, List.cons_append, List.nil_append, runGo, if_true]
  | c :: cs, v, l, f, n, d, hc, hf => by
    have hk := hc c (List.mem_cons_self ..)
    have hlen : (condIns (c :: cs) v ++ l).length = 2 + (condIns cs v ++ l).length := by simp only [condIns, List.cons_append, List.length_cons]; omega
    obtain ⟨g, rfl⟩ : ∃ g : Nat, f = g + 2 := ⟨f - 2, by omega⟩
    have h14 : ¬ (1 : Int) = 4 := by omega
    have hj4 : ¬ (jumpIns c (2 * (cs.length : Int) + 1)).k = 4 := by have := jumpIns_k c (2 * (cs.length : Int) + 1); omega
    have hj1 : ¬ (jumpIns c (2 * (cs.length : Int) + 1)).k = 1 := by have := jumpIns_k c (2 * (cs.length : Int) + 1); omega
    have hs : (2 * (cs.length : Int) + 1) = ((2 * cs.length + 1 : Nat) : Int) := by omega
    have step : runGo x (g + 2) (condIns (c :: cs) v ++ l) n d = runGo x g ((condIns cs v ++ l).drop (if holdsB c x then 0 else 2 * cs.length + 1)) (x.get c.f) (d + 1 + 1) := by
      simp only [condIns, List.cons_append, runGo, if_neg h14, if_true, if_neg hj4, if_neg hj1]
      rw [hs, jump_next hk]
    rw [step]
    cases hb : holdsB c x with
    | true =>
      simp only [if_true, List.drop_zero]
      have hall : allHold x (c :: cs) = allHold x cs := by unfold allHold; simp [hb]
      rw [hall]
      exact condIns_run x cs v l g _ _ (fun y hy => hc y (List.mem_cons_of_mem _ hy)) (by omega)
    | false =>
      refine .inr ⟨by unfold allHold; simp [hb], g, x.get c.f, d + 1 + 1, ?_, ?_⟩
      · have : (condIns cs v ++ l).length = (condIns cs v).length + l.length := by simp
        omega
      · simp only [Bool.false_eq_true, if_false]
        rw [← condIns_len cs v, List.drop_left]
theorem rules_run (x : TCall) (dflt : Int) : ∀ (rs : List TRule) (f : Nat) (n : Int) (d : Nat), (∀ r ∈ rs, OkRule r) → (rulesIns rs ++ [(⟨4, dflt, 0, 0⟩ : TIns)]).length ≤ f →
    (runGo x f (rulesIns rs ++ [(⟨4, dflt, 0, 0⟩ : TIns)]) n d).1 = verdictAt ⟨rs, dflt⟩ (which x rs)
  | [], f, n, d, _, hf => by
    cases f with
    | zero => simp at hf
    | succ f => simp only [rulesIns, List.nil_append, runGo, if_true]; rfl
  | r :: rs, f, n, d, hr, hf => by
    have hk := hr r (List.mem_cons_self ..)
    simp only [rulesIns, List.append_assoc] at hf ⊢
    rcases condIns_run x r.conds r.verdict (rulesIns rs ++ [(⟨4, dflt, 0, 0⟩ : TIns)]) f n d hk.conds hf with ⟨ha, he⟩ | ⟨ha, f', n', d', hf', he⟩
    · rw [he]; unfold which; rw [if_pos ha]; rfl
    · rw [he, rules_run x dflt rs f' n' d' (fun y hy => hr y (List.mem_cons_of_mem _ hy)) hf']
      have hw : which x (r :: rs) = which x rs + 1 := by conv => lhs; unfold which
                                                         rw [if_neg (by simp [ha])]
      rw [hw]
      simp [verdictAt]
/-- A FILTER SAYS OF EACH CALL WHAT ITS POLICY SAYS. -/
theorem filter_means {p : TPol} (h : OkPol p) (x : TCall) : (run (filterL p) x).1 = (judged p x).1 :=
  rules_run x p.dflt p.rules _ 0 0 h.rules (Nat.le_refl _)
theorem filterE_ok {p : TPol} (h : (filterE p).2 = 0) : OkPol p ∧ filterE p = (filterL p, 0) ∧ codeE (filterL p) = 0 ∧ (filterL p).length ≤ 1500 := by
  unfold filterE at h ⊢
  split at h
  · rename_i h1; exact absurd h h1
  · rename_i h1
    have hp := (okPol_iff p).1 (by simpa using h1)
    split at h
    · simp at h
    · rename_i h2
      refine ⟨hp, by rw [if_neg h1, if_neg h2], ?_, by omega⟩
      rw [filter_code hp, if_neg h2]
end Go.Proofs.YtioeliocdbckbaaGreatDoor
namespace Go.Proofs.YtioeliocdbckbaaGreatDoor

/-! ### chains -/
def codesGo : List (List TIns) → Int
  | [] => 0
  | f :: l => if codeE f = 0 then codesGo l else codeE f
/-- chapter 9's Check. -/
def chainE (l : List (List TIns)) : Int := if 6 < l.length then 2 else codesGo l
theorem codesGo_drop (l : List (List TIns)) (k : Nat) (h : k < l.length) : codesGo (l.drop k) = if codeE l[k] = 0 then codesGo (l.drop (k + 1)) else codeE l[k] := by
  rw [List.drop_eq_getElem_cons h]; rfl
theorem codesGo_iff : ∀ l : List (List TIns), codesGo l = 0 ↔ ∀ f ∈ l, codeE f = 0
  | [] => by simp [codesGo]
  | f :: l => by
    simp only [codesGo, List.mem_cons, forall_eq_or_imp]
    rw [← codesGo_iff l]
    split
    · rename_i h; simp [h]
    · rename_i h; simp [h]
theorem chainE_iff (l : List (List TIns)) : chainE l = 0 ↔ l.length ≤ 6 ∧ ∀ f ∈ l, codeE f = 0 := by
  unfold chainE
  split
  · rename_i h
    constructor
    · intro h'; simp at h'
    · rintro ⟨h1, _⟩; omega
  · rename_i h
    rw [codesGo_iff]
    exact ⟨fun h' => ⟨by omega, h'⟩, fun h' => h'.2⟩
/-- the strictest of what all say. -/
def askGo (x : TCall) : List (List TIns) → Int → Int
  | [], v => v
  | f :: l, v => askGo x l (minOf v (run f x).1)
def asked (l : List (List TIns)) (x : TCall) : Int := askGo x l 4
/-- chapter 9's Ask. -/
def askE (l : List (List TIns)) (x : TCall) : Int × Int := if chainE l ≠ 0 then (0, chainE l) else if x.ok then (asked l x, 0) else (0, 3)
theorem minOf_le (a b : Int) : minOf a b ≤ a ∧ minOf a b ≤ b := by unfold minOf; split <;> omega
theorem minOf_eq (a b : Int) : minOf a b = min a b := by unfold minOf; split <;> omega
theorem askGo_min (x : TCall) : ∀ (l : List (List TIns)) (v : Int), askGo x l v = minOf v (askGo x l v)
  | [], v => by simp [askGo, minOf]
  | f :: l, v => by
    have ih := askGo_min x l (minOf v (run f x).1)
    show askGo x l (minOf v (run f x).1) = minOf v (askGo x l (minOf v (run f x).1))
    rw [ih]
    simp only [minOf_eq]
    omega
theorem askGo_from (x : TCall) : ∀ (l : List (List TIns)) (u v : Int), askGo x l (minOf u v) = minOf u (askGo x l v)
  | [], u, v => rfl
  | f :: l, u, v => by
    show askGo x l (minOf (minOf u v) (run f x).1) = minOf u (askGo x l (minOf v (run f x).1))
    rw [← askGo_from x l u (minOf v (run f x).1)]
    congr 1
    simp only [minOf_eq]; omega
theorem askGo_append (x : TCall) : ∀ (l m : List (List TIns)) (v : Int), askGo x (l ++ m) v = askGo x m (askGo x l v)
  | [], _, _ => rfl
  | _ :: l, m, _ => askGo_append x l m _
theorem asked_append (x : TCall) (l m : List (List TIns)) : asked (l ++ m) x = minOf (asked l x) (asked m x) := by
  unfold asked
  rw [askGo_append]
  have e : askGo x l 4 = minOf (askGo x l 4) 4 := by
    have := askGo_min x l 4
    simp only [minOf_eq] at this ⊢; omega
  conv => lhs; rw [e]
  rw [askGo_from]
theorem asked_cons (x : TCall) (f : List TIns) (l : List (List TIns)) : asked (f :: l) x = minOf (minOf 4 (run f x).1) (asked l x) := asked_append x [f] l
theorem asked_le (x : TCall) (l : List (List TIns)) : asked l x ≤ 4 := by
  have := askGo_min x l 4
  unfold asked
  rw [this]
  exact (minOf_le _ _).1
theorem asked_reverse (x : TCall) : ∀ l : List (List TIns), asked l.reverse x = asked l x
  | [] => rfl
  | f :: l => by
    rw [List.reverse_cons, asked_append, asked_reverse x l, asked_cons]
    have e : asked [] x = 4 := rfl
    have h4 := asked_le x l
    rw [e, asked_cons]
    simp only [minOf_eq]; omega
theorem asked_twice (x : TCall) (l : List (List TIns)) : asked (l ++ l) x = asked l x := by
  rw [asked_append]; simp only [minOf_eq]; omega
/-- chapter 9's Tighten. -/
def tightE (l : List (List TIns)) (p q : TPol) : List (List TIns) × Int :=
  if chainE l ≠ 0 then ([], chainE l) else if (deltaE p q).2 ≠ 0 then ([], (deltaE p q).2) else if l.length = 6 then ([], 2) else
    if (filterE (deltaE p q).1).2 ≠ 0 then ([], (filterE (deltaE p q).1).2) else (l ++ [filterL (deltaE p q).1], 0)
theorem tightE_ok {l : List (List TIns)} {p q : TPol} (h : (tightE l p q).2 = 0) : chainE l = 0 ∧ (deltaE p q).2 = 0 ∧ l.length < 6 ∧ codeE (filterL (deltaE p q).1) = 0 ∧ tightE l p q = (l ++ [filterL (deltaE p q).1], 0) := by
  unfold tightE at h ⊢
  split at h
  · rename_i h1; exact absurd h h1
  · rename_i h1
    split at h
    · rename_i h2; exact absurd h h2
    · rename_i h2
      split at h
      · simp at h
      · rename_i h3
        split at h
        · rename_i h4; exact absurd h h4
        · rename_i h4
          have h1' : chainE l = 0 := by simpa using h1
          obtain ⟨_, _, c, _⟩ := filterE_ok (p := (deltaE p q).1) (by simpa using h4)
          have := (chainE_iff l).1 h1'
          exact ⟨h1', by simpa using h2, by omega, c, by rw [if_neg h1, if_neg h2, if_neg h3, if_neg h4]⟩
theorem chain_tight {l : List (List TIns)} {p q : TPol} (h : (tightE l p q).2 = 0) : chainE (tightE l p q).1 = 0 := by
  obtain ⟨h1, _, h3, h4, h5⟩ := tightE_ok h
  rw [h5, chainE_iff]
  refine ⟨by simp; omega, fun f hf => ?_⟩
  rcases List.mem_append.1 hf with hf | hf
  · exact ((chainE_iff l).1 h1).2 f hf
  · simp at hf; subst hf; exact h4
theorem asked_tight {l : List (List TIns)} {p q : TPol} (h : (tightE l p q).2 = 0) {x : TCall} (hx : x.ok) : asked (tightE l p q).1 x = minOf (asked l x) (exceptOf (says q x) (says p x)) := by
  obtain ⟨_, h2, _, _, h5⟩ := tightE_ok h
  rw [h5]
  show asked (l ++ [filterL _]) x = _
  rw [asked_append]
  have e : asked [filterL (deltaE p q).1] x = minOf 4 (says (deltaE p q).1 x) := by
    show minOf 4 (run (filterL (deltaE p q).1) x).1 = _
    rw [filter_means (okPol_delta h2)]; rfl
  have := (says_range (okPol_delta h2) x).2
  rw [e, says_delta h2 hx]
  rw [says_delta h2 hx] at this
  simp only [minOf_eq]; omega
/-- nothing is ever looser than it was. -/
theorem tight_le {l : List (List TIns)} {p q : TPol} (h : (tightE l p q).2 = 0) {x : TCall} (hx : x.ok) : asked (tightE l p q).1 x ≤ asked l x := by
  rw [asked_tight h hx]; exact (minOf_le _ _).1
/-- OF A CHAIN THAT SAYS WHAT A POLICY SAYS, TIGHTENED, EACH CALL IS TOLD WHAT THE STRICTER ONE SAYS. -/
theorem tight_says {l : List (List TIns)} {p q : TPol} (h : (tightE l p q).2 = 0) {x : TCall} (hx : x.ok) (hl : asked l x = says p x) : asked (tightE l p q).1 x = says q x := by
  obtain ⟨_, h2, _⟩ := tightE_ok h
  have h3 := delta_le h2 hx
  obtain ⟨hp, hq, _⟩ := deltaE_ok h2
  have h4 := (says_range hp x).2
  rw [asked_tight h hx, hl]
  unfold exceptOf
  simp only [minOf_eq]
  split <;> omega
theorem asked_one {p : TPol} (h : OkPol p) (x : TCall) : asked [filterL p] x = says p x := by
  show minOf 4 (run (filterL p) x).1 = _
  rw [filter_means h]
  have := (says_range h x).2
  show minOf 4 (says p x) = _
  simp only [minOf_eq]; omega

/-! ### records and sessions -/
structure TRec where
  kind : Int
  cell : Int
  from_ : Int
  p : TPol
deriving DecidableEq
structure TCell where
  open_ : Bool
  chain : List (List TIns)
  p : TPol
deriving DecidableEq
def noPol (p : TPol) : Prop := p.dflt = 0 ∧ p.rules = []
instance (p : TPol) : Decidable (noPol p) := by unfold noPol; infer_instance
/-- chapter 10's Check. -/
def recE (r : TRec) : Int :=
  if r.kind < 1 ∨ 4 < r.kind then 4 else if r.cell < 0 ∨ 4 ≤ r.cell ∨ r.from_ < 0 ∨ 4 ≤ r.from_ then 3 else
    if (r.kind ≠ 3 ∧ r.from_ ≠ 0) ∨ (2 < r.kind ∧ ¬ noPol r.p) then 4 else if 2 < r.kind then 0 else polE r.p
def zeroCell : TCell := ⟨false, [], zeroPol⟩
def cellE (c : TCell) : Int :=
  if c.open_ then (if c.chain = [] then 4 else if chainE c.chain ≠ 0 then chainE c.chain else polE c.p) else if c.chain = [] ∧ noPol c.p then 0 else 4
def cellsGo : List TCell → Int
  | [] => 0
  | c :: l => if cellE c = 0 then cellsGo l else cellE c
/-- chapter 12's Check. -/
def cellsE (l : List TCell) : Int := if l.length = 4 then cellsGo l else 4
theorem cellsGo_drop (l : List TCell) (k : Nat) (h : k < l.length) : cellsGo (l.drop k) = if cellE l[k] = 0 then cellsGo (l.drop (k + 1)) else cellE l[k] := by
  rw [List.drop_eq_getElem_cons h]; rfl
theorem cellsGo_iff : ∀ l : List TCell, cellsGo l = 0 ↔ ∀ f ∈ l, cellE f = 0
  | [] => by simp [cellsGo]
  | f :: l => by
    simp only [cellsGo, List.mem_cons, forall_eq_or_imp]
    rw [← cellsGo_iff l]
    split
    · rename_i h; simp [h]
    · rename_i h; simp [h]
theorem cellsE_iff (l : List TCell) : cellsE l = 0 ↔ l.length = 4 ∧ ∀ c ∈ l, cellE c = 0 := by
  unfold cellsE
  split
  · rename_i h; rw [cellsGo_iff]; exact ⟨fun h' => ⟨h, h'⟩, fun h' => h'.2⟩
  · rename_i h; exact ⟨fun h' => by simp at h', fun h' => absurd h'.1 h⟩
def newCells : List TCell := [zeroCell, zeroCell, zeroCell, zeroCell]
/-- a session that begins by a policy. -/
def beginE (p : TPol) : TCell × Int := if (filterE p).2 ≠ 0 then (zeroCell, (filterE p).2) else (⟨true, [filterL p], p⟩, 0)
def cellAt (l : List TCell) (k : Int) : TCell := l.getD k.toNat zeroCell
/-- what a record makes of its session. -/
def nextCell (l : List TCell) (r : TRec) : TCell × Int :=
  if r.kind = 3 then (if (cellAt l r.from_).open_ then beginE (cellAt l r.from_).p else (zeroCell, 5))
  else if r.kind = 1 then beginE r.p
  else if r.kind = 2 then (if (tightE (cellAt l r.cell).chain (cellAt l r.cell).p r.p).2 ≠ 0 then (zeroCell, (tightE (cellAt l r.cell).chain (cellAt l r.cell).p r.p).2) else (⟨true, (tightE (cellAt l r.cell).chain (cellAt l r.cell).p r.p).1, r.p⟩, 0))
  else (zeroCell, 0)
/-- chapter 12's Next. -/
def nextE (l : List TCell) (r : TRec) : List TCell × Int :=
  if cellsE l ≠ 0 then ([], cellsE l) else if recE r ≠ 0 then ([], recE r) else
    if (cellAt l r.cell).open_ = decide (r.kind = 1 ∨ r.kind = 3) then ([], 6) else
      if (nextCell l r).2 ≠ 0 then ([], (nextCell l r).2) else (l.set r.cell.toNat (nextCell l r).1, 0)
def replayGo : List TRec → List TCell → List TCell × Int
  | [], c => (c, 0)
  | r :: l, c => if (nextE c r).2 ≠ 0 then ([], (nextE c r).2) else replayGo l (nextE c r).1
/-- chapter 12's Replay. -/
def replayE (l : List TRec) : List TCell × Int := if 40 < l.length then ([], 2) else replayGo l newCells
theorem nextE_ok {l : List TCell} {r : TRec} (h : (nextE l r).2 = 0) : cellsE l = 0 ∧ recE r = 0 ∧ (cellAt l r.cell).open_ ≠ decide (r.kind = 1 ∨ r.kind = 3) ∧ (nextCell l r).2 = 0 ∧ nextE l r = (l.set r.cell.toNat (nextCell l r).1, 0) := by
  unfold nextE at h ⊢
  split at h
  · rename_i h1; exact absurd h h1
  · rename_i h1
    split at h
    · rename_i h2; exact absurd h h2
    · rename_i h2
      split at h
      · simp at h
      · rename_i h3
        split at h
        · rename_i h4; exact absurd h h4
        · rename_i h4
          exact ⟨by simpa using h1, by simpa using h2, h3, by simpa using h4, by rw [if_neg h1, if_neg h2, if_neg h3, if_neg h4]⟩
theorem recE_ok {r : TRec} (h : recE r = 0) : 1 ≤ r.kind ∧ r.kind ≤ 4 ∧ 0 ≤ r.cell ∧ r.cell < 4 ∧ 0 ≤ r.from_ ∧ r.from_ < 4 ∧ (r.kind ≠ 3 → r.from_ = 0) ∧ (2 < r.kind → noPol r.p) ∧ (r.kind ≤ 2 → OkPol r.p) := by
  unfold recE at h
  split at h
  · simp at h
  · split at h
    · simp at h
    · split at h
      · simp at h
      · rename_i h1 h2 h3
        refine ⟨by omega, by omega, by omega, by omega, by omega, by omega, fun hk => ?_, fun hk => ?_, fun hk => ?_⟩
        · by_cases e : r.from_ = 0
          · exact e
          · exact absurd (.inl ⟨hk, e⟩) h3
        · by_cases e : noPol r.p
          · exact e
          · exact absurd (.inr ⟨hk, e⟩) h3
        · split at h
          · omega
          · exact (okPol_iff _).1 h
theorem mem_set {α : Type} {l : List α} {k : Nat} {a c : α} (h : c ∈ l.set k a) : c ∈ l ∨ c = a := List.mem_or_eq_of_mem_set h
theorem cellAt_mem {l : List TCell} (hl : l.length = 4) {k : Int} (h0 : 0 ≤ k) (h1 : k < 4) : cellAt l k ∈ l := by
  unfold cellAt
  rw [List.getD_eq_getElem?_getD, List.getElem?_eq_getElem (by omega)]
  exact List.getElem_mem (by omega)
/-- what a session is told to say. -/
def Means (c : TCell) : Prop := c.open_ = true → OkPol c.p ∧ chainE c.chain = 0 ∧ c.chain ≠ [] ∧ ∀ x : TCall, x.ok → asked c.chain x = says c.p x
theorem begin_ok {p : TPol} (h : (beginE p).2 = 0) : OkPol p ∧ codeE (filterL p) = 0 ∧ beginE p = (⟨true, [filterL p], p⟩, 0) := by
  unfold beginE at h ⊢
  split at h
  · rename_i h1; exact absurd h h1
  · rename_i h1
    obtain ⟨a, _, c, _⟩ := filterE_ok (p := p) (by simpa using h1)
    exact ⟨a, c, by rw [if_neg h1]⟩
theorem means_begin {p : TPol} (h : (beginE p).2 = 0) : Means (beginE p).1 ∧ cellE (beginE p).1 = 0 := by
  obtain ⟨a, b, c⟩ := begin_ok h
  rw [c]
  have hc : chainE [filterL p] = 0 := by rw [chainE_iff]; exact ⟨by simp, by simpa using b⟩
  refine ⟨fun _ => ⟨a, hc, by simp, fun x _ => asked_one a x⟩, ?_⟩
  unfold cellE
  simp only [if_true]
  rw [if_neg (by simp), if_neg (by rw [hc]; simp)]
  exact (okPol_iff _).2 a
/-- what becomes of the session that a record speaks of. -/
theorem means_next {l : List TCell} {r : TRec} (h : (nextE l r).2 = 0) (hm : ∀ c ∈ l, Means c) : Means (nextCell l r).1 ∧ cellE (nextCell l r).1 = 0 := by
  obtain ⟨h1, h2, h3, h4, _⟩ := nextE_ok h
  obtain ⟨k0, k1, c0, c1, f0, f1, e1, e2, e3⟩ := recE_ok h2
  obtain ⟨hl, _⟩ := (cellsE_iff l).1 h1
  unfold nextCell at h4 ⊢
  by_cases hk3 : r.kind = 3
  · rw [if_pos hk3] at h4 ⊢
    split at h4
    · rename_i ho; rw [if_pos ho]; exact means_begin h4
    · simp at h4
  · rw [if_neg hk3] at h4 ⊢
    by_cases hk1 : r.kind = 1
    · rw [if_pos hk1] at h4 ⊢; exact means_begin h4
    · rw [if_neg hk1] at h4 ⊢
      by_cases hk2 : r.kind = 2
      · rw [if_pos hk2] at h4 ⊢
        split at h4
        · rename_i ht; exact absurd h4 ht
        · rename_i ht
          rw [if_neg ht]
          have ht' : (tightE (cellAt l r.cell).chain (cellAt l r.cell).p r.p).2 = 0 := by simpa using ht
          have ho : (cellAt l r.cell).open_ = true := by
            have : decide (r.kind = 1 ∨ r.kind = 3) = false := by simp [hk1, hk3]
            rw [this] at h3
            simpa using h3
          obtain ⟨m1, m2, m3, m4⟩ := hm _ (cellAt_mem hl c0 c1) ho
          have hp := e3 (by omega)
          have hc := chain_tight ht'
          have hne : (tightE (cellAt l r.cell).chain (cellAt l r.cell).p r.p).1 ≠ [] := by
            rw [(tightE_ok ht').2.2.2.2]; simp
          refine ⟨fun _ => ⟨hp, hc, hne, fun x hx => tight_says ht' hx (m4 x hx)⟩, ?_⟩
          unfold cellE
          simp only [if_true]
          rw [if_neg hne, if_neg (by rw [hc]; simp)]
          exact (okPol_iff _).2 hp
      · rw [if_neg hk2]
        exact ⟨fun h => by simp [zeroCell] at h, by unfold cellE zeroCell; simp [noPol, zeroPol]⟩
theorem means_all {l : List TCell} {r : TRec} (h : (nextE l r).2 = 0) (hm : ∀ c ∈ l, Means c) : (∀ c ∈ (nextE l r).1, Means c) ∧ cellsE (nextE l r).1 = 0 := by
  obtain ⟨h1, _, _, _, h5⟩ := nextE_ok h
  obtain ⟨m1, m2⟩ := means_next h hm
  obtain ⟨hl, hc⟩ := (cellsE_iff l).1 h1
  rw [h5]
  refine ⟨fun c hcm => ?_, (cellsE_iff _).2 ⟨by simpa using hl, fun c hcm => ?_⟩⟩
  · rcases mem_set hcm with h | h
    · exact hm c h
    · subst h; exact m1
  · rcases mem_set hcm with h | h
    · exact hc c h
    · subst h; exact m2
theorem means_new : (∀ c ∈ newCells, Means c) ∧ cellsE newCells = 0 := by
  refine ⟨fun c hc => ?_, by decide⟩
  have : c = zeroCell := by simp [newCells] at hc; exact hc
  subst this
  exact fun h => by simp [zeroCell] at h
theorem means_replay : ∀ (l : List TRec) (c : List TCell), (∀ s ∈ c, Means s) → cellsE c = 0 → (replayGo l c).2 = 0 → (∀ s ∈ (replayGo l c).1, Means s) ∧ cellsE (replayGo l c).1 = 0
  | [], _, h1, h2, _ => ⟨h1, h2⟩
  | r :: l, c, h1, h2, h => by
    unfold replayGo at h ⊢
    by_cases hn : (nextE c r).2 ≠ 0
    · rw [if_pos hn] at h; exact absurd h hn
    · rw [if_neg hn] at h ⊢
      obtain ⟨a, b⟩ := means_all (by simpa using hn) h1
      exact means_replay l _ a b h
theorem replayE_ok {l : List TRec} (h : (replayE l).2 = 0) : l.length ≤ 40 ∧ replayE l = replayGo l newCells ∧ (∀ s ∈ (replayE l).1, Means s) ∧ cellsE (replayE l).1 = 0 := by
  unfold replayE at h ⊢
  split at h
  · simp at h
  · rename_i h1
    rw [if_neg h1]
    exact ⟨by omega, rfl, means_replay l newCells means_new.1 means_new.2 h⟩
theorem replayGo_append : ∀ (l m : List TRec) (c : List TCell), replayGo (l ++ m) c = if (replayGo l c).2 ≠ 0 then ([], (replayGo l c).2) else replayGo m (replayGo l c).1
  | [], m, c => by simp [replayGo]
  | r :: l, m, c => by
    have e : ∀ m : List TRec, replayGo (r :: m) c = if (nextE c r).2 ≠ 0 then ([], (nextE c r).2) else replayGo m (nextE c r).1 := fun _ => rfl
    rw [List.cons_append, e, e]
    by_cases hn : (nextE c r).2 ≠ 0
    · rw [if_pos hn, if_pos hn, if_pos hn]
    · rw [if_neg hn, if_neg hn]
      exact replayGo_append l m _
theorem cellAt_set {l : List TCell} (hl : l.length = 4) {k : Int} (h0 : 0 ≤ k) (h1 : k < 4) (c : TCell) (j : Int) : cellAt (l.set k.toNat c) j = if j.toNat = k.toNat then c else cellAt l j := by
  unfold cellAt
  rw [List.getD_eq_getElem?_getD, List.getElem?_set]
  by_cases e : j.toNat = k.toNat
  · rw [if_pos e.symm, if_pos (by omega), if_pos e]; rfl
  · rw [if_neg (fun h => e h.symm), if_neg e]; rfl
/-- WHILE IT IS OPEN A SESSION GETS STRICTER ALONE. -/
theorem next_strict {l : List TCell} {r : TRec} (h : (nextE l r).2 = 0) (ho : (cellAt l r.cell).open_ = true) (ho' : (nextCell l r).1.open_ = true) :
    (tightE (cellAt l r.cell).chain (cellAt l r.cell).p r.p).2 = 0 ∧ (nextCell l r).1 = ⟨true, (tightE (cellAt l r.cell).chain (cellAt l r.cell).p r.p).1, r.p⟩ ∧ (nextCell l r).1.chain.length = (cellAt l r.cell).chain.length + 1 := by
  obtain ⟨h1, h2, h3, h4, _⟩ := nextE_ok h
  rw [ho] at h3
  have hk : ¬ (r.kind = 1 ∨ r.kind = 3) := fun e => h3 (by simp [e])
  unfold nextCell at h4 ho' ⊢
  rw [if_neg (fun e => hk (.inr e)), if_neg (fun e => hk (.inl e))] at h4 ho' ⊢
  by_cases hk2 : r.kind = 2
  · rw [if_pos hk2] at h4 ho' ⊢
    split at h4
    · rename_i ht; exact absurd h4 ht
    · rename_i ht
      rw [if_neg ht]
      have ht' : (tightE (cellAt l r.cell).chain (cellAt l r.cell).p r.p).2 = 0 := by simpa using ht
      refine ⟨ht', rfl, ?_⟩
      show (tightE _ _ _).1.length = _
      rw [(tightE_ok ht').2.2.2.2]; simp
  · rw [if_neg hk2] at ho'
    simp [zeroCell] at ho'
end Go.Proofs.YtioeliocdbckbaaGreatDoor
namespace Go.Proofs.YtioeliocdbckbaaGreatDoor
open Go.RowKit

set_option maxHeartbeats 4000000 in
theorem ins_any (k a b c n : Int) (w : World) : Calls Tryz.prog 90 #[.agg #[.int .i64 k, .int .i64 a, .int .i64 b, .int .i64 c], .int .i64 n] w fun e w' => e = .returned (.int .i64 (insE ⟨k,a,b,c⟩ n)) ∧ Below w.heap.size w w' := by
  go_enter Tryz.func90, Tryz.ntmps90
  go_wp2
  all_goals go_ret
  all_goals (refine ⟨ret_int ?_, (Below.refl _ _).alloc (Nat.le_refl _) _⟩)
  all_goals (simp only [beq_iff_eq, bne_iff_ne, beq_eq_false_iff_ne, bne_eq_false_iff_eq] at *)
  all_goals (simp [insE])
  all_goals ((repeat' split) <;> first | rfl | omega)

set_option maxHeartbeats 1000000 in
theorem codecheck_any (v : Value) (l : List TIns) (D : Nat → Prop) (w : World) (h : RdCode w D v l) : Calls Tryz.prog 71 #[v] w fun e w' => e = .returned (.int .i64 (codeE l)) ∧ Below w.heap.size w w' := by
  obtain ⟨a, c, rfl, hlc, hcm, hat⟩ := Sl.form h
  have H := Lib.hid h
  clear h
  by_cases h0 : l.length = 0
  · have b0 : ((l.length : Int) == 0) = true := by simp [h0]
    have hs : codeE l = 2 := by simp [codeE, h0]
    rw [hs]; clear hs hat H h0
    go_enter Tryz.func71, Tryz.ntmps71
    go_wp2
    go_ret
    exact ⟨rfl, Below.refl _ _⟩
  · by_cases h1 : 1500 < l.length
    · have b0 : ((l.length : Int) == 0) = false := beq_eq_false_iff_ne.2 (by omega)
      have hs : codeE l = 2 := by simp [codeE, h1]
      rw [hs]; clear hs hat H
      go_enter Tryz.func71, Tryz.ntmps71
      go_wp2
      go_ret
      exact ⟨rfl, Below.refl _ _⟩
    · obtain ⟨b, o, rfl, hDb, hb⟩ := hat (by omega)
      have b0 : ((l.length : Int) == 0) = false := beq_eq_false_iff_ne.2 (by omega)
      have b1 : ¬ (1500 < (l.length : Int)) := by omega
      have hE := Lib.hid (show codeE l = if codeGo l ≠ 0 then codeGo l else if lastK l = 4 then 0 else 4 from if_neg (by omega))
      clear hat
      go_enter Tryz.func71, Tryz.ntmps71
      go_wp2_with fail
      go_loopw [16] (fun i wr => ∃ k : Nat, k ≤ l.length ∧ i = .int .i64 k ∧ codeGo l = codeGo (l.drop k) ∧ Below w.heap.size w wr) (fun i _ => l.length - (intOf i).toNat)
      case atStart => exact ⟨0, by omega, rfl, rfl, Below.refl _ _⟩
      case round =>
        obtain ⟨k, hk, rfl, hgo, hbw⟩ := hrel
        have Hgo := Lib.hid hgo
        clear hgo
        by_cases hlt : k < l.length
        · obtain ⟨c0, c1, c2, c3⟩ := RdCode.cells (RdCode.below H.out hbw) hlt
          have Hd := Lib.hid (codeGo_drop l k hlt)
          have hsz := hbw.size
          go_wp2_with (go_at_call 90; refine (ins_any _ _ _ _ _ _).mono ?_; rintro e w1 ⟨rfl, hb1⟩)
          · rename_i ht
            have ht' := bne_iff_ne.1 ht
            go_ret
            refine ⟨ret_int ?_, bel_alloc_call hbw hb1⟩
            rw [hE.out, Hgo.out, Hd.out]
            simp only [ht', if_false, ne_eq, not_false_eq_true, if_true]
          · rename_i ht
            have ht' := bne_eq_false_iff_eq.1 ht
            go_roundw
            case rel => exact ⟨k + 1, by omega, by go_num, by rw [Hgo.out, Hd.out, if_pos ht'], bel_alloc_call hbw hb1⟩
            case measure => simp [intOf]; omega
        · obtain rfl : k = l.length := by omega
          have hz : codeGo l = 0 := by rw [Hgo.out, List.drop_length]; rfl
          have Hz := Lib.hid hz
          have hl1 : l.length - 1 < l.length := by omega
          obtain ⟨c0, _, _, _⟩ := RdCode.cells (RdCode.below H.out hbw) hl1
          have Hl := Lib.hid (lastK_eq l (by omega))
          clear hz
          by_cases h4 : l[l.length - 1].k = 4
          · rw [h4] at c0
            have Hf := Lib.hid (show codeE l = 0 by rw [hE.out, Hz.out, Hl.out, h4]; simp)
            clear h4
            go_wp2
            go_ret
            exact ⟨ret_int Hf.out.symm, hbw⟩
          · have b4 : (l[l.length - 1].k != 4) = true := bne_iff_ne.2 h4
            have Hf := Lib.hid (show codeE l = 4 by rw [hE.out, Hz.out, Hl.out, if_neg h4]; simp)
            clear h4
            go_wp2
            go_ret
            exact ⟨ret_int Hf.out.symm, hbw⟩
end Go.Proofs.YtioeliocdbckbaaGreatDoor
namespace Go.Proofs.YtioeliocdbckbaaGreatDoor
open Go.RowKit
attribute [local go_sem] gives givesUpon


/-- What the loop of Run holds. -/
def RunAt (x : TCall) (l : List TIns) (k : Nat) (n : Int) (d : Nat) : Prop := ∃ f, (l.drop k).length ≤ f ∧ run l x = runGo x f (l.drop k) n d
theorem RunAt.start (x : TCall) (l : List TIns) : RunAt x l 0 0 0 := ⟨l.length, by simp, rfl⟩
theorem RunAt.ret {x : TCall} {l : List TIns} {k : Nat} {n : Int} {d : Nat} (h : RunAt x l k n d) (hk : k < l.length) (h4 : l[k].k = 4) : run l x = (l[k].a, d + 1) := by
  obtain ⟨f, hf, hr⟩ := h
  rw [hr, runGo_ret x f l n d k hk hf h4]
theorem RunAt.load {x : TCall} {l : List TIns} {k : Nat} {n : Int} {d : Nat} (h : RunAt x l k n d) (hk : k < l.length) (h1 : l[k].k = 1) : RunAt x l (k + 1) (x.get l[k].a) (d + 1) := by
  obtain ⟨f, hf, hr⟩ := h
  obtain ⟨f', hf', hs⟩ := runGo_step x f l n d k hk hf (by omega)
  exact ⟨f', hf', by rw [hr, hs, if_pos h1]⟩
theorem RunAt.jump {x : TCall} {l : List TIns} {k : Nat} {n : Int} {d : Nat} (h : RunAt x l k n d) (hk : k < l.length) (h1 : l[k].k = 2 ∨ l[k].k = 3) : RunAt x l (k + 1 + insNext l[k] n) n (d + 1) := by
  obtain ⟨f, hf, hr⟩ := h
  obtain ⟨f', hf', hs⟩ := runGo_step x f l n d k hk hf (by omega)
  exact ⟨f', by simp at hf' ⊢; omega, by rw [hr, hs, if_neg (by omega)]⟩

set_option maxHeartbeats 2000000 in
theorem run_ok (v : Value) (l : List TIns) (x : TCall) (D : Nat → Prop) (w : World) (h : RdCode w D v l) (hc : codeE l = 0) (hx : x.ok) :
    Calls Tryz.prog 74 #[v, callV x] w fun e w' => e = .returned (.tuple #[.int .i64 (run l x).1, .int .i64 (run l x).2, .int .i64 0]) ∧ Below w.heap.size w w' := by
  obtain ⟨hR, hl⟩ := right_of hc
  have hpos : 0 < l.length := List.length_pos_iff.2 hR.ne
  obtain ⟨a, c, rfl, hlc, hcm, hat⟩ := Sl.form h
  obtain ⟨b, o, rfl, hDb, hb⟩ := hat hpos
  have H := Lib.hid h
  have HR := Lib.hid hR
  have Hc := Lib.hid hc
  have Hx := Lib.hid hx
  have hxe : Hid (callE x = 0) := if_pos hx
  clear h hR hc hx hat
  go_enter Tryz.func74, Tryz.ntmps74
  go_wp2_with (first
    | (go_at_call 71; refine (codecheck_any _ _ _ _ (RdCode.below H.out (bel_alloc (Below.refl _ _) _))).mono ?_; rw [Hc.out]; rintro e w1 ⟨rfl, hb1⟩; have hb1' : Below (w.heap.size + 1) _ w1 := hb1.mono (by simp); have hcell := box_cells hb1'; clear hb1)
    | (go_at_call 37; refine (callcheck_any x _).mono ?_; rw [hxe.out]; rintro e w2 ⟨rfl, hb2⟩; have hb2' := hb1'.trans (hb2.mono (size_box hb1')); clear hb2 hb1' hcell))
  go_loopw [9, 10, 11] (fun n d at_ wr => ∃ (k dn : Nat) (nn : Int), k < l.length ∧ dn ≤ k ∧ n = .int .i64 nn ∧ d = .int .i64 dn ∧ at_ = .int .i64 k ∧ RunAt x l k nn dn ∧ Below (w.heap.size + 1) (w.alloc (.cells #[.int .i64 x.a0, .int .i64 x.a1, .int .i64 x.a2, .int .i64 x.a3, .int .i64 x.a4] 26)) wr) (fun _ _ i _ => l.length - (intOf i).toNat)
  case atStart => exact ⟨0, 0, 0, hpos, by omega, rfl, rfl, rfl, RunAt.start x l, hb2'⟩
  case round =>
    obtain ⟨k, dn, nn, hk, hdn, rfl, rfl, rfl, hrun, hbx⟩ := hrel
    have Hrun := Lib.hid hrun
    have hsz := size_box hbx
    obtain ⟨c0, c1, c2, c3⟩ := RdCode.cells (RdCode.below H.out (bel_box hbx)) hk
    have hcell := box_cells hbx
    have hfrz : True := trivial
    obtain ⟨hi, hn4⟩ := HR.out.at_ hk
    have Hn4 := Lib.hid hn4
    clear hrun hn4 hb2'
    rcases insE_cases hi with ⟨h4, h5, h6, h7, h8⟩ | ⟨h1, h5, h6, h7, h8⟩ | ⟨h23, h5, h6, h7, h8, h9, h10⟩
    · rw [h4] at c0
      have Hr := Lib.hid (Hrun.out.ret hk h4)
      clear hi h4 h5 h6 h7 h8
      go_wp2
      go_ret3
      exact ⟨by rw [Hr.out]; simp, bel_alloc (bel_box hbx) _⟩
    · obtain ⟨m, hm⟩ := Int.eq_ofNat_of_zero_le h5
      have Hn := Lib.hid (Hrun.out.load hk h1)
      have hk1 := Hn4.out (by omega)
      rw [h1] at c0
      rw [hm] at c1 Hn
      have hm5 : m < 5 := by omega
      have hcm := hcell m
      rw [cell5 x m hm5] at hcm
      have hcm' : ∀ o, (wr.alloc o).cell? ⟨w.heap.size, m, none⟩ = some (.int .i64 (x.get m)) := fun o => (World.cell?_alloc_lt wr o ⟨w.heap.size, m, none⟩ (show w.heap.size < wr.heap.size by omega)).trans hcm
      clear hi h1 h5 h6 h7 h8 hm hcell Hrun
      go_wp2
      go_roundw
      case rel => exact ⟨k + 1, dn + 1, _, hk1, by omega, rfl, by go_num, by go_num, Hn.out, hbx.trans ((Below.refl _ _).alloc (size_box hbx) _)⟩
      case measure => simp [intOf]; omega
    · obtain ⟨mb, hmb⟩ := Int.eq_ofNat_of_zero_le h7
      obtain ⟨mc, hmc⟩ := Int.eq_ofNat_of_zero_le h9
      have Hn := Lib.hid (Hrun.out.jump hk h23)
      rw [hmb] at c2
      rw [hmc] at c3
      have hx : Hid (insNext l[k] nn = if (l[k].k = 2 ∧ nn = l[k].a) ∨ (l[k].k = 3 ∧ nn < l[k].a) then mb else mc) := by unfold insNext; rw [hmb, hmc]; rfl
      have hb1 : k + 1 + mb < l.length := by omega
      have hb2 : k + 1 + mc < l.length := by omega
      clear hi h5 h6 h7 h8 h9 h10 hmb hmc hcell Hrun
      have fin : ∀ (m : Nat) , k + 1 + m < l.length → insNext l[k] nn = m → ∀ wz, Below w.heap.size w wz → True := fun _ _ _ _ _ => trivial
      rcases h23 with h2 | h3
      · rw [h2] at c0
        by_cases he : nn = l[k].a
        · have be : (nn == l[k].a) = true := beq_iff_eq.2 he
          have Hm : Hid (insNext l[k] nn = mb) := by rw [hx.out]; exact if_pos (.inl ⟨h2, he⟩)
          clear he h2 hx fin
          go_wp2
          go_roundw
          case rel => exact ⟨k + 1 + mb, dn + 1, nn, hb1, by omega, rfl, by go_num, by go_num, by have := Hn.out; rwa [Hm.out] at this, hbx.trans ((Below.refl _ _).alloc (size_box hbx) _)⟩
          case measure => simp [intOf]; omega
        · have be : (nn == l[k].a) = false := beq_eq_false_iff_ne.2 he
          have Hm : Hid (insNext l[k] nn = mc) := by rw [hx.out]; exact if_neg (by omega)
          clear he h2 hx fin
          go_wp2
          go_roundw
          case rel => exact ⟨k + 1 + mc, dn + 1, nn, hb2, by omega, rfl, by go_num, by go_num, by have := Hn.out; rwa [Hm.out] at this, hbx.trans ((Below.refl _ _).alloc (size_box hbx) _)⟩
          case measure => simp [intOf]; omega
      · rw [h3] at c0
        by_cases he : nn < l[k].a
        · have Hm : Hid (insNext l[k] nn = mb) := by rw [hx.out]; exact if_pos (.inr ⟨h3, he⟩)
          clear h3 hx fin
          go_wp2
          go_roundw
          case rel => exact ⟨k + 1 + mb, dn + 1, nn, hb1, by omega, rfl, by go_num, by go_num, by have := Hn.out; rwa [Hm.out] at this, hbx.trans ((Below.refl _ _).alloc (size_box hbx) _)⟩
          case measure => simp [intOf]; omega
        · have Hm : Hid (insNext l[k] nn = mc) := by rw [hx.out]; exact if_neg (by omega)
          clear h3 hx fin
          go_wp2
          go_roundw
          case rel => exact ⟨k + 1 + mc, dn + 1, nn, hb2, by omega, rfl, by go_num, by go_num, by have := Hn.out; rwa [Hm.out] at this, hbx.trans ((Below.refl _ _).alloc (size_box hbx) _)⟩
          case measure => simp [intOf]; omega

theorem run_any (v : Value) (l : List TIns) (x : TCall) (D : Nat → Prop) (w : World) (h : RdCode w D v l) :
    Calls Tryz.prog 74 #[v, callV x] w fun e w' => e = .returned (.tuple #[.int .i64 (runE l x).1, .int .i64 (runE l x).2.1, .int .i64 (runE l x).2.2]) ∧ Below w.heap.size w w' := by
  by_cases hc : codeE l = 0
  · by_cases hx : x.ok
    · have e : runE l x = ((run l x).1, ((run l x).2 : Int), 0) := by unfold runE; rw [if_neg (by omega), if_pos hx]
      rw [e]
      exact run_ok v l x D w h hc hx
    · have e : runE l x = (0, 0, 3) := by unfold runE; rw [if_neg (by omega), if_neg hx]
      have H := Lib.hid h
      have Hc := Lib.hid hc
      have hxe : Hid (callE x = 3) := if_neg hx
      rw [e]
      clear h e hc hx
      go_enter Tryz.func74, Tryz.ntmps74
      go_wp2_with (first
        | (go_at_call 71; refine (codecheck_any _ _ _ _ (RdCode.below H.out (bel_alloc (Below.refl _ _) _))).mono ?_; rw [Hc.out]; rintro e w1 ⟨rfl, hb1⟩; have hb1' : Below (w.heap.size + 1) _ w1 := hb1.mono (by simp); have hcell := box_cells hb1'; clear hb1)
        | (go_at_call 37; refine (callcheck_any x _).mono ?_; rw [hxe.out]; rintro e w2 ⟨rfl, hb2⟩; have hb2' := hb1'.trans (hb2.mono (size_box hb1')); clear hb2 hb1' hcell))
      go_ret3
      exact ⟨rfl, bel_box hb2'⟩
  · have e : runE l x = (0, 0, codeE l) := by unfold runE; rw [if_pos hc]
    have H := Lib.hid h
    have be : (codeE l != 0) = true := bne_iff_ne.2 hc
    rw [e]
    clear h e hc
    go_enter Tryz.func74, Tryz.ntmps74
    go_wp2_with (first
      | (go_at_call 71; refine (codecheck_any _ _ _ _ (RdCode.below H.out (bel_alloc (Below.refl _ _) _))).mono ?_; rintro e w1 ⟨rfl, hb1⟩; have hb1' : Below (w.heap.size + 1) _ w1 := hb1.mono (by simp); clear hb1))
    go_ret3
    exact ⟨rfl, bel_box hb1'⟩
end Go.Proofs.YtioeliocdbckbaaGreatDoor
namespace Go.Proofs.YtioeliocdbckbaaGreatDoor
open Go.RowKit

def chainR (w : World) (D : Nat → Prop) (f : List TIns) (cs : List Value) : Prop := ∃ u, cs = [u] ∧ RdCode w D u f
def RdChain (w : World) (D : Nat → Prop) (v : Value) (l : List (List TIns)) : Prop := Sl w D 1 (chainR w D) v l
theorem RdChain.keep {w w' : World} {D D' : Nat → Prop} {v : Value} {l : List (List TIns)} (h : RdChain w D v l) (hD : ∀ b, D b → b < w.heap.size → D' b)
    (hw : ∀ b, D b → b < w.heap.size → w'.heap[b]? = w.heap[b]?) (hs : w.heap.size ≤ w'.heap.size) : RdChain w' D' v l :=
  Sl.mono h hD hw hs (fun _ _ _ ⟨u, h1, h2⟩ => ⟨u, h1, h2.keep hD hw hs⟩)
theorem RdChain.below {w w' : World} {D : Nat → Prop} {v : Value} {l : List (List TIns)} (h : RdChain w D v l) (hb : Below w.heap.size w w') : RdChain w' D v l :=
  h.keep (fun _ h _ => h) (fun b _ hlt => hb.block b hlt) hb.size
theorem RdChain.cells {w : World} {D : Nat → Prop} {b o n c : Nat} {s : Option Nat} {l : List (List TIns)} (h : RdChain w D (.slice (some ⟨b, o, s⟩) n c) l) {i : Nat} (hi : i < l.length) :
    ∃ (a' : Option Addr) (c' : Nat), w.cell? ⟨b, o + i, none⟩ = some (.slice a' l[i].length c') ∧ RdCode w D (.slice a' l[i].length c') l[i] := by
  obtain ⟨cs, _, ⟨u, hu, hr⟩, hcell⟩ := Sl.get h hi
  obtain ⟨a', c', hv, _⟩ := Sl.form hr
  subst hv hu
  have h1 := hcell 0 _ rfl
  rw [Nat.mul_one] at h1
  exact ⟨a', c', h1, hr⟩

set_option maxHeartbeats 4000000 in
theorem chcheck_any (v : Value) (l : List (List TIns)) (D : Nat → Prop) (w : World) (h : RdChain w D v l) :
    Calls Tryz.prog 72 #[v] w fun e w' => e = .returned (.int .i64 (chainE l)) ∧ Below w.heap.size w w' := by
  obtain ⟨a, c, rfl, hlc, hcm, hat⟩ := Sl.form h
  have H := Lib.hid h
  clear h
  go_enter Tryz.func72, Tryz.ntmps72
  by_cases h6 : 6 < l.length
  · have hE : chainE l = 2 := by unfold chainE; rw [if_pos h6]
    rw [hE]
    go_wp2
    go_ret
    exact ⟨rfl, Below.refl _ _⟩
  · have HE : Hid (chainE l = codesGo l) := by show chainE l = _; unfold chainE; rw [if_neg h6]
    go_wp2_with fail
    go_loopw [11] (fun kv wr => ∃ k : Nat, kv = .int .i64 k ∧ k ≤ l.length ∧ codesGo l = codesGo (l.drop k) ∧ Below w.heap.size w wr) (fun kv _ => l.length - (intOf kv).toNat)
    case atStart => exact ⟨0, rfl, by omega, rfl, Below.refl _ _⟩
    case round =>
      obtain ⟨k, rfl, hk, hd, hb⟩ := hrel
      have Hd := Lib.hid hd
      have Hb := Lib.hid hb
      clear hd hb
      by_cases hlt : k < l.length
      · obtain ⟨b, o, rfl, _, _⟩ := hat (by omega)
        obtain ⟨a', c', hc, hr⟩ := RdChain.cells (H.out.below Hb.out) hlt
        have Hr := Lib.hid hr
        have Hdk := Lib.hid (codesGo_drop l k hlt)
        obtain ⟨f, hf⟩ : ∃ f, l[k] = f := ⟨_, rfl⟩
        rw [hf] at hc Hr Hdk
        clear hr hf
        go_wp2_with fail
        refine (codecheck_any _ f _ _ Hr.out).mono ?_
        rintro e w1 ⟨rfl, hb1⟩
        have Hb1 := Lib.hid (bel_call Hb.out hb1)
        clear hb1 hc
        by_cases h0 : codeE f = 0
        · have Hn : Hid (codesGo l = codesGo (l.drop (k + 1))) := by show _ = _; rw [Hd.out, Hdk.out, if_pos h0]
          rw [h0]
          clear h0
          go_wp2
          go_roundw
          case rel => exact ⟨k + 1, by go_num, by omega, Hn.out, Hb1.out⟩
          case measure => simp [intOf]; omega
        · have Hn : Hid (chainE l = codeE f) := by show _ = _; rw [HE.out, Hd.out, Hdk.out, if_neg h0]
          have hb0 : (codeE f != 0) = true := bne_iff_ne.2 h0
          clear h0
          go_wp2
          go_ret
          exact ⟨ret_int Hn.out.symm, Hb1.out⟩
      · obtain rfl : k = l.length := by omega
        have Hn : Hid (chainE l = 0) := by show _ = _; rw [HE.out, Hd.out, List.drop_length]; rfl
        go_wp2
        go_ret
        exact ⟨ret_int Hn.out.symm, Hb.out⟩

theorem askGo_drop (x : TCall) (l : List (List TIns)) (k : Nat) (v : Int) (h : k < l.length) : askGo x (l.drop k) v = askGo x (l.drop (k + 1)) (minOf v (run l[k] x).1) := by
  rw [List.drop_eq_getElem_cons h]; rfl
theorem runE_of {f : List TIns} (h : codeE f = 0) {x : TCall} (hx : x.ok) : runE f x = ((run f x).1, ((run f x).2 : Int), 0) := by
  unfold runE
  rw [if_neg (by rw [h]; simp), if_pos hx]

set_option maxHeartbeats 4000000 in
theorem ask_any (v : Value) (l : List (List TIns)) (x : TCall) (D : Nat → Prop) (w : World) (h : RdChain w D v l) :
    Calls Tryz.prog 47 #[v, callV x] w fun e w' => e = .returned (.tuple #[.int .i64 (askE l x).1, .int .i64 (askE l x).2]) ∧ Below w.heap.size w w' := by
  obtain ⟨a, c, rfl, hlc, hcm, hat⟩ := Sl.form h
  have H := Lib.hid h
  clear h
  go_enter Tryz.func47, Tryz.ntmps47
  go_wp2_with fail
  have HB := Lib.hid (Bx.one (w := w) (o := .cells #[.int .i64 x.a0, .int .i64 x.a1, .int .i64 x.a2, .int .i64 x.a3, .int .i64 x.a4] 26))
  refine (chcheck_any _ l D _ (H.out.below HB.out.bel)).mono ?_
  rintro e w1 ⟨rfl, hb1⟩
  have HB1 := Lib.hid (HB.out.below hb1)
  clear hb1
  by_cases h0 : chainE l = 0
  · obtain ⟨hl6, hcodes⟩ := (chainE_iff l).1 h0
    have Hcd := Lib.hid hcodes
    have H0 := Lib.hid h0
    rw [h0]
    have hc0 := HB1.out.cells0
    clear h0 hcodes
    go_wp2_with fail
    refine (callcheck_any x _).mono ?_
    rintro e w2 ⟨rfl, hb2⟩
    have HB2 := Lib.hid (HB1.out.below hb2)
    clear hb2 hc0
    by_cases hx : x.ok
    · have Hx := Lib.hid hx
      have he : callE x = 0 := by unfold callE; rw [if_pos hx]
      rw [he]
      have HA : Hid (askE l x = (asked l x, 0)) := by show askE l x = _; unfold askE; rw [if_neg (by rw [H0.out]; simp), if_pos hx]
      clear hx he
      go_wp2_with fail
      go_loopw [8, 26] (fun vv kv wr => ∃ (k : Nat) (t : Int), kv = .int .i64 k ∧ vv = .int .i64 t ∧ k ≤ l.length ∧ asked l x = askGo x (l.drop k) t ∧ Bx w [.cells #[.int .i64 x.a0, .int .i64 x.a1, .int .i64 x.a2, .int .i64 x.a3, .int .i64 x.a4] 26] wr) (fun _ kv _ => l.length - (intOf kv).toNat)
      case atStart => exact ⟨0, 4, rfl, rfl, by omega, rfl, HB2.out⟩
      case round =>
        obtain ⟨k, t, rfl, rfl, hk, hd, hb⟩ := hrel
        have Hd := Lib.hid hd
        have HBr := Lib.hid hb
        clear hd hb
        by_cases hlt : k < l.length
        · obtain ⟨b, o, rfl, _, _⟩ := hat (by omega)
          obtain ⟨a', c', hc, hr⟩ := RdChain.cells (H.out.below HBr.out.bel) hlt
          have Hr := Lib.hid hr
          have Hck := Lib.hid (Hcd.out l[k] (List.getElem_mem hlt))
          have Hdk := Lib.hid (askGo_drop x l k t hlt)
          obtain ⟨f, hf⟩ : ∃ f, l[k] = f := ⟨_, rfl⟩
          rw [hf] at hc Hr Hdk Hck
          have hc0 := HBr.out.cells0
          clear hr hf
          go_wp2_with fail
          refine (run_any _ f x _ _ Hr.out).mono ?_
          rw [runE_of Hck.out Hx.out]
          rintro e w3 ⟨rfl, hb3⟩
          have HB3 := Lib.hid (HBr.out.below hb3)
          clear hb3 hc hc0
          obtain ⟨u, hu⟩ : ∃ u, (run f x).1 = u := ⟨_, rfl⟩
          rw [hu] at Hdk ⊢
          have Hn : Hid (asked l x = askGo x (l.drop (k + 1)) (minOf t u)) := by show _ = _; rw [Hd.out, Hdk.out]
          by_cases htu : t ≤ u
          · have e1 : minOf t u = t := by unfold minOf; rw [if_pos htu]
            rw [e1] at Hn
            go_wp2
            go_roundw
            case rel => exact ⟨k + 1, t, by go_num, (by first | rfl | (congr 1 <;> omega) | omega), by omega, Hn.out, HB3.out⟩
            case measure => simp [intOf]; omega
          · have e1 : minOf t u = u := by unfold minOf; rw [if_neg htu]
            rw [e1] at Hn
            go_wp2
            go_roundw
            case rel => exact ⟨k + 1, u, by go_num, (by first | rfl | (congr 1 <;> omega) | omega), by omega, Hn.out, HB3.out⟩
            case measure => simp [intOf]; omega
        · obtain rfl : k = l.length := by omega
          have Hn : Hid (asked l x = t) := by show _ = _; rw [Hd.out, List.drop_length]; rfl
          have HBf := Lib.hid HBr.out.bel
          go_wp2
          go_ret2
          exact ⟨by rw [HA.out, Hn.out] <;> rfl, HBf.out⟩
    · have he : callE x = 3 := by unfold callE; rw [if_neg hx]
      have HA : Hid (askE l x = (0, 3)) := by show askE l x = _; unfold askE; rw [if_neg (by rw [H0.out]; simp), if_neg hx]
      have HBf := Lib.hid HB2.out.bel
      rw [he]
      clear hx
      go_wp2
      go_ret2
      exact ⟨by rw [HA.out] <;> rfl, HBf.out⟩
  · have HA : Hid (askE l x = (0, chainE l)) := by show askE l x = _; unfold askE; rw [if_pos h0]
    have hb0 : (chainE l != 0) = true := bne_iff_ne.2 h0
    have HBf := Lib.hid HB1.out.bel
    clear h0
    go_wp2
    go_ret2
    exact ⟨by rw [HA.out] <;> rfl, HBf.out⟩
end Go.Proofs.YtioeliocdbckbaaGreatDoor
namespace Go.Proofs.YtioeliocdbckbaaGreatDoor
open Go.RowKit

theorem insR_one (y : TIns) (cs : List Value) (h : insR y cs) : ∀ c ∈ cs, c.oneCell' = true := by
  unfold insR at h; subst h; simp [Value.oneCell']
theorem chainR_one {w : World} {D : Nat → Prop} (y : List TIns) (cs : List Value) (h : chainR w D y cs) : ∀ c ∈ cs, c.oneCell' = true := by
  obtain ⟨u, rfl, h⟩ := h
  obtain ⟨a, c, rfl, _⟩ := Sl.form h
  simp [Value.oneCell']
/-- a filter, and whether it was copied: then it reads from blocks from B on; none reads from the row's own block g. -/
def copyR (w : World) (g B : Nat) (y : List TIns × Bool) (cs : List Value) : Prop := ∃ u, cs = [u] ∧ RdCode w (fun b => b ≠ g ∧ (y.2 = true → B ≤ b)) u y.1
theorem OwnSl.unmark {w : World} {base B g : Nat} {e : TypeId} {v : Value} {l : List (List TIns)} (h : OwnSl w base e 1 (copyR w g B) v (l.map fun f => (f, true))) : OwnSl w base e 1 (chainR w (fun b => B ≤ b ∧ b ≠ g)) v l := by
  obtain ⟨rows, hr, ho⟩ := h
  refine ⟨rows, ⟨by simpa using hr.len, hr.size, fun i x r hx hk => ?_⟩, by simpa using ho⟩
  obtain ⟨u, h1, h2⟩ := hr.rel i (x, true) r (by rw [List.getElem?_map, hx]; rfl) hk
  exact ⟨u, h1, h2.keep (fun _ hb _ => ⟨hb.2 rfl, hb.1⟩) (fun _ _ _ => rfl) (Nat.le_refl _)⟩
theorem OwnSl.mark {w : World} {base B g : Nat} {e : TypeId} {D : Nat → Prop} {v : Value} {l : List (List TIns)} (h : OwnSl w base e 1 (chainR w D) v l) (hD : ∀ b, D b → b ≠ g) : OwnSl w base e 1 (copyR w g B) v (l.map fun f => (f, false)) := by
  obtain ⟨rows, hr, ho⟩ := h
  refine ⟨rows, ⟨by simpa using hr.len, hr.size, fun i x r hx hk => ?_⟩, by simpa using ho⟩
  rw [List.getElem?_map] at hx
  cases hy : l[i]? with
  | none => rw [hy] at hx; cases hx
  | some y =>
    rw [hy] at hx
    injection hx with hx
    subst hx
    obtain ⟨u, h1, h2⟩ := hr.rel i y r hy hk
    exact ⟨u, h1, h2.keep (fun b hb _ => ⟨hD b hb, fun h => by cases h⟩) (fun _ _ _ => rfl) (Nat.le_refl _)⟩
/-- the first k are copied. -/
def marked (l : List (List TIns)) (k : Nat) : List (List TIns × Bool) := (l.take k).map (fun f => (f, true)) ++ (l.drop k).map (fun f => (f, false))
theorem marked_len (l : List (List TIns)) (k : Nat) (h : k ≤ l.length) : (marked l k).length = l.length := by simp [marked]; omega
theorem marked_get {l : List (List TIns)} {k : Nat} (h : k < l.length) : (marked l k)[k]'(by rw [marked_len l k (by omega)]; exact h) = (l[k], false) := by
  unfold marked
  rw [List.getElem_append_right (by simp; omega)]
  simp
  congr 1
  omega
theorem marked_set {l : List (List TIns)} {k : Nat} (h : k < l.length) : (marked l k).set k (l[k], true) = marked l (k + 1) := by
  unfold marked
  have e : ((l.take k).map fun f => (f, true)).length = k := by simp; omega
  rw [List.set_append_right _ _ (by rw [e]; exact Nat.le_refl _), e, Nat.sub_self, List.drop_eq_getElem_cons h, List.map_cons, List.set_cons_zero, List.take_succ_eq_append_getElem h, List.map_append]
  simp
theorem marked_zero (l : List (List TIns)) : marked l 0 = l.map fun f => (f, false) := by simp [marked]
theorem marked_all (l : List (List TIns)) : marked l l.length = l.map fun f => (f, true) := by simp [marked]

set_option maxRecDepth 100000 in
set_option maxHeartbeats 8000000 in
theorem copy_any (v : Value) (l : List (List TIns)) (D : Nat → Prop) (w : World) (h : RdChain w D v l) (hn : l.length ≤ 1000000) (hc : ∀ f ∈ l, f.length ≤ 1000000) :
    Calls Tryz.prog 73 #[v] w fun e w' => ∃ v', e = .returned v' ∧ OwnSl w' w.heap.size 70 1 (chainR w' (fun b => w.heap.size ≤ b ∧ v'.ownBlock ≠ some b)) v' l ∧ Below w.heap.size w w' := by
  have H := Lib.hid h
  have Hc := Lib.hid hc
  obtain ⟨a, c, rfl, hlc, hcm, hat⟩ := Sl.form h
  clear h hc
  go_enter Tryz.func73, Tryz.ntmps73
  go_wp2_with fail
  have H0 : Hid (Sl w D 1 (chainR w (fun b => D b ∧ b < w.heap.size)) (.slice a l.length c) l) := Sl.mono H.out (fun _ h _ => h) (fun _ _ _ => rfl) (Nat.le_refl _) (fun _ _ _ ⟨u, h1, h2⟩ => ⟨u, h1, h2.keep (fun _ h hl => ⟨h, hl⟩) (fun _ _ _ => rfl) (Nat.le_refl _)⟩)
  refine (cloneChain_any (chainR w (fun b => D b ∧ b < w.heap.size)) (fun y cs h => chainR_one y cs h) _ l D w H0.out (by omega)).mono ?_
  rintro e w1 ⟨v1, rfl, ho1, hb1⟩
  have ho1' : OwnSl w1 w.heap.size 70 1 (chainR w1 (fun b => D b ∧ b < w.heap.size)) v1 l := ho1.monoR fun _ _ _ ⟨u, h1, h2⟩ => ⟨u, h1, h2.below hb1⟩
  have Ho1 := Lib.hid ho1'
  have Hb1 := Lib.hid hb1
  obtain ⟨a1, c1, rfl⟩ := ho1.slice
  clear ho1 ho1' hb1
  rcases Nat.eq_zero_or_pos l.length with h0 | hpos
  · have hl0 : l = [] := List.length_eq_zero_iff.1 h0
    subst hl0
    have hlen0 : ([] : List (List TIns)).length = 0 := rfl
    go_wp2_with fail
    go_loopw [9] (fun kv wr => kv = .int .i64 0 ∧ wr = w1) (fun _ _ => 0)
    case atStart => exact ⟨rfl, rfl⟩
    case round =>
      obtain ⟨rfl, rfl⟩ := hrel
      go_wp2
      go_ret
      exact ⟨_, rfl, Ho1.out.monoR (fun x hx => by cases hx), Hb1.out⟩
  · obtain ⟨g, rfl, hgb, hgl, cur, hcur⟩ := OwnSl.addr Ho1.out hpos
    have HM : Hid (OwnSl w1 w.heap.size 70 1 (copyR w1 g w.heap.size) (.slice (some ⟨g, 0, none⟩) l.length c1) (marked l 0)) := by
      show OwnSl _ _ _ _ _ _ _
      rw [marked_zero]
      exact Ho1.out.mark (fun b hb => by omega)
    clear hcur
    go_wp2_with fail
    go_loopw [9] (fun kv wr => ∃ k : Nat, kv = .int .i64 k ∧ k ≤ l.length ∧ OwnSl wr w.heap.size 70 1 (copyR wr g w.heap.size) (.slice (some ⟨g, 0, none⟩) l.length c1) (marked l k) ∧ Below w.heap.size w wr) (fun kv _ => l.length - (intOf kv).toNat)
    case atStart => exact ⟨0, rfl, by omega, HM.out, Hb1.out⟩
    case round =>
      obtain ⟨k, rfl, hk, hown, hb⟩ := hrel
      have Hown := Lib.hid hown
      have Hb := Lib.hid hb
      clear hown hb
      by_cases hlt : k < l.length
      · have hml := marked_len l k (by omega)
        have hg2 : g < wr.heap.size := by
          obtain ⟨b, e, _, hl, _⟩ := OwnSl.addr Hown.out (by omega)
          injection e with e; injection e with e; rw [e]; exact hl
        have hsl : Sl wr (fun _ => True) 1 (copyR wr g w.heap.size) (.slice (some ⟨g, 0, none⟩) l.length c1) (marked l k) := Hown.out.sl (fun _ _ => trivial)
        obtain ⟨cs, _, ⟨u, hu, hr⟩, hcell⟩ := Sl.get hsl (i := k) (by omega)
        rw [marked_get hlt] at hr
        have Hr : Hid (RdCode wr (fun b => b ≠ g) u l[k]) := hr.keep (fun _ h _ => h.1) (fun _ _ _ => rfl) (Nat.le_refl _)
        have Hck := Lib.hid (Hc.out l[k] (List.getElem_mem hlt))
        have Hset := Lib.hid (marked_set hlt)
        obtain ⟨f, hf⟩ : ∃ f, l[k] = f := ⟨_, rfl⟩
        rw [hf] at Hr Hck Hset
        obtain ⟨cf, cc, rfl, _⟩ := Sl.form Hr.out
        subst hu
        have hck := hcell 0 _ rfl
        simp only [Nat.mul_one, Nat.zero_add, Nat.add_zero] at hck
        have hcl := Hck.out
        clear hr hcell hf hsl
        go_wp2_with fail
        refine (cloneIns_any insR insR_one _ f (fun b => b ≠ g) wr Hr.out (by omega)).mono ?_
        rintro e w2 ⟨v2, rfl, ho2, hb2⟩
        have Hb2 := Lib.hid (bel_call Hb.out hb2)
        have hown2 : OwnSl w2 w.heap.size 70 1 (copyR w2 g w.heap.size) (.slice (some ⟨g, 0, none⟩) l.length c1) (marked l k) := (Hown.out.below hb2).monoR fun _ _ _ ⟨u, h1, h2⟩ => ⟨u, h1, h2.below hb2⟩
        obtain ⟨b', e', _, hgl2, cur2, hcur2⟩ := OwnSl.addr hown2 (by omega)
        obtain rfl : g = b' := by injection e' with e'; injection e' with e'
        have hfg := not_frozen hcur2 k
        have hcg := (OwnSl.sl hown2 (D := fun _ => True) (fun _ _ => trivial))
        obtain ⟨cs3, _, ⟨u3, hu3, _⟩, hcell3⟩ := Sl.get hcg (i := k) (by omega)
        subst hu3
        have hck2 := hcell3 0 _ rfl
        simp only [Nat.mul_one, Nat.zero_add, Nat.add_zero] at hck2
        obtain ⟨a2, c2, rfl⟩ := ho2.slice
        have Hw3 : Hid (Below w.heap.size w (w2.setCell ⟨g, k, none⟩ (.slice a2 f.length c2))) := set_below Hb2.out hgb
        have hsz2 := Hb2.out.size
        have Hown3 : Hid (OwnSl (w2.setCell ⟨g, k, none⟩ (.slice a2 f.length c2)) w.heap.size 70 1 (copyR (w2.setCell ⟨g, k, none⟩ (.slice a2 f.length c2)) g w.heap.size) (.slice (some ⟨g, 0, none⟩) l.length c1) (marked l (k + 1))) := by
          have hm : OwnSl w2 w.heap.size 70 1 (copyR (w2.setCell ⟨g, k, none⟩ (.slice a2 f.length c2)) g w.heap.size) (.slice (some ⟨g, 0, none⟩) l.length c1) (marked l k) := hown2.monoR fun _ _ _ ⟨u, h1, h2⟩ => ⟨u, h1, h2.keep (fun _ h _ => h) (fun b hb _ => set_other (by exact hb.1)) (by rw [set_size]; exact Nat.le_refl _)⟩
          have hp := OwnSl.put (i := k) (j := 0) hm (by omega) (by decide) (y := (f, true)) (u := .slice a2 f.length c2) (fun r hr => by
            obtain ⟨u, rfl, _⟩ := hr
            refine ⟨.slice a2 f.length c2, rfl, ?_⟩
            have hs : Sl w2 (fun b => wr.heap.size ≤ b) 4 insR (.slice a2 f.length c2) f := ho2.sl fun _ h => h
            exact Sl.mono hs (fun b hb _ => by have h1 : wr.heap.size ≤ b := hb; exact ⟨by omega, fun _ => by omega⟩) (fun b hb _ => set_other (by have h1 : wr.heap.size ≤ b := hb; show b ≠ g; omega)) (by rw [set_size]; exact Nat.le_refl _) (fun _ _ _ h => h))
          rw [Hset.out] at hp
          show OwnSl _ _ _ _ _ _ _
          simpa using hp
        clear ho2 hb2 hown2 hcur2 hcell3 hcg
        go_wp2
        go_roundw
        case rel => exact ⟨k + 1, by go_num, by omega, Hown3.out, Hw3.out⟩
        case measure => simp [intOf]; omega
      · obtain rfl : k = l.length := by omega
        have HR : Hid (OwnSl wr w.heap.size 70 1 (chainR wr (fun b => w.heap.size ≤ b ∧ (Value.slice (some ⟨g, 0, none⟩) l.length c1).ownBlock ≠ some b)) (.slice (some ⟨g, 0, none⟩) l.length c1) l) := by
          have := Hown.out
          rw [marked_all] at this
          exact this.unmark.monoR fun _ _ _ ⟨u, h1, h2⟩ => ⟨u, h1, h2.keep (fun b hb _ => ⟨hb.1, fun e => hb.2 (by simpa [Value.ownBlock] using e.symm)⟩) (fun _ _ _ => rfl) (Nat.le_refl _)⟩
        go_wp2
        go_ret
        exact ⟨_, rfl, HR.out, Hb.out⟩
end Go.Proofs.YtioeliocdbckbaaGreatDoor
namespace Go.Proofs.YtioeliocdbckbaaGreatDoor
open Go.RowKit

set_option maxHeartbeats 8000000 in
theorem delta_any (u v : Value) (p q : TPol) (w : World) (hp : RdRules w (fun _ => True) u p.rules) (hq : RdRules w (fun _ => True) v q.rules) :
    Calls Tryz.prog 21 #[polV u p.dflt, polV v q.dflt] w fun e w' => ∃ r, e = .returned (.tuple #[polV r (deltaE p q).1.dflt, .int .i64 (deltaE p q).2]) ∧ RdRules w' (fun b => w.heap.size ≤ b ∧ NotPol w' b) r (deltaE p q).1.rules ∧ Below w.heap.size w w' := by
  have Hp := Lib.hid hp
  have Hq := Lib.hid hq
  obtain ⟨ap, cp, rfl, _⟩ := Sl.form hp
  obtain ⟨aq, cq, rfl, _⟩ := Sl.form hq
  clear hp hq
  obtain ⟨⟨L1, L2, L3⟩, hL⟩ : ∃ E, looserE q p = E := ⟨_, rfl⟩
  have HL := Lib.hid hL
  obtain ⟨⟨X, xe⟩, hX⟩ : ∃ E, pairE exceptOf q p = E := ⟨_, rfl⟩
  have HX := Lib.hid hX
  obtain ⟨⟨Y, ye⟩, hY⟩ : ∃ E, shortE X = E := ⟨_, rfl⟩
  have HY := Lib.hid hY
  have HD : Hid (deltaE p q = if L3 ≠ 0 then (zeroPol, L3) else if L1 then (zeroPol, 7) else if xe ≠ 0 then (zeroPol, xe) else (Y, ye)) := by
    show deltaE p q = _
    unfold deltaE
    rw [hL, hX]
    dsimp only
    by_cases hx : xe = 0
    · have hXe : X = pairPol exceptOf q p := by
        have := (pairE_ok (of := exceptOf) (p := q) (q := p) (by rw [hX]; exact hx)).2.2.2
        rw [hX] at this
        exact (Prod.mk.inj this).1
      rw [← hXe, hY]
    · rw [if_pos hx, if_pos hx]
  clear hL hX hY
  go_enter Tryz.func21, Tryz.ntmps21
  go_wp2_with fail
  have HB := Lib.hid (Bx.three (w := w) (o := .cells #[.slice ap p.rules.length cp, .int .i64 p.dflt] 24) (o' := .cells #[.slice aq q.rules.length cq, .int .i64 q.dflt] 24) (o2 := .cells #[.slice none 0 0, .int .i64 0] 24))
  refine (looser_any _ _ q p _ (Hq.out.below HB.out.bel) (Hp.out.below HB.out.bel)).mono ?_
  rw [HL.out]
  rintro e w1 ⟨rfl, hb1⟩
  have HB1 := Lib.hid (HB.out.below hb1)
  have hD1 := Bx.one (w := w1) (o := .cells #[.int .i64 0, .int .i64 0, .int .i64 0, .int .i64 0, .int .i64 0] 26)
  have HD2 := Lib.hid (Bx.one (w := w1) (o := .cells #[.int .i64 L2.a0, .int .i64 L2.a1, .int .i64 L2.a2, .int .i64 L2.a3, .int .i64 L2.a4] 26))
  have hcn := hD1.cells0
  have hfn := hD1.free0
  have HB2 := Lib.hid (HB1.out.below HD2.out.bel)
  have hq0 := HB2.out.cells0
  have hq1 := HB2.out.cells1
  have hq2 := HB2.out.cells2
  have hf2 := HB2.out.free2
  clear hD1 hb1
  by_cases h3 : L3 = 0
  · subst h3
    cases L1 with
    | true =>
      have HE : Hid (deltaE p q = (zeroPol, 7)) := by show deltaE p q = _; rw [HD.out, if_neg (by simp), if_pos rfl]
      have HB3 := Lib.hid (HB2.out.set (i := 2) rfl 0 (.slice none 0 0))
      have HB4 := Lib.hid (HB3.out.set (i := 2) rfl 1 (.int .i64 0))
      have hc4 := HB4.out.cells2
      go_wp2
      refine bodyPost_ret (v := .tuple #[polV (.slice none 0 0) 0, .int .i64 7]) ?_ rfl (by rw [HE.out]; exact ⟨_, rfl, nil_rules _ _, HB4.out.bel⟩)
      rw [results_cell_tmp rfl]
      go_simp
    | false =>
      go_wp2_with fail
      clear hcn hfn hq0 hq1 hq2 hf2 HD2
      revert HB2
      generalize (w1.alloc (.cells #[.int .i64 L2.a0, .int .i64 L2.a1, .int .i64 L2.a2, .int .i64 L2.a3, .int .i64 L2.a4] 26)) = w2
      intro HB2
      refine (exceptPol_any _ _ q p _ (Hq.out.below HB2.out.bel) (Hp.out.below HB2.out.bel)).mono ?_
      rw [HX.out]
      rintro e w3 ⟨rX, rfl, hrX, hb3⟩
      have HB3 := Lib.hid (HB2.out.below hb3)
      have RX := Lib.hid (rules_true hrX)
      obtain ⟨aX, cX, rfl, _⟩ := Sl.form hrX
      have HC := Lib.hid (Bx.one (w := w3) (o := .cells #[.slice aX X.rules.length cX, .int .i64 X.dflt] 24))
      have HB4 := Lib.hid (HB3.out.below HC.out.bel)
      have RX4 := Lib.hid (RX.out.below HC.out.bel)
      have hq2 := HB4.out.cells2
      have hf2 := HB4.out.free2
      have hqc := HC.out.cells0
      clear hrX hb3
      by_cases hx : xe = 0
      · subst hx
        have HE : Hid (deltaE p q = (Y, ye)) := by show deltaE p q = _; rw [HD.out, if_neg (by simp), if_neg (by simp), if_neg (by simp)]
        have htop : w.heap.size + 3 ≤ w3.heap.size := HB3.out.top
        go_wp2_with fail
        clear hq2 hf2 hqc
        refine (short_any _ X _ RX4.out).mono ?_
        rw [HY.out]
        rintro e w5 ⟨rY, rfl, hrY, hb5⟩
        have HB5 := Lib.hid (HB4.out.below hb5)
        have RY := Lib.hid hrY
        obtain ⟨aY, cY, rfl, _⟩ := Sl.form hrY
        have hq2 := HB5.out.cells2
        have hf2 := HB5.out.free2
        have HB6 := Lib.hid (HB5.out.set (i := 2) rfl 0 (.slice aY Y.rules.length cY))
        have HB7 := Lib.hid (HB6.out.set (i := 2) rfl 1 (.int .i64 Y.dflt))
        have hc4 := HB7.out.cells2
        clear hrY hb5
        have HR8 : Hid (RdRules ((w5.setCell ⟨w.heap.size + 2, 0, none⟩ (.slice aY Y.rules.length cY)).setCell ⟨w.heap.size + 2, 1, none⟩ (.int .i64 Y.dflt)) (fun b => w.heap.size ≤ b ∧ NotPol ((w5.setCell ⟨w.heap.size + 2, 0, none⟩ (.slice aY Y.rules.length cY)).setCell ⟨w.heap.size + 2, 1, none⟩ (.int .i64 Y.dflt)) b) (.slice aY Y.rules.length cY) Y.rules) := by
          have hsame : ∀ b, w.heap.size + 3 ≤ b → ((w5.setCell ⟨w.heap.size + 2, 0, none⟩ (.slice aY Y.rules.length cY)).setCell ⟨w.heap.size + 2, 1, none⟩ (.int .i64 Y.dflt)).heap[b]? = w5.heap[b]? := fun b hb => by rw [set_other (by show b ≠ w.heap.size + 2; omega), set_other (by show b ≠ w.heap.size + 2; omega)]
          have hlow : ∀ b, (w3.alloc (.cells #[.slice aX X.rules.length cX, .int .i64 X.dflt] 24)).heap.size ≤ b → w.heap.size + 3 ≤ b := fun b hb => by simp at hb; omega
          exact RY.out.keep (fun b h _ => ⟨by have := hlow b h.1; omega, h.2.keep (hsame b (hlow b h.1))⟩) (fun b hb _ => hsame b (hlow b hb.1)) (by rw [set_size, set_size]; exact Nat.le_refl _)
        go_wp2
        refine bodyPost_ret (v := .tuple #[polV (.slice aY Y.rules.length cY) Y.dflt, .int .i64 ye]) ?_ rfl (by rw [HE.out]; exact ⟨_, rfl, HR8.out, HB7.out.bel⟩)
        rw [results_cell_tmp rfl]
        go_simp
      · have hb0 : (xe != 0) = true := bne_iff_ne.2 hx
        have HE : Hid (deltaE p q = (zeroPol, xe)) := by show deltaE p q = _; rw [HD.out, if_neg (by simp), if_neg (by simp), if_pos hx]
        have HB5 := Lib.hid (HB4.out.set (i := 2) rfl 0 (.slice none 0 0))
        have HB6 := Lib.hid (HB5.out.set (i := 2) rfl 1 (.int .i64 0))
        have hc4 := HB6.out.cells2
        clear hx
        go_wp2
        refine bodyPost_ret (v := .tuple #[polV (.slice none 0 0) 0, .int .i64 xe]) ?_ rfl (by rw [HE.out]; exact ⟨_, rfl, nil_rules _ _, HB6.out.bel⟩)
        rw [results_cell_tmp rfl]
        go_simp
  · have hb0 : (L3 != 0) = true := bne_iff_ne.2 h3
    have HE : Hid (deltaE p q = (zeroPol, L3)) := by show deltaE p q = _; rw [HD.out, if_pos h3]
    have HB3 := Lib.hid (HB2.out.set (i := 2) rfl 0 (.slice none 0 0))
    have HB4 := Lib.hid (HB3.out.set (i := 2) rfl 1 (.int .i64 0))
    have hc4 := HB4.out.cells2
    clear h3
    go_wp2
    refine bodyPost_ret (v := .tuple #[polV (.slice none 0 0) 0, .int .i64 L3]) ?_ rfl (by rw [HE.out]; exact ⟨_, rfl, nil_rules _ _, HB4.out.bel⟩)
    rw [results_cell_tmp rfl]
    go_simp
end Go.Proofs.YtioeliocdbckbaaGreatDoor
namespace Go.Proofs.YtioeliocdbckbaaGreatDoor
open Go.RowKit

theorem lenTo_two' {α : Type} (a b : List α) : lenTo [a, b] [a, b].length = a.length + b.length := by simp [lenTo]
theorem condIns_drop {l : List TCond} {v : Int} {j : Nat} (h : j < l.length) : condIns (l.drop j) v = ⟨1, l[j].f, 0, 0⟩ :: jumpIns l[j] (condIns (l.drop (j + 1)) v).length :: condIns (l.drop (j + 1)) v := by
  rw [List.drop_eq_getElem_cons h]
  simp only [condIns, condIns_len]
  have : ((2 * (l.drop (j + 1)).length + 1 : Nat) : Int) = 2 * ((l.drop (j + 1)).length : Int) + 1 := by omega
  rw [this]
theorem rule_arg {W : World} {b3 b4 c' : Nat} {a' : Option Addr} {D : Nat → Prop} {i1 i2 : TIns} {L : List TIns} {T T' : TypeId} (h : RdCode W D (.slice a' L.length c') L)
    (h3 : W.heap[b3]? = some (.cells #[.int .i64 i1.k, .int .i64 i1.a, .int .i64 i1.b, .int .i64 i1.c, .int .i64 i2.k, .int .i64 i2.a, .int .i64 i2.b, .int .i64 i2.c] T))
    (h4 : W.heap[b4]? = some (.cells #[.slice (some ⟨b3, 0, none⟩) 2 2, .slice a' L.length c'] T')) (d3 : D b3) (d4 : D b4) : Sl W D 1 (rowsRIns W D) (.slice (some ⟨b4, 0, none⟩) 2 2) [[i1, i2], L] :=
  sl_block (xs := [[i1, i2], L]) (rows := [[.slice (some ⟨b3, 0, none⟩) 2 2], [.slice a' L.length c']])
    (RowsOf.cons (RowsOf.cons RowsOf.nil ⟨_, rfl, h⟩ rfl) ⟨_, rfl, sl_block (xs := [i1, i2]) (rows := [[.int .i64 i1.k, .int .i64 i1.a, .int .i64 i1.b, .int .i64 i1.c], [.int .i64 i2.k, .int .i64 i2.a, .int .i64 i2.b, .int .i64 i2.c]])
      (RowsOf.cons (RowsOf.cons RowsOf.nil rfl rfl) rfl rfl) h3 rfl d3 (by simp [maxLen])⟩ rfl) h4 rfl d4 (by simp [maxLen])
set_option maxHeartbeats 4000000 in
theorem rule_any (u : Value) (r : TRule) (D : Nat → Prop) (w : World) (h : RdConds w D u r.conds) (hl : r.conds.length ≤ 10) :
    Calls Tryz.prog 70 #[.agg #[u, .int .i64 r.verdict]] w fun e w' => ∃ v, e = .returned v ∧ RdCode w' (fun b => w.heap.size ≤ b) v (condIns r.conds r.verdict) ∧ Below w.heap.size w w' := by
  obtain ⟨a, c, rfl, hlc, hcm, hat⟩ := Sl.form h
  have H := Lib.hid h
  obtain ⟨n, hn⟩ : ∃ n : Nat, n = r.conds.length := ⟨_, rfl⟩
  have Hn := Lib.hid hn
  rw [← hn] at hl hlc hat ⊢
  clear h hn
  go_enter Tryz.func70, Tryz.ntmps70
  go_wp2_with fail
  go_loopw [3, 4] (fun ov kv wr => ∃ (k : Nat) (vs : Value), kv = .int .i64 k ∧ ov = vs ∧ k ≤ n ∧ RdCode wr (fun b => w.heap.size ≤ b) vs (condIns (r.conds.drop k) r.verdict) ∧ Below (w.heap.size + 1) (w.alloc (.cells #[.slice a n c, .int .i64 r.verdict] 58)) wr) (fun _ kv _ => (intOf kv).toNat)
  case atStart =>
    refine ⟨n, .slice (some ⟨w.heap.size + 1, 0, none⟩) 1 1, rfl, rfl, Nat.le_refl _, ?_, (Below.refl _ _).alloc (by simp) _⟩
    have e : condIns (r.conds.drop n) r.verdict = [⟨4, r.verdict, 0, 0⟩] := by rw [Hn.out, List.drop_length]; rfl
    rw [e]
    exact sl_block (R := insR) (sz := 4) (xs := [(⟨4, r.verdict, 0, 0⟩ : TIns)]) (rows := [[.int .i64 4, .int .i64 r.verdict, .int .i64 0, .int .i64 0]]) (RowsOf.cons RowsOf.nil rfl rfl) (blk_at (by simp)) rfl (by simp) (by simp [maxLen])
  case round =>
    obtain ⟨k, vs, rfl, rfl, hk, hrd, hb⟩ := hrel
    have hbc := box_cells hb
    have hbw := bel_box hb
    have hsz := size_box hb
    obtain ⟨a', c', rfl, hlc', hcm', _⟩ := Sl.form hrd
    have Hrd := Lib.hid hrd
    have Hb := Lib.hid hb
    have Hbw := Lib.hid hbw
    clear hrd hb hbw
    cases k with
    | zero =>
      go_wp2
      go_ret
      exact ⟨_, rfl, Hrd.out, Hbw.out⟩
    | succ j =>
      have hjl : j < r.conds.length := by have := Hn.out; omega
      obtain ⟨b, o, rfl, hDb, hblt⟩ := hat (by omega)
      have hcells := RdConds.cells (H.out.below Hbw.out) hjl
      have hcd : Hid (condIns (r.conds.drop j) r.verdict = ⟨1, r.conds[j].f, 0, 0⟩ :: jumpIns r.conds[j] (condIns (r.conds.drop (j + 1)) r.verdict).length :: condIns (r.conds.drop (j + 1)) r.verdict) := condIns_drop hjl
      have hlen : Hid ((condIns (r.conds.drop (j + 1)) r.verdict).length ≤ 21) := by show _ ≤ _; rw [condIns_len, List.length_drop]; have := Hn.out; omega
      obtain ⟨⟨cf, cop, cv⟩, hcj⟩ : ∃ y : TCond, r.conds[j] = y := ⟨_, rfl⟩
      rw [hcj] at hcells hcd
      generalize hL : condIns (r.conds.drop (j + 1)) r.verdict = L at *
      clear hL hcj hcm' hlc'
      rcases (by omega : cop = 2 ∨ cop ≠ 2 ∧ cop = 3 ∨ cop ≠ 2 ∧ cop ≠ 3 ∧ cop = 4 ∨ cop ≠ 2 ∧ cop ≠ 3 ∧ cop ≠ 4) with e2 | ⟨e2, e3⟩ | ⟨e2, e3, e4⟩ | ⟨e2, e3, e4⟩
      · have HJ : Hid (jumpIns ⟨cf, cop, cv⟩ L.length = ⟨2, cv, L.length, 0⟩) := by show jumpIns _ _ = _; unfold jumpIns; dsimp only; rw [if_pos e2]
        have b2 : (cop == 2) = true := beq_iff_eq.2 e2
        clear e2
        go_wp2_with fail
        refine (concatIns_any _ [[⟨1, cf, 0, 0⟩, jumpIns ⟨cf, cop, cv⟩ L.length], L] (fun b => w.heap.size ≤ b) _ (rule_arg (b3 := wr.heap.size + 1 + 1) (Hrd.out.below (bel_alloc (bel_alloc (bel_alloc (bel_alloc (Below.refl _ _) _) _) _) _)) (by rw [HJ.out]; exact blk_old (blk_at (by simp))) (blk_at (by simp)) (by omega) (by omega)) (by rw [lenTo_two']; have := hlen.out; simp; omega)).mono ?_
        rintro e w1 ⟨v1, rfl, hown0, hb1⟩
        have hown := hown0
        rw [show [[(⟨1, cf, 0, 0⟩ : TIns), jumpIns ⟨cf, cop, cv⟩ L.length], L].flatten = ⟨1, cf, 0, 0⟩ :: jumpIns ⟨cf, cop, cv⟩ L.length :: L from by simp] at hown
        clear hown0
        have hb2 := bel_call (bel_alloc (bel_alloc (bel_alloc (bel_alloc (Below.refl wr.heap.size wr) _) _) _) _) hb1
        go_wp2_with fail
        go_roundw
        case rel => exact ⟨j, v1, by go_num, rfl, by omega, by rw [hcd.out]; exact hown.sl (fun b h => Nat.le_trans (by omega : w.heap.size ≤ wr.heap.size) (Nat.le_trans (bel_alloc (bel_alloc (bel_alloc (bel_alloc (Below.refl _ wr) _) _) _) _).size h)), Hb.out.trans (hb2.mono hsz)⟩
        case measure => simp [intOf]
      · have HJ : Hid (jumpIns ⟨cf, cop, cv⟩ L.length = ⟨3, cv, 0, L.length⟩) := by show jumpIns _ _ = _; unfold jumpIns; dsimp only; rw [if_neg e2, if_pos e3]
        have b2 : (cop == 2) = false := beq_eq_false_iff_ne.2 e2
        have b3 : (cop == 3) = true := beq_iff_eq.2 e3
        clear e2 e3
        go_wp2_with fail
        refine (concatIns_any _ [[⟨1, cf, 0, 0⟩, jumpIns ⟨cf, cop, cv⟩ L.length], L] (fun b => w.heap.size ≤ b) _ (rule_arg (b3 := wr.heap.size + 1 + 1) (Hrd.out.below (bel_alloc (bel_alloc (bel_alloc (bel_alloc (Below.refl _ _) _) _) _) _)) (by rw [HJ.out]; exact blk_old (blk_at (by simp))) (blk_at (by simp)) (by omega) (by omega)) (by rw [lenTo_two']; have := hlen.out; simp; omega)).mono ?_
        rintro e w1 ⟨v1, rfl, hown0, hb1⟩
        have hown := hown0
        rw [show [[(⟨1, cf, 0, 0⟩ : TIns), jumpIns ⟨cf, cop, cv⟩ L.length], L].flatten = ⟨1, cf, 0, 0⟩ :: jumpIns ⟨cf, cop, cv⟩ L.length :: L from by simp] at hown
        clear hown0
        have hb2 := bel_call (bel_alloc (bel_alloc (bel_alloc (bel_alloc (Below.refl wr.heap.size wr) _) _) _) _) hb1
        go_wp2_with fail
        go_roundw
        case rel => exact ⟨j, v1, by go_num, rfl, by omega, by rw [hcd.out]; exact hown.sl (fun b h => Nat.le_trans (by omega : w.heap.size ≤ wr.heap.size) (Nat.le_trans (bel_alloc (bel_alloc (bel_alloc (bel_alloc (Below.refl _ wr) _) _) _) _).size h)), Hb.out.trans (hb2.mono hsz)⟩
        case measure => simp [intOf]
      · have HJ : Hid (jumpIns ⟨cf, cop, cv⟩ L.length = ⟨3, cv, L.length, 0⟩) := by show jumpIns _ _ = _; unfold jumpIns; dsimp only; rw [if_neg e2, if_neg e3, if_pos e4]
        have b2 : (cop == 2) = false := beq_eq_false_iff_ne.2 e2
        have b3 : (cop == 3) = false := beq_eq_false_iff_ne.2 e3
        have b4 : (cop == 4) = true := beq_iff_eq.2 e4
        clear e2 e3 e4
        go_wp2_with fail
        refine (concatIns_any _ [[⟨1, cf, 0, 0⟩, jumpIns ⟨cf, cop, cv⟩ L.length], L] (fun b => w.heap.size ≤ b) _ (rule_arg (b3 := wr.heap.size + 1 + 1) (Hrd.out.below (bel_alloc (bel_alloc (bel_alloc (bel_alloc (Below.refl _ _) _) _) _) _)) (by rw [HJ.out]; exact blk_old (blk_at (by simp))) (blk_at (by simp)) (by omega) (by omega)) (by rw [lenTo_two']; have := hlen.out; simp; omega)).mono ?_
        rintro e w1 ⟨v1, rfl, hown0, hb1⟩
        have hown := hown0
        rw [show [[(⟨1, cf, 0, 0⟩ : TIns), jumpIns ⟨cf, cop, cv⟩ L.length], L].flatten = ⟨1, cf, 0, 0⟩ :: jumpIns ⟨cf, cop, cv⟩ L.length :: L from by simp] at hown
        clear hown0
        have hb2 := bel_call (bel_alloc (bel_alloc (bel_alloc (bel_alloc (Below.refl wr.heap.size wr) _) _) _) _) hb1
        go_wp2_with fail
        go_roundw
        case rel => exact ⟨j, v1, by go_num, rfl, by omega, by rw [hcd.out]; exact hown.sl (fun b h => Nat.le_trans (by omega : w.heap.size ≤ wr.heap.size) (Nat.le_trans (bel_alloc (bel_alloc (bel_alloc (bel_alloc (Below.refl _ wr) _) _) _) _).size h)), Hb.out.trans (hb2.mono hsz)⟩
        case measure => simp [intOf]
      · have HJ : Hid (jumpIns ⟨cf, cop, cv⟩ L.length = ⟨2, cv, 0, L.length⟩) := by show jumpIns _ _ = _; unfold jumpIns; dsimp only; rw [if_neg e2, if_neg e3, if_neg e4]
        have b2 : (cop == 2) = false := beq_eq_false_iff_ne.2 e2
        have b3 : (cop == 3) = false := beq_eq_false_iff_ne.2 e3
        have b4 : (cop == 4) = false := beq_eq_false_iff_ne.2 e4
        clear e2 e3 e4
        go_wp2_with fail
        refine (concatIns_any _ [[⟨1, cf, 0, 0⟩, jumpIns ⟨cf, cop, cv⟩ L.length], L] (fun b => w.heap.size ≤ b) _ (rule_arg (b3 := wr.heap.size + 1 + 1) (Hrd.out.below (bel_alloc (bel_alloc (bel_alloc (bel_alloc (Below.refl _ _) _) _) _) _)) (by rw [HJ.out]; exact blk_old (blk_at (by simp))) (blk_at (by simp)) (by omega) (by omega)) (by rw [lenTo_two']; have := hlen.out; simp; omega)).mono ?_
        rintro e w1 ⟨v1, rfl, hown0, hb1⟩
        have hown := hown0
        rw [show [[(⟨1, cf, 0, 0⟩ : TIns), jumpIns ⟨cf, cop, cv⟩ L.length], L].flatten = ⟨1, cf, 0, 0⟩ :: jumpIns ⟨cf, cop, cv⟩ L.length :: L from by simp] at hown
        clear hown0
        have hb2 := bel_call (bel_alloc (bel_alloc (bel_alloc (bel_alloc (Below.refl wr.heap.size wr) _) _) _) _) hb1
        go_wp2_with fail
        go_roundw
        case rel => exact ⟨j, v1, by go_num, rfl, by omega, by rw [hcd.out]; exact hown.sl (fun b h => Nat.le_trans (by omega : w.heap.size ≤ wr.heap.size) (Nat.le_trans (bel_alloc (bel_alloc (bel_alloc (bel_alloc (Below.refl _ wr) _) _) _) _).size h)), Hb.out.trans (hb2.mono hsz)⟩
        case measure => simp [intOf]
end Go.Proofs.YtioeliocdbckbaaGreatDoor
namespace Go.Proofs.YtioeliocdbckbaaGreatDoor
open Go.RowKit

theorem oneIns' (y : TIns) (cs : List Value) (h : insR y cs) : ∀ c ∈ cs, c.oneCell' = true := by
  unfold insR at h; subst h; simp [Value.oneCell']
theorem rulesIns_take {l : List TRule} {k : Nat} (h : k < l.length) : rulesIns (l.take (k + 1)) = rulesIns (l.take k) ++ condIns l[k].conds l[k].verdict := by
  rw [List.take_succ_eq_append_getElem h, rulesIns_snoc]
theorem rulesIns_take_len {l : List TRule} (h : ∀ r ∈ l, r.conds.length ≤ 10) (k : Nat) (hk : k ≤ l.length) : (rulesIns (l.take k)).length ≤ 21 * l.length := by
  have := rulesIns_len (l := l.take k) fun r hr => h r (List.mem_of_mem_take hr)
  rw [List.length_take] at this
  omega
/-- what nil reads as. -/
theorem rdNil (w : World) (D : Nat → Prop) : RdCode w D (.slice none 0 0) [] := ⟨none, 0, rfl, Nat.le_refl _, by unfold maxLen; omega, fun _ => rfl, fun h => by cases h⟩

set_option maxRecDepth 100000 in
set_option maxHeartbeats 4000000 in
theorem compile_any (v : Value) (p : TPol) (D : Nat → Prop) (w : World) (h : RdRules w D v p.rules) :
    Calls Tryz.prog 44 #[polV v p.dflt] w fun e w' => ∃ l, e = .returned (.tuple #[l, .int .i64 (filterE p).2]) ∧ RdCode w' (fun b => w.heap.size ≤ b) l (filterE p).1 ∧ Below w.heap.size w w' := by
  have H := Lib.hid h
  obtain ⟨a, c, rfl, hlc, hcm, hat⟩ := Sl.form h
  clear h
  by_cases hp : polE p = 0
  · have hok := (okPol_iff p).1 hp
    have Hlen : Hid (∀ k, k ≤ p.rules.length → (rulesIns (p.rules.take k)).length ≤ 21 * 120) := fun k hk => by
      have h1 := rulesIns_take_len (fun r hr => (hok.rules r hr).len) k hk
      have h2 := hok.len
      omega
    have HC : Hid (codeE (filterL p) = if 1500 < (filterL p).length then 2 else 0) := filter_code hok
    have HF : Hid (filterE p = if 1500 < (filterL p).length then ([], 2) else (filterL p, 0)) := by show filterE p = _; unfold filterE; rw [if_neg (by omega)]
    have hn := hok.len
    have Hok := Lib.hid hok
    have Hp := Lib.hid hp
    obtain ⟨i0, hi, hz0, hz1, hz2⟩ := info_parts infoIns
    have Hi := Lib.hid hi
    clear hok hp hi
    go_enter Tryz.func44, Tryz.ntmps44
    go_wp2_with fail
    refine (polcheck_any _ p D _ (RdRules.below H.out (bel_alloc (Below.refl _ _) _))).mono ?_
    rw [Hp.out]
    rintro e w1 ⟨rfl, hb1⟩
    have hb1' : Below (w.heap.size + 1) _ w1 := hb1.mono (by simp)
    have hc1 := box_cells hb1'
    have Hb1 := Lib.hid hb1'
    clear hb1 hb1'
    go_wp2_with fail
    go_loopw [5, 17] (fun ov kv wr => ∃ (k : Nat) (vs : Value), kv = .int .i64 k ∧ vs = ov ∧ k ≤ p.rules.length ∧ OwnSl wr (w.heap.size + 1) 102 4 insR vs (rulesIns (p.rules.take k)) ∧ Below (w.heap.size + 1) (w.alloc (.cells #[.slice a p.rules.length c, .int .i64 p.dflt] 24)) wr) (fun _ kv _ => p.rules.length - (intOf kv).toNat)
    case atStart => exact ⟨0, _, rfl, rfl, by omega, OwnSl.nil, Hb1.out⟩
    case round =>
      obtain ⟨k, vs, rfl, rfl, hk, hown, hb⟩ := hrel
      have hbc := box_cells hb
      have hbw := bel_box hb
      have hsz := size_box hb
      have Hown := Lib.hid hown
      have Hb := Lib.hid hb
      have Hbw := Lib.hid hbw
      clear hc1 hown hb hbw
      by_cases hlt : k < p.rules.length
      · obtain ⟨b, o, rfl, hDb, hblt⟩ := hat (by omega)
        obtain ⟨ca, cc, hc0, hc1, hrd, _⟩ := RdRules.cells (H.out.below Hbw.out) hlt
        have Hrd := Lib.hid hrd
        have hl10 := (Hok.out.rules p.rules[k] (List.getElem_mem hlt)).len
        have Hl := Lib.hid (Hlen.out (k + 1) (by omega))
        have Hs := Lib.hid (rulesIns_take hlt)
        have Hll : Hid ((rulesIns (p.rules.take k)).length + (condIns p.rules[k].conds p.rules[k].verdict).length ≤ 21 * 120) := by have := Hl.out; rw [Hs.out, List.length_append] at this; exact this
        clear hrd
        go_wp2_with fail
        refine (rule_any _ p.rules[k] D _ (Hrd.out.below (bel_alloc (Below.refl _ _) _)) hl10).mono ?_
        rintro e w2 ⟨v2, rfl, hr2, hb2⟩
        have hb2' := bel_alloc_call (Below.refl _ wr) hb2
        have hown2 := Hown.out.below hb2'
        have Hown2 := Lib.hid hown2
        have Hr2 := Lib.hid hr2
        have Hb2 := Lib.hid (Hb.out.trans (hb2'.mono hsz))
        have hsz2 := hb2'.size
        clear hown2 hr2 hb2 hb2' hc0 hc1 hbc
        go_wp2_with (at_builtin; refine wpList_app rfl _ _ 70 rfl (w.heap.size + 1) 102 i0 _ 4 32 Tryz.underlying70 Hi.out hz0 hz1 hz2 rfl (by decide) _ _ rfl Hown2.out _ _ rfl Hr2.out (fun y _ cs h => oneIns' y cs h) (by have := Hll.out; unfold maxLen; omega) (by have := Hll.out; omega) (by omega) ?_; intro v' w3 hown' hg)
        go_roundw
        case rel => exact ⟨k + 1, v', by go_num, rfl, by omega, by rw [Hs.out]; exact hown', Hown2.out.grown Hb2.out hg (by omega) (Nat.le_refl _)⟩
        case measure => simp [intOf]; omega
      · obtain rfl : k = p.rules.length := by omega
        have Hl := Lib.hid (Hlen.out p.rules.length (Nat.le_refl _))
        have Hnew : Hid (RdCode (wr.alloc (.cells #[.int .i64 4, .int .i64 p.dflt, .int .i64 0, .int .i64 0] 102)) (fun _ => True) (.slice (some ⟨wr.heap.size, 0, none⟩) 1 1) [⟨4, p.dflt, 0, 0⟩]) :=
          sl_block (R := insR) (sz := 4) (xs := [(⟨4, p.dflt, 0, 0⟩ : TIns)]) (rows := [[.int .i64 4, .int .i64 p.dflt, .int .i64 0, .int .i64 0]]) (RowsOf.cons RowsOf.nil rfl rfl) (heap_last _ _) rfl trivial (by simp [maxLen])
        have Hown3 := Lib.hid (Hown.out.below (bel_alloc (Below.refl _ wr) (.cells #[.int .i64 4, .int .i64 p.dflt, .int .i64 0, .int .i64 0] 102)))
        go_wp2_with (at_builtin; refine wpList_app rfl _ _ 70 rfl (w.heap.size + 1) 102 i0 _ 4 32 Tryz.underlying70 Hi.out hz0 hz1 hz2 rfl (by decide) _ _ rfl Hown3.out _ _ rfl Hnew.out (fun y _ cs h => oneIns' y cs h) (by have := Hl.out; show _ + 1 ≤ maxLen; unfold maxLen; omega) (by have := Hl.out; show (_ + 1) * 32 ≤ _; omega) (by simp; omega) ?_; intro v' w3 hown' hg; rw [List.take_length] at hown'; have Hown' := Lib.hid hown'; have Hb3 := Lib.hid (Hown3.out.grown (Hb.out.trans ((bel_alloc (Below.refl _ wr) _).mono hsz)) hg (by simp; omega) (Nat.le_refl _)); clear hown' hg)
        have HcF : Hid (RdCode w3 (fun b => w.heap.size ≤ b) v' (filterL p)) := Hown'.out.sl fun b h => by omega
        go_wp2_with fail
        refine (codecheck_any v' (filterL p) _ _ HcF.out).mono ?_
        rw [HC.out]
        rintro e w4 ⟨rfl, hb4⟩
        have Hr4 := Lib.hid (HcF.out.below hb4)
        have Hb4 := Lib.hid (bel_call (bel_box Hb3.out) hb4)
        clear hb4
        by_cases hbig : 1500 < (filterL p).length
        · rw [if_pos hbig]
          have HF2 : Hid (filterE p = ([], 2)) := by show filterE p = _; rw [HF.out, if_pos hbig]
          clear hbig
          go_wp2
          go_ret2
          rw [HF2.out]
          exact ⟨_, rfl, rdNil _ _, Hb4.out⟩
        · rw [if_neg hbig]
          have HF2 : Hid (filterE p = (filterL p, 0)) := by show filterE p = _; rw [HF.out, if_neg hbig]
          clear hbig
          go_wp2
          go_ret2
          rw [HF2.out]
          exact ⟨_, rfl, Hr4.out, Hb4.out⟩
  · have HF : Hid (filterE p = ([], polE p)) := by show filterE p = _; unfold filterE; rw [if_pos hp]
    have b0 : (polE p != 0) = true := bne_iff_ne.2 hp
    clear hp
    go_enter Tryz.func44, Tryz.ntmps44
    go_wp2_with fail
    refine (polcheck_any _ p D _ (RdRules.below H.out (bel_alloc (Below.refl _ _) _))).mono ?_
    rintro e w1 ⟨rfl, hb1⟩
    have hb1' : Below (w.heap.size + 1) _ w1 := hb1.mono (by simp)
    have Hb1 := Lib.hid hb1'
    clear hb1 hb1'
    go_wp2
    go_ret2
    rw [HF.out]
    exact ⟨_, rfl, rdNil _ _, bel_box Hb1.out⟩
end Go.Proofs.YtioeliocdbckbaaGreatDoor
