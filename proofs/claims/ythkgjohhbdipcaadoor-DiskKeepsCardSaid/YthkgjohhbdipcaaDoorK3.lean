/- Texts laid one behind the other: Text, PolRd, Own, Blk, Bx, PText, Call, Policy, PolCheck. No condition beyond theirs. -/
import Derived.Test.YthkgjohhbdipcaaDoorK2
import Derived.Lib.SplitLaws
import Derived.Test.YthkgjohhbdipcaaDoorK1
import Derived.Laws.AppendOwnNone
import Derived.Lib.AppendZeros
import Derived.Laws.IdiomCopy
import Derived.Lib.ItoaLen
import Derived.Test.YthkgjohhbdipcaaDoorProg
import Derived.KernelRfl
set_option linter.all false
namespace Go.Proofs.YthkgjohhbdipcaaDoor

def verdictW (v : Int) : List UInt8 :=
  if v = 0 then [107, 105, 108, 108] else if v = 1 then [116, 114, 97, 112] else if v = 2 then [102, 97, 105, 108] else if v = 3 then [108, 111, 103] else [97, 108, 108, 111, 119]
def fieldW (f : Int) : List UInt8 := if f = 0 then [110, 114] else if f = 1 then [107, 105, 110, 100] else if f = 2 then [97] else if f = 3 then [98] else [99]
def opW (o : Int) : UInt8 := if o = 1 then 61 else if o = 2 then 33 else if o = 3 then 60 else 62
def condW (c : TCond) : List UInt8 := fieldW c.f ++ opW c.op :: Lib.itoa c.v
def ruleW (r : TRule) : List UInt8 := verdictW r.verdict ++ r.conds.flatMap (fun c => 32 :: condW c)
/-- chapter 3's Print. -/
def textP (p : TPol) : List UInt8 := p.rules.flatMap (fun r => ruleW r ++ [59]) ++ verdictW p.dflt

/-! ### cut and split at one byte -/
theorem idx_ne {b c : UInt8} {l : List UInt8} (h : b ≠ c) : Lib.index (b :: l) [c] = if Lib.index l [c] == -1 then -1 else Lib.index l [c] + 1 := by
  conv => lhs; unfold Lib.index
  rw [if_neg (by simp [List.isPrefixOf, Ne.symm h])]
theorem idx_eq {c : UInt8} {l : List UInt8} : Lib.index (c :: l) [c] = 0 := by
  unfold Lib.index
  rw [if_pos (by simp [List.isPrefixOf])]
theorem idx_none : ∀ {l : List UInt8} {c : UInt8}, c ∉ l → Lib.index l [c] = -1
  | [], _, _ => rfl
  | b :: l, c, h => by
    rw [idx_ne (fun e => h (by rw [e]; exact List.mem_cons_self ..)), idx_none (fun e => h (List.mem_cons_of_mem _ e))]
    rfl
theorem idx_app : ∀ {a l : List UInt8} {c : UInt8}, c ∉ a → Lib.index (a ++ c :: l) [c] = a.length
  | [], _, _, _ => idx_eq
  | b :: a, l, c, h => by
    rw [List.cons_append, idx_ne (fun e => h (by rw [e]; exact List.mem_cons_self ..)), idx_app (fun e => h (List.mem_cons_of_mem _ e))]
    rw [if_neg (by rw [beq_iff_eq]; omega)]
    simp
theorem cut_none {l : List UInt8} {c : UInt8} (h : c ∉ l) : Lib.cut l [c] = (l, [], false) := by
  unfold Lib.cut
  rw [idx_none h, if_neg (by omega)]
theorem cut_app {a l : List UInt8} {c : UInt8} (h : c ∉ a) : Lib.cut (a ++ c :: l) [c] = (a, l, true) := by
  unfold Lib.cut
  rw [idx_app h, if_pos (by omega)]
  simp
theorem split_none {l : List UInt8} {c : UInt8} (h : c ∉ l) : Lib.split l [c] = [l] := by
  unfold Lib.split
  rw [Lib.count_one, List.count_eq_zero.2 h]
  rfl
theorem split_app {a l : List UInt8} {c : UInt8} (h : c ∉ a) : Lib.split (a ++ c :: l) [c] = a :: Lib.split l [c] := by
  unfold Lib.split
  rw [Lib.count_one, List.count_append, List.count_eq_zero.2 h, List.count_cons_self, Nat.zero_add, Lib.count_one]
  conv => lhs; unfold Lib.splitK
  rw [idx_app h, if_neg (by rw [beq_iff_eq]; omega)]
  simp
theorem words_text : ∀ (ws : List (List UInt8)) (w0 : List UInt8), 32 ∉ w0 → (∀ u ∈ ws, 32 ∉ u) → words (w0 ++ ws.flatMap (fun u => 32 :: u)) = w0 :: ws
  | [], w0, h, _ => by
    simp only [List.flatMap_nil, List.append_nil]
    exact split_none h
  | u :: ws, w0, h, hw => by
    simp only [List.flatMap_cons, List.cons_append]
    unfold words
    rw [split_app h]
    congr 1
    exact words_text ws u (hw u (List.mem_cons_self ..)) (fun x hx => hw x (List.mem_cons_of_mem _ hx))
theorem text_words : ∀ (n : Nat) (t : List UInt8), t.length ≤ n → ∃ w0 ws, words t = w0 :: ws ∧ t = w0 ++ ws.flatMap (fun u => 32 :: u)
  | n, t, hn => by
    by_cases h : (32 : UInt8) ∈ t
    · obtain ⟨a, r, rfl, ha⟩ := List.eq_append_cons_of_mem h
      cases n with
      | zero => simp at hn
      | succ n =>
        obtain ⟨w0, ws, h1, h2⟩ := text_words n r (by simp at hn; omega)
        refine ⟨a, w0 :: ws, ?_, ?_⟩
        · unfold words at h1 ⊢
          rw [split_app ha, h1]
        · simp only [List.flatMap_cons, List.cons_append]
          rw [← h2]
    · exact ⟨t, [], split_none h, by simp⟩

/-! ### words -/
theorem verdictOf_W {v : Int} (h0 : 0 ≤ v) (h1 : v ≤ 4) : verdictOf (verdictW v) = some v := by
  rcases (by omega : v = 0 ∨ v = 1 ∨ v = 2 ∨ v = 3 ∨ v = 4) with rfl | rfl | rfl | rfl | rfl <;> decide
theorem verdictOf_some {l : List UInt8} {v : Int} (h : verdictOf l = some v) : l = verdictW v := by
  unfold verdictOf at h
  repeat (split at h; · (rename_i e; injection h with h; subst h; rw [e]; decide))
  cases h
theorem fieldOf_W {v : Int} (h0 : 0 ≤ v) (h1 : v < 5) : fieldOf (fieldW v) = some v := by
  rcases (by omega : v = 0 ∨ v = 1 ∨ v = 2 ∨ v = 3 ∨ v = 4) with rfl | rfl | rfl | rfl | rfl <;> decide
theorem fieldOf_some {l : List UInt8} {v : Int} (h : fieldOf l = some v) : l = fieldW v := by
  unfold fieldOf at h
  repeat (split at h; · (rename_i e; injection h with h; subst h; rw [e]; decide))
  cases h
theorem opOf_W {o : Int} (h0 : 1 ≤ o) (h1 : o ≤ 4) : opOf (opW o) = o := by
  rcases (by omega : o = 1 ∨ o = 2 ∨ o = 3 ∨ o = 4) with rfl | rfl | rfl | rfl <;> decide
theorem opW_of {b : UInt8} (h : opOf b ≠ 0) : opW (opOf b) = b := by
  unfold opOf at h ⊢
  repeat (split; · (rename_i e; rw [e]; decide))
  rename_i h1 h2 h3 h4
  exact absurd rfl (by rw [if_neg h1, if_neg h2, if_neg h3, if_neg h4] at h; exact h)
/-- letters alone: nothing that parts words. -/
def plainB (b : UInt8) : Bool := 97 ≤ b && b ≤ 122
theorem verdictW_plain (v : Int) : ∀ b ∈ verdictW v, plainB b = true := by
  unfold verdictW
  repeat (split; · decide)
  decide
theorem fieldW_plain (v : Int) : ∀ b ∈ fieldW v, plainB b = true := by
  unfold fieldW
  repeat (split; · decide)
  decide
theorem plain_ne {l : List UInt8} {c : UInt8} (h : ∀ b ∈ l, plainB b = true) (hc : plainB c = false) : c ∉ l := fun hm => by
  rw [h c hm] at hc; cases hc
theorem plain_op {b : UInt8} (h : plainB b = true) : opOf b = 0 := by
  have h1 : b ≠ 61 := fun e => by subst e; cases h
  have h2 : b ≠ 33 := fun e => by subst e; cases h
  have h3 : b ≠ 60 := fun e => by subst e; cases h
  have h4 : b ≠ 62 := fun e => by subst e; cases h
  unfold opOf
  rw [if_neg h1, if_neg h2, if_neg h3, if_neg h4]
theorem opW_cases (o : Int) : opW o = 61 ∨ opW o = 33 ∨ opW o = 60 ∨ opW o = 62 := by
  unfold opW
  repeat (split; · simp)
  simp
theorem opAt_app : ∀ {a r : List UInt8} {b : UInt8}, (∀ x ∈ a, opOf x = 0) → opOf b ≠ 0 → opAt (a ++ b :: r) = a.length
  | [], _, _, _, hb => by
    rw [List.nil_append]; unfold opAt; rw [if_neg hb]; rfl
  | x :: a, r, b, ha, hb => by
    rw [List.cons_append]; unfold opAt
    rw [if_pos (ha x (List.mem_cons_self ..)), opAt_app (fun y hy => ha y (List.mem_cons_of_mem _ hy)) hb]
    rfl
theorem condW_no {c : TCond} (h0 : 0 ≤ c.v) {b : UInt8} (hb : plainB b = false) (hb1 : b ≠ 61) (hb2 : b ≠ 33) (hb3 : b ≠ 60) (hb4 : b ≠ 62) (hb5 : b.toNat < 48 ∨ 57 < b.toNat) : b ∉ condW c := by
  unfold condW
  intro hm
  rcases List.mem_append.1 hm with hm | hm
  · exact plain_ne (fieldW_plain _) hb hm
  · rcases List.mem_cons.1 hm with hm | hm
    · rcases opW_cases c.op with e | e | e | e <;> rw [e] at hm <;> first | exact hb1 hm | exact hb2 hm | exact hb3 hm | exact hb4 hm
    · have := (itoa_digits h0).1 b hm; omega
theorem most_le (f : Int) : mostOf f ≤ 65535 := by unfold mostOf; split <;> (try split) <;> omega
theorem condOf_W {c : TCond} (h : OkCond c) : condOf (condW c) = some c := by
  have h0 := h.v0
  have h1 := h.v1
  have h2 := most_le c.f
  have ho : opOf (opW c.op) = c.op := opOf_W h.o0 h.o1
  have hat : opAt (condW c) = (fieldW c.f).length := opAt_app (fun x hx => plain_op (fieldW_plain _ x hx)) (by rw [ho]; have := h.o0; omega)
  have hd : (condW c).drop ((fieldW c.f).length + 1) = Lib.itoa c.v := by unfold condW; rw [List.drop_append]; simp
  have ht : (condW c).take (fieldW c.f).length = fieldW c.f := by unfold condW; simp
  have hg : (condW c).getD (fieldW c.f).length 0 = opW c.op := by
    unfold condW
    rw [List.getD_eq_getElem?_getD, List.getElem?_append_right (Nat.le_refl _)]
    simp
  unfold condOf
  rw [hat, if_neg (by unfold condW; simp), ht, fieldOf_W h.f0 h.f1]
  dsimp only
  rw [hd, hg, whole_itoa h0 (by omega), ho]
  simp
theorem opAt_lt : ∀ (u : List UInt8), opAt u ≠ u.length → ∃ b, u[opAt u]? = some b ∧ opOf b ≠ 0
  | [], h => absurd rfl h
  | b :: l, h => by
    unfold opAt at h ⊢
    by_cases hb : opOf b = 0
    · rw [if_pos hb] at h ⊢
      obtain ⟨c, h1, h2⟩ := opAt_lt l (by simpa using h)
      exact ⟨c, by simpa using h1, h2⟩
    · rw [if_neg hb]
      exact ⟨b, rfl, hb⟩
theorem condOf_some {u : List UInt8} {c : TCond} (h : condOf u = some c) : u = condW c := by
  unfold condOf at h
  split at h
  · cases h
  · rename_i hne
    obtain ⟨b, hb, hop⟩ := opAt_lt u hne
    split at h
    · cases h
    · rename_i f hf
      split at h
      · rename_i hw
        injection h with h
        subst h
        have hg : u.getD (opAt u) 0 = b := by rw [List.getD_eq_getElem?_getD, hb]; rfl
        unfold condW
        dsimp only
        rw [hg, opW_of hop, ← fieldOf_some hf, ← whole_some hw]
        have hlt := (List.getElem?_eq_some_iff.1 hb).1
        have he := (List.getElem?_eq_some_iff.1 hb).2
        rw [← he, ← List.drop_eq_getElem_cons hlt, List.take_append_drop]
      · cases h
theorem condsOf_W : ∀ {cs : List TCond}, (∀ c ∈ cs, OkCond c) → condsOf (cs.map condW) = some cs
  | [], _ => rfl
  | c :: cs, h => by
    simp only [List.map_cons, condsOf]
    rw [condOf_W (h c (List.mem_cons_self ..)), condsOf_W (fun x hx => h x (List.mem_cons_of_mem _ hx))]
    rfl
theorem condsOf_some : ∀ {ws : List (List UInt8)} {cs : List TCond}, condsOf ws = some cs → ws = cs.map condW
  | [], cs, h => by simp only [condsOf, Option.some.injEq] at h; subst h; rfl
  | u :: ws, cs, h => by
    unfold condsOf at h
    split at h
    · cases h
    · rename_i c hc
      cases hr : condsOf ws with
      | none => rw [hr] at h; cases h
      | some cs' =>
        rw [hr] at h
        simp only [Option.map_some, Option.some.injEq] at h
        subst h
        rw [condOf_some hc, condsOf_some hr]
        rfl

/-! ### whole texts -/
theorem rule_text (r : TRule) : ruleW r = verdictW r.verdict ++ (r.conds.map condW).flatMap (fun u => 32 :: u) := by
  unfold ruleW
  congr 1
  induction r.conds with
  | nil => rfl
  | cons c cs ih => simp only [List.flatMap_cons, List.map_cons, ih]
theorem ruleW_no {r : TRule} (h : OkRule r) : (59 : UInt8) ∉ ruleW r := by
  unfold ruleW
  intro hm
  rcases List.mem_append.1 hm with hm | hm
  · exact plain_ne (verdictW_plain _) (by decide) hm
  · obtain ⟨c, hc, hm⟩ := List.mem_flatMap.1 hm
    rcases List.mem_cons.1 hm with hm | hm
    · exact absurd hm (by decide)
    · exact condW_no (h.conds c hc).v0 (by decide) (by decide) (by decide) (by decide) (by decide) (by decide) hm
theorem words_rule {r : TRule} (h : OkRule r) : words (ruleW r) = verdictW r.verdict :: r.conds.map condW := by
  rw [rule_text]
  refine words_text _ _ (plain_ne (verdictW_plain _) (by decide)) fun u hu => ?_
  obtain ⟨c, hc, rfl⟩ := List.mem_map.1 hu
  exact condW_no (h.conds c hc).v0 (by decide) (by decide) (by decide) (by decide) (by decide) (by decide)
theorem read_text : ∀ (rs : List TRule) (d : Int) (n : Nat), (∀ r ∈ rs, OkRule r) → 0 ≤ d → d ≤ 4 → rs.length < n → pread n (textP ⟨rs, d⟩) = some ⟨rs, d⟩
  | [], d, 0, _, _, _, hn => by simp at hn
  | [], d, n + 1, _, h0, h1, _ => by
    have ht : textP ⟨[], d⟩ = verdictW d := by simp [textP]
    have hc : Lib.cut (verdictW d) [59] = (verdictW d, [], false) := cut_none (plain_ne (verdictW_plain _) (by decide))
    have hw : words (verdictW d) = [verdictW d] := split_none (plain_ne (verdictW_plain _) (by decide))
    rw [ht, pread_step (u0 := verdictW d) (us := []) (by rw [hc]; exact hw), verdictOf_W h0 h1, hc]
    simp
  | r :: rs, d, 0, _, _, _, hn => by simp at hn
  | r :: rs, d, n + 1, hr, h0, h1, hn => by
    have hk := hr r (List.mem_cons_self ..)
    have ht : textP ⟨r :: rs, d⟩ = ruleW r ++ 59 :: textP ⟨rs, d⟩ := by simp [textP]
    have hc : Lib.cut (ruleW r ++ 59 :: textP ⟨rs, d⟩) [59] = (ruleW r, textP ⟨rs, d⟩, true) := cut_app (ruleW_no hk)
    rw [ht, pread_step (u0 := verdictW r.verdict) (us := r.conds.map condW) (by rw [hc]; exact words_rule hk), verdictOf_W hk.v0 hk.v1, hc]
    dsimp only
    rw [if_pos rfl, condsOf_W hk.conds]
    dsimp only
    rw [read_text rs d n (fun x hx => hr x (List.mem_cons_of_mem _ hx)) h0 h1 (by simpa using hn)]
    rfl
theorem text_len : ∀ (rs : List TRule) (d : Int), rs.length ≤ (textP ⟨rs, d⟩).length
  | [], d => by simp
  | r :: rs, d => by
    have ht : textP ⟨r :: rs, d⟩ = ruleW r ++ 59 :: textP ⟨rs, d⟩ := by simp [textP]
    have := text_len rs d
    rw [ht]
    simp only [List.length_append, List.length_cons]
    omega
/-- what is printed is read. -/
theorem print_read {p : TPol} (h : OkPol p) : readP (textP p) = (p, 0) := by
  have hr : pread ((textP p).length + 1) (textP p) = some p := read_text p.rules p.dflt _ h.rules h.d0 h.d1 (by have := text_len p.rules p.dflt; show p.rules.length < (textP ⟨p.rules, p.dflt⟩).length + 1; omega)
  rw [readP_some hr, if_pos ((okPol_iff p).2 h)]
theorem pread_text : ∀ (n : Nat) (s : List UInt8) (p : TPol), pread n s = some p → textP p = s
  | 0, _, _, h => by cases h
  | n + 1, s, p, h => by
    obtain ⟨w0, ws, h1, h2⟩ := text_words _ (Lib.cut s [59]).1 (Nat.le_refl _)
    rw [pread_step h1] at h
    cases hv : verdictOf w0 with
    | none => rw [hv] at h; cases h
    | some v =>
      rw [hv] at h
      dsimp only at h
      have hw0 := verdictOf_some hv
      by_cases hm : (59 : UInt8) ∈ s
      · obtain ⟨a, r, rfl, ha⟩ := List.eq_append_cons_of_mem hm
        rw [cut_app ha] at h h2
        dsimp only at h h2
        rw [if_pos rfl] at h
        cases hc : condsOf ws with
        | none => rw [hc] at h; cases h
        | some cs =>
          rw [hc] at h
          dsimp only at h
          cases hp : pread n r with
          | none => rw [hp] at h; cases h
          | some q =>
            rw [hp] at h
            simp only [Option.map_some, Option.some.injEq] at h
            subst h
            have := pread_text n r q hp
            have ht : textP ⟨⟨cs, v⟩ :: q.rules, q.dflt⟩ = ruleW ⟨cs, v⟩ ++ 59 :: textP q := by simp [textP]
            rw [ht, this, rule_text, ← condsOf_some hc, ← hw0, ← h2]
      · rw [cut_none hm] at h h2
        dsimp only at h h2
        rw [if_neg (by simp)] at h
        split at h
        · cases h
        · rename_i hl
          injection h with h
          subst h
          have : ws = [] := List.length_eq_zero_iff.1 (by omega)
          subst this
          simp only [List.flatMap_nil, List.append_nil] at h2
          simp [textP, h2, hw0]
/-- what is read is printed as it was. -/
theorem read_print {s : List UInt8} {p : TPol} (h : readP s = (p, 0)) : OkPol p ∧ textP p = s := by
  unfold readP at h
  split at h
  · simp at h
  · rename_i q hq
    split at h
    · rename_i h0
      simp only [Prod.mk.injEq, and_true] at h
      subst h
      exact ⟨(okPol_iff q).1 h0, pread_text _ _ _ hq⟩
    · rename_i h0
      simp only [Prod.mk.injEq] at h
      exact absurd h.2 h0
/-- unlike policies have unlike texts. -/
theorem text_inj {p q : TPol} (h : OkPol p) (h' : OkPol q) : textP p = textP q ↔ p = q := by
  constructor
  · intro e
    have h1 := print_read h
    rw [e, print_read h'] at h1
    simp only [Prod.mk.injEq, and_true] at h1
    exact h1.symm
  · rintro rfl; rfl
end Go.Proofs.YthkgjohhbdipcaaDoor
namespace Go.Proofs.YthkgjohhbdipcaaDoor
open Go.RowKit

def condR (x : TCond) (cs : List Value) : Prop := cs = [.int .i64 x.f, .int .i64 x.op, .int .i64 x.v]
def RdConds (w : World) (D : Nat → Prop) (v : Value) (l : List TCond) : Prop := Sl w D 3 condR v l
theorem RdConds.keep {w w' : World} {D D' : Nat → Prop} {v : Value} {l : List TCond} (h : RdConds w D v l) (hD : ∀ b, D b → b < w.heap.size → D' b)
    (hw : ∀ b, D b → b < w.heap.size → w'.heap[b]? = w.heap[b]?) (hs : w.heap.size ≤ w'.heap.size) : RdConds w' D' v l := Sl.mono h hD hw hs (fun _ _ _ h => h)
theorem RdConds.below {w w' : World} {D : Nat → Prop} {v : Value} {l : List TCond} (h : RdConds w D v l) (hb : Below w.heap.size w w') : RdConds w' D v l :=
  h.keep (fun _ h _ => h) (fun b _ hlt => hb.block b hlt) hb.size
theorem RdConds.cells {w : World} {D : Nat → Prop} {b o n c : Nat} {s : Option Nat} {l : List TCond} (h : RdConds w D (.slice (some ⟨b, o, s⟩) n c) l) {i : Nat} (hi : i < l.length) :
    w.cell? ⟨b, o + i * 3, none⟩ = some (.int .i64 l[i].f) ∧ w.cell? ⟨b, o + i * 3 + 1, none⟩ = some (.int .i64 l[i].op) ∧ w.cell? ⟨b, o + i * 3 + 2, none⟩ = some (.int .i64 l[i].v) := by
  obtain ⟨cs, hcs, hr, hcell⟩ := Sl.get h hi
  unfold condR at hr
  subst hr
  exact ⟨hcell 0 _ rfl, hcell 1 _ rfl, hcell 2 _ rfl⟩

def ruleR (w : World) (D : Nat → Prop) (r : TRule) (cs : List Value) : Prop := ∃ v, cs = [v, .int .i64 r.verdict] ∧ RdConds w D v r.conds
def RdRules (w : World) (D : Nat → Prop) (v : Value) (l : List TRule) : Prop := Sl w D 2 (ruleR w D) v l
theorem RdRules.keep {w w' : World} {D D' : Nat → Prop} {v : Value} {l : List TRule} (h : RdRules w D v l) (hD : ∀ b, D b → b < w.heap.size → D' b)
    (hw : ∀ b, D b → b < w.heap.size → w'.heap[b]? = w.heap[b]?) (hs : w.heap.size ≤ w'.heap.size) : RdRules w' D' v l :=
  Sl.mono h hD hw hs (fun _ _ _ ⟨u, h1, h2⟩ => ⟨u, h1, h2.keep hD hw hs⟩)
theorem RdRules.below {w w' : World} {D : Nat → Prop} {v : Value} {l : List TRule} (h : RdRules w D v l) (hb : Below w.heap.size w w') : RdRules w' D v l :=
  h.keep (fun _ h _ => h) (fun b _ hlt => hb.block b hlt) hb.size
theorem RdRules.cells {w : World} {D : Nat → Prop} {b o n c : Nat} {s : Option Nat} {l : List TRule} (h : RdRules w D (.slice (some ⟨b, o, s⟩) n c) l) {i : Nat} (hi : i < l.length) :
    ∃ (a' : Option Addr) (c' : Nat), w.cell? ⟨b, o + i * 2, none⟩ = some (.slice a' l[i].conds.length c') ∧ w.cell? ⟨b, o + i * 2 + 1, none⟩ = some (.int .i64 l[i].verdict) ∧ RdConds w D (.slice a' l[i].conds.length c') l[i].conds ∧
      l[i].conds.length ≤ c' ∧ c' ≤ 9223372036854775807 ∧ (0 < l[i].conds.length → ∃ b o, a' = some ⟨b, o, none⟩ ∧ D b ∧ b < w.heap.size) := by
  obtain ⟨cs, hcs, ⟨u, hu, hr⟩, hcell⟩ := Sl.get h hi
  obtain ⟨a', c', hv, h1, h2, h3⟩ := Sl.form hr
  subst hu hv
  exact ⟨a', c', hcell 0 _ rfl, hcell 1 _ rfl, hr, h1, h2, h3⟩
theorem rules_true {w : World} {D : Nat → Prop} {v : Value} {l : List TRule} (h : RdRules w D v l) : RdRules w (fun _ => True) v l := h.keep (fun _ _ _ => trivial) (fun _ _ _ => rfl) (Nat.le_refl _)
/-- a policy as a value. -/
@[reducible] def polV (v : Value) (d : Int) : Value := .agg #[v, .int .i64 d]
def polR (w : World) (D : Nat → Prop) (p : TPol) (cs : List Value) : Prop := ∃ v, cs = [v, .int .i64 p.dflt] ∧ RdRules w D v p.rules
def RdPols (w : World) (D : Nat → Prop) (v : Value) (l : List TPol) : Prop := Sl w D 2 (polR w D) v l
theorem RdPols.below {w w' : World} {D : Nat → Prop} {v : Value} {l : List TPol} (h : RdPols w D v l) (hb : Below w.heap.size w w') : RdPols w' D v l :=
  Sl.mono h (fun _ h _ => h) (fun b _ hlt => hb.block b hlt) hb.size (fun _ _ _ ⟨u, h1, h2⟩ => ⟨u, h1, h2.below hb⟩)
end Go.Proofs.YthkgjohhbdipcaaDoor
namespace Go.Proofs.YthkgjohhbdipcaaDoor
open Go.RowKit

/-- Rows of a list: each its sz cells. -/
structure RowsOf {α : Type} (sz : Nat) (R : α → List Value → Prop) (xs : List α) (rows : List (List Value)) : Prop where
  len : rows.length = xs.length
  size : ∀ r ∈ rows, r.length = sz
  rel : ∀ (i : Nat) (x : α) (r : List Value), xs[i]? = some x → rows[i]? = some r → R x r
theorem RowsOf.nil {α : Type} {sz : Nat} {R : α → List Value → Prop} : RowsOf sz R ([] : List α) [] := ⟨rfl, (fun _ h => by cases h), (fun i x r h => by simp at h)⟩
theorem RowsOf.app {α : Type} {sz : Nat} {R : α → List Value → Prop} {xs ys : List α} {r s : List (List Value)} (h : RowsOf sz R xs r) (k : RowsOf sz R ys s) : RowsOf sz R (xs ++ ys) (r ++ s) := by
  refine ⟨by simp [h.len, k.len], fun t ht => ?_, fun i x t hx ht => ?_⟩
  · rcases List.mem_append.1 ht with ht | ht
    · exact h.size t ht
    · exact k.size t ht
  · rw [List.getElem?_append] at hx ht
    rw [h.len] at ht
    split at hx
    · rename_i hl; rw [if_pos hl] at ht; exact h.rel i x t hx ht
    · rename_i hl; rw [if_neg hl] at ht; exact k.rel _ x t hx ht
theorem RowsOf.mono {α : Type} {sz : Nat} {R R' : α → List Value → Prop} {xs : List α} {r : List (List Value)} (h : RowsOf sz R xs r) (hR : ∀ x ∈ xs, ∀ cs, R x cs → R' x cs) : RowsOf sz R' xs r :=
  ⟨h.len, h.size, fun i x t hx ht => hR x (List.mem_of_getElem? hx) t (h.rel i x t hx ht)⟩
theorem flat_len {sz : Nat} : ∀ (rows : List (List Value)), (∀ r ∈ rows, r.length = sz) → rows.flatten.length = rows.length * sz
  | [], _ => by simp
  | r :: rows, h => by
    rw [List.flatten_cons, List.length_append, flat_len rows (fun r hr => h r (List.mem_cons_of_mem _ hr)), h r (List.mem_cons_self ..), List.length_cons, Nat.add_mul]; omega
theorem flat_get {sz : Nat} : ∀ (rows : List (List Value)) (i : Nat) (r : List Value), (∀ r ∈ rows, r.length = sz) → rows[i]? = some r → ∀ j, j < sz → rows.flatten[i * sz + j]? = r[j]?
  | [], _, _, _, h => by simp at h
  | r0 :: rows, i, r, hs, h => fun j hj => by
    have h0 := hs r0 (List.mem_cons_self ..)
    cases i with
    | zero =>
      simp at h; subst h
      rw [List.flatten_cons, List.getElem?_append_left (by omega)]; simp
    | succ i =>
      have e : (i + 1) * sz + j = r0.length + (i * sz + j) := by rw [h0, Nat.add_mul]; omega
      rw [List.flatten_cons, e, List.getElem?_append_right (by omega), Nat.add_sub_cancel_left]
      exact flat_get rows i r (fun r hr => hs r (List.mem_cons_of_mem _ hr)) (by simpa using h) j hj

/-- The rows of what a slice reads as, and where they lie. -/
theorem Sl.rows {α : Type} {w : World} {D : Nat → Prop} {sz : Nat} {R : α → List Value → Prop} {v : Value} {xs : List α} (h : Sl w D sz R v xs) :
    ∃ (a : Option Addr) (c : Nat) (rows : List (List Value)), v = .slice a xs.length c ∧ RowsOf sz R xs rows ∧ c ≤ maxLen ∧ (a = none → c = 0 ∧ xs = []) ∧ ∀ ad, a = some ad → ∀ j u, rows.flatten[j]? = some u → w.cell? (ad.add j) = some u := by
  obtain ⟨a, c, hv, hl, hm, hn, h⟩ := h
  by_cases h0 : 0 < xs.length
  · obtain ⟨b, o, ha, hDb, hb, hc⟩ := h h0
    have hex : ∀ (n : Nat), n ≤ xs.length → ∃ rows : List (List Value), RowsOf sz R (xs.take n) rows ∧ ∀ j u, rows.flatten[j]? = some u → w.cell? ⟨b, o + j, none⟩ = some u := by
      intro n
      induction n with
      | zero => intro _; exact ⟨[], by simpa using RowsOf.nil, fun j u hu => by simp at hu⟩
      | succ n ih =>
        intro hn'
        obtain ⟨rows, hr, hcell⟩ := ih (by omega)
        have hlt : n < xs.length := by omega
        obtain ⟨cs, hcs, hR, hcc⟩ := hc n xs[n] (List.getElem?_eq_getElem hlt)
        refine ⟨rows ++ [cs], ?_, fun j u hu => ?_⟩
        · rw [List.take_succ_eq_append_getElem hlt]
          exact hr.app ⟨rfl, fun r hr => by simp at hr; rw [hr]; exact hcs, fun i x r hx hr => by
            cases i with
            | zero => simp at hx hr; subst hx hr; exact hR
            | succ i => simp at hx⟩
        · rw [List.flatten_append, List.flatten_singleton, List.getElem?_append] at hu
          have hfl : rows.flatten.length = n * sz := by rw [flat_len rows hr.size, hr.len, List.length_take, Nat.min_eq_left (by omega)]
          split at hu
          · exact hcell j u hu
          · rename_i hge
            have := hcc _ u hu
            rw [hfl] at this
            rwa [show o + (n * sz + (j - n * sz)) = o + j by omega] at this
    obtain ⟨rows, hr, hcell⟩ := hex xs.length (Nat.le_refl _)
    rw [List.take_length] at hr
    refine ⟨a, c, rows, hv, hr, hm, (fun e => by rw [e] at ha; cases ha), fun ad had j u hu => ?_⟩
    rw [ha] at had
    injection had with had
    subst had
    have : ((⟨b, o, none⟩ : Addr).add j) = ⟨b, o + j, none⟩ := by unfold Addr.add; split <;> simp_all
    rw [this]; exact hcell j u hu
  · have hx : xs = [] := List.length_eq_zero_iff.1 (by omega)
    subst hx
    exact ⟨a, c, [], hv, RowsOf.nil, hm, (fun e => ⟨hn e, rfl⟩), (fun ad _ j u hu => by simp at hu)⟩

/-- A slice value with a row of the call's own, from block base on, that reads as a list. -/
def OwnSl {α : Type} (w : World) (base : Nat) (e : TypeId) (sz : Nat) (R : α → List Value → Prop) (v : Value) (xs : List α) : Prop :=
  ∃ rows, RowsOf sz R xs rows ∧ w.ownsRow base e sz v xs.length rows.flatten
section
variable {α : Type} {w w' : World} {base : Nat} {e : TypeId} {sz : Nat} {R R' : α → List Value → Prop} {v : Value} {xs : List α}
theorem OwnSl.nil : OwnSl w base e sz R (.slice none 0 0) ([] : List α) := ⟨[], RowsOf.nil, by simp, .inl ⟨rfl, rfl⟩⟩
theorem OwnSl.monoR (h : OwnSl w base e sz R v xs) (hR : ∀ x ∈ xs, ∀ cs, R x cs → R' x cs) : OwnSl w base e sz R' v xs := by
  obtain ⟨rows, hr, ho⟩ := h
  exact ⟨rows, hr.mono hR, ho⟩
theorem ownsRow_keep {n : Nat} {cells : List Value} (h : w.ownsRow base e sz v n cells) (hb : ∀ b, base ≤ b → b < w.heap.size → w'.heap[b]? = w.heap[b]?) : w'.ownsRow base e sz v n cells := by
  obtain ⟨h1, h2⟩ := h
  refine ⟨h1, ?_⟩
  rcases h2 with h2 | ⟨g, cap, cur, hv, hg, hh, r⟩
  · exact .inl h2
  · exact .inr ⟨g, cap, cur, hv, hg, by rw [hb g hg (Array.getElem?_eq_some_iff.1 hh).1]; exact hh, r⟩
theorem OwnSl.block (h : OwnSl w base e sz R v xs) : ∀ g, v.ownBlock = some g → base ≤ g := by
  obtain ⟨rows, _, _, h2⟩ := h
  intro g hg
  rcases h2 with ⟨hv, _⟩ | ⟨g', cap, cur, hv, hg', _⟩
  · subst hv; simp [Value.ownBlock] at hg
  · subst hv; simp [Value.ownBlock] at hg; omega
theorem OwnSl.grown {B : Nat} {w0 : World} (h : OwnSl w base e sz R v xs) (hb : Below B w0 w) (hg : w.grownBy w' v.ownBlock) (hB : B ≤ w.heap.size) (hbase : B ≤ base) : Below B w0 w' :=
  hb.grown hg hB fun g hk => Nat.le_trans hbase (h.block g hk)
theorem OwnSl.below (h : OwnSl w base e sz R v xs) (hb : Below w.heap.size w w') : OwnSl w' base e sz R v xs := by
  obtain ⟨rows, hr, ho⟩ := h
  exact ⟨rows, hr, ownsRow_keep ho (fun b _ hlt => hb.block b hlt)⟩
theorem OwnSl.sl {D : Nat → Prop} (h : OwnSl w base e sz R v xs) (hD : ∀ b, base ≤ b → D b) : Sl w D sz R v xs := by
  obtain ⟨rows, hr, ho1, ho2⟩ := h
  rcases ho2 with ⟨hv, hn⟩ | ⟨g, cap, cur, hv, hg, hh, hnc, hcm, hcs, htk⟩
  · have hx : xs = [] := List.length_eq_zero_iff.1 hn
    subst hx
    exact ⟨none, 0, hv, by simp, by unfold maxLen; omega, fun _ => rfl, fun h => absurd h (by simp)⟩
  · refine ⟨some ⟨g, 0, none⟩, cap, hv, hnc, hcm, (fun h => by cases h), fun h0 => ⟨g, 0, rfl, hD g hg, (Array.getElem?_eq_some_iff.1 hh).1, fun i x hx => ?_⟩⟩
    have hi : i < rows.length := by rw [hr.len]; exact (List.getElem?_eq_some_iff.1 hx).1
    have hri : rows[i]? = some rows[i] := List.getElem?_eq_getElem hi
    have hsz := hr.size _ (List.getElem_mem hi)
    refine ⟨rows[i], hsz, hr.rel i x _ hx hri, fun j u hu => ?_⟩
    have hj : j < sz := by rw [← hsz]; exact (List.getElem?_eq_some_iff.1 hu).1
    have h1 := flat_get rows i _ hr.size hri j hj
    rw [hu, ← htk] at h1
    have hlt : i * sz + j < xs.length * sz := by
      have := (List.getElem?_eq_some_iff.1 hx).1
      calc i * sz + j < i * sz + sz := by omega
        _ = (i + 1) * sz := by rw [Nat.add_mul]; omega
        _ ≤ xs.length * sz := Nat.mul_le_mul_right _ this
    rw [List.getElem?_take_of_lt hlt] at h1
    simp only [World.cell?, hh, Nat.zero_add]
    simpa using h1
end

/-- append onto an own row, from whatever slice reads. -/
theorem wpList_app {α : Type} {P : Program} {w : World} {ops : Array Oper} {rest : List Oper} {o : Oper} {a : Act} {Q : Exit → Act → World → Prop} {R : α → List Value → Prop} {D : Nat → Prop} (hgd : o.guard = none) (s x : Operand) (t : TypeId)
    (ho : o.op = .call { callee := .builtin .append, args := #[s, x], argTypes := #[t, t] })
    (base : Nat) (e : TypeId) (i : TypeInfo) (z : Value) (size bytes : Nat) (ht : P.underlying t = some (.slice e)) (hi : P.info? e = some i) (hz : i.zero = some z)
    (hsize : i.size = size) (hby : i.bytes = bytes) (hzs : z.cells.size = size) (hsz : 0 < size)
    (v : Value) (xs : List α) (hs : a.eval s = v) (hown : OwnSl w base e size R v xs)
    (u : Value) (ys : List α) (hx : a.eval x = u) (hu : Sl w D size R u ys) (h1 : ∀ y ∈ ys, ∀ cs, R y cs → ∀ c ∈ cs, c.oneCell' = true)
    (h63 : xs.length + ys.length ≤ maxLen) (hbytes : (xs.length + ys.length) * bytes ≤ 140737488355328) (hbase : base ≤ w.heap.size)
    (h : ∀ v' w', OwnSl w' base e size R v' (xs ++ ys) → w.grownBy w' v.ownBlock → wpList P ops Q rest (a.put o.dst v') w') : wpList P ops Q (o :: rest) a w := by
  obtain ⟨au, cu, rows, hv, hr, hcm, hnone, hcell⟩ := hu.rows
  obtain ⟨rows0, hr0, ho0⟩ := hown
  cases au with
  | none =>
    obtain ⟨hc0, hy⟩ := hnone rfl
    subst hc0 hy
    refine wpList_append_own_none hgd s x t ho base e i size ht hi v xs.length rows0.flatten hs ho0 (by rw [hx, hv]; rfl) (h v w ⟨rows0, by simpa using hr0, by simpa using ho0⟩ ⟨rfl, rfl, rfl, Nat.le_refl _, fun _ _ _ => rfl⟩)
  | some ad =>
    refine wpList_append_own w hgd s x t ho base e i z size bytes ht hi hz hsize hby hzs hsz v xs.length rows0.flatten hs ho0 ad ys.length cu rows.flatten (by rw [hx, hv]) (by rw [flat_len rows hr.size, hr.len]) (hcell ad rfl) ?_ h63 hbytes hbase
      fun v' w' hown' hg _ => h v' w' ⟨rows0 ++ rows, hr0.app hr, by simpa using hown'⟩ hg
    intro c hc
    obtain ⟨r, hrm, hcr⟩ := List.mem_flatten.1 hc
    obtain ⟨k, hk⟩ := List.getElem?_of_mem hrm
    have hkl : k < ys.length := by rw [← hr.len]; exact (List.getElem?_eq_some_iff.1 hk).1
    exact h1 ys[k] (List.getElem_mem hkl) r (hr.rel k _ r (List.getElem?_eq_getElem hkl) hk) c hcr

/-- how long the first k are together. -/
def lenTo {α : Type} (ls : List (List α)) (k : Nat) : Nat := (ls.take k).flatten.length
theorem flat_take_succ {α : Type} (ls : List (List α)) (k : Nat) (h : k < ls.length) : (ls.take k).flatten ++ ls[k] = (ls.take (k + 1)).flatten := by
  rw [List.take_succ_eq_append_getElem h, List.flatten_append, List.flatten_singleton]
theorem lenTo_succ {α : Type} (ls : List (List α)) (k : Nat) (h : k < ls.length) : lenTo ls (k + 1) = lenTo ls k + ls[k].length := by
  unfold lenTo; rw [← flat_take_succ ls k h, List.length_append]
theorem lenTo_le {α : Type} (ls : List (List α)) (k : Nat) (_h : k ≤ ls.length) : lenTo ls k ≤ lenTo ls ls.length := by
  unfold lenTo
  have := congrArg (fun l => l.flatten.length) (List.take_append_drop k ls)
  rw [List.take_length]
  simp only [List.flatten_append, List.length_append] at this
  omega
end Go.Proofs.YthkgjohhbdipcaaDoor
namespace Go.Proofs.YthkgjohhbdipcaaDoor
open Go.RowKit

theorem RowsOf.cons {α : Type} {sz : Nat} {R : α → List Value → Prop} {x : α} {xs : List α} {r : List Value} {rows : List (List Value)} (h : RowsOf sz R xs rows) (hx : R x r) (hl : r.length = sz) : RowsOf sz R (x :: xs) (r :: rows) := by
  refine ⟨by simp [h.len], fun t ht => ?_, fun i y t hy ht => ?_⟩
  · rcases List.mem_cons.1 ht with rfl | ht
    · exact hl
    · exact h.size t ht
  · cases i with
    | zero => simp at hy ht; subst hy ht; exact hx
    | succ i => exact h.rel i y t (by simpa using hy) (by simpa using ht)
theorem sl_block {α : Type} {w : World} {D : Nat → Prop} {sz b : Nat} {R : α → List Value → Prop} {xs : List α} {rows : List (List Value)} {cs : List Value} {T : TypeId} {fr : Nat × Nat} (hr : RowsOf sz R xs rows)
    (hb : w.heap[b]? = some (.cells cs.toArray T fr)) (hcs : cs = rows.flatten) (hD : D b) (hm : xs.length ≤ maxLen) : Sl w D sz R (.slice (some ⟨b, 0, none⟩) xs.length xs.length) xs := by
  refine ⟨some ⟨b, 0, none⟩, xs.length, rfl, Nat.le_refl _, hm, (fun h => by cases h), fun _ => ⟨b, 0, rfl, hD, (Array.getElem?_eq_some_iff.1 hb).1, fun i x hx => ?_⟩⟩
  have hi : i < rows.length := by rw [hr.len]; exact (List.getElem?_eq_some_iff.1 hx).1
  have hri : rows[i]? = some rows[i] := List.getElem?_eq_getElem hi
  have hsz := hr.size _ (List.getElem_mem hi)
  refine ⟨rows[i], hsz, hr.rel i x _ hx hri, fun j u hu => ?_⟩
  have hj : j < sz := by rw [← hsz]; exact (List.getElem?_eq_some_iff.1 hu).1
  have h1 := flat_get rows i _ hr.size hri j hj
  rw [hu, ← hcs] at h1
  simp only [World.cell?, hb, Nat.zero_add]
  simpa using h1
theorem Sl.at_ {α : Type} {w : World} {D : Nat → Prop} {sz n c : Nat} {a : Option Addr} {R : α → List Value → Prop} {xs : List α} (h : Sl w D sz R (.slice a n c) xs) (h0 : 0 < xs.length) : ∃ b o, a = some ⟨b, o, none⟩ ∧ D b ∧ b < w.heap.size := by
  obtain ⟨a', c', hv, _, _, _, hat⟩ := h
  injection hv with h1 _ _
  subst h1
  obtain ⟨b, o, ha, hD, hb, _⟩ := hat h0
  exact ⟨b, o, ha, hD, hb⟩
theorem Sl.monoD {α : Type} {w : World} {D D' : Nat → Prop} {sz : Nat} {R : α → List Value → Prop} {v : Value} {xs : List α} (h : Sl w D sz R v xs) (hD : ∀ b, D b → D' b) : Sl w D' sz R v xs :=
  Sl.mono h (fun b hb _ => hD b hb) (fun _ _ _ => rfl) (Nat.le_refl _) (fun _ _ _ h => h)
theorem Sl.belowR {α : Type} {w w' : World} {D : Nat → Prop} {sz : Nat} {R R' : α → List Value → Prop} {v : Value} {xs : List α} (h : Sl w D sz R v xs) (hb : Below w.heap.size w w') (hR : ∀ x ∈ xs, ∀ cs, R x cs → R' x cs) : Sl w' D sz R' v xs :=
  Sl.mono h (fun _ h _ => h) (fun b _ hlt => hb.block b hlt) hb.size hR
/-! ### stores into a block that is known whole -/
theorem set_at {W : World} {b o : Nat} {cs : Array Value} {T : TypeId} {fr : Nat × Nat} {v : Value} (h : W.heap[b]? = some (.cells cs T fr)) : (W.setCell ⟨b, o, none⟩ v).heap[b]? = some (.cells (cs.setIfInBounds o v) T fr) := by
  show (W.heap.modify b _)[b]? = _
  rw [Array.getElem?_modify, if_pos rfl, h]
  rfl
theorem set_other {W : World} {a : Addr} {v : Value} {k : Nat} (h : k ≠ a.block) : (W.setCell a v).heap[k]? = W.heap[k]? := by
  show (W.heap.modify a.block _)[k]? = _
  rw [Array.getElem?_modify, if_neg (fun e => h e.symm)]
theorem set_size (W : World) (a : Addr) (v : Value) : (W.setCell a v).heap.size = W.heap.size := by
  show (W.heap.modify a.block _).size = _
  rw [Array.size_modify]
theorem set_below {B : Nat} {w W : World} {a : Addr} {v : Value} (h : Below B w W) (hb : B ≤ a.block) : Below B w (W.setCell a v) :=
  h.trans ⟨rfl, rfl, rfl, by rw [set_size]; exact Nat.le_refl _, fun k hk => set_other (by omega)⟩
theorem not_frozen {W : World} {b : Nat} {cs : Array Value} {T : TypeId} (h : W.heap[b]? = some (.cells cs T)) (j : Nat) : W.frozen? ⟨b, j, none⟩ = false := by
  simp only [World.frozen?, h]; simp
theorem cells_of {W : World} {b : Nat} {cs : Array Value} {T : TypeId} {fr : Nat × Nat} (h : W.heap[b]? = some (.cells cs T fr)) (j : Nat) : W.cell? ⟨b, j, none⟩ = cs[j]? := by simp [World.cell?, h]

theorem heap_setCells (g : Nat) : ∀ (vs : List Value) (o : Nat) (w : World), (w.setCells g o vs).os = w.os ∧ (w.setCells g o vs).tape = w.tape ∧ (w.setCells g o vs).output = w.output ∧ (w.setCells g o vs).heap.size = w.heap.size ∧ ∀ b, b ≠ g → (w.setCells g o vs).heap[b]? = w.heap[b]?
  | [], _, _ => ⟨rfl, rfl, rfl, rfl, fun _ _ => rfl⟩
  | v :: vs, o, w => by
    obtain ⟨h1, h2, h3, h4, h5⟩ := heap_setCells g vs (o + 1) (w.setCell ⟨g, o, none⟩ v)
    exact ⟨h1, h2, h3, h4.trans (set_size _ _ _), fun b hb => (h5 b hb).trans (set_other hb)⟩
theorem below_setCells {B g o : Nat} {vs : List Value} {w W : World} (h : Below B w W) (hb : B ≤ g) : Below B w (W.setCells g o vs) := by
  obtain ⟨h1, h2, h3, h4, h5⟩ := heap_setCells g vs o W
  exact h.trans ⟨h1, h2, h3, by rw [h4]; exact Nat.le_refl _, fun b hlt => h5 b (by omega)⟩
theorem blk_setCells {g : Nat} {T : TypeId} {fr : Nat × Nat} : ∀ (vs : List Value) (o : Nat) (w : World) (cur : Array Value), w.heap[g]? = some (.cells cur T fr) → ∃ cur' : Array Value, cur'.size = cur.size ∧ (w.setCells g o vs).heap[g]? = some (.cells cur' T fr)
  | [], _, _, cur, h => ⟨cur, rfl, h⟩
  | v :: vs, o, w, cur, h => by
    obtain ⟨cur', h1, h2⟩ := blk_setCells vs (o + 1) (w.setCell ⟨g, o, none⟩ v) _ (set_at h)
    exact ⟨cur', by simpa using h1, h2⟩
end Go.Proofs.YthkgjohhbdipcaaDoor
namespace Go.Proofs.YthkgjohhbdipcaaDoor
open Go.RowKit

/-- W is w with these blocks behind it, and more behind those. -/
structure Bx (w : World) (bs : List Obj) (W : World) : Prop where
  bel : Below w.heap.size w W
  at_ : ∀ (i : Nat) (o : Obj), bs[i]? = some o → W.heap[w.heap.size + i]? = some o
section
variable {w W W' : World} {bs : List Obj}
theorem Bx.nil : Bx w [] w := ⟨Below.refl _ _, fun i o h => by simp at h⟩
theorem Bx.push (h : Bx w bs W) (hs : W.heap.size = w.heap.size + bs.length) (o : Obj) : Bx w (bs ++ [o]) (W.alloc o) := by
  refine ⟨bel_alloc h.bel o, fun i x hx => ?_⟩
  rw [List.getElem?_append] at hx
  split at hx
  · exact blk_old (h.at_ i x hx)
  · rename_i hge
    have hi : i - bs.length = 0 := by
      have := (List.getElem?_eq_some_iff.1 hx).1
      simp at this; exact this
    rw [hi] at hx
    simp at hx
    subst hx
    exact blk_at (by omega)
theorem Bx.two {o o' : Obj} : Bx w [o, o'] ((w.alloc o).alloc o') := (Bx.nil.push (by simp) o).push (by simp) o'
theorem Bx.one {o : Obj} : Bx w [o] (w.alloc o) := Bx.nil.push (by simp) o
theorem Bx.three {o o' o2 : Obj} : Bx w [o, o', o2] (((w.alloc o).alloc o').alloc o2) := Bx.two.push (by simp) o2
theorem Bx.below (h : Bx w bs W) (hb : Below W.heap.size W W') : Bx w bs W' := ⟨bel_call h.bel hb, fun i o ho => blk_below (h.at_ i o ho) hb⟩
theorem Bx.alloc (h : Bx w bs W) (o : Obj) : Bx w bs (W.alloc o) := h.below (bel_alloc (Below.refl _ _) o)
theorem Bx.lift {B : Nat} (h : Bx w bs W) (hb : Below B W W') (hB : w.heap.size + bs.length ≤ B) : Bx w bs W' := ⟨h.bel.trans (hb.mono (by omega)), fun i o ho => (hb.block _ (by have := (List.getElem?_eq_some_iff.1 ho).1; omega)).trans (h.at_ i o ho)⟩
theorem Bx.top (h : Bx w bs W) : w.heap.size + bs.length ≤ W.heap.size := by
  rcases Nat.eq_zero_or_pos bs.length with h0 | h0
  · have := h.bel.size; omega
  · have hl : bs.length - 1 < bs.length := by omega
    have := (Array.getElem?_eq_some_iff.1 (h.at_ (bs.length - 1) _ (List.getElem?_eq_getElem hl))).1
    omega
theorem Bx.drew (h : Bx w bs W) : Bx w bs W.drew := h.below (Below.refl _ _).drew
theorem Bx.cells (h : Bx w bs W) {i : Nat} {cs : Array Value} {T : TypeId} (hi : bs[i]? = some (.cells cs T)) (j : Nat) : W.cell? ⟨w.heap.size + i, j, none⟩ = cs[j]? := cells_of (h.at_ i _ hi) j
theorem Bx.free (h : Bx w bs W) {i : Nat} {cs : Array Value} {T : TypeId} (hi : bs[i]? = some (.cells cs T)) (j : Nat) : W.frozen? ⟨w.heap.size + i, j, none⟩ = false := not_frozen (h.at_ i _ hi) j
theorem Bx.cells0 {cs : Array Value} {T : TypeId} {r : List Obj} (h : Bx w (.cells cs T :: r) W) (j : Nat) : W.cell? ⟨w.heap.size, j, none⟩ = cs[j]? := h.cells (i := 0) rfl j
theorem Bx.cells1 {o : Obj} {cs : Array Value} {T : TypeId} {r : List Obj} (h : Bx w (o :: .cells cs T :: r) W) (j : Nat) : W.cell? ⟨w.heap.size + 1, j, none⟩ = cs[j]? := h.cells (i := 1) rfl j
theorem Bx.cells2 {o o' : Obj} {cs : Array Value} {T : TypeId} {r : List Obj} (h : Bx w (o :: o' :: .cells cs T :: r) W) (j : Nat) : W.cell? ⟨w.heap.size + 1 + 1, j, none⟩ = cs[j]? := h.cells (i := 2) rfl j
theorem Bx.free0 {cs : Array Value} {T : TypeId} {r : List Obj} (h : Bx w (.cells cs T :: r) W) (j : Nat) : W.frozen? ⟨w.heap.size, j, none⟩ = false := h.free (i := 0) rfl j
theorem Bx.free1 {o : Obj} {cs : Array Value} {T : TypeId} {r : List Obj} (h : Bx w (o :: .cells cs T :: r) W) (j : Nat) : W.frozen? ⟨w.heap.size + 1, j, none⟩ = false := h.free (i := 1) rfl j
theorem Bx.size (h : Bx w bs W) {i : Nat} (hi : i < bs.length) : w.heap.size + i < W.heap.size :=
  (Array.getElem?_eq_some_iff.1 (h.at_ i _ (List.getElem?_eq_getElem hi))).1
theorem Bx.set (h : Bx w bs W) {i : Nat} {cs : Array Value} {T : TypeId} (hi : bs[i]? = some (.cells cs T)) (j : Nat) (v : Value) : Bx w (bs.set i (.cells (cs.setIfInBounds j v) T)) (W.setCell ⟨w.heap.size + i, j, none⟩ v) := by
  refine ⟨set_below h.bel (by show w.heap.size ≤ w.heap.size + i; omega), fun k o ho => ?_⟩
  by_cases e : k = i
  · subst e
    have hlt := (List.getElem?_eq_some_iff.1 hi).1
    rw [List.getElem?_set_self hlt] at ho
    injection ho with ho
    subst ho
    exact set_at (h.at_ k _ hi)
  · rw [List.getElem?_set_ne (Ne.symm e)] at ho
    rw [set_other (by show w.heap.size + k ≠ w.heap.size + i; omega)]
    exact h.at_ k o ho
end
/-- a call's box behind 'x = right(x)'. -/
theorem Bx.setCall0 {w W : World} {x y : TCall} {T : TypeId} {r : List Obj} (h : Bx w (.cells #[.int .i64 x.a0, .int .i64 x.a1, .int .i64 x.a2, .int .i64 x.a3, .int .i64 x.a4] T :: r) W) :
    Bx w (.cells #[.int .i64 y.a0, .int .i64 y.a1, .int .i64 y.a2, .int .i64 y.a3, .int .i64 y.a4] T :: r) (((((W.setCell ⟨w.heap.size, 0, none⟩ (.int .i64 y.a0)).setCell ⟨w.heap.size, 1, none⟩ (.int .i64 y.a1)).setCell ⟨w.heap.size, 2, none⟩ (.int .i64 y.a2)).setCell ⟨w.heap.size, 3, none⟩ (.int .i64 y.a3)).setCell ⟨w.heap.size, 4, none⟩ (.int .i64 y.a4)) :=
  ((((h.set (i := 0) rfl 0 (.int .i64 y.a0)).set (i := 0) rfl 1 (.int .i64 y.a1)).set (i := 0) rfl 2 (.int .i64 y.a2)).set (i := 0) rfl 3 (.int .i64 y.a3)).set (i := 0) rfl 4 (.int .i64 y.a4)
theorem Bx.setCall1 {w W : World} {x y : TCall} {T : TypeId} {o : Obj} {r : List Obj} (h : Bx w (o :: .cells #[.int .i64 x.a0, .int .i64 x.a1, .int .i64 x.a2, .int .i64 x.a3, .int .i64 x.a4] T :: r) W) :
    Bx w (o :: .cells #[.int .i64 y.a0, .int .i64 y.a1, .int .i64 y.a2, .int .i64 y.a3, .int .i64 y.a4] T :: r) (((((W.setCell ⟨w.heap.size + 1, 0, none⟩ (.int .i64 y.a0)).setCell ⟨w.heap.size + 1, 1, none⟩ (.int .i64 y.a1)).setCell ⟨w.heap.size + 1, 2, none⟩ (.int .i64 y.a2)).setCell ⟨w.heap.size + 1, 3, none⟩ (.int .i64 y.a3)).setCell ⟨w.heap.size + 1, 4, none⟩ (.int .i64 y.a4)) :=
  ((((h.set (i := 1) rfl 0 (.int .i64 y.a0)).set (i := 1) rfl 1 (.int .i64 y.a1)).set (i := 1) rfl 2 (.int .i64 y.a2)).set (i := 1) rfl 3 (.int .i64 y.a3)).set (i := 1) rfl 4 (.int .i64 y.a4)
theorem Bx.setCall2 {w W : World} {x y : TCall} {T : TypeId} {o o' : Obj} {r : List Obj} (h : Bx w (o :: o' :: .cells #[.int .i64 x.a0, .int .i64 x.a1, .int .i64 x.a2, .int .i64 x.a3, .int .i64 x.a4] T :: r) W) :
    Bx w (o :: o' :: .cells #[.int .i64 y.a0, .int .i64 y.a1, .int .i64 y.a2, .int .i64 y.a3, .int .i64 y.a4] T :: r) (((((W.setCell ⟨w.heap.size + 1 + 1, 0, none⟩ (.int .i64 y.a0)).setCell ⟨w.heap.size + 1 + 1, 1, none⟩ (.int .i64 y.a1)).setCell ⟨w.heap.size + 1 + 1, 2, none⟩ (.int .i64 y.a2)).setCell ⟨w.heap.size + 1 + 1, 3, none⟩ (.int .i64 y.a3)).setCell ⟨w.heap.size + 1 + 1, 4, none⟩ (.int .i64 y.a4)) :=
  ((((h.set (i := 2) rfl 0 (.int .i64 y.a0)).set (i := 2) rfl 1 (.int .i64 y.a1)).set (i := 2) rfl 2 (.int .i64 y.a2)).set (i := 2) rfl 3 (.int .i64 y.a3)).set (i := 2) rfl 4 (.int .i64 y.a4)
theorem Bx.free2 {o o' : Obj} {cs : Array Value} {T : TypeId} {r : List Obj} {w W : World} (h : Bx w (o :: o' :: .cells cs T :: r) W) (j : Nat) : W.frozen? ⟨w.heap.size + 1 + 1, j, none⟩ = false := h.free (i := 2) rfl j
end Go.Proofs.YthkgjohhbdipcaaDoor
namespace Go.Proofs.YthkgjohhbdipcaaDoor
open Go.RowKit Go.Shelf
attribute [local go_sem] gives givesUpon

structure LaidF (w : World) : Prop where
  base : Laid w
  sp : Lib.TabIs Tryd.prog w "strings.asciiSpace" .u8 Lib.asciiSpaceTab
theorem LaidF.below {w w' : World} (h : LaidF w) (hb : Below w.heap.size w w') : LaidF w' := ⟨h.base.below hb, Go.Joins.tab_stays (g := 0) (by kernel_rfl) h.sp hb (Nat.le_refl _)⟩
def bsL (l : List UInt8) : ByteArray := ⟨l.toArray⟩
theorem itoa_any (n : Int) (h0 : -9223372036854775808 ≤ n) (h1 : n ≤ 9223372036854775807) (w : World) (hL : Laid w) :
    Calls Tryd.prog 34 #[.int .i64 n] w fun e w' => e = .returned (.string (bsL (Lib.itoa n))) ∧ Below w.heap.size w w' :=
  (Tryd.strconv_Itoa n h0 h1 w hL.pow).mono fun _ _ ⟨he, _, _, hw⟩ => ⟨he, below_world hw⟩
theorem verdict_words : Lib.fields [107, 105, 108, 108, 32, 116, 114, 97, 112, 32, 102, 97, 105, 108, 32, 108, 111, 103, 32, 97, 108, 108, 111, 119] = [[107, 105, 108, 108], [116, 114, 97, 112], [102, 97, 105, 108], [108, 111, 103], [97, 108, 108, 111, 119]] := by decide +kernel
theorem field_words : Lib.fields [110, 114, 32, 107, 105, 110, 100, 32, 97, 32, 98, 32, 99] = [[110, 114], [107, 105, 110, 100], [97], [98], [99]] := by decide +kernel

theorem fields_of (l : List UInt8) (ws : List (List UInt8)) (h0 : (l.all fun b => decide (b.toNat < 128)) = true) (h1 : l.length < 4294967281) (hf : Lib.fields l = ws) (w : World) (ht : Lib.TabIs Tryd.prog w "strings.asciiSpace" .u8 Lib.asciiSpaceTab) :
    Calls Tryd.prog 55 #[.string ⟨l.toArray⟩] w fun e w' => e = .returned (.slice (some ⟨w.heap.size, 0, none⟩) ws.length ws.length) ∧ w' = w.alloc (.cells (ws.map fun l => Value.string (bsL l)).toArray 9) := by
  subst hf
  exact Tryd.strings_Fields ⟨l.toArray⟩ w h1 (fun j b hb => of_decide_eq_true (List.all_eq_true.1 h0 b (List.mem_of_getElem? hb))) ht
theorem bsL_app (l m : List UInt8) : bsL l ++ bsL m = bsL (l ++ m) := by
  unfold bsL
  apply ByteArray.ext
  simp [ByteArray.data_append]
/-- the words in their blocks. -/
theorem verdict_cell {v : Int} (h0 : 0 ≤ v) (h1 : v ≤ 4) : (#[Value.string (bsL [107, 105, 108, 108]), .string (bsL [116, 114, 97, 112]), .string (bsL [102, 97, 105, 108]), .string (bsL [108, 111, 103]), .string (bsL [97, 108, 108, 111, 119])] : Array Value)[v.toNat]? = some (.string (bsL (verdictW v))) := by
  rcases (by omega : v = 0 ∨ v = 1 ∨ v = 2 ∨ v = 3 ∨ v = 4) with rfl | rfl | rfl | rfl | rfl <;> rfl
theorem field_cell {v : Int} (h0 : 0 ≤ v) (h1 : v ≤ 4) : (#[Value.string (bsL [110, 114]), .string (bsL [107, 105, 110, 100]), .string (bsL [97]), .string (bsL [98]), .string (bsL [99])] : Array Value)[v.toNat]? = some (.string (bsL (fieldW v))) := by
  rcases (by omega : v = 0 ∨ v = 1 ∨ v = 2 ∨ v = 3 ∨ v = 4) with rfl | rfl | rfl | rfl | rfl <;> rfl
theorem add_bs {P : Program} (x y : List UInt8) (h : x.length + y.length ≤ 1000000) (W : World) : (Op.stringOp .add (bsL x) (bsL y)).run P W = .ok (.string (bsL (x ++ y))) W := by
  rw [run_string_add_sum W (bsL x) (bsL y) (by show x.toArray.size + y.toArray.size ≤ _; simp; omega), bsL_app]
theorem op_slice {o : Int} (h0 : 1 ≤ o) (h1 : o ≤ 4) (W : World) : (Instr.slice 9 (.string ⟨#[63, 61, 33, 60, 62]⟩) (some (.int .i64 o)) (some (.int .i64 (o + 1))) none).run Tryd.prog W = .ok (.string (bsL [opW o])) W := by
  rcases (by omega : o = 1 ∨ o = 2 ∨ o = 3 ∨ o = 4) with rfl | rfl | rfl | rfl <;> kernel_rfl
def headP (l : List TRule) : List UInt8 := l.flatMap fun r => ruleW r ++ [59]
theorem headP_take {l : List TRule} {k : Nat} (h : k < l.length) : headP (l.take (k + 1)) = headP (l.take k) ++ (ruleW l[k] ++ [59]) := by
  unfold headP
  rw [List.take_succ_eq_append_getElem h, List.flatMap_append]; simp
def headC (l : List TCond) : List UInt8 := l.flatMap fun c => 32 :: condW c
theorem headC_take {l : List TCond} {k : Nat} (h : k < l.length) : headC (l.take (k + 1)) = headC (l.take k) ++ 32 :: condW l[k] := by
  unfold headC
  rw [List.take_succ_eq_append_getElem h, List.flatMap_append]; simp

theorem verdictW_len (v : Int) : (verdictW v).length ≤ 5 := by unfold verdictW; split <;> (try split) <;> (try split) <;> (try split) <;> simp
theorem fieldW_len (v : Int) : (fieldW v).length ≤ 4 := by unfold fieldW; split <;> (try split) <;> (try split) <;> (try split) <;> simp
theorem condW_len {c : TCond} (h : OkCond c) : (32 :: condW c).length ≤ 27 := by
  have h1 := fieldW_len c.f
  have h2 := Lib.itoa_length_le c.v (by have := h.v0; omega) (by have := h.v1; have : mostOf c.f ≤ 65535 := (by unfold mostOf; split <;> (try split) <;> omega); omega)
  unfold condW
  simp only [List.length_cons, List.length_append]; omega
theorem headC_len : ∀ (l : List TCond), (∀ c ∈ l, OkCond c) → (headC l).length ≤ 27 * l.length
  | [], _ => by simp [headC]
  | c :: l, h => by
    have h1 := condW_len (h c (List.mem_cons_self ..))
    have h2 := headC_len l (fun x hx => h x (List.mem_cons_of_mem _ hx))
    unfold headC at h2 ⊢
    rw [List.flatMap_cons, List.length_append]
    have h3 : (c :: l).length = l.length + 1 := rfl
    omega
theorem ruleW_len {r : TRule} (h : OkRule r) : (ruleW r ++ [59]).length ≤ 280 := by
  have h1 := headC_len r.conds h.conds
  have h2 := verdictW_len r.verdict
  have h3 := h.len
  unfold headC at h1
  unfold ruleW
  simp only [List.length_append, List.length_singleton]; omega
theorem headP_len : ∀ (l : List TRule), (∀ r ∈ l, OkRule r) → (headP l).length ≤ 280 * l.length
  | [], _ => by simp [headP]
  | r :: l, h => by
    have h1 := ruleW_len (h r (List.mem_cons_self ..))
    have h2 := headP_len l (fun x hx => h x (List.mem_cons_of_mem _ hx))
    unfold headP at h2 ⊢
    rw [List.flatMap_cons, List.length_append, List.length_cons]; omega
attribute [-go_sem] run_string_add_if run_slice_string_if run_slice_string
set_option maxRecDepth 100000 in
set_option maxHeartbeats 8000000 in
theorem ptext_any (v : Value) (p : TPol) (D : Nat → Prop) (w : World) (h : RdRules w D v p.rules) (hok : OkPol p) (hL : LaidF w) :
    Calls Tryd.prog 26 #[polV v p.dflt] w fun e w' => e = .returned (.string (bsL (textP p))) ∧ Below w.heap.size w w' := by
  have H := Lib.hid h
  have Hok := Lib.hid hok
  have HL := Lib.hid hL
  obtain ⟨a, c, rfl, hlc, hcm, hat⟩ := Sl.form h
  clear h hok hL
  go_enter Tryd.func26, Tryd.ntmps26
  go_wp2_with fail
  have HB := Lib.hid (Bx.one (w := w) (o := .cells #[.slice a p.rules.length c, .int .i64 p.dflt] 24))
  refine (fields_of [107, 105, 108, 108, 32, 116, 114, 97, 112, 32, 102, 97, 105, 108, 32, 108, 111, 103, 32, 97, 108, 108, 111, 119] _ (by decide +kernel) (by decide) verdict_words _ (HL.out.below HB.out.bel).sp).mono ?_
  rintro e w1 ⟨rfl, rfl⟩
  have HB1 := Lib.hid (HB.out.push (by simp) (.cells (([[107, 105, 108, 108], [116, 114, 97, 112], [102, 97, 105, 108], [108, 111, 103], [97, 108, 108, 111, 119]] : List (List UInt8)).map fun l => Value.string (bsL l)).toArray 9))
  go_wp2_with fail
  refine (fields_of [110, 114, 32, 107, 105, 110, 100, 32, 97, 32, 98, 32, 99] _ (by decide +kernel) (by decide) field_words _ (HL.out.below HB1.out.bel).sp).mono ?_
  rintro e w2 ⟨rfl, rfl⟩
  have HB2 := Lib.hid (HB1.out.push (by simp) (.cells (([[110, 114], [107, 105, 110, 100], [97], [98], [99]] : List (List UInt8)).map fun l => Value.string (bsL l)).toArray 9))
  have HW : Hid (Bx w [.cells #[.slice a p.rules.length c, .int .i64 p.dflt] 24, .cells #[Value.string (bsL [107, 105, 108, 108]), .string (bsL [116, 114, 97, 112]), .string (bsL [102, 97, 105, 108]), .string (bsL [108, 111, 103]), .string (bsL [97, 108, 108, 111, 119])] 9, .cells #[Value.string (bsL [110, 114]), .string (bsL [107, 105, 110, 100]), .string (bsL [97]), .string (bsL [98]), .string (bsL [99])] 9] (((w.alloc (.cells #[.slice a p.rules.length c, .int .i64 p.dflt] 24)).alloc (.cells (([[107, 105, 108, 108], [116, 114, 97, 112], [102, 97, 105, 108], [108, 111, 103], [97, 108, 108, 111, 119]] : List (List UInt8)).map fun l => Value.string (bsL l)).toArray 9)).alloc (.cells (([[110, 114], [107, 105, 110, 100], [97], [98], [99]] : List (List UInt8)).map fun l => Value.string (bsL l)).toArray 9))) := HB2.out
  clear HB1 HB2
  revert HW
  generalize (((w.alloc (.cells #[.slice a p.rules.length c, .int .i64 p.dflt] 24)).alloc (.cells (([[107, 105, 108, 108], [116, 114, 97, 112], [102, 97, 105, 108], [108, 111, 103], [97, 108, 108, 111, 119]] : List (List UInt8)).map fun l => Value.string (bsL l)).toArray 9)).alloc (.cells (([[110, 114], [107, 105, 110, 100], [97], [98], [99]] : List (List UInt8)).map fun l => Value.string (bsL l)).toArray 9)) = w2
  intro HW
  have hc0 := HW.out.cells0
  have hbo := Lib.hid (HL.out.below HW.out.bel)
  have htop : w.heap.size + 3 ≤ w2.heap.size := HW.out.top
  go_wp2_with fail
  clear hc0
  go_loopw [5, 15] (fun sv kv wr => ∃ (k : Nat) (t : List UInt8), kv = .int .i64 k ∧ sv = .string (bsL t) ∧ t = headP (p.rules.take k) ∧ k ≤ p.rules.length ∧ Below w2.heap.size w2 wr) (fun _ kv _ => p.rules.length - (intOf kv).toNat)
  case atStart => exact ⟨0, [], rfl, rfl, rfl, by omega, Below.refl _ _⟩
  case round =>
    obtain ⟨k, t, rfl, rfl, ht, hk, hb⟩ := hrel
    have Ht := Lib.hid ht
    have Hb := Lib.hid hb
    have hszr := hb.size
    have HWr := Lib.hid (HW.out.below hb)
    clear ht hb
    by_cases hlt : k < p.rules.length
    · obtain ⟨b, o, rfl, hDb, hblt⟩ := hat (by omega)
      obtain ⟨ca, cc, hc0w, hc1w, hrd, hcl, hcmx, hcat⟩ := RdRules.cells (H.out.below HWr.out.bel) hlt
      have Hkr := Lib.hid (Hok.out.rules p.rules[k] (List.getElem_mem hlt))
      have Htk := Lib.hid (headP_take hlt)
      obtain ⟨r, hr⟩ : ∃ r, p.rules[k] = r := ⟨_, rfl⟩
      rw [hr] at hc0w hc1w hrd hcl hcat Hkr Htk
      have Hrd := Lib.hid hrd
      have hv0 := Hkr.out.v0
      have hv1 := Hkr.out.v1
      have hvc : (wr.alloc (.cells #[.slice ca r.conds.length cc, .int .i64 r.verdict] 64)).cell? ⟨w.heap.size + 1, r.verdict.toNat, none⟩ = some (.string (bsL (verdictW r.verdict))) := ((HWr.out.alloc _).cells1 _).trans (verdict_cell hv0 hv1)
      obtain ⟨wo, rfl⟩ : ∃ wo : World, wo = wr := ⟨_, rfl⟩
      have htl : t.length ≤ 33600 := by
        rw [Ht.out]
        have := headP_len (p.rules.take k) (fun x hx => Hok.out.rules x (List.mem_of_mem_take hx))
        rw [List.length_take] at this
        have := Hok.out.len
        omega
      have hvl := verdictW_len r.verdict
      have ha1 := fun W => add_bs (P := Tryd.prog) t (verdictW r.verdict) (by omega) W
      clear hrd hr
      go_wp2_with fail
      clear hc0w hc1w hvc ha1
      have hbo1 : Below w2.heap.size w2 (wo.alloc (.cells #[.slice ca r.conds.length cc, .int .i64 r.verdict] 64)) := Hb.out.alloc hszr _
      have Hbo1 := Lib.hid hbo1
      have hbx1 : (wo.alloc (.cells #[.slice ca r.conds.length cc, .int .i64 r.verdict] 64)).heap[wo.heap.size]? = some (.cells #[.slice ca r.conds.length cc, .int .i64 r.verdict] 64) := heap_last _ _
      have Hrd1 := Lib.hid (Hrd.out.below (bel_alloc (Below.refl _ _) (.cells #[.slice ca r.conds.length cc, .int .i64 r.verdict] 64)))
      clear hbo1 hbx1
      go_loopw [5, 29] (fun sv jv wr => ∃ (j : Nat) (u : List UInt8), jv = .int .i64 j ∧ sv = .string (bsL u) ∧ u = t ++ verdictW r.verdict ++ headC (r.conds.take j) ∧ j ≤ r.conds.length ∧ Below (wo.heap.size + 1) (wo.alloc (.cells #[.slice ca r.conds.length cc, .int .i64 r.verdict] 64)) wr) (fun _ jv _ => r.conds.length - (intOf jv).toNat)
      case atStart => exact ⟨0, _, rfl, rfl, by simp [headC], by omega, Below.refl _ _⟩
      case round =>
        obtain ⟨j, u, rfl, rfl, hu, hj, hbj⟩ := hrel
        have Hu := Lib.hid hu
        have Hbj := Lib.hid hbj
        have hszj := hbj.size
        simp only [World.size_alloc] at hszj
        have HWj := Lib.hid (HW.out.below (Hbo1.out.trans (hbj.mono (by omega))))
        have HLj := Lib.hid (hbo.out.below (Hbo1.out.trans (hbj.mono (by omega))))
        clear hu hbj
        by_cases hjl : j < r.conds.length
        · obtain ⟨b2, o2, rfl, hDb2, hblt2⟩ := hcat (by omega)
          obtain ⟨hd0, hd1, hd2⟩ := RdConds.cells (Hrd1.out.below (Hbj.out.mono (by simp))) hjl
          have Hoc := Lib.hid (Hkr.out.conds r.conds[j] (List.getElem_mem hjl))
          have Hcj := Lib.hid (headC_take hjl)
          obtain ⟨⟨cf, cop, cv⟩, hcj⟩ : ∃ y : TCond, r.conds[j] = y := ⟨_, rfl⟩
          rw [hcj] at hd0 hd1 hd2 Hoc Hcj
          obtain ⟨hf0, hf1, ho0, ho1, hcv0, hcv1⟩ := (show (0 ≤ cf ∧ cf ≤ 4 ∧ 1 ≤ cop ∧ cop ≤ 4 ∧ 0 ≤ cv ∧ cv ≤ 65535) from ⟨Hoc.out.f0, by have h : cf < 5 := Hoc.out.f1; omega, Hoc.out.o0, Hoc.out.o1, Hoc.out.v0, by have h1 := Hoc.out.v1; have : mostOf cf ≤ 65535 := (by unfold mostOf; split <;> (try split) <;> omega); exact Int.le_trans h1 this⟩)
          have hul : u.length ≤ 34000 := by
            rw [Hu.out]
            have h1 := headC_len (r.conds.take j) (fun x hx => Hkr.out.conds x (List.mem_of_mem_take hx))
            rw [List.length_take] at h1
            have h2 := Hkr.out.len
            simp only [List.length_append]; omega
          have hfl := fieldW_len cf
          have hil := Lib.itoa_length_le cv (by omega) (by omega)
          have HX : Hid (∀ W, Cls (wr.heap.size + 1) (wr.alloc (.cells #[.int .i64 cf, .int .i64 cop, .int .i64 cv] 72)) W → (∀ i, W.cell? ⟨wr.heap.size, i, none⟩ = (#[.int .i64 cf, .int .i64 cop, .int .i64 cv] : Array Value)[i]?) ∧ W.cell? ⟨w.heap.size + 1 + 1, cf.toNat, none⟩ = some (.string (bsL (fieldW cf))) ∧ Laid W) := fun W hW =>
            ⟨cells_of (blk_below (heap_last wr (.cells #[.int .i64 cf, .int .i64 cop, .int .i64 cv] 72)) (hW.2.mono (by simp))), ((HWj.out.below ((bel_alloc (Below.refl _ _) _).trans (hW.2.mono (by omega)))).cells2 _).trans (field_cell hf0 hf1), (HLj.out.below ((bel_alloc (Below.refl _ _) _).trans (hW.2.mono (by omega)))).base⟩
          obtain ⟨s1, hs1⟩ : ∃ s1, 32 :: fieldW cf = s1 := ⟨_, rfl⟩
          obtain ⟨s2, hs2⟩ : ∃ s2, s1 ++ [opW cop] = s2 := ⟨_, rfl⟩
          obtain ⟨s3, hs3⟩ : ∃ s3, s2 ++ Lib.itoa cv = s3 := ⟨_, rfl⟩
          obtain ⟨s4, hs4⟩ : ∃ s4, u ++ s3 = s4 := ⟨_, rfl⟩
          have hl1 : s1.length ≤ 5 := by rw [← hs1]; simp; omega
          have hl2 : s2.length ≤ 6 := by rw [← hs2]; simp; omega
          have hl3 : s3.length ≤ 27 := by rw [← hs3]; simp; omega
          have hb1 : ∀ W : World, (Op.stringOp .add ⟨#[32]⟩ (bsL (fieldW cf))).run Tryd.prog W = .ok (.string (bsL s1)) W := fun W => by rw [← hs1]; exact add_bs [32] (fieldW cf) (by simp; omega) W
          have hb2 : ∀ W : World, (Op.stringOp .add (bsL s1) (bsL [opW cop])).run Tryd.prog W = .ok (.string (bsL s2)) W := fun W => by rw [← hs2]; exact add_bs s1 [opW cop] (by simp; omega) W
          have hb3 : ∀ W : World, (Op.stringOp .add (bsL s2) (bsL (Lib.itoa cv))).run Tryd.prog W = .ok (.string (bsL s3)) W := fun W => by rw [← hs3]; exact add_bs s2 (Lib.itoa cv) (by omega) W
          have hb4 : ∀ W : World, (Op.stringOp .add (bsL u) (bsL s3)).run Tryd.prog W = .ok (.string (bsL s4)) W := fun W => by rw [← hs4]; exact add_bs u s3 (by omega) W
          have hsl := fun W => op_slice ho0 ho1 W
          have hf5 : cf < 5 := by omega
          have hfw : IntKind.i64.wrap (cop + 1) = cop + 1 := IntWalk.i64_in _ (by omega)
          have HF : Hid (s4 = t ++ verdictW r.verdict ++ headC (r.conds.take (j + 1))) := by
            show _ = _
            rw [Hcj.out, ← hs4, ← hs3, ← hs2, ← hs1, Hu.out]; unfold condW; simp
          clear hs1 hs2 hs3 hs4 hl1 hl2 hl3
          obtain ⟨wj, rfl⟩ : ∃ wj : World, wj = wr := ⟨_, rfl⟩
          clear hcj
          go_wp2_with fail
          clear hd0 hd1 hd2
          refine wp_region_exact3 (wj.heap.size + 1) (by simp) (by kernel_rfl) (by kernel_rfl) ?_
          repeat (refine monoE_step (fun K hK => ?_); apply Exists.intro; refine ⟨fun W hC R hR => ?_, ?_⟩; (first
            | (have hcc := (HX.out W hC).1; have hcd := (HX.out W hC).2.1; go_simp; exact hR _ _ (Below.refl _ _) rfl)
            | (have hLW := (HX.out W hC).2.2; go_simp; go_at_call 34; refine (itoa_any cv (by omega) (by omega) _ hLW).mono ?_; rintro e w5 ⟨rfl, hb5⟩; exact ⟨_, rfl, hR _ _ hb5 rfl⟩)); (go_simp; refine hK _ ?_; clear hK K))
          intro w5 hC5
          have Hb5 := Lib.hid (Hbj.out.trans (((bel_alloc (Below.refl wj.heap.size wj) (.cells #[.int .i64 cf, .int .i64 cop, .int .i64 cv] 72)).mono hszj).trans (hC5.2.mono (by omega))))
          clear hC5 hb1 hb2 hb3 hb4 hsl
          go_wp2
          go_roundw
          case rel => exact ⟨j + 1, _, by go_num, rfl, HF.out, by omega, Hb5.out⟩
          case measure => simp [intOf]; omega
        · obtain rfl : j = r.conds.length := by omega
          have hul : u.length ≤ 34000 := by
            rw [Hu.out, List.take_length]
            have h1 := headC_len r.conds Hkr.out.conds
            have h2 := Hkr.out.len
            simp only [List.length_append]; omega
          have ha2 : ∀ W : World, (Op.stringOp .add (bsL u) ⟨#[59]⟩).run Tryd.prog W = .ok (.string (bsL (u ++ [59]))) W := fun W => add_bs u [59] (by simp; omega) W
          have HF : Hid (u ++ [59] = headP (p.rules.take (k + 1))) := by
            show _ = _
            rw [Htk.out, Hu.out, List.take_length, Ht.out]; unfold ruleW headC; simp
          have HB3 := Lib.hid (Hbo1.out.trans (Hbj.out.mono (by omega)))
          go_wp2
          go_roundw
          case rel => exact ⟨k + 1, _, by go_num, rfl, HF.out, by omega, HB3.out⟩
          case measure => simp [intOf]; omega
    · obtain rfl : k = p.rules.length := by omega
      have htl : t.length ≤ 33600 := by
        rw [Ht.out, List.take_length]
        have := headP_len p.rules Hok.out.rules
        have := Hok.out.len
        omega
      have hvl := verdictW_len p.dflt
      have hd0 := Hok.out.d0
      have hd1 := Hok.out.d1
      have ha1 := fun W => add_bs (P := Tryd.prog) t (verdictW p.dflt) (by omega) W
      have hc0 := HWr.out.cells0
      have hvc : wr.cell? ⟨w.heap.size + 1, p.dflt.toNat, none⟩ = some (.string (bsL (verdictW p.dflt))) := (HWr.out.cells1 _).trans (verdict_cell hd0 hd1)
      have HF : Hid (t ++ verdictW p.dflt = textP p) := by
        show _ = _
        rw [Ht.out, List.take_length]; rfl
      have HBf := Lib.hid HWr.out.bel
      go_wp2
      go_ret
      exact ⟨by rw [HF.out]; rfl, HBf.out⟩
end Go.Proofs.YthkgjohhbdipcaaDoor
namespace Go.Proofs.YthkgjohhbdipcaaDoor
open Go.RowKit

theorem cell5 (x : TCall) (k : Nat) (h : k < 5) : (#[Value.int .i64 x.a0, .int .i64 x.a1, .int .i64 x.a2, .int .i64 x.a3, .int .i64 x.a4] : Array Value)[k]? = some (.int .i64 (x.get k)) := by
  match k, h with
  | 0, _ => rfl
  | 1, _ => rfl
  | 2, _ => rfl
  | 3, _ => rfl
  | 4, _ => rfl

theorem most_any (k : Int) (w : World) : Calls Tryd.prog 70 #[.int .i64 k] w fun e w' => e = .returned (.int .i64 (mostOf k)) ∧ w = w' := by
  by_cases h0 : k = 0
  · have b0 : (k == 0) = true := by simpa using h0
    have e : mostOf k = 63 := by simp [mostOf, h0]
    rw [e]; clear h0 e
    go_enter Tryd.func70, Tryd.ntmps70
    go_wp2
    go_ret
    exact ⟨rfl, rfl⟩
  · have b0 : (k == 0) = false := by simpa using h0
    by_cases h1 : k = 1
    · have b1 : (k == 1) = true := by simpa using h1
      have e : mostOf k = 3 := by simp [mostOf, h1]
      rw [e]; clear h0 h1 e
      go_enter Tryd.func70, Tryd.ntmps70
      go_wp2
      go_ret
      exact ⟨rfl, rfl⟩
    · have b1 : (k == 1) = false := by simpa using h1
      have e : mostOf k = 65535 := by simp [mostOf, h0, h1]
      rw [e]; clear h0 h1 e
      go_enter Tryd.func70, Tryd.ntmps70
      go_wp2
      go_ret
      exact ⟨rfl, rfl⟩

/-- how many of the first k fields are right, as a loop's word. -/
def okTo (x : TCall) (k : Nat) : Prop := ∀ j : Nat, j < k → 0 ≤ x.get j ∧ x.get j ≤ mostOf j
theorem okTo_all {x : TCall} (h : okTo x 5) : callE x = 0 := if_pos (TCall.ok_of h)
theorem okTo_not {x : TCall} {k : Nat} (hk : k < 5) (h : ¬ (0 ≤ x.get k ∧ x.get k ≤ mostOf k)) : callE x = 3 := if_neg fun hx => h (TCall.ok_get hx hk)

def inB (n a b : Int) : Bool := decide (a ≤ n ∧ n ≤ b)
theorem inB_yes {n a b : Int} (h : a ≤ n) (h' : n ≤ b) : inB n a b = true := by simp [inB, h, h']
theorem inB_no {n a b : Int} (h : ¬ (a ≤ n ∧ n ≤ b)) : inB n a b = false := by unfold inB; exact decide_eq_false h
theorem in_any (n a b : Int) (w : World) : Calls Tryd.prog 53 #[.int .i64 n, .int .i64 a, .int .i64 b] w fun e w' => e = .returned (.bool (inB n a b)) ∧ w = w' := by
  go_enter Tryd.func53, Tryd.ntmps53
  go_wp2
  all_goals go_ret
  all_goals refine ⟨ret_bool ?_, rfl⟩
  · rename_i h1; simp [inB, h1]
  · rename_i h1; have h2 : ¬ a ≤ n := by omega
    simp [inB, h2]
def mostMap : Array MapEntry := #[⟨.int .i64 0, .int .i64 63, 0⟩, ⟨.int .i64 1, .int .i64 3, 1⟩]
theorem most_find0 : Instr.findNow (.int .i64) (.int .i64 0) mostMap.toList 0 = some (some (0, .int .i64 63)) := rfl
theorem most_find1 : Instr.findNow (.int .i64) (.int .i64 1) mostMap.toList 0 = some (some (1, .int .i64 3)) := rfl
theorem most_find2 {k : Int} (h0 : k ≠ 0) (h1 : k ≠ 1) : Instr.findNow (.int .i64) (.int .i64 k) mostMap.toList 0 = some none := by
  have b0 : (k == 0) = false := beq_eq_false_iff_ne.2 h0
  have b1 : (k == 1) = false := beq_eq_false_iff_ne.2 h1
  simp [mostMap, Instr.findNow, Instr.sameNow, b0, b1]
theorem mostof_find (k : Int) : ∃ f, Instr.findNow (.int .i64) (.int .i64 k) mostMap.toList 0 = some f ∧ ((f = none ∧ mostOf k = 65535) ∨ ∃ j, f = some (j, .int .i64 (mostOf k))) := by
  by_cases h0 : k = 0
  · subst h0; exact ⟨_, most_find0, .inr ⟨_, rfl⟩⟩
  · by_cases h1 : k = 1
    · subst h1; exact ⟨_, most_find1, .inr ⟨_, rfl⟩⟩
    · exact ⟨_, most_find2 h0 h1, .inl ⟨rfl, by simp [mostOf, h0, h1]⟩⟩

theorem mostof_any (k : Int) (w : World) : Calls Tryd.prog 54 #[.int .i64 k] w fun e w' => e = .returned (.int .i64 (mostOf k)) ∧ Below w.heap.size w w' := by
  have hmm := @run_makeMap Tryd.prog
  have h1 := run_insert_new (P := Tryd.prog) (w := w) (t := 108) (es := #[]) (c := 0) (key := .int .i64 0) (v := .int .i64 63) Tryd.underlying108 Tryd.underlying3 rfl rfl
  have h2 := run_insert_new (P := Tryd.prog) (w := w) (t := 108) (es := #[⟨.int .i64 0, .int .i64 63, 0⟩]) (c := 1) (key := .int .i64 1) (v := .int .i64 3) Tryd.underlying108 Tryd.underlying3 rfl rfl
  have hz : (zeroValue 3).run Tryd.prog (w.alloc (.map mostMap 2)) = .ok (.int .i64 0) (w.alloc (.map mostMap 2)) := by kernel_rfl
  simp only [List.push_toArray, List.nil_append, List.cons_append, Nat.reduceAdd] at h1 h2
  obtain ⟨f, hf, hv⟩ := mostof_find k
  have h3 := run_lookup_ok (key := .int .i64 k) (t := 108) Tryd.underlying108 Tryd.underlying3 (heap_last w (.map mostMap 2)) hz rfl hf
  unfold mostMap at h3
  clear hz hf
  rcases hv with ⟨rfl, hv⟩ | ⟨j, rfl⟩
  · rw [hv]; clear hv
    simp only [Option.map_none, Option.getD_none, Option.isSome_none] at h3
    go_enter Tryd.func54, Tryd.ntmps54
    go_wp2
    go_ret
    exact ⟨rfl, bel_alloc (Below.refl _ _) _⟩
  · simp only [Option.map_some, Option.getD_some, Option.isSome_some] at h3
    go_enter Tryd.func54, Tryd.ntmps54
    go_wp2
    go_ret
    exact ⟨rfl, bel_alloc (Below.refl _ _) _⟩
end Go.Proofs.YthkgjohhbdipcaaDoor
namespace Go.Proofs.YthkgjohhbdipcaaDoor
open Go.RowKit
attribute [local go_sem] gives givesUpon

set_option maxHeartbeats 2000000 in
theorem cond_any (c : TCond) (w : World) : Calls Tryd.prog 58 #[.agg #[.int .i64 c.f, .int .i64 c.op, .int .i64 c.v]] w fun e w' => e = .returned (.int .i64 (condE c)) ∧ Below w.heap.size w w' := by
  obtain ⟨f, op, v⟩ := c
  dsimp only
  by_cases h1 : f < 0 ∨ 5 ≤ f
  · have he : condE ⟨f, op, v⟩ = 5 := by unfold condE; rw [if_pos h1]
    rw [he]; clear he
    rcases h1 with h1 | h1
    · go_enter Tryd.func58, Tryd.ntmps58
      go_wp2
      go_ret
      exact ⟨rfl, bel_alloc (Below.refl _ _) _⟩
    · have h0 : ¬ f < 0 := by omega
      go_enter Tryd.func58, Tryd.ntmps58
      go_wp2
      go_ret
      exact ⟨rfl, bel_alloc (Below.refl _ _) _⟩
  · by_cases h2 : op < 1 ∨ 4 < op
    · have he : condE ⟨f, op, v⟩ = 4 := by unfold condE; rw [if_neg h1, if_pos h2]
      rw [he]; clear he
      have g0 : ¬ f < 0 := by omega
      have g1 : ¬ 5 ≤ f := by omega
      clear h1
      rcases h2 with h2 | h2
      · go_enter Tryd.func58, Tryd.ntmps58
        go_wp2
        go_ret
        exact ⟨rfl, bel_alloc (Below.refl _ _) _⟩
      · have h0 : ¬ op < 1 := by omega
        go_enter Tryd.func58, Tryd.ntmps58
        go_wp2
        go_ret
        exact ⟨rfl, bel_alloc (Below.refl _ _) _⟩
    · have g0 : ¬ f < 0 := by omega
      have g1 : ¬ 5 ≤ f := by omega
      have g2 : ¬ op < 1 := by omega
      have g3 : ¬ 4 < op := by omega
      have hc : ∀ W, Cls (w.heap.size + 1) (w.alloc (.cells #[.int .i64 f, .int .i64 op, .int .i64 v] 72)) W → ∀ j : Nat, W.cell? ⟨w.heap.size, j, none⟩ = (#[Value.int .i64 f, .int .i64 op, .int .i64 v] : Array Value)[j]? := fun W hW j => box_cells hW.2 j
      have Hc := Lib.hid hc
      have He : Hid (condE ⟨f, op, v⟩ = if v < 0 ∨ mostOf f < v then 3 else 0) := by show condE _ = _; unfold condE; rw [if_neg h1, if_neg h2]
      clear hc h1 h2
      by_cases h3 : v < 0
      · have hv : decide (v < 0) = true := decide_eq_true h3
        rw [He.out, if_pos (.inl h3)]
        go_enter Tryd.func58, Tryd.ntmps58
        go_wp2_with fail
        refine wp_region_exact (w.heap.size + 1) (by simp) (by kernel_rfl) (by kernel_rfl) ?_
        repeat (refine monoE_step (fun K hK => ?_); apply Exists.intro; refine ⟨fun W hC R hR => ?_, ?_⟩; (have hcell := Hc.out W hC; go_simp; exact hR _ _ (Below.refl _ _) rfl); (go_simp; refine hK _ ?_; clear hK K))
        intro w2 hC2
        go_wp2
        go_ret
        exact ⟨rfl, bel_box hC2.2⟩
      · have hv : decide (v < 0) = false := decide_eq_false h3
        by_cases h4 : mostOf f < v
        · have hv4 : decide (mostOf f < v) = true := decide_eq_true h4
          rw [He.out, if_pos (.inr h4)]
          go_enter Tryd.func58, Tryd.ntmps58
          go_wp2_with fail
          refine wp_region_exact (w.heap.size + 1) (by simp) (by kernel_rfl) (by kernel_rfl) ?_
          repeat (refine monoE_step (fun K hK => ?_); apply Exists.intro; refine ⟨fun W hC R hR => ?_, ?_⟩; (first
            | (have hcell := Hc.out W hC; go_simp; refine hR _ _ (Below.refl _ _) rfl)
            | (go_simp; go_at_call 70; refine (most_any _ _).mono ?_; rintro e w1 ⟨rfl, rfl⟩; exact ⟨_, rfl, hR _ _ (Below.refl _ _) rfl⟩)); (go_simp; refine hK _ ?_; clear hK K))
          intro w2 hC2
          go_wp2
          go_ret
          exact ⟨rfl, bel_box hC2.2⟩
        · have hv4 : decide (mostOf f < v) = false := decide_eq_false h4
          rw [He.out, if_neg (by omega)]
          go_enter Tryd.func58, Tryd.ntmps58
          go_wp2_with fail
          refine wp_region_exact (w.heap.size + 1) (by simp) (by kernel_rfl) (by kernel_rfl) ?_
          repeat (refine monoE_step (fun K hK => ?_); apply Exists.intro; refine ⟨fun W hC R hR => ?_, ?_⟩; (first
            | (have hcell := Hc.out W hC; go_simp; refine hR _ _ (Below.refl _ _) rfl)
            | (go_simp; go_at_call 70; refine (most_any _ _).mono ?_; rintro e w1 ⟨rfl, rfl⟩; exact ⟨_, rfl, hR _ _ (Below.refl _ _) rfl⟩)); (go_simp; refine hK _ ?_; clear hK K))
          intro w2 hC2
          go_wp2
          go_ret
          exact ⟨rfl, bel_box hC2.2⟩
end Go.Proofs.YthkgjohhbdipcaaDoor
namespace Go.Proofs.YthkgjohhbdipcaaDoor
open Go.RowKit

set_option maxHeartbeats 4000000 in
theorem polcheck_any (v : Value) (p : TPol) (D : Nat → Prop) (w : World) (h : RdRules w D v p.rules) : Calls Tryd.prog 29 #[polV v p.dflt] w fun e w' => e = .returned (.int .i64 (polE p)) ∧ Below w.heap.size w w' := by
  obtain ⟨rs, d⟩ := p
  dsimp only at h ⊢
  obtain ⟨a, c, rfl, hlc, hcm, hat⟩ := Sl.form h
  have H := Lib.hid h
  clear h
  by_cases h1 : 120 < rs.length
  · have he : polE ⟨rs, d⟩ = 2 := by unfold polE; rw [if_pos h1]
    have hz : 120 < (rs.length : Int) := by omega
    rw [he]; clear he h1 hat H
    go_enter Tryd.func29, Tryd.ntmps29
    go_wp2
    go_ret
    exact ⟨rfl, bel_alloc (Below.refl _ _) _⟩
  · have hz : ¬ 120 < (rs.length : Int) := by omega
    by_cases h2 : d < 0 ∨ 4 < d
    · have he : polE ⟨rs, d⟩ = 3 := by unfold polE; rw [if_neg h1, if_pos h2]
      rw [he]; clear he hat H h1
      rcases h2 with h2 | h2
      · go_enter Tryd.func29, Tryd.ntmps29
        go_wp2
        go_ret
        exact ⟨rfl, bel_alloc (Below.refl _ _) _⟩
      · have h0 : ¬ d < 0 := by omega
        go_enter Tryd.func29, Tryd.ntmps29
        go_wp2
        go_ret
        exact ⟨rfl, bel_alloc (Below.refl _ _) _⟩
    · have g0 : ¬ d < 0 := by omega
      have g1 : ¬ 4 < d := by omega
      have He := Lib.hid (show polE ⟨rs, d⟩ = rulesGo rs by unfold polE; rw [if_neg h1, if_neg h2])
      clear h1 h2
      go_enter Tryd.func29, Tryd.ntmps29
      go_wp2_with fail
      go_loopw [23] (fun i wr => ∃ k : Nat, k ≤ rs.length ∧ i = .int .i64 k ∧ rulesGo rs = rulesGo (rs.drop k) ∧ Below w.heap.size w wr) (fun i _ => rs.length - (intOf i).toNat)
      case atStart => exact ⟨0, by omega, rfl, rfl, bel_alloc (Below.refl _ _) _⟩
      case round =>
        obtain ⟨k, hk, rfl, hgo, hbw⟩ := hrel
        have Hgo := Lib.hid hgo
        have hsz := hbw.size
        clear hgo
        by_cases hlt : k < rs.length
        · obtain ⟨b, o, rfl, hDb, hb⟩ := hat (by omega)
          obtain ⟨a', c', k0, k1, hr, hlc', hcm', hat'⟩ := RdRules.cells (RdRules.below H.out hbw) hlt
          have Hr := Lib.hid hr
          have bad : ∀ e : Int, ruleE rs[k] = e → e ≠ 0 → ∀ wz, Below w.heap.size w wz → Ending.returned (.int .i64 e) = .returned (.int .i64 (polE ⟨rs, d⟩)) ∧ Below w.heap.size w wz := fun e he h0 wz hz => by
            refine ⟨ret_int ?_, hz⟩
            rw [He.out, Hgo.out, rulesGo_drop rs k hlt, he, if_neg h0]
          have good : ruleE rs[k] = 0 → rulesGo rs = rulesGo (rs.drop (k + 1)) := fun he => by rw [Hgo.out, rulesGo_drop rs k hlt, if_pos he]
          have Hbad := Lib.hid bad
          have Hgood := Lib.hid good
          clear bad good hr
          generalize hX : rs[k] = X at *
          clear hX
          obtain ⟨cs, vd⟩ := X
          dsimp only at k0 k1 hlc' hat'
          have Hr' : Hid (RdConds wr D (.slice a' cs.length c') cs) := Hr
          clear Hr
          by_cases h3 : 10 < cs.length
          · have Hb := Lib.hid (Hbad.out 2 (by unfold ruleE; rw [if_pos h3]) (by decide))
            have hz3 : 10 < (cs.length : Int) := by omega
            clear Hbad Hgood hat' h3
            go_wp2
            go_ret
            exact Hb.out _ (bel_alloc hbw _)
          · have hz3 : ¬ 10 < (cs.length : Int) := by omega
            by_cases h4 : vd < 0 ∨ 4 < vd
            · have Hb := Lib.hid (Hbad.out 3 (by unfold ruleE; rw [if_neg h3, if_pos h4]) (by decide))
              clear Hbad Hgood hat' h3
              rcases h4 with h4 | h4
              · go_wp2
                go_ret
                exact Hb.out _ (bel_alloc hbw _)
              · have h40 : ¬ vd < 0 := by omega
                go_wp2
                go_ret
                exact Hb.out _ (bel_alloc hbw _)
            · have g3 : ¬ vd < 0 := by omega
              have g4 : ¬ 4 < vd := by omega
              have Hre := Lib.hid (show ruleE ⟨cs, vd⟩ = condsGo cs by unfold ruleE; rw [if_neg h3, if_neg h4])
              clear h3 h4
              go_wp2_with fail
              go_loopw [42] (fun i wi => ∃ j : Nat, j ≤ cs.length ∧ i = .int .i64 j ∧ condsGo cs = condsGo (cs.drop j) ∧ Below w.heap.size w wi ∧ Below wr.heap.size wr wi) (fun i _ => cs.length - (intOf i).toNat)
              case atStart => exact ⟨0, by omega, rfl, rfl, bel_alloc hbw _, bel_alloc (Below.refl _ _) _⟩
              case round =>
                obtain ⟨j, hj, rfl, hgo, hbi, hbi'⟩ := hrel
                have Hgi := Lib.hid hgo
                have hszi := hbi.size
                clear hgo
                by_cases hlj : j < cs.length
                · obtain ⟨b', o', rfl, hDb', hb'⟩ := hat' (by omega)
                  obtain ⟨c0, c1, c2⟩ := RdConds.cells (RdConds.below Hr'.out hbi') hlj
                  have Hd := Lib.hid (condsGo_drop cs j hlj)
                  go_wp2_with (go_at_call 58; refine (cond_any cs[j] _).mono ?_; rintro e w1 ⟨rfl, hb1⟩)
                  · rename_i ht
                    have ht' := bne_iff_ne.1 ht
                    go_ret
                    exact Hbad.out _ (by rw [Hre.out, Hgi.out, Hd.out, if_neg ht']) ht' _ (bel_alloc_call hbi hb1)
                  · rename_i ht
                    have ht' := bne_eq_false_iff_eq.1 ht
                    go_roundw
                    case rel => exact ⟨j + 1, by omega, by go_num, by rw [Hgi.out, Hd.out, if_pos ht'], bel_alloc_call hbi hb1, bel_alloc_call hbi' hb1⟩
                    case measure => simp [intOf]; omega
                · obtain rfl : j = cs.length := by omega
                  have Hg := Lib.hid (Hgood.out (by rw [Hre.out, Hgi.out, List.drop_length]; rfl))
                  go_wp2
                  go_roundw
                  case rel => exact ⟨k + 1, by omega, by go_num, Hg.out, hbi⟩
                  case measure => simp [intOf]; omega
        · obtain rfl : k = rs.length := by omega
          go_wp2
          go_ret
          exact ⟨ret_int (by rw [He.out, Hgo.out, List.drop_length]; rfl), hbw⟩
end Go.Proofs.YthkgjohhbdipcaaDoor
