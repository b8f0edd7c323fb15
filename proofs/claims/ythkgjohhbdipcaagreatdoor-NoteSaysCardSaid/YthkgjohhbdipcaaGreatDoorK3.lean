/- Texts laid one behind the other: PolRd, Bx, PText, SplitN, ReadMaps, Call, Policy, RPolCheck, App, ReadSt. No condition beyond theirs. -/
import Derived.Test.YthkgjohhbdipcaaGreatDoorK2
import Derived.Test.YthkgjohhbdipcaaGreatDoorK1
import Derived.Lib.ItoaLen
import Derived.Test.YthkgjohhbdipcaaGreatDoorProg
import Derived.KernelRfl
import Derived.Deep.AppendLies
import Derived.Laws.ResultCell
set_option linter.all false
namespace Go.Proofs.YthkgjohhbdipcaaGreatDoor
open Go.RowKit

def condR (x : TCond) (cs : List Value) : Prop := cs = [.int .i64 x.f, .int .i64 x.op, .int .i64 x.v]
def RdConds (w : World) (D : Nat → Prop) (v : Value) (l : List TCond) : Prop := Sl w D 3 condR v l
theorem RdConds.keep {w w' : World} {D D' : Nat → Prop} {v : Value} {l : List TCond} (h : RdConds w D v l) (hD : ∀ b, D b → b < w.heap.size → D' b)
    (hw : ∀ b, D b → b < w.heap.size → w'.heap[b]? = w.heap[b]?) (hs : w.heap.size ≤ w'.heap.size) : RdConds w' D' v l := Sl.mono h hD hw hs (fun _ _ _ h => h)
theorem RdConds.below {w w' : World} {D : Nat → Prop} {v : Value} {l : List TCond} (h : RdConds w D v l) (hb : Below w.heap.size w w') : RdConds w' D v l :=
  h.keep (fun _ h _ => h) (fun b _ hlt => hb.block b hlt) hb.size
theorem RdConds.cells {w : World} {D : Nat → Prop} {b o n c : Nat} {s : Option Nat} {l : List TCond} (h : RdConds w D (.slice (some ⟨b, o, s⟩) n c) l) {i : Nat} (hi : i < l.length) :
    w.cell? ⟨b, o + i * 3, none⟩ = some (.int .i64 l[i].f) ∧ w.cell? ⟨b, o + i * 3 + 1, none⟩ = some (.int .i64 l[i].op) ∧ w.cell? ⟨b, o + i * 3 + 2, none⟩ = some (.int .i64 l[i].v) := by
  obtain ⟨cs, hcs, hr, hcell⟩ := Sl.get h hi
  unfold condR at hr
  subst hr
  exact ⟨hcell 0 _ rfl, hcell 1 _ rfl, hcell 2 _ rfl⟩

def ruleR (w : World) (D : Nat → Prop) (r : TRule) (cs : List Value) : Prop := ∃ v, cs = [v, .int .i64 r.verdict] ∧ RdConds w D v r.conds
def RdRules (w : World) (D : Nat → Prop) (v : Value) (l : List TRule) : Prop := Sl w D 2 (ruleR w D) v l
theorem RdRules.keep {w w' : World} {D D' : Nat → Prop} {v : Value} {l : List TRule} (h : RdRules w D v l) (hD : ∀ b, D b → b < w.heap.size → D' b)
    (hw : ∀ b, D b → b < w.heap.size → w'.heap[b]? = w.heap[b]?) (hs : w.heap.size ≤ w'.heap.size) : RdRules w' D' v l :=
  Sl.mono h hD hw hs (fun _ _ _ ⟨u, h1, h2⟩ => ⟨u, h1, h2.keep hD hw hs⟩)
theorem RdRules.below {w w' : World} {D : Nat → Prop} {v : Value} {l : List TRule} (h : RdRules w D v l) (hb : Below w.heap.size w w') : RdRules w' D v l :=
  h.keep (fun _ h _ => h) (fun b _ hlt => hb.block b hlt) hb.size
theorem RdRules.cells {w : World} {D : Nat → Prop} {b o n c : Nat} {s : Option Nat} {l : List TRule} (h : RdRules w D (.slice (some ⟨b, o, s⟩) n c) l) {i : Nat} (hi : i < l.length) :
    ∃ (a' : Option Addr) (c' : Nat), w.cell? ⟨b, o + i * 2, none⟩ = some (.slice a' l[i].conds.length c') ∧ w.cell? ⟨b, o + i * 2 + 1, none⟩ = some (.int .i64 l[i].verdict) ∧ RdConds w D (.slice a' l[i].conds.length c') l[i].conds ∧
      l[i].conds.length ≤ c' ∧ c' ≤ 9223372036854775807 ∧ (0 < l[i].conds.length → ∃ b o, a' = some ⟨b, o, none⟩ ∧ D b ∧ b < w.heap.size) := by
  obtain ⟨cs, hcs, ⟨u, hu, hr⟩, hcell⟩ := Sl.get h hi
  obtain ⟨a', c', hv, h1, h2, h3⟩ := Sl.form hr
  subst hu hv
  exact ⟨a', c', hcell 0 _ rfl, hcell 1 _ rfl, hr, h1, h2, h3⟩
theorem rules_true {w : World} {D : Nat → Prop} {v : Value} {l : List TRule} (h : RdRules w D v l) : RdRules w (fun _ => True) v l := h.keep (fun _ _ _ => trivial) (fun _ _ _ => rfl) (Nat.le_refl _)
/-- a policy as a value. -/
@[reducible] def polV (v : Value) (d : Int) : Value := .agg #[v, .int .i64 d]
def polR (w : World) (D : Nat → Prop) (p : TPol) (cs : List Value) : Prop := ∃ v, cs = [v, .int .i64 p.dflt] ∧ RdRules w D v p.rules
def RdPols (w : World) (D : Nat → Prop) (v : Value) (l : List TPol) : Prop := Sl w D 2 (polR w D) v l
theorem RdPols.below {w w' : World} {D : Nat → Prop} {v : Value} {l : List TPol} (h : RdPols w D v l) (hb : Below w.heap.size w w') : RdPols w' D v l :=
  Sl.mono h (fun _ h _ => h) (fun b _ hlt => hb.block b hlt) hb.size (fun _ _ _ ⟨u, h1, h2⟩ => ⟨u, h1, h2.below hb⟩)
end Go.Proofs.YthkgjohhbdipcaaGreatDoor
namespace Go.Proofs.YthkgjohhbdipcaaGreatDoor
open Go.RowKit

/-- W is w with these blocks behind it, and more behind those. -/
structure Bx (w : World) (bs : List Obj) (W : World) : Prop where
  bel : Below w.heap.size w W
  at_ : ∀ (i : Nat) (o : Obj), bs[i]? = some o → W.heap[w.heap.size + i]? = some o
section
variable {w W W' : World} {bs : List Obj}
theorem Bx.nil : Bx w [] w := ⟨Below.refl _ _, fun i o h => by simp at h⟩
theorem Bx.push (h : Bx w bs W) (hs : W.heap.size = w.heap.size + bs.length) (o : Obj) : Bx w (bs ++ [o]) (W.alloc o) := by
  refine ⟨bel_alloc h.bel o, fun i x hx => ?_⟩
  rw [List.getElem?_append] at hx
  split at hx
  · exact blk_old (h.at_ i x hx)
  · rename_i hge
    have hi : i - bs.length = 0 := by
      have := (List.getElem?_eq_some_iff.1 hx).1
      simp at this; exact this
    rw [hi] at hx
    simp at hx
    subst hx
    exact blk_at (by omega)
theorem Bx.two {o o' : Obj} : Bx w [o, o'] ((w.alloc o).alloc o') := (Bx.nil.push (by simp) o).push (by simp) o'
theorem Bx.one {o : Obj} : Bx w [o] (w.alloc o) := Bx.nil.push (by simp) o
theorem Bx.three {o o' o2 : Obj} : Bx w [o, o', o2] (((w.alloc o).alloc o').alloc o2) := Bx.two.push (by simp) o2
theorem Bx.below (h : Bx w bs W) (hb : Below W.heap.size W W') : Bx w bs W' := ⟨bel_call h.bel hb, fun i o ho => blk_below (h.at_ i o ho) hb⟩
theorem Bx.alloc (h : Bx w bs W) (o : Obj) : Bx w bs (W.alloc o) := h.below (bel_alloc (Below.refl _ _) o)
theorem Bx.lift {B : Nat} (h : Bx w bs W) (hb : Below B W W') (hB : w.heap.size + bs.length ≤ B) : Bx w bs W' := ⟨h.bel.trans (hb.mono (by omega)), fun i o ho => (hb.block _ (by have := (List.getElem?_eq_some_iff.1 ho).1; omega)).trans (h.at_ i o ho)⟩
theorem Bx.top (h : Bx w bs W) : w.heap.size + bs.length ≤ W.heap.size := by
  rcases Nat.eq_zero_or_pos bs.length with h0 | h0
  · have := h.bel.size; omega
  · have hl : bs.length - 1 < bs.length := by omega
    have := (Array.getElem?_eq_some_iff.1 (h.at_ (bs.length - 1) _ (List.getElem?_eq_getElem hl))).1
    omega
theorem Bx.drew (h : Bx w bs W) : Bx w bs W.drew := h.below (Below.refl _ _).drew
theorem Bx.cells (h : Bx w bs W) {i : Nat} {cs : Array Value} {T : TypeId} (hi : bs[i]? = some (.cells cs T)) (j : Nat) : W.cell? ⟨w.heap.size + i, j, none⟩ = cs[j]? := cells_of (h.at_ i _ hi) j
theorem Bx.free (h : Bx w bs W) {i : Nat} {cs : Array Value} {T : TypeId} (hi : bs[i]? = some (.cells cs T)) (j : Nat) : W.frozen? ⟨w.heap.size + i, j, none⟩ = false := not_frozen (h.at_ i _ hi) j
theorem Bx.cells0 {cs : Array Value} {T : TypeId} {r : List Obj} (h : Bx w (.cells cs T :: r) W) (j : Nat) : W.cell? ⟨w.heap.size, j, none⟩ = cs[j]? := h.cells (i := 0) rfl j
theorem Bx.cells1 {o : Obj} {cs : Array Value} {T : TypeId} {r : List Obj} (h : Bx w (o :: .cells cs T :: r) W) (j : Nat) : W.cell? ⟨w.heap.size + 1, j, none⟩ = cs[j]? := h.cells (i := 1) rfl j
theorem Bx.cells2 {o o' : Obj} {cs : Array Value} {T : TypeId} {r : List Obj} (h : Bx w (o :: o' :: .cells cs T :: r) W) (j : Nat) : W.cell? ⟨w.heap.size + 1 + 1, j, none⟩ = cs[j]? := h.cells (i := 2) rfl j
theorem Bx.free0 {cs : Array Value} {T : TypeId} {r : List Obj} (h : Bx w (.cells cs T :: r) W) (j : Nat) : W.frozen? ⟨w.heap.size, j, none⟩ = false := h.free (i := 0) rfl j
theorem Bx.free1 {o : Obj} {cs : Array Value} {T : TypeId} {r : List Obj} (h : Bx w (o :: .cells cs T :: r) W) (j : Nat) : W.frozen? ⟨w.heap.size + 1, j, none⟩ = false := h.free (i := 1) rfl j
theorem Bx.size (h : Bx w bs W) {i : Nat} (hi : i < bs.length) : w.heap.size + i < W.heap.size :=
  (Array.getElem?_eq_some_iff.1 (h.at_ i _ (List.getElem?_eq_getElem hi))).1
theorem Bx.set (h : Bx w bs W) {i : Nat} {cs : Array Value} {T : TypeId} (hi : bs[i]? = some (.cells cs T)) (j : Nat) (v : Value) : Bx w (bs.set i (.cells (cs.setIfInBounds j v) T)) (W.setCell ⟨w.heap.size + i, j, none⟩ v) := by
  refine ⟨set_below h.bel (by show w.heap.size ≤ w.heap.size + i; omega), fun k o ho => ?_⟩
  by_cases e : k = i
  · subst e
    have hlt := (List.getElem?_eq_some_iff.1 hi).1
    rw [List.getElem?_set_self hlt] at ho
    injection ho with ho
    subst ho
    exact set_at (h.at_ k _ hi)
  · rw [List.getElem?_set_ne (Ne.symm e)] at ho
    rw [set_other (by show w.heap.size + k ≠ w.heap.size + i; omega)]
    exact h.at_ k o ho
end
/-- a call's box behind 'x = right(x)'. -/
theorem Bx.setCall0 {w W : World} {x y : TCall} {T : TypeId} {r : List Obj} (h : Bx w (.cells #[.int .i64 x.a0, .int .i64 x.a1, .int .i64 x.a2, .int .i64 x.a3, .int .i64 x.a4] T :: r) W) :
    Bx w (.cells #[.int .i64 y.a0, .int .i64 y.a1, .int .i64 y.a2, .int .i64 y.a3, .int .i64 y.a4] T :: r) (((((W.setCell ⟨w.heap.size, 0, none⟩ (.int .i64 y.a0)).setCell ⟨w.heap.size, 1, none⟩ (.int .i64 y.a1)).setCell ⟨w.heap.size, 2, none⟩ (.int .i64 y.a2)).setCell ⟨w.heap.size, 3, none⟩ (.int .i64 y.a3)).setCell ⟨w.heap.size, 4, none⟩ (.int .i64 y.a4)) :=
  ((((h.set (i := 0) rfl 0 (.int .i64 y.a0)).set (i := 0) rfl 1 (.int .i64 y.a1)).set (i := 0) rfl 2 (.int .i64 y.a2)).set (i := 0) rfl 3 (.int .i64 y.a3)).set (i := 0) rfl 4 (.int .i64 y.a4)
theorem Bx.setCall1 {w W : World} {x y : TCall} {T : TypeId} {o : Obj} {r : List Obj} (h : Bx w (o :: .cells #[.int .i64 x.a0, .int .i64 x.a1, .int .i64 x.a2, .int .i64 x.a3, .int .i64 x.a4] T :: r) W) :
    Bx w (o :: .cells #[.int .i64 y.a0, .int .i64 y.a1, .int .i64 y.a2, .int .i64 y.a3, .int .i64 y.a4] T :: r) (((((W.setCell ⟨w.heap.size + 1, 0, none⟩ (.int .i64 y.a0)).setCell ⟨w.heap.size + 1, 1, none⟩ (.int .i64 y.a1)).setCell ⟨w.heap.size + 1, 2, none⟩ (.int .i64 y.a2)).setCell ⟨w.heap.size + 1, 3, none⟩ (.int .i64 y.a3)).setCell ⟨w.heap.size + 1, 4, none⟩ (.int .i64 y.a4)) :=
  ((((h.set (i := 1) rfl 0 (.int .i64 y.a0)).set (i := 1) rfl 1 (.int .i64 y.a1)).set (i := 1) rfl 2 (.int .i64 y.a2)).set (i := 1) rfl 3 (.int .i64 y.a3)).set (i := 1) rfl 4 (.int .i64 y.a4)
theorem Bx.setCall2 {w W : World} {x y : TCall} {T : TypeId} {o o' : Obj} {r : List Obj} (h : Bx w (o :: o' :: .cells #[.int .i64 x.a0, .int .i64 x.a1, .int .i64 x.a2, .int .i64 x.a3, .int .i64 x.a4] T :: r) W) :
    Bx w (o :: o' :: .cells #[.int .i64 y.a0, .int .i64 y.a1, .int .i64 y.a2, .int .i64 y.a3, .int .i64 y.a4] T :: r) (((((W.setCell ⟨w.heap.size + 1 + 1, 0, none⟩ (.int .i64 y.a0)).setCell ⟨w.heap.size + 1 + 1, 1, none⟩ (.int .i64 y.a1)).setCell ⟨w.heap.size + 1 + 1, 2, none⟩ (.int .i64 y.a2)).setCell ⟨w.heap.size + 1 + 1, 3, none⟩ (.int .i64 y.a3)).setCell ⟨w.heap.size + 1 + 1, 4, none⟩ (.int .i64 y.a4)) :=
  ((((h.set (i := 2) rfl 0 (.int .i64 y.a0)).set (i := 2) rfl 1 (.int .i64 y.a1)).set (i := 2) rfl 2 (.int .i64 y.a2)).set (i := 2) rfl 3 (.int .i64 y.a3)).set (i := 2) rfl 4 (.int .i64 y.a4)
theorem Bx.free2 {o o' : Obj} {cs : Array Value} {T : TypeId} {r : List Obj} {w W : World} (h : Bx w (o :: o' :: .cells cs T :: r) W) (j : Nat) : W.frozen? ⟨w.heap.size + 1 + 1, j, none⟩ = false := h.free (i := 2) rfl j
end Go.Proofs.YthkgjohhbdipcaaGreatDoor
namespace Go.Proofs.YthkgjohhbdipcaaGreatDoor
open Go.RowKit Go.Shelf
attribute [local go_sem] gives givesUpon

structure LaidF (w : World) : Prop where
  base : Laid w
  sp : Lib.TabIs Tryz.prog w "strings.asciiSpace" .u8 Lib.asciiSpaceTab
theorem LaidF.below {w w' : World} (h : LaidF w) (hb : Below w.heap.size w w') : LaidF w' := ⟨h.base.below hb, Go.Joins.tab_stays (g := 0) (by kernel_rfl) h.sp hb (Nat.le_refl _)⟩
def bsL (l : List UInt8) : ByteArray := ⟨l.toArray⟩
theorem itoa_any (n : Int) (h0 : -9223372036854775808 ≤ n) (h1 : n ≤ 9223372036854775807) (w : World) (hL : Laid w) :
    Calls Tryz.prog 65 #[.int .i64 n] w fun e w' => e = .returned (.string (bsL (Lib.itoa n))) ∧ Below w.heap.size w w' :=
  (Tryz.strconv_Itoa n h0 h1 w hL.pow).mono fun _ _ ⟨he, _, _, hw⟩ => ⟨he, below_world hw⟩
theorem verdict_words : Lib.fields [107, 105, 108, 108, 32, 116, 114, 97, 112, 32, 102, 97, 105, 108, 32, 108, 111, 103, 32, 97, 108, 108, 111, 119] = [[107, 105, 108, 108], [116, 114, 97, 112], [102, 97, 105, 108], [108, 111, 103], [97, 108, 108, 111, 119]] := by decide +kernel
theorem field_words : Lib.fields [110, 114, 32, 107, 105, 110, 100, 32, 97, 32, 98, 32, 99] = [[110, 114], [107, 105, 110, 100], [97], [98], [99]] := by decide +kernel

theorem fields_of (l : List UInt8) (ws : List (List UInt8)) (h0 : (l.all fun b => decide (b.toNat < 128)) = true) (h1 : l.length < 4294967281) (hf : Lib.fields l = ws) (w : World) (ht : Lib.TabIs Tryz.prog w "strings.asciiSpace" .u8 Lib.asciiSpaceTab) :
    Calls Tryz.prog 113 #[.string ⟨l.toArray⟩] w fun e w' => e = .returned (.slice (some ⟨w.heap.size, 0, none⟩) ws.length ws.length) ∧ w' = w.alloc (.cells (ws.map fun l => Value.string (bsL l)).toArray 9) := by
  subst hf
  exact Tryz.strings_Fields ⟨l.toArray⟩ w h1 (fun j b hb => of_decide_eq_true (List.all_eq_true.1 h0 b (List.mem_of_getElem? hb))) ht
theorem bsL_app (l m : List UInt8) : bsL l ++ bsL m = bsL (l ++ m) := by
  unfold bsL
  apply ByteArray.ext
  simp [ByteArray.data_append]
/-- the words in their blocks. -/
theorem verdict_cell {v : Int} (h0 : 0 ≤ v) (h1 : v ≤ 4) : (#[Value.string (bsL [107, 105, 108, 108]), .string (bsL [116, 114, 97, 112]), .string (bsL [102, 97, 105, 108]), .string (bsL [108, 111, 103]), .string (bsL [97, 108, 108, 111, 119])] : Array Value)[v.toNat]? = some (.string (bsL (verdictW v))) := by
  rcases (by omega : v = 0 ∨ v = 1 ∨ v = 2 ∨ v = 3 ∨ v = 4) with rfl | rfl | rfl | rfl | rfl <;> rfl
theorem field_cell {v : Int} (h0 : 0 ≤ v) (h1 : v ≤ 4) : (#[Value.string (bsL [110, 114]), .string (bsL [107, 105, 110, 100]), .string (bsL [97]), .string (bsL [98]), .string (bsL [99])] : Array Value)[v.toNat]? = some (.string (bsL (fieldW v))) := by
  rcases (by omega : v = 0 ∨ v = 1 ∨ v = 2 ∨ v = 3 ∨ v = 4) with rfl | rfl | rfl | rfl | rfl <;> rfl
theorem add_bs {P : Program} (x y : List UInt8) (h : x.length + y.length ≤ 1000000) (W : World) : (Op.stringOp .add (bsL x) (bsL y)).run P W = .ok (.string (bsL (x ++ y))) W := by
  rw [run_string_add_sum W (bsL x) (bsL y) (by show x.toArray.size + y.toArray.size ≤ _; simp; omega), bsL_app]
theorem op_slice {o : Int} (h0 : 1 ≤ o) (h1 : o ≤ 4) (W : World) : (Instr.slice 9 (.string ⟨#[63, 61, 33, 60, 62]⟩) (some (.int .i64 o)) (some (.int .i64 (o + 1))) none).run Tryz.prog W = .ok (.string (bsL [opW o])) W := by
  rcases (by omega : o = 1 ∨ o = 2 ∨ o = 3 ∨ o = 4) with rfl | rfl | rfl | rfl <;> kernel_rfl
def headP (l : List TRule) : List UInt8 := l.flatMap fun r => ruleW r ++ [59]
theorem headP_take {l : List TRule} {k : Nat} (h : k < l.length) : headP (l.take (k + 1)) = headP (l.take k) ++ (ruleW l[k] ++ [59]) := by
  unfold headP
  rw [List.take_succ_eq_append_getElem h, List.flatMap_append]; simp
def headC (l : List TCond) : List UInt8 := l.flatMap fun c => 32 :: condW c
theorem headC_take {l : List TCond} {k : Nat} (h : k < l.length) : headC (l.take (k + 1)) = headC (l.take k) ++ 32 :: condW l[k] := by
  unfold headC
  rw [List.take_succ_eq_append_getElem h, List.flatMap_append]; simp

theorem verdictW_len (v : Int) : (verdictW v).length ≤ 5 := by unfold verdictW; split <;> (try split) <;> (try split) <;> (try split) <;> simp
theorem fieldW_len (v : Int) : (fieldW v).length ≤ 4 := by unfold fieldW; split <;> (try split) <;> (try split) <;> (try split) <;> simp
theorem condW_len {c : TCond} (h : OkCond c) : (32 :: condW c).length ≤ 27 := by
  have h1 := fieldW_len c.f
  have h2 := Lib.itoa_length_le c.v (by have := h.v0; omega) (by have := h.v1; have : mostOf c.f ≤ 65535 := (by unfold mostOf; split <;> (try split) <;> omega); omega)
  unfold condW
  simp only [List.length_cons, List.length_append]; omega
theorem headC_len : ∀ (l : List TCond), (∀ c ∈ l, OkCond c) → (headC l).length ≤ 27 * l.length
  | [], _ => by simp [headC]
  | c :: l, h => by
    have h1 := condW_len (h c (List.mem_cons_self ..))
    have h2 := headC_len l (fun x hx => h x (List.mem_cons_of_mem _ hx))
    unfold headC at h2 ⊢
    rw [List.flatMap_cons, List.length_append]
    have h3 : (c :: l).length = l.length + 1 := rfl
    omega
theorem ruleW_len {r : TRule} (h : OkRule r) : (ruleW r ++ [59]).length ≤ 280 := by
  have h1 := headC_len r.conds h.conds
  have h2 := verdictW_len r.verdict
  have h3 := h.len
  unfold headC at h1
  unfold ruleW
  simp only [List.length_append, List.length_singleton]; omega
theorem headP_len : ∀ (l : List TRule), (∀ r ∈ l, OkRule r) → (headP l).length ≤ 280 * l.length
  | [], _ => by simp [headP]
  | r :: l, h => by
    have h1 := ruleW_len (h r (List.mem_cons_self ..))
    have h2 := headP_len l (fun x hx => h x (List.mem_cons_of_mem _ hx))
    unfold headP at h2 ⊢
    rw [List.flatMap_cons, List.length_append, List.length_cons]; omega
attribute [-go_sem] run_string_add_if run_slice_string_if run_slice_string
set_option maxRecDepth 100000 in
set_option maxHeartbeats 8000000 in
theorem ptext_any (v : Value) (p : TPol) (D : Nat → Prop) (w : World) (h : RdRules w D v p.rules) (hok : OkPol p) (hL : LaidF w) :
    Calls Tryz.prog 72 #[polV v p.dflt] w fun e w' => e = .returned (.string (bsL (textP p))) ∧ Below w.heap.size w w' := by
  have H := Lib.hid h
  have Hok := Lib.hid hok
  have HL := Lib.hid hL
  obtain ⟨a, c, rfl, hlc, hcm, hat⟩ := Sl.form h
  clear h hok hL
  go_enter Tryz.func72, Tryz.ntmps72
  go_wp2_with fail
  have HB := Lib.hid (Bx.one (w := w) (o := .cells #[.slice a p.rules.length c, .int .i64 p.dflt] 38))
  refine (fields_of [107, 105, 108, 108, 32, 116, 114, 97, 112, 32, 102, 97, 105, 108, 32, 108, 111, 103, 32, 97, 108, 108, 111, 119] _ (by decide +kernel) (by decide) verdict_words _ (HL.out.below HB.out.bel).sp).mono ?_
  rintro e w1 ⟨rfl, rfl⟩
  have HB1 := Lib.hid (HB.out.push (by simp) (.cells (([[107, 105, 108, 108], [116, 114, 97, 112], [102, 97, 105, 108], [108, 111, 103], [97, 108, 108, 111, 119]] : List (List UInt8)).map fun l => Value.string (bsL l)).toArray 9))
  go_wp2_with fail
  refine (fields_of [110, 114, 32, 107, 105, 110, 100, 32, 97, 32, 98, 32, 99] _ (by decide +kernel) (by decide) field_words _ (HL.out.below HB1.out.bel).sp).mono ?_
  rintro e w2 ⟨rfl, rfl⟩
  have HB2 := Lib.hid (HB1.out.push (by simp) (.cells (([[110, 114], [107, 105, 110, 100], [97], [98], [99]] : List (List UInt8)).map fun l => Value.string (bsL l)).toArray 9))
  have HW : Hid (Bx w [.cells #[.slice a p.rules.length c, .int .i64 p.dflt] 38, .cells #[Value.string (bsL [107, 105, 108, 108]), .string (bsL [116, 114, 97, 112]), .string (bsL [102, 97, 105, 108]), .string (bsL [108, 111, 103]), .string (bsL [97, 108, 108, 111, 119])] 9, .cells #[Value.string (bsL [110, 114]), .string (bsL [107, 105, 110, 100]), .string (bsL [97]), .string (bsL [98]), .string (bsL [99])] 9] (((w.alloc (.cells #[.slice a p.rules.length c, .int .i64 p.dflt] 38)).alloc (.cells (([[107, 105, 108, 108], [116, 114, 97, 112], [102, 97, 105, 108], [108, 111, 103], [97, 108, 108, 111, 119]] : List (List UInt8)).map fun l => Value.string (bsL l)).toArray 9)).alloc (.cells (([[110, 114], [107, 105, 110, 100], [97], [98], [99]] : List (List UInt8)).map fun l => Value.string (bsL l)).toArray 9))) := HB2.out
  clear HB1 HB2
  revert HW
  generalize (((w.alloc (.cells #[.slice a p.rules.length c, .int .i64 p.dflt] 38)).alloc (.cells (([[107, 105, 108, 108], [116, 114, 97, 112], [102, 97, 105, 108], [108, 111, 103], [97, 108, 108, 111, 119]] : List (List UInt8)).map fun l => Value.string (bsL l)).toArray 9)).alloc (.cells (([[110, 114], [107, 105, 110, 100], [97], [98], [99]] : List (List UInt8)).map fun l => Value.string (bsL l)).toArray 9)) = w2
  intro HW
  have hc0 := HW.out.cells0
  have hbo := Lib.hid (HL.out.below HW.out.bel)
  have htop : w.heap.size + 3 ≤ w2.heap.size := HW.out.top
  go_wp2_with fail
  clear hc0
  go_loopw [5, 15] (fun sv kv wr => ∃ (k : Nat) (t : List UInt8), kv = .int .i64 k ∧ sv = .string (bsL t) ∧ t = headP (p.rules.take k) ∧ k ≤ p.rules.length ∧ Below w2.heap.size w2 wr) (fun _ kv _ => p.rules.length - (intOf kv).toNat)
  case atStart => exact ⟨0, [], rfl, rfl, rfl, by omega, Below.refl _ _⟩
  case round =>
    obtain ⟨k, t, rfl, rfl, ht, hk, hb⟩ := hrel
    have Ht := Lib.hid ht
    have Hb := Lib.hid hb
    have hszr := hb.size
    have HWr := Lib.hid (HW.out.below hb)
    clear ht hb
    by_cases hlt : k < p.rules.length
    · obtain ⟨b, o, rfl, hDb, hblt⟩ := hat (by omega)
      obtain ⟨ca, cc, hc0w, hc1w, hrd, hcl, hcmx, hcat⟩ := RdRules.cells (H.out.below HWr.out.bel) hlt
      have Hkr := Lib.hid (Hok.out.rules p.rules[k] (List.getElem_mem hlt))
      have Htk := Lib.hid (headP_take hlt)
      obtain ⟨r, hr⟩ : ∃ r, p.rules[k] = r := ⟨_, rfl⟩
      rw [hr] at hc0w hc1w hrd hcl hcat Hkr Htk
      have Hrd := Lib.hid hrd
      have hv0 := Hkr.out.v0
      have hv1 := Hkr.out.v1
      have hvc : (wr.alloc (.cells #[.slice ca r.conds.length cc, .int .i64 r.verdict] 147)).cell? ⟨w.heap.size + 1, r.verdict.toNat, none⟩ = some (.string (bsL (verdictW r.verdict))) := ((HWr.out.alloc _).cells1 _).trans (verdict_cell hv0 hv1)
      obtain ⟨wo, rfl⟩ : ∃ wo : World, wo = wr := ⟨_, rfl⟩
      have htl : t.length ≤ 33600 := by
        rw [Ht.out]
        have := headP_len (p.rules.take k) (fun x hx => Hok.out.rules x (List.mem_of_mem_take hx))
        rw [List.length_take] at this
        have := Hok.out.len
        omega
      have hvl := verdictW_len r.verdict
      have ha1 := fun W => add_bs (P := Tryz.prog) t (verdictW r.verdict) (by omega) W
      clear hrd hr
      go_wp2_with fail
      clear hc0w hc1w hvc ha1
      have hbo1 : Below w2.heap.size w2 (wo.alloc (.cells #[.slice ca r.conds.length cc, .int .i64 r.verdict] 147)) := Hb.out.alloc hszr _
      have Hbo1 := Lib.hid hbo1
      have hbx1 : (wo.alloc (.cells #[.slice ca r.conds.length cc, .int .i64 r.verdict] 147)).heap[wo.heap.size]? = some (.cells #[.slice ca r.conds.length cc, .int .i64 r.verdict] 147) := heap_last _ _
      have Hrd1 := Lib.hid (Hrd.out.below (bel_alloc (Below.refl _ _) (.cells #[.slice ca r.conds.length cc, .int .i64 r.verdict] 147)))
      clear hbo1 hbx1
      go_loopw [5, 29] (fun sv jv wr => ∃ (j : Nat) (u : List UInt8), jv = .int .i64 j ∧ sv = .string (bsL u) ∧ u = t ++ verdictW r.verdict ++ headC (r.conds.take j) ∧ j ≤ r.conds.length ∧ Below (wo.heap.size + 1) (wo.alloc (.cells #[.slice ca r.conds.length cc, .int .i64 r.verdict] 147)) wr) (fun _ jv _ => r.conds.length - (intOf jv).toNat)
      case atStart => exact ⟨0, _, rfl, rfl, by simp [headC], by omega, Below.refl _ _⟩
      case round =>
        obtain ⟨j, u, rfl, rfl, hu, hj, hbj⟩ := hrel
        have Hu := Lib.hid hu
        have Hbj := Lib.hid hbj
        have hszj := hbj.size
        simp only [World.size_alloc] at hszj
        have HWj := Lib.hid (HW.out.below (Hbo1.out.trans (hbj.mono (by omega))))
        have HLj := Lib.hid (hbo.out.below (Hbo1.out.trans (hbj.mono (by omega))))
        clear hu hbj
        by_cases hjl : j < r.conds.length
        · obtain ⟨b2, o2, rfl, hDb2, hblt2⟩ := hcat (by omega)
          obtain ⟨hd0, hd1, hd2⟩ := RdConds.cells (Hrd1.out.below (Hbj.out.mono (by simp))) hjl
          have Hoc := Lib.hid (Hkr.out.conds r.conds[j] (List.getElem_mem hjl))
          have Hcj := Lib.hid (headC_take hjl)
          obtain ⟨⟨cf, cop, cv⟩, hcj⟩ : ∃ y : TCond, r.conds[j] = y := ⟨_, rfl⟩
          rw [hcj] at hd0 hd1 hd2 Hoc Hcj
          obtain ⟨hf0, hf1, ho0, ho1, hcv0, hcv1⟩ := (show (0 ≤ cf ∧ cf ≤ 4 ∧ 1 ≤ cop ∧ cop ≤ 4 ∧ 0 ≤ cv ∧ cv ≤ 65535) from ⟨Hoc.out.f0, by have h : cf < 5 := Hoc.out.f1; omega, Hoc.out.o0, Hoc.out.o1, Hoc.out.v0, by have h1 := Hoc.out.v1; have : mostOf cf ≤ 65535 := (by unfold mostOf; split <;> (try split) <;> omega); exact Int.le_trans h1 this⟩)
          have hul : u.length ≤ 34000 := by
            rw [Hu.out]
            have h1 := headC_len (r.conds.take j) (fun x hx => Hkr.out.conds x (List.mem_of_mem_take hx))
            rw [List.length_take] at h1
            have h2 := Hkr.out.len
            simp only [List.length_append]; omega
          have hfl := fieldW_len cf
          have hil := Lib.itoa_length_le cv (by omega) (by omega)
          have HX : Hid (∀ W, Cls (wr.heap.size + 1) (wr.alloc (.cells #[.int .i64 cf, .int .i64 cop, .int .i64 cv] 153)) W → (∀ i, W.cell? ⟨wr.heap.size, i, none⟩ = (#[.int .i64 cf, .int .i64 cop, .int .i64 cv] : Array Value)[i]?) ∧ W.cell? ⟨w.heap.size + 1 + 1, cf.toNat, none⟩ = some (.string (bsL (fieldW cf))) ∧ Laid W) := fun W hW =>
            ⟨cells_of (blk_below (heap_last wr (.cells #[.int .i64 cf, .int .i64 cop, .int .i64 cv] 153)) (hW.2.mono (by simp))), ((HWj.out.below ((bel_alloc (Below.refl _ _) _).trans (hW.2.mono (by omega)))).cells2 _).trans (field_cell hf0 hf1), (HLj.out.below ((bel_alloc (Below.refl _ _) _).trans (hW.2.mono (by omega)))).base⟩
          obtain ⟨s1, hs1⟩ : ∃ s1, 32 :: fieldW cf = s1 := ⟨_, rfl⟩
          obtain ⟨s2, hs2⟩ : ∃ s2, s1 ++ [opW cop] = s2 := ⟨_, rfl⟩
          obtain ⟨s3, hs3⟩ : ∃ s3, s2 ++ Lib.itoa cv = s3 := ⟨_, rfl⟩
          obtain ⟨s4, hs4⟩ : ∃ s4, u ++ s3 = s4 := ⟨_, rfl⟩
          have hl1 : s1.length ≤ 5 := by rw [← hs1]; simp; omega
          have hl2 : s2.length ≤ 6 := by rw [← hs2]; simp; omega
          have hl3 : s3.length ≤ 27 := by rw [← hs3]; simp; omega
          have hb1 : ∀ W : World, (Op.stringOp .add ⟨#[32]⟩ (bsL (fieldW cf))).run Tryz.prog W = .ok (.string (bsL s1)) W := fun W => by rw [← hs1]; exact add_bs [32] (fieldW cf) (by simp; omega) W
          have hb2 : ∀ W : World, (Op.stringOp .add (bsL s1) (bsL [opW cop])).run Tryz.prog W = .ok (.string (bsL s2)) W := fun W => by rw [← hs2]; exact add_bs s1 [opW cop] (by simp; omega) W
          have hb3 : ∀ W : World, (Op.stringOp .add (bsL s2) (bsL (Lib.itoa cv))).run Tryz.prog W = .ok (.string (bsL s3)) W := fun W => by rw [← hs3]; exact add_bs s2 (Lib.itoa cv) (by omega) W
          have hb4 : ∀ W : World, (Op.stringOp .add (bsL u) (bsL s3)).run Tryz.prog W = .ok (.string (bsL s4)) W := fun W => by rw [← hs4]; exact add_bs u s3 (by omega) W
          have hsl := fun W => op_slice ho0 ho1 W
          have hf5 : cf < 5 := by omega
          have hfw : IntKind.i64.wrap (cop + 1) = cop + 1 := IntWalk.i64_in _ (by omega)
          have HF : Hid (s4 = t ++ verdictW r.verdict ++ headC (r.conds.take (j + 1))) := by
            show _ = _
            rw [Hcj.out, ← hs4, ← hs3, ← hs2, ← hs1, Hu.out]; unfold condW; simp
          clear hs1 hs2 hs3 hs4 hl1 hl2 hl3
          obtain ⟨wj, rfl⟩ : ∃ wj : World, wj = wr := ⟨_, rfl⟩
          clear hcj
          go_wp2_with fail
          clear hd0 hd1 hd2
          refine wp_region_exact3 (wj.heap.size + 1) (by simp) (by kernel_rfl) (by kernel_rfl) ?_
          repeat (refine monoE_step (fun K hK => ?_); apply Exists.intro; refine ⟨fun W hC R hR => ?_, ?_⟩; (first
            | (have hcc := (HX.out W hC).1; have hcd := (HX.out W hC).2.1; go_simp; exact hR _ _ (Below.refl _ _) rfl)
            | (have hLW := (HX.out W hC).2.2; go_simp; go_at_call 65; refine (itoa_any cv (by omega) (by omega) _ hLW).mono ?_; rintro e w5 ⟨rfl, hb5⟩; exact ⟨_, rfl, hR _ _ hb5 rfl⟩)); (go_simp; refine hK _ ?_; clear hK K))
          intro w5 hC5
          have Hb5 := Lib.hid (Hbj.out.trans (((bel_alloc (Below.refl wj.heap.size wj) (.cells #[.int .i64 cf, .int .i64 cop, .int .i64 cv] 153)).mono hszj).trans (hC5.2.mono (by omega))))
          clear hC5 hb1 hb2 hb3 hb4 hsl
          go_wp2
          go_roundw
          case rel => exact ⟨j + 1, _, by go_num, rfl, HF.out, by omega, Hb5.out⟩
          case measure => simp [intOf]; omega
        · obtain rfl : j = r.conds.length := by omega
          have hul : u.length ≤ 34000 := by
            rw [Hu.out, List.take_length]
            have h1 := headC_len r.conds Hkr.out.conds
            have h2 := Hkr.out.len
            simp only [List.length_append]; omega
          have ha2 : ∀ W : World, (Op.stringOp .add (bsL u) ⟨#[59]⟩).run Tryz.prog W = .ok (.string (bsL (u ++ [59]))) W := fun W => add_bs u [59] (by simp; omega) W
          have HF : Hid (u ++ [59] = headP (p.rules.take (k + 1))) := by
            show _ = _
            rw [Htk.out, Hu.out, List.take_length, Ht.out]; unfold ruleW headC; simp
          have HB3 := Lib.hid (Hbo1.out.trans (Hbj.out.mono (by omega)))
          go_wp2
          go_roundw
          case rel => exact ⟨k + 1, _, by go_num, rfl, HF.out, by omega, HB3.out⟩
          case measure => simp [intOf]; omega
    · obtain rfl : k = p.rules.length := by omega
      have htl : t.length ≤ 33600 := by
        rw [Ht.out, List.take_length]
        have := headP_len p.rules Hok.out.rules
        have := Hok.out.len
        omega
      have hvl := verdictW_len p.dflt
      have hd0 := Hok.out.d0
      have hd1 := Hok.out.d1
      have ha1 := fun W => add_bs (P := Tryz.prog) t (verdictW p.dflt) (by omega) W
      have hc0 := HWr.out.cells0
      have hvc : wr.cell? ⟨w.heap.size + 1, p.dflt.toNat, none⟩ = some (.string (bsL (verdictW p.dflt))) := (HWr.out.cells1 _).trans (verdict_cell hd0 hd1)
      have HF : Hid (t ++ verdictW p.dflt = textP p) := by
        show _ = _
        rw [Ht.out, List.take_length]; rfl
      have HBf := Lib.hid HWr.out.bel
      go_wp2
      go_ret
      exact ⟨by rw [HF.out]; rfl, HBf.out⟩
end Go.Proofs.YthkgjohhbdipcaaGreatDoor
namespace Go.Proofs.YthkgjohhbdipcaaGreatDoor
open Go.RowKit

theorem splitK_step (k : Nat) (l : List UInt8) : Lib.splitK [32] 0 (k + 1) l = if (Lib.cut l [32]).2.2 then (Lib.cut l [32]).1 :: Lib.splitK [32] 0 k (Lib.cut l [32]).2.1 else [l] := by
  have hg := Lib.index_ge l [32]
  conv => lhs; unfold Lib.splitK
  by_cases h : Lib.index l [32] = -1
  · have hc : Lib.cut l [32] = (l, [], false) := by unfold Lib.cut; rw [if_neg (by omega)]
    rw [hc, if_pos (beq_iff_eq.2 h)]; rfl
  · have hc : Lib.cut l [32] = (l.take (Lib.index l [32]).toNat, l.drop ((Lib.index l [32]).toNat + 1), true) := by unfold Lib.cut; rw [if_pos (by omega)]; rfl
    rw [hc, if_neg (by simpa using h)]
    rfl
/-- at most three parts. -/
def parts3 (l : List UInt8) : List (List UInt8) := if (Lib.cut l [32]).2.2 then (Lib.cut l [32]).1 :: (if (Lib.cut (Lib.cut l [32]).2.1 [32]).2.2 then [(Lib.cut (Lib.cut l [32]).2.1 [32]).1, (Lib.cut (Lib.cut l [32]).2.1 [32]).2.1] else [(Lib.cut l [32]).2.1]) else [l]
theorem cut_short (l : List UInt8) (h : (Lib.cut l [32]).2.2 = true) : (Lib.cut l [32]).2.1.length < l.length := by
  unfold Lib.cut at h ⊢
  split
  · rename_i h0
    have hne : l ≠ [] := fun e => by rw [e] at h0; simp [Lib.index] at h0
    have : 0 < l.length := List.length_pos_iff.2 hne
    simp
    omega
  · rename_i h0
    rw [if_neg h0] at h; cases h
theorem splitK3 (l : List UInt8) : Lib.splitK [32] 0 (min 3 (l.length + 1) - 1) l = parts3 l := by
  have hz : ∀ s, Lib.splitK [32] 0 0 s = [s] := fun s => rfl
  rcases Nat.lt_or_ge l.length 2 with h | h
  · rcases Nat.eq_zero_or_pos l.length with h0 | h0
    · obtain rfl : l = [] := List.length_eq_zero_iff.1 h0
      decide
    · have e : min 3 (l.length + 1) - 1 = 0 + 1 := by omega
      rw [e, splitK_step, hz]
      unfold parts3
      by_cases hc : (Lib.cut l [32]).2.2 = true
      · have hs := cut_short l hc
        have e2 : (Lib.cut l [32]).2.1 = [] := List.length_eq_zero_iff.1 (by omega)
        rw [if_pos hc, if_pos hc, e2]
        rfl
      · rw [if_neg hc, if_neg hc]
  · have e : min 3 (l.length + 1) - 1 = 1 + 1 := by omega
    rw [e, splitK_step, splitK_step 0, hz]
    rfl
theorem cellsOf_get {ws : List ByteArray} {c k : Nat} (h : k < ws.length) : (Lib.cellsOf ws c)[k]? = some (.string ws[k]) := by
  unfold Lib.cellsOf
  rw [List.getElem?_toArray, List.getElem?_append_left (by simpa using h), List.getElem?_map, List.getElem?_eq_getElem h]
  rfl
theorem map_bsL (l : List ByteArray) : (l.map (·.data.toList)).map bsL = l := by
  rw [List.map_map]
  conv => rhs; rw [← List.map_id l]
  exact List.map_congr_left fun x _ => by cases x; simp [bsL]
theorem splitn_any (L : List UInt8) (w : World) (hL : Laid w) (hs : L.length < 4294967281) : Calls Tryz.prog 77 #[.string (bsL L), .string ⟨#[32]⟩, .int .i64 3] w fun e w' =>
    ∃ (cap : Nat) (cs : Array Value), e = .returned (.slice (some ⟨w.heap.size, 0, none⟩) (parts3 L).length cap) ∧ (parts3 L).length ≤ cap ∧ w' = w.alloc (.cells cs 9) ∧ ∀ k (h : k < (parts3 L).length), cs[k]? = some (.string (bsL (parts3 L)[k])) := by
  obtain ⟨m, hm⟩ := hL.ml
  have hsz : (bsL L).size = L.length := by simp [bsL, ByteArray.size]
  have c : Calls Tryz.prog 77 #[.string (bsL L), .string ⟨#[32]⟩, .int .i64 3] w _ := Any.strings_SplitN { Tryz.laysM147 with } Tryz.laysM147.i9 (bsL L) ⟨#[32]⟩ 3 m w (by omega) hm (by decide) (by decide) (by decide)
  refine c.mono ?_
  rintro e w1 ⟨rfl, rfl⟩
  have hd : Lib.splitB ⟨#[32]⟩ 0 (min 3 ((bsL L).size + 1) - 1) (bsL L) = (parts3 L).map bsL := by
    rw [← map_bsL (Lib.splitB ⟨#[32]⟩ 0 (min 3 ((bsL L).size + 1) - 1) (bsL L)), Lib.splitB_data, hsz]
    exact congrArg _ (splitK3 L)
  have hl := Lib.splitB_length_le ⟨#[32]⟩ 0 (min 3 ((bsL L).size + 1) - 1) (bsL L)
  rw [hd, List.length_map] at hl
  rw [hd, List.length_map]
  exact ⟨_, _, rfl, by omega, rfl, fun k h => by
    rw [cellsOf_get (by simpa using h)]
    simp⟩
end Go.Proofs.YthkgjohhbdipcaaGreatDoor
namespace Go.Proofs.YthkgjohhbdipcaaGreatDoor
open Go.RowKit

@[reducible] def bs (l : List UInt8) : Value := .string ⟨l.toArray⟩
@[reducible] def vmap : Array MapEntry := #[⟨bs [107, 105, 108, 108], .int .i64 0, 0⟩, ⟨bs [116, 114, 97, 112], .int .i64 1, 1⟩, ⟨bs [102, 97, 105, 108], .int .i64 2, 2⟩, ⟨bs [108, 111, 103], .int .i64 3, 3⟩, ⟨bs [97, 108, 108, 111, 119], .int .i64 4, 4⟩]
@[reducible] def fmap : Array MapEntry := #[⟨bs [110, 114], .int .i64 0, 0⟩, ⟨bs [107, 105, 110, 100], .int .i64 1, 1⟩, ⟨bs [97], .int .i64 2, 2⟩, ⟨bs [98], .int .i64 3, 3⟩, ⟨bs [99], .int .i64 4, 4⟩]
@[reducible] def omap : Array MapEntry := #[⟨.int .u8 61, .int .i64 1, 0⟩, ⟨.int .u8 33, .int .i64 2, 1⟩, ⟨.int .u8 60, .int .i64 3, 2⟩, ⟨.int .u8 62, .int .i64 4, 3⟩]

theorem same_str (u : ByteArray) (l : List UInt8) : Instr.sameNow .string (.string u) (bs l) = some (decide (u.data.toList = l)) := by
  have : (u == (⟨l.toArray⟩ : ByteArray)) = decide (u.data.toList = l) := by
    rw [beq_toListBytes, ByteArray.toList_eq, ByteArray.toList_eq, Bool.eq_iff_iff]
    simp
  rw [← this]
  rfl
theorem same_u8 (n m : Int) : Instr.sameNow (.int .u8) (.int .u8 n) (.int .u8 m) = some (decide (n = m)) := by
  have : (n == m) = decide (n = m) := by rw [Bool.eq_iff_iff]; simp
  rw [← this]
  rfl
/-- a look-up among a list of keys. -/
theorem find_step {kd : TypeDesc} {k key v : Value} {born : Nat} {es : List MapEntry} {i : Nat} {b : Bool} (h : Instr.sameNow kd k key = some b) : Instr.findNow kd k (⟨key, v, born⟩ :: es) i = if b then some (some (i, v)) else Instr.findNow kd k es (i + 1) := by
  cases b <;> simp [Instr.findNow, h]
theorem find_v (u : ByteArray) : ∃ f, Instr.findNow .string (.string u) vmap.toList 0 = some f ∧ f.map (·.2) = (verdictOf u.data.toList).map fun n => Value.int .i64 n := by
  simp only [find_step (same_str _ _), verdictOf, decide_eq_true_eq]
  repeat (split; · exact ⟨_, rfl, rfl⟩)
  exact ⟨none, rfl, rfl⟩
theorem find_f (u : ByteArray) : ∃ f, Instr.findNow .string (.string u) fmap.toList 0 = some f ∧ f.map (·.2) = (fieldOf u.data.toList).map fun n => Value.int .i64 n := by
  simp only [find_step (same_str _ _), fieldOf, decide_eq_true_eq]
  repeat (split; · exact ⟨_, rfl, rfl⟩)
  exact ⟨none, rfl, rfl⟩
theorem find_o (b : UInt8) : ∃ f, Instr.findNow (.int .u8) (.int .u8 b.toNat) omap.toList 0 = some f ∧ (f.map (·.2)).getD (.int .i64 0) = Value.int .i64 (opOf b) := by
  have e : ∀ n : UInt8, ((b.toNat : Int) = (n.toNat : Int)) = (b = n) := fun n => by
    rw [eq_iff_iff]
    constructor
    · intro h; exact UInt8.toNat_inj.1 (by omega)
    · rintro rfl; rfl
  have e1 := e 61
  have e2 := e 33
  have e3 := e 60
  have e4 := e 62
  simp only [show ((61 : UInt8).toNat : Int) = 61 from rfl, show ((33 : UInt8).toNat : Int) = 33 from rfl, show ((60 : UInt8).toNat : Int) = 60 from rfl, show ((62 : UInt8).toNat : Int) = 62 from rfl] at e1 e2 e3 e4
  simp only [find_step (same_u8 _ _), opOf, decide_eq_true_eq, e1, e2, e3, e4]
  repeat (split; · exact ⟨_, rfl, rfl⟩)
  exact ⟨none, rfl, rfl⟩

/-- a slice without its first element: one form, be it empty or not. -/
theorem slice_tail (b n : Nat) : ∃ off : Nat, (0 < n → off = 1) ∧ ∀ W : World, (Instr.slice 101 (.slice (some ⟨b, 0, none⟩) (n + 1) (n + 1)) (some (.int .i64 1)) none none).run Tryz.prog W = .ok (.slice (some ⟨b, off, none⟩) n n) W := by
  by_cases h : n = 0
  · subst h
    exact ⟨0, fun h => by omega, fun W => by kernel_rfl⟩
  · refine ⟨1, fun _ => rfl, fun W => ?_⟩
    go_simp
    intro h'
    omega
end Go.Proofs.YthkgjohhbdipcaaGreatDoor
namespace Go.Proofs.YthkgjohhbdipcaaGreatDoor
open Go.RowKit

theorem index5 (x : TCall) (k : Nat) (h : k < 5) (w : World) : (Instr.index 46 (callV x) (.int .i64 (k : Int))).run Tryz.prog w = .ok (.int .i64 (x.get k)) w := by
  have hk : k = 0 ∨ k = 1 ∨ k = 2 ∨ k = 3 ∨ k = 4 := by omega
  rcases hk with rfl | rfl | rfl | rfl | rfl <;> (change _ = _; kernel_rfl)
theorem cell5 (x : TCall) (k : Nat) (h : k < 5) : (#[Value.int .i64 x.a0, .int .i64 x.a1, .int .i64 x.a2, .int .i64 x.a3, .int .i64 x.a4] : Array Value)[k]? = some (.int .i64 (x.get k)) := by
  match k, h with
  | 0, _ => rfl
  | 1, _ => rfl
  | 2, _ => rfl
  | 3, _ => rfl
  | 4, _ => rfl

theorem most_any (k : Int) (w : World) : Calls Tryz.prog 135 #[.int .i64 k] w fun e w' => e = .returned (.int .i64 (mostOf k)) ∧ w = w' := by
  by_cases h0 : k = 0
  · have b0 : (k == 0) = true := by simpa using h0
    have e : mostOf k = 63 := by simp [mostOf, h0]
    rw [e]; clear h0 e
    go_enter Tryz.func135, Tryz.ntmps135
    go_wp2
    go_ret
    exact ⟨rfl, rfl⟩
  · have b0 : (k == 0) = false := by simpa using h0
    by_cases h1 : k = 1
    · have b1 : (k == 1) = true := by simpa using h1
      have e : mostOf k = 3 := by simp [mostOf, h1]
      rw [e]; clear h0 h1 e
      go_enter Tryz.func135, Tryz.ntmps135
      go_wp2
      go_ret
      exact ⟨rfl, rfl⟩
    · have b1 : (k == 1) = false := by simpa using h1
      have e : mostOf k = 65535 := by simp [mostOf, h0, h1]
      rw [e]; clear h0 h1 e
      go_enter Tryz.func135, Tryz.ntmps135
      go_wp2
      go_ret
      exact ⟨rfl, rfl⟩

/-- how many of the first k fields are right, as a loop's word. -/
def okTo (x : TCall) (k : Nat) : Prop := ∀ j : Nat, j < k → 0 ≤ x.get j ∧ x.get j ≤ mostOf j
theorem okTo_all {x : TCall} (h : okTo x 5) : callE x = 0 := if_pos (TCall.ok_of h)
theorem okTo_not {x : TCall} {k : Nat} (hk : k < 5) (h : ¬ (0 ≤ x.get k ∧ x.get k ≤ mostOf k)) : callE x = 3 := if_neg fun hx => h (TCall.ok_get hx hk)

set_option maxHeartbeats 1000000 in
theorem callcheck_any (x : TCall) (w : World) : Calls Tryz.prog 96 #[callV x] w fun e w' => e = .returned (.int .i64 (callE x)) ∧ Below w.heap.size w w' := by
  go_enter Tryz.func96, Tryz.ntmps96
  go_wp2_with fail
  go_loop [6] (fun i => ∃ k : Nat, k ≤ 5 ∧ i = .int .i64 k ∧ Hid (okTo x k)) (fun i => 5 - (intOf i).toNat)
  case atStart => exact ⟨0, by omega, rfl, fun j hj => absurd hj (by omega)⟩
  case round =>
    obtain ⟨k, hk, rfl, hok⟩ := hrel
    by_cases hlt : k < 5
    · have hi := fun W => index5 x k hlt W
      by_cases h1 : x.get k < 0
      · have he := Lib.hid (okTo_not hlt (x := x) (by omega))
        go_wp2_with (go_at_call 135; refine (most_any _ _).mono ?_; rintro e w1 ⟨rfl, rfl⟩)
        go_ret
        exact ⟨ret_int he.out.symm, bel_alloc (Below.refl _ _) _⟩
      · by_cases h2 : mostOf k < x.get k
        · have he := Lib.hid (okTo_not hlt (x := x) (by omega))
          go_wp2_with (go_at_call 135; refine (most_any _ _).mono ?_; rintro e w1 ⟨rfl, rfl⟩)
          go_ret
          exact ⟨ret_int he.out.symm, bel_alloc (Below.refl _ _) _⟩
        · go_wp2_with (go_at_call 135; refine (most_any _ _).mono ?_; rintro e w1 ⟨rfl, rfl⟩)
          go_round
          case rel =>
            refine ⟨k + 1, by omega, by go_num, fun j hj => ?_⟩
            by_cases e : j = k
            · subst e; omega
            · exact hok.out j (by omega)
          case measure => simp [intOf]; omega
    · obtain rfl : k = 5 := by omega
      go_wp2
      go_ret
      exact ⟨ret_int (okTo_all hok.out).symm, bel_alloc (Below.refl _ _) _⟩

def inB (n a b : Int) : Bool := decide (a ≤ n ∧ n ≤ b)
theorem inB_yes {n a b : Int} (h : a ≤ n) (h' : n ≤ b) : inB n a b = true := by simp [inB, h, h']
theorem inB_no {n a b : Int} (h : ¬ (a ≤ n ∧ n ≤ b)) : inB n a b = false := by unfold inB; exact decide_eq_false h
theorem in_any (n a b : Int) (w : World) : Calls Tryz.prog 56 #[.int .i64 n, .int .i64 a, .int .i64 b] w fun e w' => e = .returned (.bool (inB n a b)) ∧ w = w' := by
  go_enter Tryz.func56, Tryz.ntmps56
  go_wp2
  all_goals go_ret
  all_goals refine ⟨ret_bool ?_, rfl⟩
  · rename_i h1; simp [inB, h1]
  · rename_i h1; have h2 : ¬ a ≤ n := by omega
    simp [inB, h2]
def mostMap : Array MapEntry := #[⟨.int .i64 0, .int .i64 63, 0⟩, ⟨.int .i64 1, .int .i64 3, 1⟩]
theorem most_find0 : Instr.findNow (.int .i64) (.int .i64 0) mostMap.toList 0 = some (some (0, .int .i64 63)) := rfl
theorem most_find1 : Instr.findNow (.int .i64) (.int .i64 1) mostMap.toList 0 = some (some (1, .int .i64 3)) := rfl
theorem most_find2 {k : Int} (h0 : k ≠ 0) (h1 : k ≠ 1) : Instr.findNow (.int .i64) (.int .i64 k) mostMap.toList 0 = some none := by
  have b0 : (k == 0) = false := beq_eq_false_iff_ne.2 h0
  have b1 : (k == 1) = false := beq_eq_false_iff_ne.2 h1
  simp [mostMap, Instr.findNow, Instr.sameNow, b0, b1]
theorem mostof_find (k : Int) : ∃ f, Instr.findNow (.int .i64) (.int .i64 k) mostMap.toList 0 = some f ∧ ((f = none ∧ mostOf k = 65535) ∨ ∃ j, f = some (j, .int .i64 (mostOf k))) := by
  by_cases h0 : k = 0
  · subst h0; exact ⟨_, most_find0, .inr ⟨_, rfl⟩⟩
  · by_cases h1 : k = 1
    · subst h1; exact ⟨_, most_find1, .inr ⟨_, rfl⟩⟩
    · exact ⟨_, most_find2 h0 h1, .inl ⟨rfl, by simp [mostOf, h0, h1]⟩⟩

theorem mostof_any (k : Int) (w : World) : Calls Tryz.prog 62 #[.int .i64 k] w fun e w' => e = .returned (.int .i64 (mostOf k)) ∧ Below w.heap.size w w' := by
  have hmm := @run_makeMap Tryz.prog
  have h1 := run_insert_new (P := Tryz.prog) (w := w) (t := 139) (es := #[]) (c := 0) (key := .int .i64 0) (v := .int .i64 63) Tryz.underlying139 Tryz.underlying3 rfl rfl
  have h2 := run_insert_new (P := Tryz.prog) (w := w) (t := 139) (es := #[⟨.int .i64 0, .int .i64 63, 0⟩]) (c := 1) (key := .int .i64 1) (v := .int .i64 3) Tryz.underlying139 Tryz.underlying3 rfl rfl
  have hz : (zeroValue 3).run Tryz.prog (w.alloc (.map mostMap 2)) = .ok (.int .i64 0) (w.alloc (.map mostMap 2)) := by kernel_rfl
  simp only [List.push_toArray, List.nil_append, List.cons_append, Nat.reduceAdd] at h1 h2
  obtain ⟨f, hf, hv⟩ := mostof_find k
  have h3 := run_lookup_ok (key := .int .i64 k) (t := 139) Tryz.underlying139 Tryz.underlying3 (heap_last w (.map mostMap 2)) hz rfl hf
  unfold mostMap at h3
  clear hz hf
  rcases hv with ⟨rfl, hv⟩ | ⟨j, rfl⟩
  · rw [hv]; clear hv
    simp only [Option.map_none, Option.getD_none, Option.isSome_none] at h3
    go_enter Tryz.func62, Tryz.ntmps62
    go_wp2
    go_ret
    exact ⟨rfl, bel_alloc (Below.refl _ _) _⟩
  · simp only [Option.map_some, Option.getD_some, Option.isSome_some] at h3
    go_enter Tryz.func62, Tryz.ntmps62
    go_wp2
    go_ret
    exact ⟨rfl, bel_alloc (Below.refl _ _) _⟩
end Go.Proofs.YthkgjohhbdipcaaGreatDoor
namespace Go.Proofs.YthkgjohhbdipcaaGreatDoor
open Go.RowKit
attribute [local go_sem] gives givesUpon

set_option maxHeartbeats 2000000 in
theorem cond_any (c : TCond) (w : World) : Calls Tryz.prog 117 #[.agg #[.int .i64 c.f, .int .i64 c.op, .int .i64 c.v]] w fun e w' => e = .returned (.int .i64 (condE c)) ∧ Below w.heap.size w w' := by
  obtain ⟨f, op, v⟩ := c
  dsimp only
  by_cases h1 : f < 0 ∨ 5 ≤ f
  · have he : condE ⟨f, op, v⟩ = 5 := by unfold condE; rw [if_pos h1]
    rw [he]; clear he
    rcases h1 with h1 | h1
    · go_enter Tryz.func117, Tryz.ntmps117
      go_wp2
      go_ret
      exact ⟨rfl, bel_alloc (Below.refl _ _) _⟩
    · have h0 : ¬ f < 0 := by omega
      go_enter Tryz.func117, Tryz.ntmps117
      go_wp2
      go_ret
      exact ⟨rfl, bel_alloc (Below.refl _ _) _⟩
  · by_cases h2 : op < 1 ∨ 4 < op
    · have he : condE ⟨f, op, v⟩ = 4 := by unfold condE; rw [if_neg h1, if_pos h2]
      rw [he]; clear he
      have g0 : ¬ f < 0 := by omega
      have g1 : ¬ 5 ≤ f := by omega
      clear h1
      rcases h2 with h2 | h2
      · go_enter Tryz.func117, Tryz.ntmps117
        go_wp2
        go_ret
        exact ⟨rfl, bel_alloc (Below.refl _ _) _⟩
      · have h0 : ¬ op < 1 := by omega
        go_enter Tryz.func117, Tryz.ntmps117
        go_wp2
        go_ret
        exact ⟨rfl, bel_alloc (Below.refl _ _) _⟩
    · have g0 : ¬ f < 0 := by omega
      have g1 : ¬ 5 ≤ f := by omega
      have g2 : ¬ op < 1 := by omega
      have g3 : ¬ 4 < op := by omega
      have hc : ∀ W, Cls (w.heap.size + 1) (w.alloc (.cells #[.int .i64 f, .int .i64 op, .int .i64 v] 153)) W → ∀ j : Nat, W.cell? ⟨w.heap.size, j, none⟩ = (#[Value.int .i64 f, .int .i64 op, .int .i64 v] : Array Value)[j]? := fun W hW j => box_cells hW.2 j
      have Hc := Lib.hid hc
      have He : Hid (condE ⟨f, op, v⟩ = if v < 0 ∨ mostOf f < v then 3 else 0) := by show condE _ = _; unfold condE; rw [if_neg h1, if_neg h2]
      clear hc h1 h2
      by_cases h3 : v < 0
      · have hv : decide (v < 0) = true := decide_eq_true h3
        rw [He.out, if_pos (.inl h3)]
        go_enter Tryz.func117, Tryz.ntmps117
        go_wp2_with fail
        refine wp_region_exact (w.heap.size + 1) (by simp) (by kernel_rfl) (by kernel_rfl) ?_
        repeat (refine monoE_step (fun K hK => ?_); apply Exists.intro; refine ⟨fun W hC R hR => ?_, ?_⟩; (have hcell := Hc.out W hC; go_simp; exact hR _ _ (Below.refl _ _) rfl); (go_simp; refine hK _ ?_; clear hK K))
        intro w2 hC2
        go_wp2
        go_ret
        exact ⟨rfl, bel_box hC2.2⟩
      · have hv : decide (v < 0) = false := decide_eq_false h3
        by_cases h4 : mostOf f < v
        · have hv4 : decide (mostOf f < v) = true := decide_eq_true h4
          rw [He.out, if_pos (.inr h4)]
          go_enter Tryz.func117, Tryz.ntmps117
          go_wp2_with fail
          refine wp_region_exact (w.heap.size + 1) (by simp) (by kernel_rfl) (by kernel_rfl) ?_
          repeat (refine monoE_step (fun K hK => ?_); apply Exists.intro; refine ⟨fun W hC R hR => ?_, ?_⟩; (first
            | (have hcell := Hc.out W hC; go_simp; refine hR _ _ (Below.refl _ _) rfl)
            | (go_simp; go_at_call 135; refine (most_any _ _).mono ?_; rintro e w1 ⟨rfl, rfl⟩; exact ⟨_, rfl, hR _ _ (Below.refl _ _) rfl⟩)); (go_simp; refine hK _ ?_; clear hK K))
          intro w2 hC2
          go_wp2
          go_ret
          exact ⟨rfl, bel_box hC2.2⟩
        · have hv4 : decide (mostOf f < v) = false := decide_eq_false h4
          rw [He.out, if_neg (by omega)]
          go_enter Tryz.func117, Tryz.ntmps117
          go_wp2_with fail
          refine wp_region_exact (w.heap.size + 1) (by simp) (by kernel_rfl) (by kernel_rfl) ?_
          repeat (refine monoE_step (fun K hK => ?_); apply Exists.intro; refine ⟨fun W hC R hR => ?_, ?_⟩; (first
            | (have hcell := Hc.out W hC; go_simp; refine hR _ _ (Below.refl _ _) rfl)
            | (go_simp; go_at_call 135; refine (most_any _ _).mono ?_; rintro e w1 ⟨rfl, rfl⟩; exact ⟨_, rfl, hR _ _ (Below.refl _ _) rfl⟩)); (go_simp; refine hK _ ?_; clear hK K))
          intro w2 hC2
          go_wp2
          go_ret
          exact ⟨rfl, bel_box hC2.2⟩
end Go.Proofs.YthkgjohhbdipcaaGreatDoor
namespace Go.Proofs.YthkgjohhbdipcaaGreatDoor
open Go.RowKit
attribute [local go_sem] gives givesUpon

set_option maxHeartbeats 8000000 in
theorem rpolcheck_any (v : Value) (p : TPol) (D : Nat → Prop) (w : World) (h : RdRules w D v p.rules) : Calls Tryz.prog 112 #[polV v p.dflt] w fun e w' => e = .returned (.int .i64 (polE p)) ∧ Below w.heap.size w w' := by
  obtain ⟨rs, d⟩ := p
  dsimp only at h ⊢
  obtain ⟨a, c, rfl, hlc, hcm, hat⟩ := Sl.form h
  have H := Lib.hid h
  clear h
  by_cases h1 : 120 < rs.length
  · have he : polE ⟨rs, d⟩ = 2 := by unfold polE; rw [if_pos h1]
    have hz : 120 < (rs.length : Int) := by omega
    rw [he]; clear he h1 hat H
    go_enter Tryz.func112, Tryz.ntmps112
    go_wp2
    go_ret
    exact ⟨rfl, bel_alloc (Below.refl _ _) _⟩
  · have hz : ¬ 120 < (rs.length : Int) := by omega
    by_cases h2 : 0 ≤ d ∧ d ≤ 4
    · have hd := inB_yes h2.1 h2.2
      have He := Lib.hid (show polE ⟨rs, d⟩ = rulesGo rs by unfold polE; rw [if_neg h1, if_neg (by simp only; omega)])
      clear h1 h2
      go_enter Tryz.func112, Tryz.ntmps112
      go_wp2_with (go_at_call 56; refine (in_any _ _ _ _).mono ?_; rintro e w1 ⟨rfl, rfl⟩)
      go_loopw [18] (fun i wr => ∃ k : Nat, k ≤ rs.length ∧ i = .int .i64 k ∧ rulesGo rs = rulesGo (rs.drop k) ∧ Below w.heap.size w wr) (fun i _ => rs.length - (intOf i).toNat)
      case atStart => exact ⟨0, by omega, rfl, rfl, bel_alloc (Below.refl _ _) _⟩
      case round =>
        obtain ⟨k, hk, rfl, hgo, hbw⟩ := hrel
        have Hgo := Lib.hid hgo
        have hsz := hbw.size
        clear hgo hd
        by_cases hlt : k < rs.length
        · obtain ⟨b, o, rfl, hDb, hb⟩ := hat (by omega)
          obtain ⟨a', c', k0, k1, hr, hlc', hcm', hat'⟩ := RdRules.cells (RdRules.below H.out hbw) hlt
          have Hr := Lib.hid hr
          have bad : ∀ e : Int, ruleE rs[k] = e → e ≠ 0 → ∀ wz, Below w.heap.size w wz → Ending.returned (.int .i64 e) = .returned (.int .i64 (polE ⟨rs, d⟩)) ∧ Below w.heap.size w wz := fun e he h0 wz hz => by
            refine ⟨ret_int ?_, hz⟩
            rw [He.out, Hgo.out, rulesGo_drop rs k hlt, he, if_neg h0]
          have good : ruleE rs[k] = 0 → rulesGo rs = rulesGo (rs.drop (k + 1)) := fun he => by rw [Hgo.out, rulesGo_drop rs k hlt, if_pos he]
          have Hbad := Lib.hid bad
          have Hgood := Lib.hid good
          clear bad good hr
          generalize hX : rs[k] = X at *
          clear hX
          obtain ⟨cs, vd⟩ := X
          dsimp only at k0 k1 hlc' hat'
          have Hr' : Hid (RdConds wr D (.slice a' cs.length c') cs) := Hr
          clear Hr
          by_cases h3 : 10 < cs.length
          · have Hb := Lib.hid (Hbad.out 2 (by unfold ruleE; rw [if_pos h3]) (by decide))
            have hz3 : 10 < (cs.length : Int) := by omega
            clear Hbad Hgood hat' h3
            go_wp2
            go_ret
            exact Hb.out _ (bel_alloc hbw _)
          · have hz3 : ¬ 10 < (cs.length : Int) := by omega
            by_cases h4 : 0 ≤ vd ∧ vd ≤ 4
            · have hvd := inB_yes h4.1 h4.2
              have Hre := Lib.hid (show ruleE ⟨cs, vd⟩ = condsGo cs by unfold ruleE; rw [if_neg h3, if_neg (by simp only; omega)])
              clear h3 h4
              go_wp2_with (go_at_call 56; refine (in_any _ _ _ _).mono ?_; rintro e w1 ⟨rfl, rfl⟩)
              obtain ⟨wo, rfl⟩ : ∃ wo : World, wo = wr := ⟨_, rfl⟩
              go_loopw [35] (fun i wi => ∃ j : Nat, j ≤ cs.length ∧ i = .int .i64 j ∧ condsGo cs = condsGo (cs.drop j) ∧ Below w.heap.size w wi ∧ Below wo.heap.size wo wi) (fun i _ => cs.length - (intOf i).toNat)
              case atStart => exact ⟨0, by omega, rfl, rfl, bel_alloc hbw _, bel_alloc (Below.refl _ _) _⟩
              case round =>
                obtain ⟨j, hj, rfl, hgo, hbi, hbi'⟩ := hrel
                have Hgi := Lib.hid hgo
                have hszi := hbi.size
                clear hgo hvd
                by_cases hlj : j < cs.length
                · obtain ⟨b', o', rfl, hDb', hb'⟩ := hat' (by omega)
                  obtain ⟨c0, c1, c2⟩ := RdConds.cells (RdConds.below Hr'.out hbi') hlj
                  have badc : ∀ e : Int, condE cs[j] = e → e ≠ 0 → ruleE ⟨cs, vd⟩ = e := fun e he h0 => by rw [Hre.out, Hgi.out, condsGo_drop cs j hlj, he, if_neg h0]
                  have goodc : condE cs[j] = 0 → condsGo cs = condsGo (cs.drop (j + 1)) := fun he => by rw [Hgi.out, condsGo_drop cs j hlj, if_pos he]
                  have Hbadc := Lib.hid badc
                  have Hgoodc := Lib.hid goodc
                  clear badc goodc
                  generalize hY : cs[j] = Y at *
                  clear hY
                  obtain ⟨cf, co, cv⟩ := Y
                  dsimp only at c0 c1 c2
                  by_cases q1 : 0 ≤ cf ∧ cf ≤ 4
                  · have d1 := inB_yes q1.1 q1.2
                    by_cases q2 : 1 ≤ co ∧ co ≤ 4
                    · have d2 := inB_yes q2.1 q2.2
                      have hcl : ∀ W, Cls (wr.heap.size + 1) (wr.alloc (.cells #[.int .i64 cf, .int .i64 co, .int .i64 cv] 153)) W → ∀ j : Nat, W.cell? ⟨wr.heap.size, j, none⟩ = (#[Value.int .i64 cf, .int .i64 co, .int .i64 cv] : Array Value)[j]? := fun W hW j => box_cells hW.2 j
                      have Hcl := Lib.hid hcl
                      clear hcl
                      by_cases q3 : 0 ≤ cv ∧ cv ≤ mostOf cf
                      · have d3 := inB_yes q3.1 q3.2
                        have Hg := Lib.hid (Hgoodc.out (by unfold condE; rw [if_neg (by simp only; omega), if_neg (by simp only; omega), if_neg (by simp only; omega)]))
                        clear q1 q2 q3
                        go_wp2_with (go_at_call 56; refine (in_any _ _ _ _).mono ?_; rintro e w1 ⟨rfl, rfl⟩)
                        refine wp_region_exact (wr.heap.size + 1) (by simp) (by kernel_rfl) (by kernel_rfl) ?_
                        repeat (refine monoE_step (fun K hK => ?_); apply Exists.intro; refine ⟨fun W hC R hR => ?_, ?_⟩; (first
                          | (have hcell := Hcl.out W hC; go_simp; refine hR _ _ (Below.refl _ _) rfl)
                          | (go_simp; go_at_call 62; refine (mostof_any _ _).mono ?_; rintro e w1 ⟨rfl, hb1⟩; exact ⟨_, rfl, hR _ _ hb1 rfl⟩)
                          | (go_simp; go_at_call 56; refine (in_any _ _ _ _).mono ?_; rintro e w1 ⟨rfl, rfl⟩; exact ⟨_, rfl, hR _ _ (Below.refl _ _) rfl⟩)); (go_simp; refine hK _ ?_; clear hK K))
                        intro w2 hC2
                        go_wp2
                        go_roundw
                        case rel => exact ⟨j + 1, by omega, by go_num, Hg.out, hbi.trans ((bel_box hC2.2).mono hszi), hbi'.trans ((bel_box hC2.2).mono hbi'.size)⟩
                        case measure => simp [intOf]; omega
                      · have d3 := inB_no q3
                        have Hb := Lib.hid (Hbad.out 3 (Hbadc.out 3 (by unfold condE; rw [if_neg (by simp only; omega), if_neg (by simp only; omega), if_pos (by simp only; omega)]) (by decide)) (by decide))
                        clear q1 q2 q3
                        go_wp2_with (go_at_call 56; refine (in_any _ _ _ _).mono ?_; rintro e w1 ⟨rfl, rfl⟩)
                        refine wp_region_exact (wr.heap.size + 1) (by simp) (by kernel_rfl) (by kernel_rfl) ?_
                        repeat (refine monoE_step (fun K hK => ?_); apply Exists.intro; refine ⟨fun W hC R hR => ?_, ?_⟩; (first
                          | (have hcell := Hcl.out W hC; go_simp; refine hR _ _ (Below.refl _ _) rfl)
                          | (go_simp; go_at_call 62; refine (mostof_any _ _).mono ?_; rintro e w1 ⟨rfl, hb1⟩; exact ⟨_, rfl, hR _ _ hb1 rfl⟩)
                          | (go_simp; go_at_call 56; refine (in_any _ _ _ _).mono ?_; rintro e w1 ⟨rfl, rfl⟩; exact ⟨_, rfl, hR _ _ (Below.refl _ _) rfl⟩)); (go_simp; refine hK _ ?_; clear hK K))
                        intro w2 hC2
                        go_wp2
                        go_ret
                        exact Hb.out _ (hbi.trans ((bel_box hC2.2).mono hszi))
                    · have d2 := inB_no q2
                      have Hb := Lib.hid (Hbad.out 4 (Hbadc.out 4 (by unfold condE; rw [if_neg (by simp only; omega), if_pos (by simp only; omega)]) (by decide)) (by decide))
                      clear q1 q2
                      go_wp2_with (go_at_call 56; refine (in_any _ _ _ _).mono ?_; rintro e w1 ⟨rfl, rfl⟩)
                      go_ret
                      exact Hb.out _ (bel_alloc hbi _)
                  · have d1 := inB_no q1
                    have Hb := Lib.hid (Hbad.out 5 (Hbadc.out 5 (by unfold condE; rw [if_pos (by simp only; omega)]) (by decide)) (by decide))
                    clear q1
                    go_wp2_with (go_at_call 56; refine (in_any _ _ _ _).mono ?_; rintro e w1 ⟨rfl, rfl⟩)
                    go_ret
                    exact Hb.out _ (bel_alloc hbi _)
                · obtain rfl : j = cs.length := by omega
                  have Hg := Lib.hid (Hgood.out (by rw [Hre.out, Hgi.out, List.drop_length]; rfl))
                  go_wp2
                  go_roundw
                  case rel => exact ⟨k + 1, by omega, by go_num, Hg.out, hbi⟩
                  case measure => simp [intOf]; omega
            · have hvd := inB_no h4
              have Hb := Lib.hid (Hbad.out 3 (by unfold ruleE; rw [if_neg h3, if_pos (by simp only; omega)]) (by decide))
              clear Hbad Hgood hat' h3 h4
              go_wp2_with (go_at_call 56; refine (in_any _ _ _ _).mono ?_; rintro e w1 ⟨rfl, rfl⟩)
              go_ret
              exact Hb.out _ (bel_alloc hbw _)
        · obtain rfl : k = rs.length := by omega
          go_wp2
          go_ret
          exact ⟨ret_int (by rw [He.out, Hgo.out, List.drop_length]; rfl), hbw⟩
    · have hd := inB_no h2
      have he : polE ⟨rs, d⟩ = 3 := by unfold polE; rw [if_neg h1, if_pos (by simp only; omega)]
      rw [he]; clear he hat H h1 h2
      go_enter Tryz.func112, Tryz.ntmps112
      go_wp2_with (go_at_call 56; refine (in_any _ _ _ _).mono ?_; rintro e w1 ⟨rfl, rfl⟩)
      go_ret
      exact ⟨rfl, bel_alloc (Below.refl _ _) _⟩
end Go.Proofs.YthkgjohhbdipcaaGreatDoor
namespace Go.Proofs.YthkgjohhbdipcaaGreatDoor
open Go.RowKit

section
variable {P : Program} {ops : Array Oper} {Inv : (Nat → Bool) → World → Prop} {T : Nat → World → World → Prop} {bs : List (List Nat)} {Q : Act → World → Prop} {n : Nat} {o : Oper} {l : List Oper} {ss : List Spec} {i : Nat} {a : Act} {fs : List (World → Prop)} {F : World → Prop}
/-- As doneOb, but that the edges that bind no order are left out. -/
def obP (P : Program) (ops : Array Oper) (Inv : (Nat → Bool) → World → Prop) (T : World → World → Prop) (s : Spec) (i : Nat) (bs : List (List Nat)) (o : Oper) (a : Act) (fs : List (World → Prop)) : Prop :=
  ∀ (done : Nat → Bool) (w : World), Inv done w → done i = false → (∀ k ∈ (prune o).after.toList.map (fun e => e.on), done k = true) → (∀ k : Nat, i ∈ bs.getD k [] → done k = false) → depFacts (prune o) fs w → ∀ R : Value → World → Prop, (∀ (v : Value) (w' : World), Inv (updDone done i) w' → T w w' → s.holds v w' → R v w') →
    if Region.wanted o (yielded ops a.tmps) then gives P o a w R else R undef w
def walkP (P : Program) (ops : Array Oper) (Inv : (Nat → Bool) → World → Prop) (T : Nat → World → World → Prop) (bs : List (List Nat)) (Q : Act → World → Prop) (n : Nat) :
    List Oper → List Spec → Nat → Act → List (World → Prop) → (World → Prop) → Prop
  | [], _, _, a, _, F => ∀ (done : Nat → Bool) (w : World), (∀ k, k < n → done k = true) → Inv done w → F w → Q a w
  | _ :: _, [], _, _, _, _ => False
  | o :: l, s :: ss, i, a, fs, F => obP P ops Inv (T i) s i bs o a fs ∧
      match s.exact? with
      | some x => walkP P ops Inv T bs Q n l ss (i + 1) (a.put o.dst x) (fs ++ [fun _ : World => True]) F
      | none => ∀ v : Value, walkP P ops Inv T bs Q n l ss (i + 1) (a.put o.dst v) (fs ++ [s.pred v]) (fun w : World => F w ∧ s.pred v w)
theorem walk_prune {ops' : List Oper} : ∀ (l : List Oper) (ss : List Spec) (i : Nat) (a : Act) (fs : List (World → Prop)) (F : World → Prop), walkP P ops'.toArray Inv T bs Q n l ss i a fs F → doneWalk P (ops'.map prune).toArray Inv T bs Q n (l.map prune) ss i a fs F
  | [], _, _, _, _, _, h => h
  | _ :: _, [], _, _, _, _, h => h.elim
  | o :: l, s :: ss, i, a, fs, F, h => by
    obtain ⟨h1, h2⟩ := h
    refine ⟨fun done w hI h0 hd hn hf R hR => ?_, ?_⟩
    · have := h1 done w hI h0 hd hn hf R hR
      rw [← yielded_prune] at this
      exact this
    · revert h2
      show (match s.exact? with | some x => _ | none => _) → (match s.exact? with | some x => _ | none => _)
      cases s.exact? with
      | some x => exact fun h2 => walk_prune l ss (i + 1) _ _ _ h2
      | none => exact fun h2 v => walk_prune l ss (i + 1) _ _ _ (h2 v)
theorem walkP_ex {x : Value} (h : ∀ K : Act → Prop, (∀ a', walkP P ops Inv T bs Q n l ss (i + 1) a' (fs ++ [fun _ : World => True]) F → K a') → obP P ops Inv (T i) (ex x) i bs o a fs ∧ K (a.put o.dst x)) :
    walkP P ops Inv T bs Q n (o :: l) (ex x :: ss) i a fs F := h _ (fun _ h => h)
theorem walkP_pr {p : Value → World → Prop} (h : ∀ K : Value → Act → Prop, (∀ v a', walkP P ops Inv T bs Q n l ss (i + 1) a' (fs ++ [p v]) (fun w : World => F w ∧ p v w) → K v a') → obP P ops Inv (T i) (pr p) i bs o a fs ∧ ∀ v, K v (a.put o.dst v)) :
    walkP P ops Inv T bs Q n (o :: l) (pr p :: ss) i a fs F := h _ (fun _ _ h => h)
end

theorem wp_region_done3 {P : Program} {l : List Oper} {Q : Exit → Act → World → Prop} {a : Act} {id : Nat} {w : World} (ss : List Spec) (Inv : (Nat → Bool) → World → Prop) (T : Nat → World → World → Prop) (hm : P.follows .mixedOrders = true) (hB : monoB2 (l.map prune) a.tmps.size = true)
    (hst : ∀ (i k : Nat) (s : Spec), i ≠ k → ss[k]? = some s → ∀ v done w w', Inv done w → T i w w' → s.fact v w → s.fact v w') (hC : Inv (fun _ => false) w.drew)
    (bs : List (List Nat)) (hbs : befores (l.map prune) [] = bs) (h : walkP P l.toArray Inv T bs (Q .normal) l.length l ss 0 a [] (fun _ => True)) : (Code.region id l.toArray true).wp P Q a w := by
  subst hbs
  have h' := walk_prune (ops' := l) l ss 0 a [] _ h
  rw [show l.length = (l.map prune).length by simp] at h'
  refine wp_region_any hm (wpAny_prune _ _ _ _ (wpAny_done hB hst h' _ _ (fun _ => undef) _ _ ?_ ⟨?_, ?_, by simp, rfl, rfl, ?_, fun _ _ => rfl⟩))
  · have := List.length_filter_le (fun i => (Array.replicate l.toArray.size false)[i]? != some true) (List.range (l.map prune).length)
    simpa [undone] using this
  · refine (congrArg (fun d => Inv d _) ?_).mp hC
    funext k
    rw [Array.getElem?_replicate]
    split <;> simp
  · intro j o hj hl
    rw [Array.getElem?_replicate] at hl
    split at hl <;> simp at hl
  · intro j o s hj _ hl
    rw [Array.getElem?_replicate] at hl
    split at hl <;> simp at hl

theorem ob_plain {o : Oper} {y : Nat → Option Bool} {A B : Prop} (h : o.guard = none) (hA : A) : if Region.wanted o y then A else B := by
  have : Region.wanted o y = true := by simp [Region.wanted, h]
  rw [if_pos this]; exact hA

/-- The operation append. -/
theorem gives_append {P : Program} {w : World} {o : Oper} {a : Act} {R : Value → World → Prop} (s x : Operand) (t : TypeId)
    (ho : o.op = .call { callee := .builtin .append, args := #[s, x], argTypes := #[t, t] })
    (base : Nat) (e : TypeId) (i : TypeInfo) (z : Value) (size bytes : Nat) (ht : P.underlying t = some (.slice e)) (hi : P.info? e = some i) (hz : i.zero = some z)
    (hsize : i.size = size) (hby : i.bytes = bytes) (hzs : z.cells.size = size) (hsz : 0 < size)
    (v : Value) (n : Nat) (xs : List Value) (hs : a.eval s = v) (hown : w.ownsRow base e size v n xs)
    (ad : Addr) (m c : Nat) (news : List Value) (hx : a.eval x = .slice (some ad) m c) (hl : news.length = m * size) (hnews : ∀ j u, news[j]? = some u → w.cell? (ad.add j) = some u) (h1 : ∀ u ∈ news, u.oneCell' = true)
    (hm : 0 < m) (h63 : n + m ≤ maxLen) (hbytes : (n + m) * bytes ≤ 140737488355328) (hbase : base ≤ w.heap.size)
    (h : ∀ v' w', w'.ownsRow base e size v' (n + m) (xs ++ news) → w.grownBy w' v.ownBlock → R v' w') : gives P o a w R := by
  obtain ⟨g, cap, w', hr, h2, h3, _, _⟩ := run_append_lies (P := P) w t o.type base e i z size bytes ht hi hz hsize hby hzs hsz v n xs hown ad m c news hl hnews h1 hm h63 hbytes hbase _ rfl
  unfold gives execOp
  simp only [ho, resolve, invoke, builtin, Sem.run_bind, Sem.run_pure, Result.andThen_ok, List.map_toArray, List.map_cons, List.map_nil, hs, hx, hr]
  exact h _ _ h2 h3

/-- The worlds of such a region: w0 is the world at its head; β the box (its cells, the slice at offset off); cv the slice, with n elements; news: the cells of what is appended; ia, is: the numbers of the append and of the store. -/
structure AppInv (w0 : World) (β : Nat) (T : TypeId) (box : Array Value) (off base : Nat) (E : TypeId) (sz : Nat) (cv : Value) (n : Nat) (cells : List Value) (m : Nat) (news : List Value) (ia is : Nat) (done : Nat → Bool) (W : World) : Prop where
  os : W.os = w0.os
  tape : W.tape = w0.tape
  output : W.output = w0.output
  size : w0.heap.size ≤ W.heap.size
  blk : ∀ b, b < w0.heap.size → b ≠ β → some b ≠ cv.ownBlock → W.heap[b]? = w0.heap[b]?
  before : done is = false → W.heap[β]? = some (.cells box T)
  own : done ia = false → W.ownsRow base E sz cv n cells
  after : done is = true → ∃ v, W.heap[β]? = some (.cells (box.setIfInBounds off v) T) ∧ W.ownsRow base E sz v (n + m) (cells ++ news)
def AppT (β : Nat) (cv : Value) (ia : Nat) (i : Nat) (w w' : World) : Prop := w.heap.size ≤ w'.heap.size ∧ ∀ b, b < w.heap.size → b ≠ β → (i = ia → some b ≠ cv.ownBlock) → w'.heap[b]? = w.heap[b]?
/-- what buildSlice lays. -/
def NewP (B : Nat) (E : TypeId) (m : Nat) (cs : Array Value) (v : Value) (W : World) : Prop := ∃ b, v = .slice (some ⟨b, 0, none⟩) m m ∧ B ≤ b ∧ W.heap[b]? = some (.cells cs E)
def OwnP (base : Nat) (E : TypeId) (sz n : Nat) (cells : List Value) (v : Value) (W : World) : Prop := W.ownsRow base E sz v n cells

theorem NewP.stable {B β m ia i : Nat} {E : TypeId} {cs : Array Value} {cv v : Value} {w w' : World} (hβ : β < B) (hcv : ∀ g, cv.ownBlock = some g → g < B) (hT : AppT β cv ia i w w') (h : NewP B E m cs v w) : NewP B E m cs v w' := by
  obtain ⟨b, hv, hb, hc⟩ := h
  have hlt : b < w.heap.size := (Array.getElem?_eq_some_iff.1 hc).1
  refine ⟨b, hv, hb, ?_⟩
  rw [hT.2 b hlt (by omega) (fun _ e => by have := hcv b e.symm; omega)]
  exact hc
theorem ownsRow_keep1 {w w' : World} {base : Nat} {E : TypeId} {sz n : Nat} {v : Value} {cells : List Value} (h : w.ownsRow base E sz v n cells) (hb : ∀ b, base ≤ b → b < w.heap.size → v.ownBlock = some b → w'.heap[b]? = w.heap[b]?) : w'.ownsRow base E sz v n cells := by
  obtain ⟨h1, h2⟩ := h
  refine ⟨h1, ?_⟩
  rcases h2 with h2 | ⟨g, cap, cur, hv, hg, hh, r⟩
  · exact .inl h2
  · exact .inr ⟨g, cap, cur, hv, hg, by rw [hb g hg (Array.getElem?_eq_some_iff.1 hh).1 (by rw [hv]; rfl)]; exact hh, r⟩
theorem OwnP.stable {base β sz n ia i : Nat} {E : TypeId} {cells : List Value} {cv v : Value} {w w' : World} (hβ : β < base) (hi : i ≠ ia) (hT : AppT β cv ia i w w') (h : OwnP base E sz n cells v w) : OwnP base E sz n cells v w' :=
  ownsRow_keep1 h fun b hb hlt _ => hT.2 b hlt (by omega) (fun e => absurd e hi)

section
variable {w0 W W' : World} {β : Nat} {T : TypeId} {box : Array Value} {off base : Nat} {E : TypeId} {sz n m ia is i : Nat} {cv : Value} {cells news : List Value} {done : Nat → Bool}
theorem AppInv.start (h : w0.heap[β]? = some (.cells box T)) (ho : w0.ownsRow base E sz cv n cells) : AppInv w0 β T box off base E sz cv n cells m news ia is (fun _ => false) w0.drew :=
  ⟨rfl, rfl, rfl, Nat.le_refl _, fun _ _ _ _ => rfl, fun _ => h, fun _ => by exact ownsRow_keep1 ho fun _ _ _ _ => rfl, fun h => by cases h⟩
/-- an operation that leaves the world alone, or lays blocks alone. -/
theorem AppInv.step (h : AppInv w0 β T box off base E sz cv n cells m news ia is done W) (hb : Below W.heap.size W W') (h1 : i ≠ ia) (h2 : i ≠ is) : AppInv w0 β T box off base E sz cv n cells m news ia is (updDone done i) W' where
  os := hb.os.trans h.os
  tape := hb.tape.trans h.tape
  output := hb.output.trans h.output
  size := Nat.le_trans h.size hb.size
  blk := fun b hlt hn ho => (hb.block b (Nat.lt_of_lt_of_le hlt h.size)).trans (h.blk b hlt hn ho)
  before := fun hd => by
    have : done is = false := by simpa [updDone, Ne.symm h2] using hd
    exact blk_below (h.before this) hb
  own := fun hd => by
    have : done ia = false := by simpa [updDone, Ne.symm h1] using hd
    exact ownsRow_keep1 (h.own this) fun b _ hlt _ => hb.block b hlt
  after := fun hd => by
    have : done is = true := by simpa [updDone, Ne.symm h2] using hd
    obtain ⟨v, h1, h2⟩ := h.after this
    exact ⟨v, blk_below h1 hb, ownsRow_keep1 h2 fun b _ hlt _ => hb.block b hlt⟩
theorem AppT.of_below (hb : Below W.heap.size W W') : AppT β cv ia i W W' := ⟨hb.size, fun b hlt _ _ => hb.block b hlt⟩
/-- the append. -/
theorem AppInv.appended (h : AppInv w0 β T box off base E sz cv n cells m news ia is done W) (hd : done is = false) (hne : ia ≠ is) (hcv : ∀ g, cv.ownBlock = some g → g ≠ β) (hg : W.grownBy W' cv.ownBlock) (hβ : β < w0.heap.size) : AppInv w0 β T box off base E sz cv n cells m news ia is (updDone done ia) W' where
  os := hg.os.trans h.os
  tape := hg.tape.trans h.tape
  output := hg.output.trans h.output
  size := Nat.le_trans h.size hg.size
  blk := fun b hlt hn ho => (hg.block b (Nat.lt_of_lt_of_le hlt h.size) ho).trans (h.blk b hlt hn ho)
  before := fun _ => by rw [hg.block β (Nat.lt_of_lt_of_le hβ h.size) (fun e => hcv β e.symm rfl)]; exact h.before hd
  own := fun hd => by simp [updDone] at hd
  after := fun hd' => by simp [updDone, Ne.symm hne, hd] at hd'
theorem AppT.of_grown (hg : W.grownBy W' cv.ownBlock) : AppT β cv ia ia W W' := ⟨hg.size, fun b hlt _ h => hg.block b hlt (h rfl)⟩
/-- the store. -/
theorem AppInv.stored {v : Value} (h : AppInv w0 β T box off base E sz cv n cells m news ia is done W) (hd : done is = false) (hda : done ia = true) (hne : is ≠ ia) (hv : W.ownsRow base E sz v (n + m) (cells ++ news)) (hβ : β < base) :
    AppInv w0 β T box off base E sz cv n cells m news ia is (updDone done is) (W.setCell ⟨β, off, none⟩ v) where
  os := h.os
  tape := h.tape
  output := h.output
  size := by show _ ≤ (W.heap.modify _ _).size; rw [Array.size_modify]; exact h.size
  blk := fun b hlt hn ho => by
    have : (W.setCell ⟨β, off, none⟩ v).heap[b]? = W.heap[b]? := by
      show (W.heap.modify β _)[b]? = _
      rw [Array.getElem?_modify, if_neg (fun e => hn e.symm)]
    rw [this]; exact h.blk b hlt hn ho
  before := fun hd => by simp [updDone] at hd
  own := fun hd' => by simp [updDone, Ne.symm hne, hda] at hd'
  after := fun _ => by
    refine ⟨v, ?_, ownsRow_keep1 hv fun b hb _ _ => ?_⟩
    · show (W.heap.modify β _)[β]? = _
      rw [Array.getElem?_modify, if_pos rfl, h.before hd]
      rfl
    · show (W.heap.modify β _)[b]? = _
      rw [Array.getElem?_modify, if_neg (by omega)]
theorem AppT.of_store {v : Value} : AppT β cv ia i W (W.setCell ⟨β, off, none⟩ v) :=
  ⟨by show _ ≤ (W.heap.modify _ _).size; rw [Array.size_modify]; exact Nat.le_refl _, fun b _ hn _ => by
    show (W.heap.modify β _)[b]? = _
    rw [Array.getElem?_modify, if_neg (fun e => hn e.symm)]⟩
theorem AppInv.below {w : World} {B : Nat} (h : AppInv w0 β T box off base E sz cv n cells m news ia is done W) (hb : Below B w w0) (hβ : B ≤ β) (ho : ∀ g, cv.ownBlock = some g → B ≤ g) (hB : B ≤ w0.heap.size) : Below B w W :=
  hb.trans ⟨h.os, h.tape, h.output, h.size, fun b hlt => h.blk b (by omega) (by omega) (fun e => by have := ho b e.symm; omega)⟩
def goodSpecs (N O : Value → World → Prop) (ia : Nat) : List Spec → Nat → Prop
  | [], _ => True
  | s :: r, k => ((∃ x, s = ex x) ∨ s = pr N ∨ (k = ia ∧ s = pr O)) ∧ goodSpecs N O ia r (k + 1)
theorem goodSpecs_get {N O : Value → World → Prop} {ia : Nat} : ∀ (ss : List Spec) (k0 : Nat), goodSpecs N O ia ss k0 → ∀ (k : Nat) (s : Spec), ss[k]? = some s → (∃ x, s = ex x) ∨ s = pr N ∨ (k0 + k = ia ∧ s = pr O)
  | [], _, _, _, _, h => by simp at h
  | s0 :: r, k0, hg, 0, s, h => by simp at h; subst h; exact hg.1
  | s0 :: r, k0, hg, k + 1, s, h => by
    have := goodSpecs_get r (k0 + 1) hg.2 k s (by simpa using h)
    rw [show k0 + (k + 1) = k0 + 1 + k by omega]; exact this
/-- THE LAW of such a region. -/
theorem wp_region_app {P : Program} {l : List Oper} {Q : Exit → Act → World → Prop} {a : Act} {id : Nat} (β : Nat) (T : TypeId) (box : Array Value) (off base : Nat) (E : TypeId) (sz : Nat) (cv : Value) (n : Nat) (cells : List Value) (m : Nat) (news : List Value) (ia is : Nat)
    (hm : P.follows .mixedOrders = true) (hB : monoB2 (l.map prune) a.tmps.size = true) (hbox : w0.heap[β]? = some (.cells box T)) (hown : w0.ownsRow base E sz cv n cells) (hβ : β < base) (hβ' : β < w0.heap.size)
    (bs : List (List Nat)) (hbs : befores (l.map prune) [] = bs) (ss : List Spec)
    (h : walkP P l.toArray (AppInv w0 β T box off base E sz cv n cells m news ia is) (AppT β cv ia) bs (Q .normal) l.length l ss 0 a [] (fun _ => True))
    (hss : goodSpecs (NewP w0.heap.size E m news.toArray) (OwnP base E sz (n + m) (cells ++ news)) ia ss 0) : (Code.region id l.toArray true).wp P Q a w0 := by
  refine wp_region_done3 ss _ (AppT β cv ia) hm hB (fun i k s hik hk v done w w' _ hT hf => ?_) (AppInv.start hbox hown) bs hbs h
  have hlt : ∀ g, cv.ownBlock = some g → g < w0.heap.size := fun g hg => (hown.lt g hg).2
  rcases goodSpecs_get ss 0 hss k s hk with ⟨x, rfl⟩ | rfl | ⟨hka, rfl⟩
  · trivial
  · exact NewP.stable hβ' hlt hT hf
  · exact OwnP.stable hβ (by omega) hT hf
end
end Go.Proofs.YthkgjohhbdipcaaGreatDoor
namespace Go.Proofs.YthkgjohhbdipcaaGreatDoor
open Go.RowKit
open Go.MapKept (IsKey)

set_option maxHeartbeats 1000000 in
theorem bad_any (e : Int) (w : World) : Calls Tryz.prog 121 #[.int .i64 e] w fun en w' => en = .returned (.tuple #[polV (.slice none 0 0) 0, .int .i64 e]) ∧ Below w.heap.size w w' := by
  go_enter Tryz.func121, Tryz.ntmps121
  go_wp2
  refine bodyPost_ret (v := .tuple #[polV (.slice none 0 0) 0, .int .i64 e]) ?_ rfl ⟨rfl, bel_alloc (Below.refl _ _) _⟩
  rw [results_cell_tmp rfl]
  go_simp

/-- blocks of the call's own behind its five, but that of one slice. -/
def But (B : Nat) (pv : Value) (b : Nat) : Prop := B + 5 ≤ b ∧ pv.ownBlock ≠ some b
/-- the world as the loop of rules has it. -/
structure RdState (w wr : World) (rs : List TRule) (pv : Value) : Prop where
  bel : Below w.heap.size w wr
  sz : w.heap.size + 5 ≤ wr.heap.size
  res : wr.heap[w.heap.size]? = some (.cells #[.slice none 0 0, .int .i64 0] 38)
  vm : wr.heap[w.heap.size + 1]? = some (.map vmap 5)
  fm : wr.heap[w.heap.size + 2]? = some (.map fmap 5)
  om : wr.heap[w.heap.size + 3]? = some (.map omap 4)
  pc : wr.heap[w.heap.size + 4]? = some (.cells #[pv, .int .i64 0] 38)
  own : OwnSl wr (w.heap.size + 5) 147 2 (ruleR wr (But w.heap.size pv)) pv rs
theorem RdState.below {w wr w1 : World} {rs : List TRule} {pv : Value} (h : RdState w wr rs pv) (hb : Below wr.heap.size wr w1) : RdState w w1 rs pv where
  bel := bel_call h.bel hb
  sz := Nat.le_trans h.sz hb.size
  res := blk_below h.res hb
  vm := blk_below h.vm hb
  fm := blk_below h.fm hb
  om := blk_below h.om hb
  pc := blk_below h.pc hb
  own := (h.own.below hb).monoR fun _ _ _ ⟨v, h1, h2⟩ => ⟨v, h1, h2.below hb⟩
theorem RdState.rules {w wr : World} {rs : List TRule} {pv : Value} (h : RdState w wr rs pv) : RdRules wr (fun b => w.heap.size + 5 ≤ b) pv rs :=
  (h.own.monoR fun _ _ _ ⟨v, h1, h2⟩ => ⟨v, h1, h2.keep (fun _ hb _ => hb.1) (fun _ _ _ => rfl) (Nat.le_refl _)⟩).sl fun _ h => h
theorem rdState0 (w : World) : RdState w (((((w.alloc (.cells #[.slice none 0 0, .int .i64 0] 38)).alloc (.map vmap 5)).alloc (.map fmap 5)).alloc (.map omap 4)).alloc (.cells #[.slice none 0 0, .int .i64 0] 38)) [] (.slice none 0 0) where
  bel := bel_alloc (bel_alloc (bel_alloc (bel_alloc (bel_alloc (Below.refl _ _) _) _) _) _) _
  sz := by simp
  res := blk_old (blk_old (blk_old (blk_old (blk_at rfl))))
  vm := blk_old (blk_old (blk_old (blk_at (by simp))))
  fm := blk_old (blk_old (blk_at (by simp)))
  om := blk_old (blk_at (by simp))
  pc := blk_at (by simp)
  own := OwnSl.nil

theorem infoCond : (Tryz.prog.info? 153).map (fun i => (i.zero, i.size, i.bytes)) = some (some (.agg #[.int .i64 0, .int .i64 0, .int .i64 0]), 3, 24) := by kernel_rfl
theorem infoRule : (Tryz.prog.info? 147).map (fun i => (i.zero, i.size, i.bytes)) = some (some (.agg #[.slice none 0 0, .int .i64 0]), 2, 32) := by kernel_rfl
theorem rd_step {w w2 wr w4 : World} {rs : List TRule} {pv : Value} {cs : List TCond} {cv : Value} {vd : Int} {gg cap : Nat} {rows : List (List Value)} {O : Obj} (hst : RdState w w2 rs pv) (hbw : Below w2.heap.size w2 wr)
    (hown : OwnSl wr (w2.heap.size + 1) 153 3 condR cv cs) (hgrow : (wr.alloc O).grownBy w4 pv.ownBlock)
    (hown4 : w4.ownsRow (w.heap.size + 5) 147 2 (.slice (some ⟨gg, 0, none⟩) (rs.length + 1) cap) (rs.length + 1) (rows.flatten ++ [cv, .int .i64 vd]))
    (hro : RowsOf 2 (ruleR wr (But w.heap.size pv)) rs rows) (hat : pv.ownBlock = some gg ∨ gg = wr.heap.size + 1) :
    RdState w (w4.setCell ⟨w.heap.size + 4, 0, none⟩ (.slice (some ⟨gg, 0, none⟩) (rs.length + 1) cap)) (rs ++ [⟨cs, vd⟩]) (.slice (some ⟨gg, 0, none⟩) (rs.length + 1) cap) := by
  have h1 := hst.below hbw
  have hsz2 := hst.sz
  have hsw := hbw.size
  have hpo : ∀ g, pv.ownBlock = some g → w.heap.size + 5 ≤ g ∧ g < w2.heap.size := fun g hg => by
    obtain ⟨rows', _, hr'⟩ := hst.own
    exact hr'.lt g hg
  have hal : (wr.alloc O).heap.size = wr.heap.size + 1 := by simp
  have hg4 := hgrow.size
  -- a block that is neither the box nor the rules' row stays
  have keep : ∀ b, b < wr.heap.size → b ≠ w.heap.size + 4 → pv.ownBlock ≠ some b → (w4.setCell ⟨w.heap.size + 4, 0, none⟩ (.slice (some ⟨gg, 0, none⟩) (rs.length + 1) cap)).heap[b]? = wr.heap[b]? := fun b hb hn ho => by
    rw [set_other (by exact hn), hgrow.block b (by omega) (fun e => ho e.symm)]
    show (wr.heap.push O)[b]? = _
    rw [Array.getElem?_push, if_neg (by omega)]
  have small : ∀ b, b < w.heap.size + 4 → (w4.setCell ⟨w.heap.size + 4, 0, none⟩ (.slice (some ⟨gg, 0, none⟩) (rs.length + 1) cap)).heap[b]? = wr.heap[b]? := fun b hb =>
    keep b (by omega) (by omega) (fun e => by have := (hpo b e).1; omega)
  have hss : wr.heap.size ≤ (w4.setCell ⟨w.heap.size + 4, 0, none⟩ (.slice (some ⟨gg, 0, none⟩) (rs.length + 1) cap)).heap.size := by rw [set_size]; omega
  exact {
    bel := by
      refine set_below ?_ (by show w.heap.size ≤ w.heap.size + 4; omega)
      exact h1.bel.trans ⟨hgrow.os, hgrow.tape, hgrow.output, by omega, fun i hi => by
        rw [hgrow.block i (by omega) (fun e => by have := (hpo i e.symm).1; omega)]
        show (wr.heap.push O)[i]? = _
        rw [Array.getElem?_push, if_neg (by omega)]⟩
    sz := by omega
    res := (small _ (by omega)).trans h1.res
    vm := (small _ (by omega)).trans h1.vm
    fm := (small _ (by omega)).trans h1.fm
    om := (small _ (by omega)).trans h1.om
    pc := by
      have : w4.heap[w.heap.size + 4]? = some (.cells #[pv, .int .i64 0] 38) := by
        rw [hgrow.block _ (by omega) (fun e => by have := (hpo _ e.symm).1; omega)]
        show (wr.heap.push O)[w.heap.size + 4]? = _
        rw [Array.getElem?_push, if_neg (by omega)]
        exact h1.pc
      exact set_at this
    own := by
      refine ⟨rows ++ [[cv, .int .i64 vd]], (hro.mono fun x _ c hx => ?_).app (RowsOf.cons (sz := 2) (x := (⟨cs, vd⟩ : TRule)) (r := [cv, .int .i64 vd]) RowsOf.nil ?_ rfl), ?_⟩
      · obtain ⟨v, e1, e2⟩ := hx
        exact ⟨v, e1, e2.keep (fun b hb hlt => ⟨hb.1, fun e => by
          have e' : gg = b := by simpa [Value.ownBlock] using e
          rcases hat with h | h
          · exact hb.2 (by rw [h, e'])
          · omega⟩) (fun b hb hlt => keep b hlt (by have := hb.1; omega) hb.2) hss⟩
      · refine ⟨cv, rfl, ?_⟩
        have hs : RdConds wr (fun b => w2.heap.size + 1 ≤ b) cv cs := hown.sl fun _ h => h
        exact hs.keep (fun b hb hlt => ⟨by have : w2.heap.size + 1 ≤ b := hb; omega, fun e => by
          have e' : gg = b := by simpa [Value.ownBlock] using e
          have hb' : w2.heap.size + 1 ≤ b := hb
          rcases hat with h | h
          · have := (hpo gg h).2; omega
          · omega⟩) (fun b hb hlt => keep b hlt (by have : w2.heap.size + 1 ≤ b := hb; omega) (fun e => by have : w2.heap.size + 1 ≤ b := hb; have := (hpo b e).2; omega)) hss
      · have := ownsRow_keep1 (w' := w4.setCell ⟨w.heap.size + 4, 0, none⟩ (.slice (some ⟨gg, 0, none⟩) (rs.length + 1) cap)) hown4 (fun b hb _ _ => set_other (by show b ≠ w.heap.size + 4; omega))
        simpa using this }
end Go.Proofs.YthkgjohhbdipcaaGreatDoor
