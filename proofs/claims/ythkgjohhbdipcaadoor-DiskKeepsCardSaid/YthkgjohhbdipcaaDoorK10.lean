/- Texts laid one behind the other: CutC, Mark, Puts, NParse, Noted, Bytes, EqByte, NSame, OpenRec. No condition beyond theirs. -/
import Derived.Test.YthkgjohhbdipcaaDoorK5
import Derived.Test.YthkgjohhbdipcaaDoorK3
import Derived.Test.YthkgjohhbdipcaaDoorK4
import Derived.Test.YthkgjohhbdipcaaDoorK2
import Derived.Test.YthkgjohhbdipcaaDoorK8
import Derived.Test.YthkgjohhbdipcaaDoorK6
import Derived.Test.YthkgjohhbdipcaaDoorK7
import Derived.Test.YthkgjohhbdipcaaDoorProg
import Derived.Laws.IdiomStrings
import Derived.Laws.BytesArg
import Derived.KernelRfl
import Derived.Test.YthkgjohhbdipcaaDoorK9
set_option linter.all false
namespace Go.Proofs.YthkgjohhbdipcaaDoor
open Go.RowKit

theorem cutc_any (c : UInt8) (t : List UInt8) (w : World) (hL : Laid w) (hs : t.length < 4294967281) : Calls Tryd.prog 45 #[.string (bsL t), .string ⟨#[c]⟩] w fun e w' =>
    e = .returned (.tuple #[.string (bsL (Lib.cut t [c]).1), .string (bsL (Lib.cut t [c]).2.1), .bool (Lib.cut t [c]).2.2]) ∧ Below w.heap.size w w' := by
  obtain ⟨m, hm⟩ := hL.ml
  refine (Tryd.strings_Cut (bsL t) ⟨#[c]⟩ m w (by simpa [bsL, ByteArray.size] using hs) hm).mono ?_
  rintro e w1 ⟨rfl, n, rfl⟩
  exact ⟨rfl, Go.Joins.below_draws _ _ _⟩
theorem cut_len (t : List UInt8) (c : UInt8) : (Lib.cut t [c]).1.length ≤ t.length ∧ (Lib.cut t [c]).2.1.length ≤ t.length := by
  unfold Lib.cut
  split
  · simp; omega
  · simp
end Go.Proofs.YthkgjohhbdipcaaDoor
namespace Go.Proofs.YthkgjohhbdipcaaDoor
open Go.RowKit

section
variable {α β : Type}
/-- the outer k bear t, the others f. -/
def marks (l : List α) (k : Nat) (t f : β) : List (α × β) := (l.take k).map (fun a => (a, t)) ++ (l.drop k).map (fun a => (a, f))
/-- as marks, but that number k bears m. -/
def markm (l : List α) (k : Nat) (x : α) (t m f : β) : List (α × β) := (l.take k).map (fun a => (a, t)) ++ (x, m) :: (l.drop (k + 1)).map (fun a => (a, f))
variable {l : List α} {k : Nat} {x : α} {t m m' f : β}
theorem marks_len (h : k ≤ l.length) : (marks l k t f).length = l.length := by simp [marks]; omega
theorem markm_len (h : k < l.length) : (markm l k x t m f).length = l.length := by simp [markm]; omega
theorem markm_get (h : k < l.length) : (markm l k x t m f)[k]? = some (x, m) := by
  unfold markm
  rw [List.getElem?_append_right (by simp; omega)]
  have : k - ((l.take k).map fun a => (a, t)).length = 0 := by simp; omega
  rw [this]
  rfl
theorem markm_set (h : k < l.length) : (markm l k x t m f).set k (x, m') = markm l k x t m' f := by
  unfold markm
  have e : ((l.take k).map fun a => (a, t)).length = k := by simp; omega
  rw [List.set_append_right _ _ (by rw [e]; exact Nat.le_refl _), e, Nat.sub_self, List.set_cons_zero]
theorem markm_lo (hx : l[k]? = some x) : markm l k x t f f = marks l k t f := by
  obtain ⟨h, rfl⟩ := List.getElem?_eq_some_iff.1 hx
  unfold markm marks
  rw [List.drop_eq_getElem_cons h, List.map_cons]
theorem markm_hi (hx : l[k]? = some x) : markm l k x t t f = marks l (k + 1) t f := by
  obtain ⟨h, rfl⟩ := List.getElem?_eq_some_iff.1 hx
  unfold markm marks
  rw [List.take_succ_eq_append_getElem h, List.map_append]
  simp
theorem marks_zero : marks l 0 t f = l.map fun a => (a, f) := by simp [marks]
theorem marks_all : marks l l.length t f = l.map fun a => (a, t) := by simp [marks]
theorem OwnSl.unmark' {w : World} {base sz : Nat} {e : TypeId} {v : Value} {R' : α × β → List Value → Prop} {R : α → List Value → Prop} (h : OwnSl w base e sz R' v (l.map fun a => (a, t))) (hR : ∀ x cs, R' (x, t) cs → R x cs) : OwnSl w base e sz R v l := by
  obtain ⟨rows, hr, ho⟩ := h
  refine ⟨rows, ⟨by simpa using hr.len, hr.size, fun i x r hx hk => ?_⟩, by simpa using ho⟩
  exact hR _ _ (hr.rel i (x, t) r (by rw [List.getElem?_map, hx]; rfl) hk)
theorem OwnSl.mark' {w : World} {base sz : Nat} {e : TypeId} {v : Value} {R' : α × β → List Value → Prop} {R : α → List Value → Prop} (h : OwnSl w base e sz R v l) (hR : ∀ x cs, R x cs → R' (x, f) cs) : OwnSl w base e sz R' v (l.map fun a => (a, f)) := by
  obtain ⟨rows, hr, ho⟩ := h
  refine ⟨rows, ⟨by simpa using hr.len, hr.size, fun i x r hx hk => ?_⟩, by simpa using ho⟩
  rw [List.getElem?_map] at hx
  cases hy : l[i]? with
  | none => rw [hy] at hx; cases hx
  | some y =>
    rw [hy] at hx
    injection hx with hx
    subst hx
    exact hR _ _ (hr.rel i y r hy hk)
end

theorem OwnSl.kept {α : Type} {w w' : World} {base sz : Nat} {e : TypeId} {R : α → List Value → Prop} {v : Value} {xs : List α} (h : OwnSl w base e sz R v xs) (hb : ∀ b, base ≤ b → b < w.heap.size → w'.heap[b]? = w.heap[b]?) : OwnSl w' base e sz R v xs := by
  obtain ⟨rows, hr, ho⟩ := h
  exact ⟨rows, hr, ownsRow_keep ho hb⟩
theorem grow_below {w0 w w' : World} {g : Option Nat} (h : w0.grownBy w g) (hb : Below w.heap.size w w') : w0.grownBy w' g :=
  ⟨hb.os.trans h.os, hb.tape.trans h.tape, hb.output.trans h.output, Nat.le_trans h.size hb.size, fun k hk hn => (hb.block k (Nat.lt_of_lt_of_le hk h.size)).trans (h.block k hk hn)⟩
theorem below_grow {w w' : World} (hb : Below w.heap.size w w') (g : Option Nat) : w.grownBy w' g := ⟨hb.os, hb.tape, hb.output, hb.size, fun k hk _ => hb.block k hk⟩
theorem grow_set (W : World) (g i : Nat) (v : Value) : W.grownBy (W.setCell ⟨g, i, none⟩ v) (some g) :=
  ⟨rfl, rfl, rfl, by rw [set_size]; exact Nat.le_refl _, fun k _ hn => set_other (fun e => hn (by rw [e]))⟩
theorem grow_trans {w0 w w' : World} {g : Option Nat} (h : w0.grownBy w g) (h' : w.grownBy w' g) : w0.grownBy w' g :=
  ⟨h'.os.trans h.os, h'.tape.trans h.tape, h'.output.trans h.output, Nat.le_trans h.size h'.size, fun k hk hn => (h'.block k (Nat.lt_of_lt_of_le hk h.size) hn).trans (h.block k hk hn)⟩
theorem grow_drew (W : World) (g : Option Nat) : W.grownBy W.drew g := ⟨rfl, rfl, rfl, Nat.le_refl _, fun _ _ _ => rfl⟩
theorem below_of_grow {B g : Nat} {w0 w w' : World} (hb : Below B w0 w) (h : w.grownBy w' (some g)) (hB : B ≤ w.heap.size) (hg : B ≤ g) : Below B w0 w' :=
  hb.grown h hB fun k hk => by injection hk with hk; omega

/-- The worlds of a region that stores into a row of the call's own: what the row reads as, by which operations are done. -/
structure PutInv {α : Type} (w0 : World) (base : Nat) (T : TypeId) (sz g n c : Nat) (R : World → α → List Value → Prop) (A : (Nat → Bool) → List α) (done : Nat → Bool) (W : World) : Prop where
  own : OwnSl W base T sz (R W) (.slice (some ⟨g, 0, none⟩) n c) (A done)
  gr : w0.grownBy W (some g)
section
variable {α : Type} {w0 W W' : World} {base sz g n c k : Nat} {T : TypeId} {R : World → α → List Value → Prop} {A : (Nat → Bool) → List α} {done : Nat → Bool}
theorem PutInv.step (hR : ∀ W W' y cs, Below W.heap.size W W' → R W y cs → R W' y cs) (h : PutInv w0 base T sz g n c R A done W) (hb : Below W.heap.size W W') (hA : A (updDone done k) = A done) : PutInv w0 base T sz g n c R A (updDone done k) W' :=
  ⟨by rw [hA]; exact (h.own.below hb).monoR fun y _ cs hy => hR W W' y cs hb hy, grow_below h.gr hb⟩
theorem PutInv.blk (h : PutInv w0 base T sz g n c R A done W) (hl : 0 < (A done).length) : base ≤ g ∧ g < W.heap.size ∧ ∃ cur, W.heap[g]? = some (.cells cur T) := by
  obtain ⟨b, e, hb, hlt, cur, hc⟩ := OwnSl.addr h.own hl
  injection e with e
  injection e with e
  subst e
  exact ⟨hb, hlt, cur, hc⟩
theorem PutInv.frz (h : PutInv w0 base T sz g n c R A done W) (hl : 0 < (A done).length) (j : Nat) : W.frozen? ⟨g, j, none⟩ = false := by
  obtain ⟨_, _, cur, hc⟩ := h.blk hl
  exact not_frozen hc j
/-- the cells of one element. -/
theorem PutInv.cells (h : PutInv w0 base T sz g n c R A done W) {i : Nat} {y : α} (hi : (A done)[i]? = some y) : ∃ cs, cs.length = sz ∧ R W y cs ∧ ∀ j u, cs[j]? = some u → W.cell? ⟨g, i * sz + j, none⟩ = some u := by
  obtain ⟨hlt, rfl⟩ := List.getElem?_eq_some_iff.1 hi
  have hs := OwnSl.sl h.own (D := fun _ => True) (fun _ _ => trivial)
  obtain ⟨a', c'', hv, hf⟩ := Sl.form hs
  injection hv with h1 h2 h3
  subst h1 h2 h3
  obtain ⟨cs, hl, hr, hc⟩ := Sl.get hs hlt
  exact ⟨cs, hl, hr, fun j u hu => by have := hc j u hu; simpa using this⟩
/-- a store: element i is y from now on y'. -/
theorem PutInv.put (h : PutInv w0 base T sz g n c R A done W) {i j : Nat} (hj : j < sz) {y y' : α} {u : Value} (hi : (A done)[i]? = some y) (hR : ∀ r, R (W.setCell ⟨g, i * sz + j, none⟩ u) y r → R (W.setCell ⟨g, i * sz + j, none⟩ u) y' (r.set j u))
    (hk : ∀ z cs, R W z cs → R (W.setCell ⟨g, i * sz + j, none⟩ u) z cs) {done' : Nat → Bool} (hA : (A done).set i y' = A done') : PutInv w0 base T sz g n c R A done' (W.setCell ⟨g, i * sz + j, none⟩ u) := by
  obtain ⟨hlt, rfl⟩ := List.getElem?_eq_some_iff.1 hi
  have hp := OwnSl.put (y := y') (u := u) (i := i) (j := j) (h.own.monoR (R' := R (W.setCell ⟨g, i * sz + j, none⟩ u)) fun z _ cs hz => hk z cs hz) hlt hj hR
  rw [hA] at hp
  exact ⟨hp, grow_trans h.gr (grow_set W g _ u)⟩
end

/-- facts that stores into block g leave alone. -/
def stableG (g : Nat) (p : Value → World → Prop) : Prop := ∀ v w w', w.grownBy w' (some g) → p v w → p v w'
def stablesG (g : Nat) : List Spec → Prop
  | [] => True
  | s :: r => ((∃ x, s = ex x) ∨ ∃ p, s = pr p ∧ stableG g p) ∧ stablesG g r
theorem stablesG_get {g : Nat} : ∀ (ss : List Spec), stablesG g ss → ∀ s ∈ ss, ∀ v w w', w.grownBy w' (some g) → s.fact v w → s.fact v w'
  | [], _, s, h => by cases h
  | s0 :: r, h, s, hm => by
    rcases List.mem_cons.1 hm with rfl | hm
    · rcases h.1 with ⟨x, rfl⟩ | ⟨p, rfl, hp⟩
      · exact fun _ _ _ _ _ => trivial
      · exact fun v w w' hg hf => hp v w w' hg hf
    · exact stablesG_get r h.2 s hm
/-- THE LAW. -/
theorem wp_region_put {P : Program} {l : List Oper} {Q : Exit → Act → World → Prop} {a : Act} {id : Nat} {w : World} (g : Nat) (ss : List Spec) (Inv : (Nat → Bool) → World → Prop) (hm : P.follows .mixedOrders = true) (hB : monoB2 (l.map prune) a.tmps.size = true)
    (hst : stablesG g ss) (hC : Inv (fun _ => false) w.drew) (bs : List (List Nat)) (hbs : befores (l.map prune) [] = bs) (h : walkP P l.toArray Inv (fun _ W W' => W.grownBy W' (some g)) bs (Q .normal) l.length l ss 0 a [] (fun _ => True)) : (Code.region id l.toArray true).wp P Q a w :=
  wp_region_done3 ss Inv (fun _ W W' => W.grownBy W' (some g)) hm hB (fun _ _ s _ hk v _ w1 w2 _ hT hf => stablesG_get ss hst s (List.mem_of_getElem? hk) v w1 w2 hT hf) hC bs hbs h
end Go.Proofs.YthkgjohhbdipcaaDoor
namespace Go.Proofs.YthkgjohhbdipcaaDoor
open Go.RowKit

section
variable {w W : World} {b : Nat} {T : TypeId} {fr : Nat × Nat} {c0 c1 c2 c3 c4 : Value} {r : List Obj}
theorem puts2_at (v0 v1 : Value) (h : W.heap[b]? = some (.cells #[c0, c1] T fr)) : ((W.setCell ⟨b, 0, none⟩ v0).setCell ⟨b, 1, none⟩ v1).heap[b]? = some (.cells #[v0, v1] T fr) := set_at (set_at h)
theorem puts4_at (v0 v1 v2 v3 : Value) (h : W.heap[b]? = some (.cells #[c0, c1, c2, c3] T fr)) : ((((W.setCell ⟨b, 0, none⟩ v0).setCell ⟨b, 1, none⟩ v1).setCell ⟨b, 2, none⟩ v2).setCell ⟨b, 3, none⟩ v3).heap[b]? = some (.cells #[v0, v1, v2, v3] T fr) :=
  set_at (set_at (set_at (set_at h)))
theorem puts5_at (v0 v1 v2 v3 v4 : Value) (h : W.heap[b]? = some (.cells #[c0, c1, c2, c3, c4] T fr)) : (((((W.setCell ⟨b, 0, none⟩ v0).setCell ⟨b, 1, none⟩ v1).setCell ⟨b, 2, none⟩ v2).setCell ⟨b, 3, none⟩ v3).setCell ⟨b, 4, none⟩ v4).heap[b]? = some (.cells #[v0, v1, v2, v3, v4] T fr) :=
  set_at (set_at (set_at (set_at (set_at h))))
theorem puts2_grow (v0 v1 : Value) : W.grownBy ((W.setCell ⟨b, 0, none⟩ v0).setCell ⟨b, 1, none⟩ v1) (some b) := grow_trans (grow_set _ _ _ _) (grow_set _ _ _ _)
theorem puts4_grow (v0 v1 v2 v3 : Value) : W.grownBy ((((W.setCell ⟨b, 0, none⟩ v0).setCell ⟨b, 1, none⟩ v1).setCell ⟨b, 2, none⟩ v2).setCell ⟨b, 3, none⟩ v3) (some b) :=
  grow_trans (puts2_grow _ _) (grow_trans (grow_set _ _ _ _) (grow_set _ _ _ _))
theorem puts5_grow (v0 v1 v2 v3 v4 : Value) : W.grownBy (((((W.setCell ⟨b, 0, none⟩ v0).setCell ⟨b, 1, none⟩ v1).setCell ⟨b, 2, none⟩ v2).setCell ⟨b, 3, none⟩ v3).setCell ⟨b, 4, none⟩ v4) (some b) :=
  grow_trans (puts4_grow _ _ _ _) (grow_set _ _ _ _)
end
/-- blocks other than b stay. -/
theorem grow_keep {W W' : World} {b k : Nat} (h : W.grownBy W' (some b)) (hk : k < W.heap.size) (hb : k ≠ b) : W'.heap[k]? = W.heap[k]? := h.block k hk (fun e => hb (by injection e))
/-- the first box is stored into. -/
theorem Bx.put2 {w W W' : World} {T : TypeId} {c0 c1 : Value} {r : List Obj} (v0 v1 : Value) (h : Bx w (.cells #[c0, c1] T :: r) W) (hW : W' = ((W.setCell ⟨w.heap.size, 0, none⟩ v0).setCell ⟨w.heap.size, 1, none⟩ v1)) : Bx w (.cells #[v0, v1] T :: r) W' := by
  subst hW; exact (h.set (i := 0) rfl 0 v0).set (i := 0) rfl 1 v1
theorem Bx.put4 {w W W' : World} {T : TypeId} {c0 c1 c2 c3 : Value} {r : List Obj} (v0 v1 v2 v3 : Value) (h : Bx w (.cells #[c0, c1, c2, c3] T :: r) W) (hW : W' = ((((W.setCell ⟨w.heap.size, 0, none⟩ v0).setCell ⟨w.heap.size, 1, none⟩ v1).setCell ⟨w.heap.size, 2, none⟩ v2).setCell ⟨w.heap.size, 3, none⟩ v3)) : Bx w (.cells #[v0, v1, v2, v3] T :: r) W' := by
  subst hW; exact (((h.set (i := 0) rfl 0 v0).set (i := 0) rfl 1 v1).set (i := 0) rfl 2 v2).set (i := 0) rfl 3 v3
theorem Bx.put5 {w W W' : World} {T : TypeId} {c0 c1 c2 c3 c4 : Value} {r : List Obj} (v0 v1 v2 v3 v4 : Value) (h : Bx w (.cells #[c0, c1, c2, c3, c4] T :: r) W) (hW : W' = (((((W.setCell ⟨w.heap.size, 0, none⟩ v0).setCell ⟨w.heap.size, 1, none⟩ v1).setCell ⟨w.heap.size, 2, none⟩ v2).setCell ⟨w.heap.size, 3, none⟩ v3).setCell ⟨w.heap.size, 4, none⟩ v4)) : Bx w (.cells #[v0, v1, v2, v3, v4] T :: r) W' := by
  subst hW; exact ((((h.set (i := 0) rfl 0 v0).set (i := 0) rfl 1 v1).set (i := 0) rfl 2 v2).set (i := 0) rfl 3 v3).set (i := 0) rfl 4 v4
end Go.Proofs.YthkgjohhbdipcaaDoor
namespace Go.Proofs.YthkgjohhbdipcaaDoor
open Go.RowKit Go.Shelf

/-- chapter 10's Parse, long texts too. -/
def nreadE (s : List UInt8) : TRec × Int := if 60000 < s.length then (zeroRec, 2) else readRec s
theorem nreadE_short {s : List UInt8} (h : s.length ≤ 60000) : nreadE s = readRec s := if_neg (by omega)
theorem readGo_bad {k : Int} {B R : List UInt8} {m : Bool} (h : k = 0 ∨ (wholeS B).2 = false ∨ m ≠ decide (k ≠ 4)) : readGo k (B, R, m) = (zeroRec, 1) := if_pos h
theorem readGo_fork {B R : List UInt8} {n f : Int} {ok : Bool} (h : wholeS B = (n, true)) (h' : wholeS R = (f, ok)) : readGo 3 (B, R, true) = if ok then checkedRec ⟨3, n, f, ⟨[], 0⟩⟩ else (zeroRec, 1) := by
  unfold readGo
  dsimp only
  rw [h, h']
  rw [if_neg (by simp), if_pos rfl]
  rfl
theorem readGo_shut {B R : List UInt8} {n : Int} (h : wholeS B = (n, true)) : readGo 4 (B, R, false) = checkedRec ⟨4, n, 0, ⟨[], 0⟩⟩ := by
  unfold readGo
  dsimp only
  rw [h]
  rw [if_neg (by simp), if_neg (by decide), if_pos rfl]
  rfl
theorem readGo_pol {B R : List UInt8} {k n : Int} (hk : k = 1 ∨ k = 2) (h : wholeS B = (n, true)) : readGo k (B, R, true) = if (readP R).2 ≠ 0 then (zeroRec, (readP R).2) else checkedRec ⟨k, n, 0, (readP R).1⟩ := by
  unfold readGo
  dsimp only
  rw [h]
  rw [if_neg (by rcases hk with rfl | rfl <;> simp), if_neg (by omega), if_neg (by omega)]
theorem rules_off {b : Nat} {W W' : World} {v : Value} {l : List TRule} (h : RdRules W (fun x => b + 1 ≤ x) v l) (hg : W.grownBy W' (some b)) : RdRules W' (fun x => b ≤ x) v l :=
  h.keep (fun x hx _ => by have h1 : b + 1 ≤ x := hx; show b ≤ x; omega) (fun x hx hl => grow_keep hg hl (by have h1 : b + 1 ≤ x := hx; omega)) hg.size
theorem kind_idx (x : List UInt8) : ∃ K : Int, Lib.idxOfS [bsL [], bsL [111, 112, 101, 110], bsL [116, 105, 103, 104, 116], bsL [102, 111, 114, 107], bsL [115, 104, 117, 116]] (bsL x) = K ∧ (kindOf x = 0 → K < 1) ∧ (kindOf x ≠ 0 → K = kindOf x) := by
  refine ⟨_, rfl, ?_, ?_⟩ <;> rw [idx5] <;> unfold kindOf
  · repeat' split
    all_goals simp_all
  · repeat' split
    all_goals simp_all
set_option maxRecDepth 100000 in
set_option maxHeartbeats 16000000 in
theorem nparse_any (L : List UInt8) (w : World) (hL : Laid w) :
    Calls Tryd.prog 14 #[.string (bsL L)] w fun e w' => ∃ v, e = .returned (.tuple #[recV (nreadE L).1 v, .int .i64 (nreadE L).2]) ∧ RdRules w' (fun b => w.heap.size ≤ b) v (nreadE L).1.p.rules ∧ Below w.heap.size w w' := by
  have HL := Lib.hid hL
  have hsz : (bsL L).size = L.length := by simp [bsL, ByteArray.size]
  clear hL
  have HB := Lib.hid (Bx.one (w := w) (o := .cells #[.int .i64 0, .int .i64 0, .int .i64 0, .slice none 0 0, .int .i64 0] 34))
  by_cases hlen : 60000 < L.length
  · have HE : Hid (nreadE L = (⟨0, 0, 0, ⟨[], 0⟩⟩, 2)) := if_pos hlen
    have hlz : (60000 : Int) < (L.length : Int) := by omega
    clear hlen
    go_enter Tryd.func14, Tryd.ntmps14
    go_wp2
    refine bodyPost_ret (v := .tuple #[recV ⟨0, 0, 0, ⟨[], 0⟩⟩ (.slice none 0 0), .int .i64 2]) ?_ rfl (by rw [HE.out]; exact ⟨_, rfl, nil_rulesP _ _, HB.out.bel⟩)
    rw [results_cell_tmp rfl]
    go_simp
  · have hlz : ¬ (60000 : Int) < (L.length : Int) := by omega
    have Hlen : Hid (L.length ≤ 60000) := by show _ ≤ _; omega
    have HE0 : Hid (nreadE L = readGo (kindOf (Lib.cut L [32]).1) (Lib.cut (Lib.cut L [32]).2.1 [32])) := if_neg hlen
    obtain ⟨hla, hlb⟩ := cut_len L 32
    obtain ⟨⟨A, S, m0⟩, hA⟩ : ∃ E, Lib.cut L [32] = E := ⟨_, rfl⟩
    have HA := Lib.hid hA
    rw [hA] at HE0 hla hlb
    obtain ⟨hlc, hld⟩ := cut_len S 32
    obtain ⟨⟨B, R, m⟩, hB⟩ : ∃ E, Lib.cut S [32] = E := ⟨_, rfl⟩
    have HB2 := Lib.hid hB
    dsimp only at HE0 hla hlb
    rw [hB] at HE0 hlc hld
    dsimp only at hlc hld
    have Hlb : Hid (S.length ≤ 60000 ∧ B.length ≤ 60000 ∧ R.length ≤ 60000) := ⟨by omega, by omega, by omega⟩
    obtain ⟨⟨n, okb⟩, hn⟩ : ∃ E, wholeS B = E := ⟨_, rfl⟩
    have Hn := Lib.hid hn
    obtain ⟨K, hK, hK0, hK1⟩ := kind_idx A
    have HKi := Lib.hid hK
    clear hA hB hn hlen hla hlb hlc hld hK
    go_enter Tryd.func14, Tryd.ntmps14
    go_wp2_with fail
    refine (cutc_any 32 L _ (HL.out.below HB.out.bel) (by have := Hlen.out; omega)).mono ?_
    rw [HA.out]
    rintro e w1 ⟨rfl, hb1⟩
    have HB1 := Lib.hid (HB.out.below hb1)
    clear hb1
    dsimp only
    go_wp2_with fail
    refine (cutc_any 32 S _ (HL.out.below HB1.out.bel) (by have := Hlb.out.1; omega)).mono ?_
    rw [HB2.out]
    rintro e w2 ⟨rfl, hb2⟩
    have HBb := Lib.hid (HB1.out.below hb2)
    clear hb2
    dsimp only
    go_wp2_with fail
    refine (number_any (bsL B) _ (HL.out.below HBb.out.bel) (by have := Hlb.out.2.1; simp [bsL, ByteArray.size]; omega)).mono ?_
    rw [bsL_toList, Hn.out]
    rintro e w3 ⟨rfl, hb3⟩
    have HB3 := Lib.hid (HBb.out.below hb3)
    clear hb3
    dsimp only
    go_wp2_with fail
    refine (words_any _).mono ?_
    rintro e w4' ⟨rfl, hw4⟩
    have Hwr : Hid (w4'.heap[w3.heap.size]? = some (.cells wordRow 9)) := by show _ = _; rw [hw4]; exact heap_last _ _
    have HB4 : Hid (Bx w [.cells #[.int .i64 0, .int .i64 0, .int .i64 0, .slice none 0 0, .int .i64 0] 34] w4') := by rw [hw4]; exact HB3.out.alloc _
    clear hw4
    obtain ⟨w4, rfl⟩ : ∃ w4 : World, w4 = w4' := ⟨_, rfl⟩
    go_wp2_with fail
    refine (rowidx_any [] [111, 112, 101, 110] [116, 105, 103, 104, 116] [102, 111, 114, 107] [115, 104, 117, 116] A w3.heap.size w4 Hwr.out).mono ?_
    rw [HKi.out]
    rintro e w5 ⟨rfl, rfl⟩
    obtain ⟨w4, rfl⟩ : ∃ w4 : World, w4 = w5 := ⟨_, rfl⟩
    have HBx := Lib.hid (HB4.out.alloc (.cells #[.int .i64 K, .int .i64 n, .int .i64 0, .slice none 0 0, .int .i64 0] 34))
    have HXx : Hid (_ = some _) := heap_last w4 (.cells #[.int .i64 K, .int .i64 n, .int .i64 0, .slice none 0 0, .int .i64 0] 34)
    have Hbx : Hid (w.heap.size + 1 ≤ w4.heap.size) := HB4.out.top
    by_cases hk0 : kindOf A = 0
    · have HE1 : Hid (nreadE L = (⟨0, 0, 0, ⟨[], 0⟩⟩, 1)) := by show _ = _; rw [HE0.out]; exact readGo_bad (.inl hk0)
      have hKlt := hK0 hk0
      clear hk0 hK0 hK1
      have hq0 := HBx.out.cells0
      have hf0 := HBx.out.free0
      have HS := Lib.hid (HBx.out.put5 (.int .i64 0) (.int .i64 0) (.int .i64 0) (.slice none 0 0) (.int .i64 0) rfl)
      have hqs := HS.out.cells0
      have HBL := Lib.hid HS.out.bel
      clear HS
      go_wp2
      refine bodyPost_ret (v := .tuple #[recV ⟨0, 0, 0, ⟨[], 0⟩⟩ (.slice none 0 0), .int .i64 1]) ?_ rfl (by rw [HE1.out]; exact ⟨_, rfl, nil_rulesP _ _, HBL.out⟩)
      rw [results_cell_tmp rfl]
      go_simp
    · have hKe := hK1 hk0
      obtain ⟨k, hk⟩ : ∃ k, kindOf A = k := ⟨_, rfl⟩
      have hkr : k = 1 ∨ k = 2 ∨ k = 3 ∨ k = 4 := by
        rw [← hk]
        obtain ⟨_, h1, h2⟩ := kindW_of hk0
        omega
      rw [hk] at hKe HE0
      subst hKe
      clear hk0 hK0 hK1 HKi hk
      cases okb with
      | false =>
        have HE1 : Hid (nreadE L = (⟨0, 0, 0, ⟨[], 0⟩⟩, 1)) := by show _ = _; rw [HE0.out]; exact readGo_bad (.inr (.inl (by rw [Hn.out])))
        rcases hkr with rfl | rfl | rfl | rfl
        · have hq0 := HBx.out.cells0
          have hf0 := HBx.out.free0
          have HS := Lib.hid (HBx.out.put5 (.int .i64 0) (.int .i64 0) (.int .i64 0) (.slice none 0 0) (.int .i64 0) rfl)
          have hqs := HS.out.cells0
          have HBL := Lib.hid HS.out.bel
          clear HS
          go_wp2
          refine bodyPost_ret (v := .tuple #[recV ⟨0, 0, 0, ⟨[], 0⟩⟩ (.slice none 0 0), .int .i64 1]) ?_ rfl (by rw [HE1.out]; exact ⟨_, rfl, nil_rulesP _ _, HBL.out⟩)
          rw [results_cell_tmp rfl]
          go_simp
        · have hq0 := HBx.out.cells0
          have hf0 := HBx.out.free0
          have HS := Lib.hid (HBx.out.put5 (.int .i64 0) (.int .i64 0) (.int .i64 0) (.slice none 0 0) (.int .i64 0) rfl)
          have hqs := HS.out.cells0
          have HBL := Lib.hid HS.out.bel
          clear HS
          go_wp2
          refine bodyPost_ret (v := .tuple #[recV ⟨0, 0, 0, ⟨[], 0⟩⟩ (.slice none 0 0), .int .i64 1]) ?_ rfl (by rw [HE1.out]; exact ⟨_, rfl, nil_rulesP _ _, HBL.out⟩)
          rw [results_cell_tmp rfl]
          go_simp
        · have hq0 := HBx.out.cells0
          have hf0 := HBx.out.free0
          have HS := Lib.hid (HBx.out.put5 (.int .i64 0) (.int .i64 0) (.int .i64 0) (.slice none 0 0) (.int .i64 0) rfl)
          have hqs := HS.out.cells0
          have HBL := Lib.hid HS.out.bel
          clear HS
          go_wp2
          refine bodyPost_ret (v := .tuple #[recV ⟨0, 0, 0, ⟨[], 0⟩⟩ (.slice none 0 0), .int .i64 1]) ?_ rfl (by rw [HE1.out]; exact ⟨_, rfl, nil_rulesP _ _, HBL.out⟩)
          rw [results_cell_tmp rfl]
          go_simp
        · have hq0 := HBx.out.cells0
          have hf0 := HBx.out.free0
          have HS := Lib.hid (HBx.out.put5 (.int .i64 0) (.int .i64 0) (.int .i64 0) (.slice none 0 0) (.int .i64 0) rfl)
          have hqs := HS.out.cells0
          have HBL := Lib.hid HS.out.bel
          clear HS
          go_wp2
          refine bodyPost_ret (v := .tuple #[recV ⟨0, 0, 0, ⟨[], 0⟩⟩ (.slice none 0 0), .int .i64 1]) ?_ rfl (by rw [HE1.out]; exact ⟨_, rfl, nil_rulesP _ _, HBL.out⟩)
          rw [results_cell_tmp rfl]
          go_simp
      | true =>
        cases m with
        | false =>
          rcases hkr with rfl | rfl | rfl | rfl
          · have HE1 : Hid (nreadE L = (⟨0, 0, 0, ⟨[], 0⟩⟩, 1)) := by show _ = _; rw [HE0.out]; exact readGo_bad (.inr (.inr (by decide)))
            have hq0 := HBx.out.cells0
            have hf0 := HBx.out.free0
            have HS := Lib.hid (HBx.out.put5 (.int .i64 0) (.int .i64 0) (.int .i64 0) (.slice none 0 0) (.int .i64 0) rfl)
            have hqs := HS.out.cells0
            have HBL := Lib.hid HS.out.bel
            clear HS
            go_wp2
            refine bodyPost_ret (v := .tuple #[recV ⟨0, 0, 0, ⟨[], 0⟩⟩ (.slice none 0 0), .int .i64 1]) ?_ rfl (by rw [HE1.out]; exact ⟨_, rfl, nil_rulesP _ _, HBL.out⟩)
            rw [results_cell_tmp rfl]
            go_simp
          · have HE1 : Hid (nreadE L = (⟨0, 0, 0, ⟨[], 0⟩⟩, 1)) := by show _ = _; rw [HE0.out]; exact readGo_bad (.inr (.inr (by decide)))
            have hq0 := HBx.out.cells0
            have hf0 := HBx.out.free0
            have HS := Lib.hid (HBx.out.put5 (.int .i64 0) (.int .i64 0) (.int .i64 0) (.slice none 0 0) (.int .i64 0) rfl)
            have hqs := HS.out.cells0
            have HBL := Lib.hid HS.out.bel
            clear HS
            go_wp2
            refine bodyPost_ret (v := .tuple #[recV ⟨0, 0, 0, ⟨[], 0⟩⟩ (.slice none 0 0), .int .i64 1]) ?_ rfl (by rw [HE1.out]; exact ⟨_, rfl, nil_rulesP _ _, HBL.out⟩)
            rw [results_cell_tmp rfl]
            go_simp
          · have HE1 : Hid (nreadE L = (⟨0, 0, 0, ⟨[], 0⟩⟩, 1)) := by show _ = _; rw [HE0.out]; exact readGo_bad (.inr (.inr (by decide)))
            have hq0 := HBx.out.cells0
            have hf0 := HBx.out.free0
            have HS := Lib.hid (HBx.out.put5 (.int .i64 0) (.int .i64 0) (.int .i64 0) (.slice none 0 0) (.int .i64 0) rfl)
            have hqs := HS.out.cells0
            have HBL := Lib.hid HS.out.bel
            clear HS
            go_wp2
            refine bodyPost_ret (v := .tuple #[recV ⟨0, 0, 0, ⟨[], 0⟩⟩ (.slice none 0 0), .int .i64 1]) ?_ rfl (by rw [HE1.out]; exact ⟨_, rfl, nil_rulesP _ _, HBL.out⟩)
            rw [results_cell_tmp rfl]
            go_simp
          · have HE1 : Hid (nreadE L = checkedRec ⟨4, n, 0, ⟨[], 0⟩⟩) := by show _ = _; rw [HE0.out]; exact readGo_shut Hn.out
            have hqx := cells_of HXx.out
            go_wp2_with fail
            clear hqx
            have HRx := Lib.hid (nil_rulesP (w4.alloc (.cells #[.int .i64 4, .int .i64 n, .int .i64 0, .slice none 0 0, .int .i64 0] 34)) (fun x => w.heap.size + 1 ≤ x))
            refine (notecheck_any _ ⟨4, n, 0, ⟨[], 0⟩⟩ _ _ HRx.out).mono ?_
            rintro e w8 ⟨rfl, hb8⟩
            have HB8 := Lib.hid (HBx.out.below hb8)
            have HR8 := Lib.hid (RdRules.below HRx.out hb8)
            have hqx := cells_of (blk_below HXx.out hb8)
            have hq0 := HB8.out.cells0
            have hf0 := HB8.out.free0
            clear hb8
            by_cases h0 : recE ⟨4, n, 0, ⟨[], 0⟩⟩ = 0
            · have HE' : Hid (nreadE L = (⟨4, n, 0, ⟨[], 0⟩⟩, 0)) := by show _ = _; rw [HE1.out]; exact if_pos h0
              have HS := Lib.hid (HB8.out.put5 (.int .i64 4) (.int .i64 n) (.int .i64 0) (.slice none 0 0) (.int .i64 0) rfl)
              have hqs := HS.out.cells0
              have HBL := Lib.hid HS.out.bel
              have HRF := Lib.hid (rules_off HR8.out (puts5_grow (b := w.heap.size) (.int .i64 4) (.int .i64 n) (.int .i64 0) (.slice none 0 0) (.int .i64 0)))
              rw [h0]
              clear h0 HS
              go_wp2
              refine bodyPost_ret (v := .tuple #[recV ⟨4, n, 0, ⟨[], 0⟩⟩ (.slice none 0 0), .int .i64 0]) ?_ rfl (by rw [HE'.out]; exact ⟨_, rfl, HRF.out, HBL.out⟩)
              rw [results_cell_tmp rfl]
              go_simp
            · have HE' : Hid (nreadE L = (⟨0, 0, 0, ⟨[], 0⟩⟩, recE ⟨4, n, 0, ⟨[], 0⟩⟩)) := by show _ = _; rw [HE1.out]; exact if_neg h0
              have hne : (recE ⟨4, n, 0, ⟨[], 0⟩⟩ != 0) = true := bne_iff_ne.2 h0
              generalize recE ⟨4, n, 0, ⟨[], 0⟩⟩ = pe at *
              clear h0
              have HS := Lib.hid (HB8.out.put5 (.int .i64 0) (.int .i64 0) (.int .i64 0) (.slice none 0 0) (.int .i64 0) rfl)
              have hqs := HS.out.cells0
              have HBL := Lib.hid HS.out.bel
              clear HS
              go_wp2
              refine bodyPost_ret (v := .tuple #[recV ⟨0, 0, 0, ⟨[], 0⟩⟩ (.slice none 0 0), .int .i64 pe]) ?_ rfl (by rw [HE'.out]; exact ⟨_, rfl, nil_rulesP _ _, HBL.out⟩)
              rw [results_cell_tmp rfl]
              go_simp
        | true =>
          rcases hkr with rfl | rfl | rfl | rfl
          · have HEp : Hid (nreadE L = if (readP R).2 ≠ 0 then (zeroRec, (readP R).2) else checkedRec ⟨1, n, 0, (readP R).1⟩) := by show _ = _; rw [HE0.out]; exact readGo_pol (.inl rfl) Hn.out
            obtain ⟨⟨P, pe⟩, hP⟩ : ∃ E, readP R = E := ⟨_, rfl⟩
            have HP : Hid (textE R = (P, pe)) := by show _ = _; rw [textE_short Hlb.out.2.2]; exact hP
            rw [hP] at HEp
            clear hP
            have hqx := cells_of HXx.out
            go_wp2_with fail
            clear hqx
            refine (parse_any R _ (HL.out.below HBx.out.bel)).mono ?_
            rw [HP.out]
            rintro e w6 ⟨v6, rfl, hr6, hb6⟩
            have HX6 := Lib.hid (blk_below HXx.out hb6)
            have HB6 := Lib.hid (HBx.out.below hb6)
            obtain ⟨a6, c6, rfl, _⟩ := Sl.form hr6
            have HR6 : Hid (RdRules w6 (fun x => w4.heap.size + 1 ≤ x) (.slice a6 P.rules.length c6) P.rules) := hr6.keep (fun x hx _ => by have h1 : _ ≤ x := hx; simp at h1; exact h1) (fun _ _ _ => rfl) (Nat.le_refl _)
            clear hb6 hr6 HXx HBx
            dsimp only
            have hqx := cells_of HX6.out
            have hfx := not_frozen HX6.out
            have HXs := Lib.hid (set_at (o := 4) (v := .int .i64 P.dflt) (set_at (o := 3) (v := .slice a6 P.rules.length c6) HX6.out))
            have HBs := Lib.hid (HB6.out.lift (set_below (a := ⟨w4.heap.size, 4, none⟩) (v := .int .i64 P.dflt) (set_below (a := ⟨w4.heap.size, 3, none⟩) (v := .slice a6 P.rules.length c6) (Below.refl (w.heap.size + 1) w6) Hbx.out) Hbx.out) (by simp))
            have hqs0 := cells_of HXs.out
            have HRx := Lib.hid (RdRules.keep (w' := (w6.setCell ⟨w4.heap.size, 3, none⟩ (.slice a6 P.rules.length c6)).setCell ⟨w4.heap.size, 4, none⟩ (.int .i64 P.dflt)) (D' := fun x => w.heap.size + 1 ≤ x) HR6.out (fun x hx _ => by have h1 : w4.heap.size + 1 ≤ x := hx; have := Hbx.out; show _ ≤ _; omega) (fun x hx _ => by
              have h1 : w4.heap.size + 1 ≤ x := hx
              rw [set_other (by show x ≠ w4.heap.size; omega), set_other (by show x ≠ w4.heap.size; omega)]) (by rw [set_size, set_size]; exact Nat.le_refl _))
            by_cases hpe : pe = 0
            · subst hpe
              have HE1 : Hid (nreadE L = checkedRec ⟨1, n, 0, P⟩) := by show _ = _; rw [HEp.out]; exact if_neg (by simp)
              go_wp2_with fail
              clear hqx hfx hqs0
              refine (notecheck_any _ ⟨1, n, 0, P⟩ _ _ HRx.out).mono ?_
              rintro e w8 ⟨rfl, hb8⟩
              have HB8 := Lib.hid (HBs.out.below hb8)
              have HR8 := Lib.hid (RdRules.below HRx.out hb8)
              have hqx := cells_of (blk_below HXs.out hb8)
              have hq0 := HB8.out.cells0
              have hf0 := HB8.out.free0
              clear hb8
              by_cases h0 : recE ⟨1, n, 0, P⟩ = 0
              · have HE' : Hid (nreadE L = (⟨1, n, 0, P⟩, 0)) := by show _ = _; rw [HE1.out]; exact if_pos h0
                have HS := Lib.hid (HB8.out.put5 (.int .i64 1) (.int .i64 n) (.int .i64 0) (.slice a6 P.rules.length c6) (.int .i64 P.dflt) rfl)
                have hqs := HS.out.cells0
                have HBL := Lib.hid HS.out.bel
                have HRF := Lib.hid (rules_off HR8.out (puts5_grow (b := w.heap.size) (.int .i64 1) (.int .i64 n) (.int .i64 0) (.slice a6 P.rules.length c6) (.int .i64 P.dflt)))
                rw [h0]
                clear h0 HS
                go_wp2
                refine bodyPost_ret (v := .tuple #[recV ⟨1, n, 0, P⟩ (.slice a6 P.rules.length c6), .int .i64 0]) ?_ rfl (by rw [HE'.out]; exact ⟨_, rfl, HRF.out, HBL.out⟩)
                rw [results_cell_tmp rfl]
                go_simp
              · have HE' : Hid (nreadE L = (⟨0, 0, 0, ⟨[], 0⟩⟩, recE ⟨1, n, 0, P⟩)) := by show _ = _; rw [HE1.out]; exact if_neg h0
                have hne : (recE ⟨1, n, 0, P⟩ != 0) = true := bne_iff_ne.2 h0
                generalize recE ⟨1, n, 0, P⟩ = pe at *
                clear h0
                have HS := Lib.hid (HB8.out.put5 (.int .i64 0) (.int .i64 0) (.int .i64 0) (.slice none 0 0) (.int .i64 0) rfl)
                have hqs := HS.out.cells0
                have HBL := Lib.hid HS.out.bel
                clear HS
                go_wp2
                refine bodyPost_ret (v := .tuple #[recV ⟨0, 0, 0, ⟨[], 0⟩⟩ (.slice none 0 0), .int .i64 pe]) ?_ rfl (by rw [HE'.out]; exact ⟨_, rfl, nil_rulesP _ _, HBL.out⟩)
                rw [results_cell_tmp rfl]
                go_simp
            · have HE1 : Hid (nreadE L = (⟨0, 0, 0, ⟨[], 0⟩⟩, pe)) := by show _ = _; rw [HEp.out]; exact if_pos hpe
              have hne : (pe != 0) = true := bne_iff_ne.2 hpe
              clear hpe
              have hq0 := HBs.out.cells0
              have hf0 := HBs.out.free0
              have HS := Lib.hid (HBs.out.put5 (.int .i64 0) (.int .i64 0) (.int .i64 0) (.slice none 0 0) (.int .i64 0) rfl)
              have hqs := HS.out.cells0
              have HBL := Lib.hid HS.out.bel
              clear HS
              go_wp2
              refine bodyPost_ret (v := .tuple #[recV ⟨0, 0, 0, ⟨[], 0⟩⟩ (.slice none 0 0), .int .i64 pe]) ?_ rfl (by rw [HE1.out]; exact ⟨_, rfl, nil_rulesP _ _, HBL.out⟩)
              rw [results_cell_tmp rfl]
              go_simp
          · have HEp : Hid (nreadE L = if (readP R).2 ≠ 0 then (zeroRec, (readP R).2) else checkedRec ⟨2, n, 0, (readP R).1⟩) := by show _ = _; rw [HE0.out]; exact readGo_pol (.inr rfl) Hn.out
            obtain ⟨⟨P, pe⟩, hP⟩ : ∃ E, readP R = E := ⟨_, rfl⟩
            have HP : Hid (textE R = (P, pe)) := by show _ = _; rw [textE_short Hlb.out.2.2]; exact hP
            rw [hP] at HEp
            clear hP
            have hqx := cells_of HXx.out
            go_wp2_with fail
            clear hqx
            refine (parse_any R _ (HL.out.below HBx.out.bel)).mono ?_
            rw [HP.out]
            rintro e w6 ⟨v6, rfl, hr6, hb6⟩
            have HX6 := Lib.hid (blk_below HXx.out hb6)
            have HB6 := Lib.hid (HBx.out.below hb6)
            obtain ⟨a6, c6, rfl, _⟩ := Sl.form hr6
            have HR6 : Hid (RdRules w6 (fun x => w4.heap.size + 1 ≤ x) (.slice a6 P.rules.length c6) P.rules) := hr6.keep (fun x hx _ => by have h1 : _ ≤ x := hx; simp at h1; exact h1) (fun _ _ _ => rfl) (Nat.le_refl _)
            clear hb6 hr6 HXx HBx
            dsimp only
            have hqx := cells_of HX6.out
            have hfx := not_frozen HX6.out
            have HXs := Lib.hid (set_at (o := 4) (v := .int .i64 P.dflt) (set_at (o := 3) (v := .slice a6 P.rules.length c6) HX6.out))
            have HBs := Lib.hid (HB6.out.lift (set_below (a := ⟨w4.heap.size, 4, none⟩) (v := .int .i64 P.dflt) (set_below (a := ⟨w4.heap.size, 3, none⟩) (v := .slice a6 P.rules.length c6) (Below.refl (w.heap.size + 1) w6) Hbx.out) Hbx.out) (by simp))
            have hqs0 := cells_of HXs.out
            have HRx := Lib.hid (RdRules.keep (w' := (w6.setCell ⟨w4.heap.size, 3, none⟩ (.slice a6 P.rules.length c6)).setCell ⟨w4.heap.size, 4, none⟩ (.int .i64 P.dflt)) (D' := fun x => w.heap.size + 1 ≤ x) HR6.out (fun x hx _ => by have h1 : w4.heap.size + 1 ≤ x := hx; have := Hbx.out; show _ ≤ _; omega) (fun x hx _ => by
              have h1 : w4.heap.size + 1 ≤ x := hx
              rw [set_other (by show x ≠ w4.heap.size; omega), set_other (by show x ≠ w4.heap.size; omega)]) (by rw [set_size, set_size]; exact Nat.le_refl _))
            by_cases hpe : pe = 0
            · subst hpe
              have HE1 : Hid (nreadE L = checkedRec ⟨2, n, 0, P⟩) := by show _ = _; rw [HEp.out]; exact if_neg (by simp)
              go_wp2_with fail
              clear hqx hfx hqs0
              refine (notecheck_any _ ⟨2, n, 0, P⟩ _ _ HRx.out).mono ?_
              rintro e w8 ⟨rfl, hb8⟩
              have HB8 := Lib.hid (HBs.out.below hb8)
              have HR8 := Lib.hid (RdRules.below HRx.out hb8)
              have hqx := cells_of (blk_below HXs.out hb8)
              have hq0 := HB8.out.cells0
              have hf0 := HB8.out.free0
              clear hb8
              by_cases h0 : recE ⟨2, n, 0, P⟩ = 0
              · have HE' : Hid (nreadE L = (⟨2, n, 0, P⟩, 0)) := by show _ = _; rw [HE1.out]; exact if_pos h0
                have HS := Lib.hid (HB8.out.put5 (.int .i64 2) (.int .i64 n) (.int .i64 0) (.slice a6 P.rules.length c6) (.int .i64 P.dflt) rfl)
                have hqs := HS.out.cells0
                have HBL := Lib.hid HS.out.bel
                have HRF := Lib.hid (rules_off HR8.out (puts5_grow (b := w.heap.size) (.int .i64 2) (.int .i64 n) (.int .i64 0) (.slice a6 P.rules.length c6) (.int .i64 P.dflt)))
                rw [h0]
                clear h0 HS
                go_wp2
                refine bodyPost_ret (v := .tuple #[recV ⟨2, n, 0, P⟩ (.slice a6 P.rules.length c6), .int .i64 0]) ?_ rfl (by rw [HE'.out]; exact ⟨_, rfl, HRF.out, HBL.out⟩)
                rw [results_cell_tmp rfl]
                go_simp
              · have HE' : Hid (nreadE L = (⟨0, 0, 0, ⟨[], 0⟩⟩, recE ⟨2, n, 0, P⟩)) := by show _ = _; rw [HE1.out]; exact if_neg h0
                have hne : (recE ⟨2, n, 0, P⟩ != 0) = true := bne_iff_ne.2 h0
                generalize recE ⟨2, n, 0, P⟩ = pe at *
                clear h0
                have HS := Lib.hid (HB8.out.put5 (.int .i64 0) (.int .i64 0) (.int .i64 0) (.slice none 0 0) (.int .i64 0) rfl)
                have hqs := HS.out.cells0
                have HBL := Lib.hid HS.out.bel
                clear HS
                go_wp2
                refine bodyPost_ret (v := .tuple #[recV ⟨0, 0, 0, ⟨[], 0⟩⟩ (.slice none 0 0), .int .i64 pe]) ?_ rfl (by rw [HE'.out]; exact ⟨_, rfl, nil_rulesP _ _, HBL.out⟩)
                rw [results_cell_tmp rfl]
                go_simp
            · have HE1 : Hid (nreadE L = (⟨0, 0, 0, ⟨[], 0⟩⟩, pe)) := by show _ = _; rw [HEp.out]; exact if_pos hpe
              have hne : (pe != 0) = true := bne_iff_ne.2 hpe
              clear hpe
              have hq0 := HBs.out.cells0
              have hf0 := HBs.out.free0
              have HS := Lib.hid (HBs.out.put5 (.int .i64 0) (.int .i64 0) (.int .i64 0) (.slice none 0 0) (.int .i64 0) rfl)
              have hqs := HS.out.cells0
              have HBL := Lib.hid HS.out.bel
              clear HS
              go_wp2
              refine bodyPost_ret (v := .tuple #[recV ⟨0, 0, 0, ⟨[], 0⟩⟩ (.slice none 0 0), .int .i64 pe]) ?_ rfl (by rw [HE1.out]; exact ⟨_, rfl, nil_rulesP _ _, HBL.out⟩)
              rw [results_cell_tmp rfl]
              go_simp
          · obtain ⟨⟨f, okf⟩, hf⟩ : ∃ E, wholeS R = E := ⟨_, rfl⟩
            have HEf : Hid (nreadE L = if okf then checkedRec ⟨3, n, f, ⟨[], 0⟩⟩ else (zeroRec, 1)) := by show _ = _; rw [HE0.out]; exact readGo_fork Hn.out hf
            have Hf := Lib.hid hf
            clear hf
            have hqx := cells_of HXx.out
            go_wp2_with fail
            clear hqx
            refine (number_any (bsL R) _ (HL.out.below HBx.out.bel) (by have := Hlb.out.2.2; simp [bsL, ByteArray.size]; omega)).mono ?_
            rw [bsL_toList, Hf.out]
            rintro e w6 ⟨rfl, hb6⟩
            have HX6 := Lib.hid (blk_below HXx.out hb6)
            have HB6 := Lib.hid (HBx.out.below hb6)
            clear hb6 HXx HBx
            have hqx := cells_of HX6.out
            have hfx := not_frozen HX6.out
            have HXs := Lib.hid (set_at (o := 2) (v := .int .i64 f) HX6.out)
            have HBs := Lib.hid (HB6.out.lift (set_below (a := ⟨w4.heap.size, 2, none⟩) (v := .int .i64 f) (Below.refl (w.heap.size + 1) w6) Hbx.out) (by simp))
            have hqs0 := cells_of HXs.out
            cases okf with
            | false =>
              have HE1 : Hid (nreadE L = (⟨0, 0, 0, ⟨[], 0⟩⟩, 1)) := by show _ = _; rw [HEf.out]; rfl
              have hq0 := HBs.out.cells0
              have hf0 := HBs.out.free0
              have HS := Lib.hid (HBs.out.put5 (.int .i64 0) (.int .i64 0) (.int .i64 0) (.slice none 0 0) (.int .i64 0) rfl)
              have hqs := HS.out.cells0
              have HBL := Lib.hid HS.out.bel
              clear HS
              go_wp2
              refine bodyPost_ret (v := .tuple #[recV ⟨0, 0, 0, ⟨[], 0⟩⟩ (.slice none 0 0), .int .i64 1]) ?_ rfl (by rw [HE1.out]; exact ⟨_, rfl, nil_rulesP _ _, HBL.out⟩)
              rw [results_cell_tmp rfl]
              go_simp
            | true =>
              have HE1 : Hid (nreadE L = checkedRec ⟨3, n, f, ⟨[], 0⟩⟩) := by show _ = _; rw [HEf.out]; rfl
              go_wp2_with fail
              clear hqx hfx hqs0
              have HRx := Lib.hid (nil_rulesP (w6.setCell ⟨w4.heap.size, 2, none⟩ (.int .i64 f)) (fun x => w.heap.size + 1 ≤ x))
              refine (notecheck_any _ ⟨3, n, f, ⟨[], 0⟩⟩ _ _ HRx.out).mono ?_
              rintro e w8 ⟨rfl, hb8⟩
              have HB8 := Lib.hid (HBs.out.below hb8)
              have HR8 := Lib.hid (RdRules.below HRx.out hb8)
              have hqx := cells_of (blk_below HXs.out hb8)
              have hq0 := HB8.out.cells0
              have hf0 := HB8.out.free0
              clear hb8
              by_cases h0 : recE ⟨3, n, f, ⟨[], 0⟩⟩ = 0
              · have HE' : Hid (nreadE L = (⟨3, n, f, ⟨[], 0⟩⟩, 0)) := by show _ = _; rw [HE1.out]; exact if_pos h0
                have HS := Lib.hid (HB8.out.put5 (.int .i64 3) (.int .i64 n) (.int .i64 f) (.slice none 0 0) (.int .i64 0) rfl)
                have hqs := HS.out.cells0
                have HBL := Lib.hid HS.out.bel
                have HRF := Lib.hid (rules_off HR8.out (puts5_grow (b := w.heap.size) (.int .i64 3) (.int .i64 n) (.int .i64 f) (.slice none 0 0) (.int .i64 0)))
                rw [h0]
                clear h0 HS
                go_wp2
                refine bodyPost_ret (v := .tuple #[recV ⟨3, n, f, ⟨[], 0⟩⟩ (.slice none 0 0), .int .i64 0]) ?_ rfl (by rw [HE'.out]; exact ⟨_, rfl, HRF.out, HBL.out⟩)
                rw [results_cell_tmp rfl]
                go_simp
              · have HE' : Hid (nreadE L = (⟨0, 0, 0, ⟨[], 0⟩⟩, recE ⟨3, n, f, ⟨[], 0⟩⟩)) := by show _ = _; rw [HE1.out]; exact if_neg h0
                have hne : (recE ⟨3, n, f, ⟨[], 0⟩⟩ != 0) = true := bne_iff_ne.2 h0
                generalize recE ⟨3, n, f, ⟨[], 0⟩⟩ = pe at *
                clear h0
                have HS := Lib.hid (HB8.out.put5 (.int .i64 0) (.int .i64 0) (.int .i64 0) (.slice none 0 0) (.int .i64 0) rfl)
                have hqs := HS.out.cells0
                have HBL := Lib.hid HS.out.bel
                clear HS
                go_wp2
                refine bodyPost_ret (v := .tuple #[recV ⟨0, 0, 0, ⟨[], 0⟩⟩ (.slice none 0 0), .int .i64 pe]) ?_ rfl (by rw [HE'.out]; exact ⟨_, rfl, nil_rulesP _ _, HBL.out⟩)
                rw [results_cell_tmp rfl]
                go_simp
          · have HE1 : Hid (nreadE L = (⟨0, 0, 0, ⟨[], 0⟩⟩, 1)) := by show _ = _; rw [HE0.out]; exact readGo_bad (.inr (.inr (by decide)))
            have hq0 := HBx.out.cells0
            have hf0 := HBx.out.free0
            have HS := Lib.hid (HBx.out.put5 (.int .i64 0) (.int .i64 0) (.int .i64 0) (.slice none 0 0) (.int .i64 0) rfl)
            have hqs := HS.out.cells0
            have HBL := Lib.hid HS.out.bel
            clear HS
            go_wp2
            refine bodyPost_ret (v := .tuple #[recV ⟨0, 0, 0, ⟨[], 0⟩⟩ (.slice none 0 0), .int .i64 1]) ?_ rfl (by rw [HE1.out]; exact ⟨_, rfl, nil_rulesP _ _, HBL.out⟩)
            rw [results_cell_tmp rfl]
            go_simp
end Go.Proofs.YthkgjohhbdipcaaDoor
namespace Go.Proofs.YthkgjohhbdipcaaDoor
open Go.RowKit
attribute [local go_sem] gives givesUpon

def notedL : List UInt8 := [116, 105, 103, 104, 116, 32, 50, 32, 107, 105, 108, 108, 32, 110, 114, 61, 51, 32, 97, 60, 53, 59, 108, 111, 103, 32, 107, 105, 110, 100, 33, 48, 59, 97, 108, 108, 111, 119]
theorem madeP_stableN : stableP (fun v W => ∃ u, v = polV u 4 ∧ RdRules W (fun _ => True) u madeP.rules) := fun _ _ _ hb ⟨u, h1, h2⟩ => ⟨u, h1, RdRules.below h2 hb⟩
theorem nt1 : nprintE ⟨2, 2, 0, madeP⟩ = (notedL, 0) := by decide +kernel
theorem nt2 : nprintE ⟨3, 1, 2, ⟨[], 0⟩⟩ = ([102, 111, 114, 107, 32, 49, 32, 50], 0) := by decide +kernel
theorem nt3 : nreadE notedL = (⟨2, 2, 0, madeP⟩, 0) := by decide +kernel
theorem nt_str : ((bsL notedL).toList == [116, 105, 103, 104, 116, 32, 50, 32, 107, 105, 108, 108, 32, 110, 114, 61, 51, 32, 97, 60, 53, 59, 108, 111, 103, 32, 107, 105, 110, 100, 33, 48, 59, 97, 108, 108, 111, 119]) = true := by rw [ByteArray.toList_eq]; decide
theorem nt_str2 : ((bsL [102, 111, 114, 107, 32, 49, 32, 50]).toList == [102, 111, 114, 107, 32, 49, 32, 50]) = true := by rw [ByteArray.toList_eq]; decide
set_option maxRecDepth 100000 in
set_option maxHeartbeats 16000000 in
theorem noted_walk (w : World) (hL : Laid w) : Calls Tryd.prog 12 #[] w fun e w' => e = .returned (.bool true) ∧ Below w.heap.size w w' := by
  have HL := Lib.hid hL
  clear hL
  have hm : madeP.rules.length = 2 := rfl
  have hd4 : madeP.dflt = 4 := rfl
  go_enter Tryd.func12, Tryd.ntmps12
  go_wp2_with fail
  refine (made_any _ HL.out).mono ?_
  rintro e w0 ⟨v0, rfl, hr0, hb0⟩
  have Hb0 := Lib.hid hb0
  have HR0 := Lib.hid (rules_true hr0)
  obtain ⟨a0, c0, rfl, _⟩ := Sl.form hr0
  clear hr0 hb0
  go_wp2_with fail
  refine (nprint_any (.slice a0 madeP.rules.length c0) ⟨2, 2, 0, madeP⟩ _ _ HR0.out (HL.out.below Hb0.out)).mono ?_
  rw [nt1]
  rintro e w1 ⟨rfl, hb1⟩
  have Hb1 := Lib.hid (bel_call Hb0.out hb1)
  clear hb1
  dsimp only
  go_wp2_with fail
  refine (nprint_any (.slice none 0 0) ⟨3, 1, 2, ⟨[], 0⟩⟩ (fun _ => True) _ (nil_rulesP _ _) (HL.out.below Hb1.out)).mono ?_
  rw [nt2]
  rintro e w2 ⟨rfl, hb2⟩
  have Hb2 := Lib.hid (bel_call Hb1.out hb2)
  clear hb2
  dsimp only
  go_wp2_with fail
  refine (nparse_any notedL _ (HL.out.below Hb2.out)).mono ?_
  rw [nt3]
  rintro e w3 ⟨v3, rfl, hr3, hb3⟩
  have HP3 := Lib.hid (rules_true hr3)
  obtain ⟨a3, c3, rfl, _⟩ := Sl.form hr3
  clear hr3
  rw [show (⟨2, 2, 0, madeP⟩ : TRec).p.rules.length = 2 from rfl] at HP3 ⊢
  have HX3 := Lib.hid (heap_last w3 (.cells #[.int .i64 2, .int .i64 2, .int .i64 0, .slice a3 2 c3, .int .i64 4] 34))
  have HA3 := Lib.hid (bel_alloc (Below.refl w3.heap.size w3) (.cells #[.int .i64 2, .int .i64 2, .int .i64 0, .slice a3 2 c3, .int .i64 4] 34))
  have HB3 := Lib.hid (bel_call (bel_call Hb2.out hb3) HA3.out)
  have HP4 : Hid (RdRules _ (fun _ => True) (.slice a3 2 c3) madeP.rules) := RdRules.below HP3.out HA3.out
  clear hb3
  dsimp only
  go_wp2_with fail
  revert HB3 HX3 HP4
  generalize (w3.alloc (.cells #[.int .i64 2, .int .i64 2, .int .i64 0, .slice a3 2 c3, .int .i64 4] 34)) = w5
  intro HX HB HP
  refine wp_region_B [ex (.int .i64 0), ex (.bool true), ex (.bool true), ex (.int .i64 0), ex (.bool true), ex (.bool true), ex (.bool true), ex (.int .i64 0), ex (.bool true), ex (.bool true), ex (.bool true), ex (.string (bsL notedL)), ex (.bool true), ex (.bool true), ex (.bool true), ex (.string (bsL [102, 111, 114, 107, 32, 49, 32, 50])), ex (.bool true), ex (.bool true), ex (.bool true), ex (.pointer (some ⟨w3.heap.size, 1, none⟩)), ex (.int .i64 2), ex (.bool true), ex (.bool true), ex (.bool true), ex (.pointer (some ⟨w3.heap.size, 3, none⟩)), ex (polV (.slice a3 2 c3) 4), pr (fun v W => ∃ u, v = polV u 4 ∧ RdRules W (fun _ => True) u madeP.rules), ex (.bool true), ex (.bool true), ex (.bool true)] _ (Nat.le_refl _) (by kernel_rfl) (by kernel_rfl) ⟨.inl ⟨_, rfl⟩, .inl ⟨_, rfl⟩, .inl ⟨_, rfl⟩, .inl ⟨_, rfl⟩, .inl ⟨_, rfl⟩, .inl ⟨_, rfl⟩, .inl ⟨_, rfl⟩, .inl ⟨_, rfl⟩, .inl ⟨_, rfl⟩, .inl ⟨_, rfl⟩, .inl ⟨_, rfl⟩, .inl ⟨_, rfl⟩, .inl ⟨_, rfl⟩, .inl ⟨_, rfl⟩, .inl ⟨_, rfl⟩, .inl ⟨_, rfl⟩, .inl ⟨_, rfl⟩, .inl ⟨_, rfl⟩, .inl ⟨_, rfl⟩, .inl ⟨_, rfl⟩, .inl ⟨_, rfl⟩, .inl ⟨_, rfl⟩, .inl ⟨_, rfl⟩, .inl ⟨_, rfl⟩, .inl ⟨_, rfl⟩, .inl ⟨_, rfl⟩, .inr ⟨_, rfl, madeP_stableN⟩, .inl ⟨_, rfl⟩, .inl ⟨_, rfl⟩, .inl ⟨_, rfl⟩, trivial⟩ ?_
  (refine walkB_ex (fun K hK => ?_); refine ⟨fun W hC hd R hR => ?_, ?_⟩; (clear hd; go_simp; exact hR _ _ (Below.refl _ _) rfl); (go_simp; refine hK _ ?_; clear hK K))
  (refine walkB_ex (fun K hK => ?_); refine ⟨fun W hC hd R hR => ?_, ?_⟩; (clear hd; go_simp; exact hR _ _ (Below.refl _ _) rfl); (go_simp; refine hK _ ?_; clear hK K))
  (refine walkB_ex (fun K hK => ?_); refine ⟨fun W hC hd R hR => ?_, ?_⟩; (clear hd; go_simp; exact hR _ _ (Below.refl _ _) rfl); (go_simp; refine hK _ ?_; clear hK K))
  (refine walkB_ex (fun K hK => ?_); refine ⟨fun W hC hd R hR => ?_, ?_⟩; (clear hd; go_simp; exact hR _ _ (Below.refl _ _) rfl); (go_simp; refine hK _ ?_; clear hK K))
  (refine walkB_ex (fun K hK => ?_); refine ⟨fun W hC hd R hR => ?_, ?_⟩; (clear hd; go_simp; exact hR _ _ (Below.refl _ _) rfl); (go_simp; refine hK _ ?_; clear hK K))
  (refine walkB_ex (fun K hK => ?_); refine ⟨fun W hC hd R hR => ?_, ?_⟩; (clear hd; go_simp; exact hR _ _ (Below.refl _ _) rfl); (go_simp; refine hK _ ?_; clear hK K))
  (refine walkB_ex (fun K hK => ?_); refine ⟨fun W hC hd R hR => ?_, ?_⟩; (clear hd; go_simp; exact hR _ _ (Below.refl _ _) rfl); (go_simp; refine hK _ ?_; clear hK K))
  (refine walkB_ex (fun K hK => ?_); refine ⟨fun W hC hd R hR => ?_, ?_⟩; (clear hd; go_simp; exact hR _ _ (Below.refl _ _) rfl); (go_simp; refine hK _ ?_; clear hK K))
  (refine walkB_ex (fun K hK => ?_); refine ⟨fun W hC hd R hR => ?_, ?_⟩; (clear hd; go_simp; exact hR _ _ (Below.refl _ _) rfl); (go_simp; refine hK _ ?_; clear hK K))
  (refine walkB_ex (fun K hK => ?_); refine ⟨fun W hC hd R hR => ?_, ?_⟩; (clear hd; go_simp; exact hR _ _ (Below.refl _ _) rfl); (go_simp; refine hK _ ?_; clear hK K))
  (refine walkB_ex (fun K hK => ?_); refine ⟨fun W hC hd R hR => ?_, ?_⟩; (clear hd; go_simp; exact hR _ _ (Below.refl _ _) rfl); (go_simp; refine hK _ ?_; clear hK K))
  (refine walkB_ex (fun K hK => ?_); refine ⟨fun W hC hd R hR => ?_, ?_⟩; (clear hd; go_simp; exact hR _ _ (Below.refl _ _) rfl); (go_simp; refine hK _ ?_; clear hK K))
  (refine walkB_ex (fun K hK => ?_); refine ⟨fun W hC hd R hR => ?_, ?_⟩; (have hws := nt_str; clear hd; go_simp; exact hR _ _ (Below.refl _ _) rfl); (go_simp; refine hK _ ?_; clear hK K))
  (refine walkB_ex (fun K hK => ?_); refine ⟨fun W hC hd R hR => ?_, ?_⟩; (clear hd; go_simp; exact hR _ _ (Below.refl _ _) rfl); (go_simp; refine hK _ ?_; clear hK K))
  (refine walkB_ex (fun K hK => ?_); refine ⟨fun W hC hd R hR => ?_, ?_⟩; (clear hd; go_simp; exact hR _ _ (Below.refl _ _) rfl); (go_simp; refine hK _ ?_; clear hK K))
  (refine walkB_ex (fun K hK => ?_); refine ⟨fun W hC hd R hR => ?_, ?_⟩; (clear hd; go_simp; exact hR _ _ (Below.refl _ _) rfl); (go_simp; refine hK _ ?_; clear hK K))
  (refine walkB_ex (fun K hK => ?_); refine ⟨fun W hC hd R hR => ?_, ?_⟩; (have hws := nt_str2; clear hd; go_simp; exact hR _ _ (Below.refl _ _) rfl); (go_simp; refine hK _ ?_; clear hK K))
  (refine walkB_ex (fun K hK => ?_); refine ⟨fun W hC hd R hR => ?_, ?_⟩; (clear hd; go_simp; exact hR _ _ (Below.refl _ _) rfl); (go_simp; refine hK _ ?_; clear hK K))
  (refine walkB_ex (fun K hK => ?_); refine ⟨fun W hC hd R hR => ?_, ?_⟩; (clear hd; go_simp; exact hR _ _ (Below.refl _ _) rfl); (go_simp; refine hK _ ?_; clear hK K))
  (refine walkB_ex (fun K hK => ?_); refine ⟨fun W hC hd R hR => ?_, ?_⟩; (clear hd; go_simp; exact hR _ _ (Below.refl _ _) rfl); (go_simp; refine hK _ ?_; clear hK K))
  (refine walkB_ex (fun K hK => ?_); refine ⟨fun W hC hd R hR => ?_, ?_⟩; (have hqb := cells_of (blk_below HX.out hC.2); clear hd; go_simp; exact hR _ _ (Below.refl _ _) rfl); (go_simp; refine hK _ ?_; clear hK K))
  (refine walkB_ex (fun K hK => ?_); refine ⟨fun W hC hd R hR => ?_, ?_⟩; (clear hd; go_simp; exact hR _ _ (Below.refl _ _) rfl); (go_simp; refine hK _ ?_; clear hK K))
  (refine walkB_ex (fun K hK => ?_); refine ⟨fun W hC hd R hR => ?_, ?_⟩; (clear hd; go_simp; exact hR _ _ (Below.refl _ _) rfl); (go_simp; refine hK _ ?_; clear hK K))
  (refine walkB_ex (fun K hK => ?_); refine ⟨fun W hC hd R hR => ?_, ?_⟩; (clear hd; go_simp; exact hR _ _ (Below.refl _ _) rfl); (go_simp; refine hK _ ?_; clear hK K))
  (refine walkB_ex (fun K hK => ?_); refine ⟨fun W hC hd R hR => ?_, ?_⟩; (clear hd; go_simp; exact hR _ _ (Below.refl _ _) rfl); (go_simp; refine hK _ ?_; clear hK K))
  (refine walkB_ex (fun K hK => ?_); refine ⟨fun W hC hd R hR => ?_, ?_⟩; (have hqb := cells_of (blk_below HX.out hC.2); clear hd; go_simp; exact hR _ _ (Below.refl _ _) rfl); (go_simp; refine hK _ ?_; clear hK K))
  (refine walkB_pr (fun K hK => ?_); refine ⟨fun W hC hd R hR => ?_, fun v26 => ?_⟩; (have HLW := Lib.hid (HL.out.below (bel_call HB.out hC.2)); clear hd; go_simp; go_at_call 36; refine (made_any _ HLW.out).mono ?_; rintro e w9 ⟨v9, rfl, hr9, hb9⟩; exact ⟨_, rfl, hR _ _ hb9 ⟨_, rfl, rules_true hr9⟩⟩); (go_simp; refine hK _ _ ?_; clear hK K))
  (refine walkB_ex (fun K hK => ?_); refine ⟨fun W hC hd R hR => ?_, ?_⟩; (have hs : ∃ u, v26 = polV u 4 ∧ RdRules W (fun _ => True) u madeP.rules := hd 26 (by decide); obtain ⟨u9, rfl, hs⟩ := hs; have Hs := Lib.hid hs; have HpW := Lib.hid (RdRules.below HP.out hC.2); clear hs; clear hd; go_simp; go_at_call 9; refine (same_any _ _ madeP madeP (fun _ => True) _ HpW.out Hs.out).mono ?_; rw [decide_eq_true (rfl : madeP = madeP)]; rintro e w9 ⟨rfl, hb9⟩; exact ⟨_, rfl, hR _ _ hb9 rfl⟩); (go_simp; refine hK _ ?_; clear hK K))
  (refine walkB_ex (fun K hK => ?_); refine ⟨fun W hC hd R hR => ?_, ?_⟩; (clear hd; go_simp; exact hR _ _ (Below.refl _ _) rfl); (go_simp; refine hK _ ?_; clear hK K))
  (refine walkB_ex (fun K hK => ?_); refine ⟨fun W hC hd R hR => ?_, ?_⟩; (clear hd; go_simp; exact hR _ _ (Below.refl _ _) rfl); (go_simp; refine hK _ ?_; clear hK K))
  intro w7 hC _
  have HBf := Lib.hid (bel_call HB.out hC.2)
  clear hC
  go_wp2
  go_ret
  exact ⟨rfl, HBf.out⟩
end Go.Proofs.YthkgjohhbdipcaaDoor
namespace Go.Proofs.YthkgjohhbdipcaaDoor
open Go.RowKit

def byteR (x : UInt8) (cs : List Value) : Prop := cs = [.int .u8 x.toNat]
def RdBytes (w : World) (D : Nat → Prop) (v : Value) (l : List UInt8) : Prop := Sl w D 1 byteR v l
theorem RdBytes.keep {w w' : World} {D D' : Nat → Prop} {v : Value} {l : List UInt8} (h : RdBytes w D v l) (hD : ∀ b, D b → b < w.heap.size → D' b)
    (hw : ∀ b, D b → b < w.heap.size → w'.heap[b]? = w.heap[b]?) (hs : w.heap.size ≤ w'.heap.size) : RdBytes w' D' v l := Sl.mono h hD hw hs (fun _ _ _ h => h)
theorem RdBytes.below {w w' : World} {D : Nat → Prop} {v : Value} {l : List UInt8} (h : RdBytes w D v l) (hb : Below w.heap.size w w') : RdBytes w' D v l :=
  h.keep (fun _ h _ => h) (fun b _ hlt => hb.block b hlt) hb.size
theorem RdBytes.cell {w : World} {D : Nat → Prop} {b o n c : Nat} {s : Option Nat} {l : List UInt8} (h : RdBytes w D (.slice (some ⟨b, o, s⟩) n c) l) {i : Nat} (hi : i < l.length) :
    w.cell? ⟨b, o + i, none⟩ = some (.int .u8 l[i].toNat) := by
  obtain ⟨cs, hcs, hr, hcell⟩ := Sl.get h hi
  unfold byteR at hr
  subst hr
  have := hcell 0 _ rfl
  rwa [Nat.mul_one] at this
theorem nil_bytes (w : World) (D : Nat → Prop) : RdBytes w D (.slice none 0 0) [] := ⟨none, 0, rfl, Nat.le_refl _, by decide, fun _ => rfl, fun h => by cases h⟩
theorem RdBytes.true {w : World} {D : Nat → Prop} {v : Value} {l : List UInt8} (h : RdBytes w D v l) : RdBytes w (fun _ => True) v l := h.keep (fun _ _ _ => trivial) (fun _ _ _ => rfl) (Nat.le_refl _)
theorem RdBytes.lt {w : World} {D : Nat → Prop} {v : Value} {l : List UInt8} (h : RdBytes w D v l) : RdBytes w (fun b => b < w.heap.size) v l := h.keep (fun _ _ hl => hl) (fun _ _ _ => rfl) (Nat.le_refl _)
/-- string(b). -/
theorem bytes_string {w : World} {D : Nat → Prop} {v : Value} {l : List UInt8} (h : RdBytes w D v l) : (convert 41 9 v).run Tryd.prog w = .ok (.string ⟨l.toArray⟩) w := by
  obtain ⟨a, c, hv, hl, hm, hn, hat⟩ := h
  subst hv
  by_cases h0 : 0 < l.length
  · obtain ⟨b, o, rfl, _, _, hcells⟩ := hat h0
    refine run_convert_bytes_back w _ _ 5 ⟨b, o, none⟩ c l Tryd.underlying41 Tryd.underlying5 Tryd.underlying9 (fun j hj => ?_)
    obtain ⟨cs, _, hr, hc⟩ := hcells j _ (List.getElem?_eq_getElem hj)
    unfold byteR at hr
    subst hr
    have := hc 0 _ rfl
    have e : (⟨b, o, none⟩ : Addr).add j = ⟨b, o + (j * 1 + 0), none⟩ := by unfold Addr.add; split <;> simp_all
    rw [e]; exact this
  · obtain rfl : l = [] := List.length_eq_zero_iff.1 (by omega)
    cases a with
    | none => exact run_convert_bytes_nil w _ 5 Tryd.underlying41 Tryd.underlying5 _ _ _ Tryd.underlying9
    | some a => exact run_convert_bytes_back w _ _ 5 a c [] Tryd.underlying41 Tryd.underlying5 Tryd.underlying9 (fun j hj => by simp at hj)
end Go.Proofs.YthkgjohhbdipcaaDoor
namespace Go.Proofs.YthkgjohhbdipcaaDoor
open Go.RowKit
attribute [local go_sem] gives givesUpon

theorem take_eq_stepS {α : Type} {xs ys : List α} {k : Nat} (hx : k < xs.length) (hy : k < ys.length) (h : xs.take k = ys.take k) (e : xs[k] = ys[k]) : xs.take (k + 1) = ys.take (k + 1) := by
  rw [List.take_succ_eq_append_getElem hx, List.take_succ_eq_append_getElem hy, h, e]
theorem ne_of_getS {α : Type} {xs ys : List α} {k : Nat} (hx : k < xs.length) (hy : k < ys.length) (e : xs[k] ≠ ys[k]) : xs ≠ ys := fun h => e (by subst h; rfl)
set_option maxHeartbeats 1000000 in
theorem eqbytes_any (v u : Value) (xs ys : List UInt8) (D : Nat → Prop) (w : World) (h : RdBytes w D v xs) (h' : RdBytes w D u ys) :
    Calls Tryd.prog 52 #[v, u] w fun e w' => e = .returned (.bool (decide (xs = ys))) ∧ Below w.heap.size w w' := by
  obtain ⟨a, c, rfl, hlc, hcm, hat⟩ := Sl.form h
  obtain ⟨a', c', rfl, hlc', hcm', hat'⟩ := Sl.form h'
  have H := Lib.hid h
  have H' := Lib.hid h'
  clear h h'
  by_cases hl : xs.length = ys.length
  · have b0 : ((xs.length : Int) != (ys.length : Int)) = false := bne_eq_false_iff_eq.2 (by omega)
    have hl' := Lib.hid hl
    have hl1 : xs.length ≤ ys.length := by omega
    have hl2 : ys.length ≤ xs.length := by omega
    clear hl
    go_enter Tryd.func52, Tryd.ntmps52
    go_wp2_with fail
    go_loopw [13] (fun i wr => ∃ k : Nat, k ≤ xs.length ∧ i = .int .i64 k ∧ xs.take k = ys.take k ∧ Below w.heap.size w wr) (fun i _ => xs.length - (intOf i).toNat)
    case atStart => exact ⟨0, by omega, rfl, rfl, Below.refl _ _⟩
    case round =>
      obtain ⟨k, hk, rfl, htk, hbw⟩ := hrel
      have Ht := Lib.hid htk
      have hsz := hbw.size
      clear htk
      by_cases hlt : k < xs.length
      · obtain ⟨b, o, rfl, hDb, hb⟩ := hat (by omega)
        obtain ⟨b', o', rfl, hDb', hb'⟩ := hat' (by omega)
        have hlt' : k < ys.length := by omega
        have hc : ∀ W, Cls w.heap.size wr W → W.cell? ⟨b, o + k, none⟩ = some (.int .u8 xs[k].toNat) ∧ W.cell? ⟨b', o' + k, none⟩ = some (.int .u8 ys[k].toNat) := fun W hW =>
          ⟨RdBytes.cell (H.out.below (hbw.trans hW.2)) hlt, RdBytes.cell (H'.out.below (hbw.trans hW.2)) hlt'⟩
        have Hc := Lib.hid hc
        clear hc
        go_wp2_with fail
        refine wp_region_exact3 w.heap.size hsz (by kernel_rfl) (by kernel_rfl) ?_
        repeat (refine monoE_step (fun K hK => ?_); apply Exists.intro; refine ⟨fun W hC R hR => ?_, ?_⟩; (have hcc := Hc.out W hC; go_simp; exact hR _ _ (Below.refl _ _) rfl); (go_simp; refine hK _ ?_; clear hK K))
        intro w2 hC2
        by_cases he : xs[k] = ys[k]
        · have Hn := Lib.hid (take_eq_stepS hlt hlt' Ht.out he)
          have d : ((xs[k].toNat : Int) != (ys[k].toNat : Int)) = false := bne_eq_false_iff_eq.2 (by rw [he])
          clear he
          simp only [d]
          go_wp2
          go_roundw
          case rel => exact ⟨k + 1, by omega, by go_num, Hn.out, hbw.trans hC2.2⟩
          case measure => simp [intOf]; omega
        · have Hn := Lib.hid (ne_of_getS hlt hlt' he)
          have d : ((xs[k].toNat : Int) != (ys[k].toNat : Int)) = true := bne_iff_ne.2 (fun e => he (UInt8.toNat_inj.1 (by omega)))
          clear he
          simp only [d]
          go_wp2
          go_ret
          exact ⟨ret_bool (decide_eq_false Hn.out).symm, hbw.trans hC2.2⟩
      · obtain rfl : k = xs.length := by omega
        have Hn : Hid (xs = ys) := by
          have := Ht.out
          rw [List.take_length, hl'.out, List.take_length] at this
          exact this
        go_wp2
        go_ret
        exact ⟨ret_bool (decide_eq_true Hn.out).symm, hbw⟩
  · have b0 : ((xs.length : Int) != (ys.length : Int)) = true := bne_iff_ne.2 (by omega)
    have hn : decide (xs = ys) = false := decide_eq_false fun e => hl (by rw [e])
    rw [hn]
    clear hn hl
    go_enter Tryd.func52, Tryd.ntmps52
    go_wp2
    go_ret
    exact ⟨rfl, Below.refl _ _⟩
end Go.Proofs.YthkgjohhbdipcaaDoor
namespace Go.Proofs.YthkgjohhbdipcaaDoor
open Go.RowKit

theorem cell_allocN {w : World} {ad : Addr} {v : Value} (O : Obj) (h : w.cell? ad = some v) : (w.alloc O).cell? ad = some v := by
  obtain ⟨b, i, s⟩ := ad
  have hlt : b < w.heap.size := World.block_lt_of_cell? _ _ h
  exact (World.cell?_of_block (w := w) (Below.heap_alloc w O b hlt)).trans h
set_option maxRecDepth 100000 in
set_option maxHeartbeats 4000000 in
theorem nsame_any (a b : TRec) (u v : Value) (w : World) (h1 : RdRules w (fun _ => True) u a.p.rules) (h2 : RdRules w (fun _ => True) v b.p.rules) :
    Calls Tryd.prog 13 #[recV a u, recV b v] w fun e w' => e = .returned (.bool (decide (a = b))) ∧ Below w.heap.size w w' := by
  have H1 := Lib.hid h1
  have H2 := Lib.hid h2
  obtain ⟨au, cu, rfl, _⟩ := Sl.form h1
  obtain ⟨av, cv, rfl, _⟩ := Sl.form h2
  clear h1 h2
  obtain ⟨k, c, f, p⟩ := a
  obtain ⟨k', c', f', p'⟩ := b
  dsimp only at H1 H2 ⊢
  have HB := Lib.hid (Bx.two (w := w) (o := .cells #[.int .i64 k, .int .i64 c, .int .i64 f, .slice au p.rules.length cu, .int .i64 p.dflt] 34) (o' := .cells #[.int .i64 k', .int .i64 c', .int .i64 f', .slice av p'.rules.length cv, .int .i64 p'.dflt] 34))
  obtain ⟨q, hq⟩ : ∃ q, decide ((⟨k, c, f, p⟩ : TRec) = ⟨k', c', f', p'⟩) = q := ⟨_, rfl⟩
  have HD : Hid (q = (decide (k = k') && decide (c = c') && decide (f = f') && decide (p = p'))) := by show _ = _; rw [← hq]; simp [Bool.and_assoc]
  rw [hq]
  clear hq
  have HBL := Lib.hid HB.out.bel
  by_cases hk : k = k'
  · by_cases hc : c = c'
    · by_cases hf : f = f'
      · subst hk hc hf
        have HD' : Hid (q = decide (p = p')) := by show _ = _; rw [HD.out]; simp
        clear HD
        go_enter Tryd.func13, Tryd.ntmps13
        go_wp2_with fail
        refine (same_any _ _ p p' (fun _ => True) _ (RdRules.below H1.out HB.out.bel) (RdRules.below H2.out HB.out.bel)).mono ?_
        rintro e w2 ⟨rfl, hb2⟩
        have HB2 := Lib.hid (HB.out.below hb2)
        clear hb2
        go_wp2
        go_ret
        exact ⟨by rw [HD'.out]; rfl, HB2.out.bel⟩
      · subst hk hc
        have d : (f == f') = false := beq_eq_false_iff_ne.2 hf
        have HD' : Hid (q = false) := by show _ = _; rw [HD.out]; simp [hf]
        clear HD hf
        go_enter Tryd.func13, Tryd.ntmps13
        go_wp2
        go_ret
        exact ⟨by rw [HD'.out]; rfl, HBL.out⟩
    · subst hk
      have d : (c == c') = false := beq_eq_false_iff_ne.2 hc
      have HD' : Hid (q = false) := by show _ = _; rw [HD.out]; simp [hc]
      clear HD hc
      go_enter Tryd.func13, Tryd.ntmps13
      go_wp2
      go_ret
      exact ⟨by rw [HD'.out]; rfl, HBL.out⟩
  · have d : (k == k') = false := beq_eq_false_iff_ne.2 hk
    have HD' : Hid (q = false) := by show _ = _; rw [HD.out]; simp [hk]
    clear HD hk
    go_enter Tryd.func13, Tryd.ntmps13
    go_wp2
    go_ret
    exact ⟨by rw [HD'.out]; rfl, HBL.out⟩
set_option maxRecDepth 100000 in
set_option maxHeartbeats 4000000 in
theorem eqrecs_any (v u : Value) (xs ys : List TRec) (w : World) (h : RdRecs w (fun _ => True) v xs) (h' : RdRecs w (fun _ => True) u ys) :
    Calls Tryd.prog 22 #[v, u, .func (.func 13) #[] #[]] w fun e w' => e = .returned (.bool (decide (xs = ys))) ∧ Below w.heap.size w w' := by
  have H := Lib.hid h
  have H' := Lib.hid h'
  obtain ⟨a, c, rfl, hlc, hcm, hat⟩ := Sl.form h
  obtain ⟨a', c', rfl, hlc', hcm', hat'⟩ := Sl.form h'
  clear h h'
  by_cases hl : xs.length = ys.length
  · have Hl := Lib.hid hl
    have hln : ((xs.length : Int) != (ys.length : Int)) = false := by rw [hl]; simp
    clear hl
    go_enter Tryd.func22, Tryd.ntmps22
    go_wp2_with fail
    go_loopw [17] (fun i wr => ∃ k : Nat, k ≤ xs.length ∧ i = .int .i64 k ∧ xs.take k = ys.take k ∧ Below w.heap.size w wr) (fun i _ => xs.length - (intOf i).toNat)
    case atStart => exact ⟨0, by omega, rfl, rfl, Below.refl _ _⟩
    case round =>
      obtain ⟨k, hk, rfl, htk, hbw⟩ := hrel
      have Ht := Lib.hid htk
      have Hb := Lib.hid hbw
      clear htk hbw
      by_cases hlt : k < xs.length
      · obtain ⟨b, o, rfl, _, _⟩ := hat (by omega)
        obtain ⟨b', o', rfl, _, _⟩ := hat' (by rw [← Hl.out]; omega)
        have hlt' : k < ys.length := by rw [← Hl.out]; exact hlt
        obtain ⟨a1, c1, x0, x1, x2, x3, x4, hp1⟩ := RdRecs.cells (H.out.below Hb.out) hlt
        obtain ⟨b1, d1, y0, y1, y2, y3, y4, hp2⟩ := RdRecs.cells (H'.out.below Hb.out) hlt'
        have Hp1 := Lib.hid hp1
        have Hp2 := Lib.hid hp2
        have HC := Lib.hid (Bx.two (w := wr) (o := .cells #[.int .i64 xs[k].kind, .int .i64 xs[k].cell, .int .i64 xs[k].from_, .slice a1 xs[k].p.rules.length c1, .int .i64 xs[k].p.dflt] 34) (o' := .cells #[.int .i64 ys[k].kind, .int .i64 ys[k].cell, .int .i64 ys[k].from_, .slice b1 ys[k].p.rules.length d1, .int .i64 ys[k].p.dflt] 34))
        have q0 : ∀ O, (wr.alloc O).cell? ⟨b', o' + k * 5, none⟩ = _ := fun O => (cell_allocN O y0)
        have q1 : ∀ O, (wr.alloc O).cell? ⟨b', o' + k * 5 + 1, none⟩ = _ := fun O => (cell_allocN O y1)
        have q2 : ∀ O, (wr.alloc O).cell? ⟨b', o' + k * 5 + 2, none⟩ = _ := fun O => (cell_allocN O y2)
        have q3 : ∀ O, (wr.alloc O).cell? ⟨b', o' + k * 5 + 3, none⟩ = _ := fun O => (cell_allocN O y3)
        have q4 : ∀ O, (wr.alloc O).cell? ⟨b', o' + k * 5 + 4, none⟩ = _ := fun O => (cell_allocN O y4)
        clear hp1 hp2
        go_wp2_with fail
        refine (nsame_any xs[k] ys[k] _ _ _ (RdRules.below Hp1.out HC.out.bel) (RdRules.below Hp2.out HC.out.bel)).mono ?_
        rintro e w1 ⟨rfl, hb1⟩
        have Hb1 := Lib.hid (bel_call (bel_call Hb.out HC.out.bel) hb1)
        clear hb1 x0 x1 x2 x3 x4 y0 y1 y2 y3 y4 q0 q1 q2 q3 q4 HC
        by_cases he : xs[k] = ys[k]
        · have Hn := Lib.hid (take_eq_stepS hlt hlt' Ht.out he)
          have d : decide (xs[k] = ys[k]) = true := decide_eq_true he
          clear he
          rw [d]
          go_wp2
          go_roundw
          case rel => first | exact ⟨k + 1, by omega, by go_num, Hn.out, Hb1.out⟩ | ((repeat apply Exists.intro); exact ⟨⟨k + 1, by omega, by go_num, Hn.out, Hb1.out⟩, rfl⟩)
          case measure => simp [intOf]; omega
        · have Hn := Lib.hid (ne_of_getS hlt hlt' he)
          have d : decide (xs[k] = ys[k]) = false := decide_eq_false he
          clear he
          rw [d]
          go_wp2
          go_ret
          exact ⟨by rw [decide_eq_false Hn.out]; rfl, Hb1.out⟩
      · obtain rfl : k = xs.length := by omega
        have Hn : Hid (xs = ys) := by
          have := Ht.out
          rw [List.take_length, Hl.out, List.take_length] at this
          exact this
        go_wp2
        go_ret
        exact ⟨by rw [decide_eq_true Hn.out]; rfl, Hb.out⟩
  · have hn : xs ≠ ys := fun e => hl (by rw [e])
    have hl' : ((xs.length : Int) != (ys.length : Int)) = true := bne_iff_ne.2 (by omega)
    have HD := Lib.hid (decide_eq_false hn)
    clear hn
    go_enter Tryd.func22, Tryd.ntmps22
    go_wp2
    go_ret
    exact ⟨by rw [HD.out]; rfl, Below.refl _ _⟩
end Go.Proofs.YthkgjohhbdipcaaDoor
namespace Go.Proofs.YthkgjohhbdipcaaDoor
open Go.RowKit Go.ChangeShapes Go.WideShapes Go.Deep
set_option maxRecDepth 100000

/-- a record, read. -/
def RdRec (w : World) (v : Value) (r : TRec) : Prop := ∃ u, v = recV r u ∧ RdRules w (fun _ => True) u r.p.rules
section
variable {H : Type} {enc : TypeId × Value → H} {w : World} {base : Nat} {spare : Nat → Bool} {held : Bool}
theorem trod_rec {fuel : Nat} {cs : List Value} {x : DataW H × List MemPlace} (hl : cs.length = 5) (h : DataW.trod enc Tryd.prog w base spare held fuel 34 cs = some x) : ∃ a : TRec, recR w (fun _ => True) a cs := by
  have hfs : (Tryd.prog.underlying 34).map (fun d => match d with | .struct fs => fs.map (fun f => (f.type, f.offset)) | _ => #[]) = some #[(3, 0), (3, 1), (3, 2), (24, 3)] := by kernel_rfl
  obtain ⟨fs, he⟩ : ∃ fs, Tryd.prog.underlying 34 = some (.struct fs) := ⟨_, Tryd.underlying34⟩
  rw [he] at hfs
  simp only [Option.map_some, Option.some.injEq] at hfs
  have hc : Tryd.prog.cellsOf 3 = 1 := by kernel_rfl
  obtain ⟨n0, e0⟩ := trod_field_int (i := 0) he hfs h rfl Tryd.underlying3 hc
  obtain ⟨n1, e1⟩ := trod_field_int (i := 1) he hfs h rfl Tryd.underlying3 hc
  obtain ⟨n2, e2⟩ := trod_field_int (i := 2) he hfs h rfl Tryd.underlying3 hc
  obtain ⟨n, y, hy⟩ := trod_field (i := 3) he hfs h rfl
  have hc2 : Tryd.prog.cellsOf 24 = 2 := by kernel_rfl
  rw [hc2] at hy
  match cs, hl with
  | [c0, c1, c2, c3, c4], _ =>
    obtain ⟨p, v, hcs, hr⟩ := trod_pol (by simp) hy
    simp at e0 e1 e2 hcs
    exact ⟨⟨n0, n1, n2, p⟩, v, by simp [e0, e1, e2, hcs], hr⟩
theorem open_recs {r : Reach} {b0 : Nat} {v : Value} {d : DataW H} {ps : List MemPlace}
    (hv : Value.okWide Tryd.prog w r b0 40 v) (h : DataW.Trod enc Tryd.prog w base spare held 40 v d ps) : ∃ l, RdRecs w (fun _ => True) v l := by
  obtain ⟨a, len, cap, rfl⟩ := okWide_slice Tryd.underlying40 hv
  obtain ⟨fuel, hf⟩ := h
  obtain ⟨v', xs, hcs, hsl⟩ := sl_of_trod (sz := 5) Tryd.underlying40 (by kernel_rfl) (by omega) (fun _ _ _ hl hx => trod_rec hl hx) hf
  simp [Value.cells] at hcs
  rw [hcs]
  exact ⟨xs, hsl⟩
theorem open_rec {r : Reach} {b0 : Nat} {v : Value} {d : DataW H} {ps : List MemPlace}
    (hv : Value.okWide Tryd.prog w r b0 34 v) (h : DataW.Trod enc Tryd.prog w base spare held 34 v d ps) : ∃ t : TRec, RdRec w v t := by
  simp only [Value.okWide, Tryd.underlying34] at hv
  obtain ⟨cs, rfl, _⟩ := hv
  obtain ⟨fuel, hf⟩ := h
  obtain ⟨xs, m, _, _, hlen, _, _⟩ := DataW.trod_struct Tryd.underlying34 hf
  have hc : Tryd.prog.cellsOf 34 = 5 := by kernel_rfl
  rw [hc] at hlen
  obtain ⟨t, u, hcs, hr⟩ := trod_rec hlen hf
  obtain ⟨l⟩ := cs
  simp only [Value.cells] at hcs
  subst hcs
  exact ⟨t, u, rfl, hr⟩
end
end Go.Proofs.YthkgjohhbdipcaaDoor
