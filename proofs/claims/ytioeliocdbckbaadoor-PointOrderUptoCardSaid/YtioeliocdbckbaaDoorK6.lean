/- Texts laid one behind the other: AppR, RCuts, RHome, RAll, Prune3, RPoints, Open, OpenPol, Frame, Upto, RCCall. No condition beyond theirs. -/
import Derived.Test.YtioeliocdbckbaaDoorK2
import Derived.Test.YtioeliocdbckbaaDoorK1
import Derived.Test.YtioeliocdbckbaaDoorK5
import Derived.Test.YtioeliocdbckbaaDoorK3
import Derived.Test.YtioeliocdbckbaaDoorK4
import Derived.OpenShut
import Derived.Deep.Slices
import Derived.ProofKit
import Derived.ChangeOld
import Derived.ChangeSame
import Derived.Carry
import Derived.Test.YtioeliocdbckbaaDoorProg
import Derived.SizedLaws
import Derived.Test.YtioeliocdbckbaaDoorRows
import Derived.LaidMore
import Derived.Lay
import Derived.Lib.LaidU8
import Derived.Shelf.Vars
import Derived.Stop.Joined
import Derived.Deep.DeepHandedRow
namespace Go.Proofs.YtioeliocdbckbaaDoor
open Go.RowKit

/-- The operation append, and where the new row lies. -/
theorem gives_append_at {P : Program} {w : World} {o : Oper} {a : Act} {R : Value → World → Prop} (s x : Operand) (t : TypeId)
    (ho : o.op = .call { callee := .builtin .append, args := #[s, x], argTypes := #[t, t] })
    (base : Nat) (e : TypeId) (i : TypeInfo) (z : Value) (size bytes : Nat) (ht : P.underlying t = some (.slice e)) (hi : P.info? e = some i) (hz : i.zero = some z)
    (hsize : i.size = size) (hby : i.bytes = bytes) (hzs : z.cells.size = size) (hsz : 0 < size)
    (v : Value) (n : Nat) (xs : List Value) (hs : a.eval s = v) (hown : w.ownsRow base e size v n xs)
    (ad : Addr) (m c : Nat) (news : List Value) (hx : a.eval x = .slice (some ad) m c) (hl : news.length = m * size) (hnews : ∀ j u, news[j]? = some u → w.cell? (ad.add j) = some u) (h1 : ∀ u ∈ news, u.oneCell' = true)
    (hm : 0 < m) (h63 : n + m ≤ maxLen) (hbytes : (n + m) * bytes ≤ 140737488355328) (hbase : base ≤ w.heap.size)
    (h : ∀ v' w', w'.ownsRow base e size v' (n + m) (xs ++ news) → w.grownBy w' v.ownBlock → (v'.ownBlock = v.ownBlock ∨ v'.ownBlock = some w.heap.size) → R v' w') : gives P o a w R := by
  obtain ⟨g, cap, w', hr, h2, h3, h4, _⟩ := run_append_lies (P := P) w t o.type base e i z size bytes ht hi hz hsize hby hzs hsz v n xs hown ad m c news hl hnews h1 hm h63 hbytes hbase _ rfl
  unfold gives execOp
  simp only [ho, resolve, invoke, builtin, Sem.run_bind, Sem.run_pure, Result.andThen_ok, List.map_toArray, List.map_cons, List.map_nil, hs, hx, hr]
  refine h _ _ h2 h3 ?_
  rcases h4 with h4 | h4
  · left; rw [h4]; rfl
  · right; rw [h4]; rfl

/-- The worlds of such a region: w0 is the world at its head; β the box; cv the slice, with n elements; ia, is: the numbers of the append and of the store. -/
structure ApInv (w0 : World) (β : Nat) (T : TypeId) (box : Array Value) (base : Nat) (E : TypeId) (sz : Nat) (cv : Value) (n : Nat) (cells : List Value) (ia is : Nat) (done : Nat → Bool) (W : World) : Prop where
  os : W.os = w0.os
  tape : W.tape = w0.tape
  output : W.output = w0.output
  size : w0.heap.size ≤ W.heap.size
  blk : ∀ b, b < w0.heap.size → b ≠ β → some b ≠ cv.ownBlock → W.heap[b]? = w0.heap[b]?
  before : done is = false → W.heap[β]? = some (.cells box T)
  old : done ia = false → ∀ b, b < w0.heap.size → b ≠ β → W.heap[b]? = w0.heap[b]?
  own : done ia = false → W.ownsRow base E sz cv n cells
def ApT (β : Nat) (cv : Value) (ia is : Nat) (i : Nat) (_ : Nat → Value) (w w' : World) : Prop := w.heap.size ≤ w'.heap.size ∧ ∀ b, b < w.heap.size → (i = is → b ≠ β) → (i = ia → some b ≠ cv.ownBlock) → w'.heap[b]? = w.heap[b]?
def apF (w0 : World) (β : Nat) (T : TypeId) (box : Array Value) (off base : Nat) (E : TypeId) (sz : Nat) (cv : Value) (n : Nat) (cells : List Value) (m : Nat) (news : (Nat → Value) → List Value) (ia is : Nat) (G : Nat → (Nat → Value) → World → Prop) (k : Nat) (_ : Nat → Bool) (vf : Nat → Value) (W : World) : Prop :=
  if k = ia then W.ownsRow base E sz (vf ia) (n + m) (cells ++ news vf) ∧ ((vf ia).ownBlock = cv.ownBlock ∨ ∀ g, (vf ia).ownBlock = some g → w0.heap.size ≤ g)
  else if k = is then W.heap[β]? = some (.cells (box.setIfInBounds off (vf ia)) T) else G k vf W
section
variable {w0 W W' : World} {β : Nat} {T : TypeId} {box : Array Value} {off base : Nat} {E : TypeId} {sz n m ia is i : Nat} {cv : Value} {cells : List Value} {done : Nat → Bool} {vf : Nat → Value}
theorem ownsRow_same {v : Value} (h : W.ownsRow base E sz v n cells) (hb : ∀ b, base ≤ b → b < W.heap.size → v.ownBlock = some b → W'.heap[b]? = W.heap[b]?) : W'.ownsRow base E sz v n cells := ownsRow_keep1 h hb
theorem ApInv.step (h : ApInv w0 β T box base E sz cv n cells ia is done W) (hb : Below W.heap.size W W') (h1 : i ≠ ia) (h2 : i ≠ is) (hβ : β < w0.heap.size) : ApInv w0 β T box base E sz cv n cells ia is (updDone done i) W' where
  os := hb.os.trans h.os
  tape := hb.tape.trans h.tape
  output := hb.output.trans h.output
  size := Nat.le_trans h.size hb.size
  blk := fun b hlt hn ho => (hb.block b (Nat.lt_of_lt_of_le hlt h.size)).trans (h.blk b hlt hn ho)
  before := fun hd => by
    have : done is = false := by simpa [updDone, Ne.symm h2] using hd
    rw [hb.block β (Nat.lt_of_lt_of_le hβ h.size)]; exact h.before this
  old := fun hd b hlt hn => by
    have : done ia = false := by simpa [updDone, Ne.symm h1] using hd
    exact (hb.block b (Nat.lt_of_lt_of_le hlt h.size)).trans (h.old this b hlt hn)
  own := fun hd => by
    have : done ia = false := by simpa [updDone, Ne.symm h1] using hd
    exact ownsRow_keep1 (h.own this) fun b _ hlt _ => hb.block b hlt
theorem ApT.of_below (hb : Below W.heap.size W W') : ApT β cv ia is i vf W W' := ⟨hb.size, fun b hlt _ _ => hb.block b hlt⟩
theorem ApInv.appended (h : ApInv w0 β T box base E sz cv n cells ia is done W) (hd : done is = false) (hcv : ∀ g, cv.ownBlock = some g → g ≠ β) (hg : W.grownBy W' cv.ownBlock) (hβ : β < w0.heap.size) : ApInv w0 β T box base E sz cv n cells ia is (updDone done ia) W' where
  os := hg.os.trans h.os
  tape := hg.tape.trans h.tape
  output := hg.output.trans h.output
  size := Nat.le_trans h.size hg.size
  blk := fun b hlt hn ho => (hg.block b (Nat.lt_of_lt_of_le hlt h.size) ho).trans (h.blk b hlt hn ho)
  before := fun _ => by rw [hg.block β (Nat.lt_of_lt_of_le hβ h.size) (fun e => hcv β e.symm rfl)]; exact h.before hd
  old := fun hd => by simp [updDone] at hd
  own := fun hd => by simp [updDone] at hd
theorem ApT.of_grown (hg : W.grownBy W' cv.ownBlock) : ApT β cv ia is ia vf W W' := ⟨hg.size, fun b hlt _ h => hg.block b hlt (h rfl)⟩
theorem ApInv.stored {v : Value} (h : ApInv w0 β T box base E sz cv n cells ia is done W) (hda : done ia = true) (hne : is ≠ ia) :
    ApInv w0 β T box base E sz cv n cells ia is (updDone done is) (W.setCell ⟨β, off, none⟩ v) where
  os := h.os
  tape := h.tape
  output := h.output
  size := by rw [set_size]; exact h.size
  blk := fun b hlt hn ho => by rw [set_other (by exact hn)]; exact h.blk b hlt hn ho
  before := fun hd => by simp [updDone] at hd
  old := fun hd => by simp [updDone, Ne.symm hne, hda] at hd
  own := fun hd => by simp [updDone, Ne.symm hne, hda] at hd
theorem ApT.of_store {v : Value} : ApT β cv ia is is vf W (W.setCell ⟨β, off, none⟩ v) := ⟨by rw [set_size]; exact Nat.le_refl _, fun b _ hn _ => set_other (by exact hn rfl)⟩
end
/-- THE LAW. -/
theorem wp_region_apr {P : Program} {l : List Oper} {Q : Exit → Act → World → Prop} {a : Act} {id : Nat} {w0 : World} (β : Nat) (T : TypeId) (box : Array Value) (off base : Nat) (E : TypeId) (sz : Nat) (cv : Value) (n : Nat) (cells : List Value) (m : Nat) (news : (Nat → Value) → List Value) (ia is : Nat) (G : Nat → (Nat → Value) → World → Prop)
    (hm : P.follows .mixedOrders = true) (hB : monoB2 (l.map prune) a.tmps.size = true) (bs : List (List Nat)) (hbs : befores (l.map prune) [] = bs)
    (hbox : w0.heap[β]? = some (.cells box T)) (hown : w0.ownsRow base E sz cv n cells) (hβ : β < base) (hcv : ∀ g, cv.ownBlock = some g → g ≠ β) (his : ia ≠ is) (hia : ia ∈ bs.getD is [])
    (hG : ∀ (k : Nat) (vf : Nat → Value) (w w' : World), (∀ b, w0.heap.size ≤ b → b < w.heap.size → w'.heap[b]? = w.heap[b]?) → w.heap.size ≤ w'.heap.size → G k vf w → G k vf w')
    (hGp : ∀ (k : Nat) (f g : Nat → Value) (w : World), (∀ m ∈ bs.getD k [], f m = g m) → f k = g k → G k f w → G k g w) (hN : ∀ f g : Nat → Value, (∀ m ∈ bs.getD ia [], f m = g m) → news f = news g)
    (h : relWalk P l.toArray (ApInv w0 β T box base E sz cv n cells ia is) (ApT β cv ia is) (apF w0 β T box off base E sz cv n cells m news ia is G) bs (Q .normal) l.length l 0 (fun _ => a)) : (Code.region id l.toArray true).wp P Q a w0 := by
  have hβ' : β < w0.heap.size := (Array.getElem?_eq_some_iff.1 hbox).1
  have hlt : ∀ g, cv.ownBlock = some g → g < w0.heap.size := fun g hg => (hown.lt g hg).2
  refine wp_region_rel _ _ _ hm hB bs hbs (fun i done vf w1 w2 _ hd hbf hf hT k hk => ?_) (fun k done f g w1 hfg hk hF => ?_) ⟨rfl, rfl, rfl, Nat.le_refl _, fun _ _ _ _ => rfl, fun _ => hbox, fun _ _ _ _ => rfl, fun _ => ownsRow_keep1 hown fun _ _ _ _ => rfl⟩ h
  · have hki : k ≠ i := fun e => by rw [e, hd] at hk; cases hk
    have hF := hf k hk
    unfold apF at hF ⊢
    split
    · rename_i e
      rw [if_pos e] at hF
      refine ⟨ownsRow_keep1 hF.1 fun b hb hl ho => hT.2 b hl (fun _ => by omega) (fun e' => absurd (e.trans e'.symm) hki), hF.2⟩
    · rename_i e
      rw [if_neg e] at hF
      split
      · rename_i e2
        rw [if_pos e2] at hF
        rw [hT.2 β (Array.getElem?_eq_some_iff.1 hF).1 (fun e' => absurd (e2.trans e'.symm) hki) (fun _ e' => hcv β e'.symm rfl)]
        exact hF
      · rename_i e2
        rw [if_neg e2] at hF
        exact hG k vf _ _ (fun b hb hl => hT.2 b hl (fun _ => by omega) (fun _ e' => by have := hlt b e'.symm; omega)) hT.1 hF
  · unfold apF at hF ⊢
    split
    · rename_i e
      subst e
      rw [if_pos rfl, hk, hN f g hfg] at hF
      exact hF
    · rename_i e
      rw [if_neg e] at hF
      split
      · rename_i e2
        subst e2
        rw [if_pos rfl, hfg ia hia] at hF
        exact hF
      · rename_i e2
        rw [if_neg e2] at hF
        exact hGp k f g w1 hfg hk hF
/-- what buildSlice lays: one row. -/
def NewRow (B : Nat) (E : TypeId) (m : Nat) (cs : Array Value) (v : Value) (W : World) : Prop := ∃ b, v = .slice (some ⟨b, 0, none⟩) m m ∧ B ≤ b ∧ W.heap[b]? = some (.cells cs E)
theorem NewRow.keep {B : Nat} {E : TypeId} {m : Nat} {cs : Array Value} {v : Value} {w w' : World} (h : NewRow B E m cs v w) (hb : ∀ b, B ≤ b → b < w.heap.size → w'.heap[b]? = w.heap[b]?) : NewRow B E m cs v w' := by
  obtain ⟨b, hv, hB, hc⟩ := h
  refine ⟨b, hv, hB, ?_⟩
  rw [hb b hB (Array.getElem?_eq_some_iff.1 hc).1]; exact hc
theorem OwnSl.keepFrom {α : Type} {w w' : World} {base : Nat} {e : TypeId} {sz : Nat} {R : α → List Value → Prop} {v : Value} {xs : List α} (h : OwnSl w base e sz R v xs) (hb : ∀ b, base ≤ b → b < w.heap.size → w'.heap[b]? = w.heap[b]?) : OwnSl w' base e sz R v xs := by
  obtain ⟨rows, hr, ho⟩ := h
  exact ⟨rows, hr, ownsRow_keep1 ho fun b hbb hl _ => hb b hbb hl⟩
/-- A region that makes an own slice (io), what is appended (ib), and appends it (ia). -/
def ap1F (io ib ia : Nat) (O N A : Value → World → Prop) (k : Nat) (done : Nat → Bool) (vf : Nat → Value) (W : World) : Prop :=
  if k = ia then A (vf ia) W else if k = io then (done ia = false → O (vf io) W) else if k = ib then (done ia = false → N (vf ib) W) else True
def ap1T (ia : Nat) (i : Nat) (_ : Nat → Value) (w w' : World) : Prop := i ≠ ia → Below w.heap.size w w'
theorem wp_region_ap1 {P : Program} {l : List Oper} {Q : Exit → Act → World → Prop} {a : Act} {id : Nat} {w0 : World} (B : Nat) (hBw : B ≤ w0.heap.size) (io ib ia : Nat) (O N A : Value → World → Prop)
    (hm : P.follows .mixedOrders = true) (hB : monoB2 (l.map prune) a.tmps.size = true) (bs : List (List Nat)) (hbs : befores (l.map prune) [] = bs)
    (hO : ∀ v w w', Below w.heap.size w w' → O v w → O v w') (hN : ∀ v w w', Below w.heap.size w w' → N v w → N v w') (hA : ∀ v w w', Below w.heap.size w w' → A v w → A v w')
    (h : relWalk P l.toArray (initI B w0) (ap1T ia) (ap1F io ib ia O N A) bs (Q .normal) l.length l 0 (fun _ => a)) : (Code.region id l.toArray true).wp P Q a w0 := by
  refine wp_region_rel _ _ _ hm hB bs hbs (fun i done vf w1 w2 _ hd hbf hf hT k hk => ?_) (fun k done f g w1 hfg hk hF => ?_) ⟨hBw, (Below.refl _ _).drew⟩ h
  · have hki : k ≠ i := fun e => by rw [e, hd] at hk; cases hk
    have hF := hf k hk
    unfold ap1F at hF ⊢
    split
    · rename_i e
      rw [if_pos e] at hF
      exact hA _ _ _ (hT (fun e' => hki (e.trans e'.symm))) hF
    · rename_i e
      rw [if_neg e] at hF
      split
      · rename_i e2
        rw [if_pos e2] at hF
        intro hx
        unfold updDone at hx
        split at hx
        · cases hx
        · rename_i hia
          exact hO _ _ _ (hT (fun e' => hia e'.symm)) (hF hx)
      · rename_i e2
        rw [if_neg e2] at hF
        split
        · rename_i e3
          rw [if_pos e3] at hF
          intro hx
          unfold updDone at hx
          split at hx
          · cases hx
          · rename_i hia
            exact hN _ _ _ (hT (fun e' => hia e'.symm)) (hF hx)
        · trivial
  · unfold ap1F at hF ⊢
    split
    · rename_i e
      subst e
      rw [if_pos rfl, hk] at hF
      exact hF
    · rename_i e
      rw [if_neg e] at hF
      split
      · rename_i e2
        subst e2
        rw [if_pos rfl, hk] at hF
        exact hF
      · rename_i e2
        rw [if_neg e2] at hF
        split
        · rename_i e3
          subst e3
          rw [if_pos rfl, hk] at hF
          exact hF
        · trivial
theorem NewRow.below {B : Nat} {E : TypeId} {m : Nat} {cs : Array Value} {v : Value} {w w' : World} (h : NewRow B E m cs v w) (hb : Below w.heap.size w w') : NewRow B E m cs v w' := h.keep fun b _ hl => hb.block b hl
end Go.Proofs.YtioeliocdbckbaaDoor
namespace Go.Proofs.YtioeliocdbckbaaDoor
open Go.RowKit Go.Maps

theorem BoolMap.mono {w : World} {b n n' : Nat} {f : Int → Bool} (h : BoolMap w b n f) (hn : n ≤ n') : BoolMap w b n' f := by
  obtain ⟨D, ho, hat⟩ := h
  exact ⟨D, ho.mono hn, hat⟩
/-- the map of cuts, as it stands behind some conditions. -/
def CutMap (w wr : World) (f : Int) (cs : List TCond) : Prop := BoolMap wr w.heap.size (1 + 2 * cs.length) (atAll f cs) ∧ Below w.heap.size w wr
theorem CutMap.below {w wr w' : World} {f : Int} {cs : List TCond} (h : CutMap w wr f cs) (hb : Below wr.heap.size wr w') : CutMap w w' f cs := ⟨h.1.below hb, h.2.trans (hb.mono h.2.size)⟩
theorem CutMap.skip {w wr : World} {f : Int} {cs : List TCond} {c : TCond} (h : CutMap w wr f cs) (hc : c.f ≠ f) : CutMap w wr f (cs ++ [c]) := by
  refine ⟨?_, h.2⟩
  rw [atAll_snoc]
  unfold atCond
  rw [if_neg hc]
  exact h.1.mono (by simp; omega)
theorem CutMap.put {w w' : World} {f op v : Int} {cs : List TCond} {x : Bool} (hx : x = (atAll f cs (v + 1) || decide (op = 1 ∨ op = 2))) (h : BoolMap w' w.heap.size (1 + 2 * cs.length + 1 + 1) (fun t => if t = v + 1 then x else (fun t => if t = v then true else atAll f cs t) t)) (hb : Below w.heap.size w w') : CutMap w w' f (cs ++ [⟨f, op, v⟩]) := by
  refine ⟨?_, hb⟩
  have e : atAll f (cs ++ [⟨f, op, v⟩]) = (fun t => if t = v + 1 then x else (fun t => if t = v then true else atAll f cs t) t) := by
    rw [atAll_snoc]
    unfold atCond
    rw [if_pos rfl]
    funext t
    simp only
    rw [if_neg (show ¬ v + 1 = v by omega), hx]
  rw [e]
  exact h.mono (by simp; omega)
theorem CutMap.start {w wr : World} {f : Int} (h : BoolMap wr w.heap.size 1 atStart) (hb : Below w.heap.size w wr) : CutMap w wr f [] := ⟨h, hb⟩
theorem BoolMap.put0 (w : World) : ∃ w', (Instr.mapUpdate 62 (.map (some w.heap.size)) (.int .i64 0) (.bool true)).run Tryd.prog (w.alloc (.map #[] 0)) = .ok () w' ∧ BoolMap w' w.heap.size 1 atStart ∧ (w.alloc (.map #[] 0)).grownBy w' (some w.heap.size) := by
  obtain ⟨D, ho, hat⟩ := BoolMap.made w
  have hkey := keyOf_int_mk (P := Tryd.prog) Tryd.underlying3 (wfInt (z := 0) (by omega) (by omega))
  obtain ⟨w', hrun, ho', hg⟩ := ho.update keyInt Tryd.underlying62 (by unfold maxLen; omega) hkey (plainElem_bool Tryd.underlying4 true)
  refine ⟨w', hrun, ⟨_, ho', fun t => ?_⟩, hg⟩
  show _ = DataW.lit (.bool (if t = 0 then true else false))
  by_cases e : t = 0
  · subst e
    rw [if_pos rfl, atKey_put_same ho.isMap (keyInt.key hkey)]
  · rw [if_neg e, atKey_put_other (fun e' => by injection e' with _ e'; exact e e')]
    exact hat t
theorem below_grow0 {w w' : World} (hb : Below w.heap.size w w') : w.grownBy w' none := ⟨hb.os, hb.tape, hb.output, hb.size, fun k hk _ => hb.block k hk⟩
theorem sorted_unique {xs M : List Int} (hnd : xs.Nodup) (hM : Rising M) (h : ∀ z, z ∈ xs ↔ z ∈ M) : (xs.mergeSort fun x y => decide (x ≤ y)) = M := by
  have hs : (xs.mergeSort fun x y => decide (x ≤ y)).Pairwise (fun x y => decide (x ≤ y) = true) := List.pairwise_mergeSort (fun a b c h1 h2 => by simp at *; omega) (fun a b => by simp; omega) xs
  have hp := List.mergeSort_perm xs (fun x y => decide (x ≤ y))
  have hn : (xs.mergeSort fun x y => decide (x ≤ y)).Nodup := hp.nodup_iff.2 hnd
  refine rising_unique _ _ ?_ hM fun z => by rw [hp.mem_iff]; exact h z
  exact (hs.and hn).imp fun {a b} hab => by
    have := of_decide_eq_true hab.1
    have := hab.2
    omega
theorem flatMap_takeC {α β : Type} (g : α → List β) (l : List α) (k : Nat) (h : k < l.length) : (l.take (k + 1)).flatMap g = (l.take k).flatMap g ++ g l[k] := by
  rw [List.take_succ_eq_append_getElem h, List.flatMap_append]
  simp

set_option maxRecDepth 100000 in
set_option maxHeartbeats 8000000 in
theorem rcuts_any (v : Value) (l : List TPol) (f : Int) (D : Nat → Prop) (w : World) (h : RdPols w D v l) (hok : ∀ p ∈ l, OkPol p) (hn : (1 + 2 * (l.flatMap polConds).length) * 8 ≤ 140737488355328) :
    Calls Tryd.prog 16 #[v, .int .i64 f] w fun e w' => ∃ v', e = .returned v' ∧ OwnSl w' w.heap.size 3 1 intR v' (cutsOf l f) ∧ Below w.heap.size w w' := by
  have H := Lib.hid h
  obtain ⟨a, c, rfl, hlc, hcm, hat⟩ := Sl.form h
  obtain ⟨i0, hi, hz0, hz1, hz2⟩ := info_parts infoInt
  have Hi := Lib.hid hi
  have Hok := Lib.hid hok
  have Hn := Lib.hid hn
  clear h hi hok hn
  have hmm := @run_makeMap Tryd.prog
  obtain ⟨w0, hmu, hb0, hg0⟩ := BoolMap.put0 w
  have HM0 : Hid (CutMap w w0 f []) := CutMap.start hb0 (Below.grown (bel_alloc (Below.refl _ _) _) hg0 (by simp) (fun g hg => by injection hg with hg; omega))
  clear hb0 hg0
  go_enter Tryd.func16, Tryd.ntmps16
  go_wp2_with fail
  clear hmm hmu
  go_loopw [19] (fun kv wr => ∃ k : Nat, kv = .int .i64 k ∧ k ≤ l.length ∧ CutMap w wr f ((l.take k).flatMap polConds)) (fun kv _ => l.length - (intOf kv).toNat)
  case atStart => exact ⟨0, rfl, by omega, HM0.out⟩
  case round =>
    obtain ⟨k, rfl, hk, hm⟩ := hrel
    have Hm := Lib.hid hm
    clear hm HM0
    have HbA := Lib.hid Hm.out.2
    by_cases hlt : k < l.length
    · obtain ⟨b, o, rfl, hDb, hblt⟩ := hat (by omega)
      obtain ⟨ca, cc, hc0w, hc1w, hrd, hcl, hcmx, hcat⟩ := RdPols.cells H.out hlt
      have Hs := Lib.hid (flatMap_takeC polConds l k hlt)
      obtain ⟨p, hp⟩ : ∃ p, l[k] = p := ⟨_, rfl⟩
      have Hkp := Lib.hid (Hok.out l[k] (List.getElem_mem hlt))
      rw [hp] at hc0w hc1w hrd hcl hcat Hkp Hs
      have hc0 := (HbA.out.cell (p := ⟨b, o + k * 2, none⟩) hblt).trans hc0w
      have hc1 := (HbA.out.cell (p := ⟨b, o + k * 2 + 1, none⟩) hblt).trans hc1w
      have HL1 : Hid (((l.take k).flatMap polConds).length + (p.rules.flatMap fun r => r.conds).length ≤ (l.flatMap polConds).length) := by
        show _ ≤ _
        have h1 : (l.flatMap polConds).length = ((l.take (k + 1)).flatMap polConds).length + ((l.drop (k + 1)).flatMap polConds).length := by rw [← List.length_append, ← List.flatMap_append, List.take_append_drop]
        rw [Hs.out, List.length_append] at h1
        unfold polConds at h1 ⊢
        omega
      have Hrd := Lib.hid hrd
      obtain ⟨L, hL⟩ : ∃ L, L = (l.take k).flatMap polConds := ⟨_, rfl⟩
      rw [← hL] at Hm Hs HL1
      have Hcs2 : Hid ((l.take (k + 1)).flatMap polConds = L ++ p.rules.flatMap fun r => r.conds) := Hs.out
      clear hrd hp hL hc0w hc1w
      obtain ⟨wo, rfl⟩ : ∃ wo : World, wo = wr := ⟨_, rfl⟩
      go_wp2_with fail
      clear hc0 hc1
      go_loopw [26] (fun jv wj => ∃ j : Nat, jv = .int .i64 j ∧ j ≤ p.rules.length ∧ CutMap w wj f (L ++ (p.rules.take j).flatMap fun r => r.conds)) (fun jv _ => p.rules.length - (intOf jv).toNat)
      case atStart => exact ⟨0, rfl, by omega, by simpa using Hm.out.below (bel_alloc (Below.refl _ _) _)⟩
      case round =>
        obtain ⟨j, rfl, hj, hm⟩ := hrel
        have Hmj := Lib.hid hm
        clear hm
        have HbJ := Lib.hid Hmj.out.2
        by_cases hjl : j < p.rules.length
        · obtain ⟨b2, o2, rfl, hDb2, hblt2⟩ := hcat (by omega)
          obtain ⟨da, dc, hd0w, hd1w, hrd2, hdl, hdmx, hdat⟩ := RdRules.cells Hrd.out hjl
          have Hs2 := Lib.hid (flatMap_takeC (fun r : TRule => r.conds) p.rules j hjl)
          obtain ⟨r, hr⟩ : ∃ r, p.rules[j] = r := ⟨_, rfl⟩
          have Hkr := Lib.hid (Hkp.out.rules p.rules[j] (List.getElem_mem hjl))
          rw [hr] at hd0w hd1w hrd2 hdl hdat Hkr Hs2
          have hd0 := (HbJ.out.cell (p := ⟨b2, o2 + j * 2, none⟩) hblt2).trans hd0w
          have hd1 := (HbJ.out.cell (p := ⟨b2, o2 + j * 2 + 1, none⟩) hblt2).trans hd1w
          have HL2 : Hid ((L ++ (p.rules.take j).flatMap fun r => r.conds).length + r.conds.length ≤ (l.flatMap polConds).length) := by
            show _ ≤ _
            have h0 := HL1.out
            have h1 : (p.rules.flatMap fun r => r.conds).length = ((p.rules.take (j + 1)).flatMap fun r => r.conds).length + ((p.rules.drop (j + 1)).flatMap fun r => r.conds).length := by rw [← List.length_append, ← List.flatMap_append, List.take_append_drop]
            rw [Hs2.out, List.length_append] at h1
            rw [List.length_append]
            omega
          have Hrd2 := Lib.hid hrd2
          obtain ⟨M, hM⟩ : ∃ M, M = L ++ (p.rules.take j).flatMap fun r => r.conds := ⟨_, rfl⟩
          rw [← hM] at Hmj HL2
          have Hs3 : Hid (L ++ ((p.rules.take (j + 1)).flatMap fun r => r.conds) = M ++ r.conds) := by show _ = _; rw [Hs2.out, hM, List.append_assoc]
          clear hrd2 hr hM hd0w hd1w
          obtain ⟨wo2, rfl⟩ : ∃ wo2 : World, wo2 = wr := ⟨_, rfl⟩
          go_wp2_with fail
          clear hd0 hd1
          go_loopw [33] (fun iv wi => ∃ i : Nat, iv = .int .i64 i ∧ i ≤ r.conds.length ∧ CutMap w wi f (M ++ r.conds.take i)) (fun iv _ => r.conds.length - (intOf iv).toNat)
          case atStart => exact ⟨0, rfl, by omega, by simpa using Hmj.out.below (bel_alloc (Below.refl _ _) _)⟩
          case round =>
            obtain ⟨i, rfl, hi, hm⟩ := hrel
            have Hmi := Lib.hid hm
            clear hm
            have HbI := Lib.hid Hmi.out.2
            by_cases hil : i < r.conds.length
            · obtain ⟨b3, o3, rfl, hDb3, hblt3⟩ := hdat (by omega)
              obtain ⟨he0, he1, he2⟩ := RdConds.cells (Hrd2.out.below HbI.out) hil
              have Htk := Lib.hid (List.take_succ_eq_append_getElem hil)
              have Hoc := Lib.hid (Hkr.out.conds r.conds[i] (List.getElem_mem hil))
              obtain ⟨⟨cf, cop, cv⟩, hcj⟩ : ∃ y : TCond, r.conds[i] = y := ⟨_, rfl⟩
              rw [hcj] at he0 he1 he2 Htk Hoc
              have hv0 : 0 ≤ cv := Hoc.out.v0
              have hv1 : cv ≤ 65535 := Int.le_trans Hoc.out.v1 (by show mostOf cf ≤ 65535; unfold mostOf; split <;> (try split) <;> omega)
              have ho0 : 1 ≤ cop := Hoc.out.o0
              have ho1 : cop ≤ 4 := Hoc.out.o1
              dsimp only at he0 he1 he2
              have hlen : 1 + 2 * (M ++ r.conds.take i).length + 2 ≤ 17592186044416 := by
                have h1 := HL2.out
                have h2 := Hn.out
                rw [List.length_append, List.length_take]
                omega
              obtain ⟨X, hX⟩ : ∃ X, X = M ++ r.conds.take i := ⟨_, rfl⟩
              have Hnx : Hid (M ++ r.conds.take (i + 1) = X ++ [⟨cf, cop, cv⟩]) := by show _ = _; rw [Htk.out, hX, List.append_assoc]
              rw [← hX] at Hmi hlen
              have hbx := cells_of (heap_last wr (.cells #[.int .i64 cf, .int .i64 cop, .int .i64 cv] 67))
              have Hm1 := Lib.hid (Hmi.out.below (bel_alloc (Below.refl _ _) (.cells #[.int .i64 cf, .int .i64 cop, .int .i64 cv] 67)))
              have hszw := Hmi.out.2.size
              have hblk := heap_last wr (.cells #[.int .i64 cf, .int .i64 cop, .int .i64 cv] 67)
              have Hblk := Lib.hid hblk
              have hmw : w.heap.size < wr.heap.size := Hmi.out.1.lt
              clear hcj hX hblk
              by_cases hcf : cf = f
              · subst hcf
                have hw1 : IntKind.i64.wrap (cv + 1) = cv + 1 := by rw [IntKind.wrap_i64]; omega
                have hbf : (cf == cf) = true := by simp
                obtain ⟨bv, hbv⟩ : ∃ bv, atAll cf X (cv + 1) = bv := ⟨_, rfl⟩
                have Hbv := Lib.hid hbv
                clear hbv
                cases bv
                all_goals rcases (by omega : cop = 1 ∨ cop = 2 ∨ cop = 3 ∨ cop = 4) with rfl | rfl | rfl | rfl
                all_goals
                  go_wp2_with (at_mapUpdate; first | (refine wpList_putBool rfl _ _ _ rfl w.heap.size _ _ rfl Hm1.out.1 (by unfold maxLen; omega) cv (by omega) (by omega) true rfl rfl ?_; intro w5 hm5 hg5; have Hm5 := Lib.hid hm5; have Hb5 := Lib.hid (Below.grown Hm1.out.2 hg5 Hm1.out.2.size (fun g hg => by injection hg with hg; omega)); have hb5 := cells_of ((hg5.block wr.heap.size (by simp) (fun e => by injection e with e; omega)).trans Hblk.out); have hlk := Hm5.out.look (z := cv + 1) (by omega) (by omega); simp only [show ¬ (cv + 1 = cv) by omega, if_false, Hbv.out] at hlk; clear hm5 hg5 hbx) | (refine wpList_putBool rfl _ _ _ rfl w.heap.size _ _ rfl Hm5.out (by unfold maxLen; omega) (cv + 1) (by omega) (by omega) _ rfl rfl ?_; intro w6 hm6 hg6; have Hm6 := Lib.hid hm6; have Hb6 := Lib.hid (Below.grown Hb5.out hg6 Hb5.out.size (fun g hg => by injection hg with hg; omega)); clear hm6 hg6))
                  go_roundw
                  case rel => exact ⟨i + 1, by go_num, by omega, by rw [Hnx.out]; exact CutMap.put (by rw [Hbv.out]; rfl) Hm6.out Hb6.out⟩
                  case measure => simp [intOf]; omega
              · have hb0 : (cf == f) = false := by simpa using hcf
                have Hm2 := Lib.hid (Hm1.out.skip (c := ⟨cf, cop, cv⟩) hcf)
                clear hcf
                go_wp2_with fail
                go_roundw
                case rel => exact ⟨i + 1, by go_num, by omega, by rw [Hnx.out]; exact Hm2.out⟩
                case measure => simp [intOf]; omega
            · obtain rfl : i = r.conds.length := by omega
              go_wp2
              go_roundw
              case rel => exact ⟨j + 1, by go_num, by omega, by have := Hmi.out; rw [List.take_length] at this; rw [Hs3.out]; exact this⟩
              case measure => simp [intOf]; omega
        · obtain rfl : j = p.rules.length := by omega
          go_wp2
          go_roundw
          case rel => exact ⟨k + 1, by go_num, by omega, by have := Hmj.out; rw [List.take_length] at this; rw [Hcs2.out]; exact this⟩
          case measure => simp [intOf]; omega
    · obtain rfl : k = l.length := by omega
      have hmf : CutMap w wr f (l.flatMap polConds) := by have := Hm.out; rw [List.take_length] at this; exact this
      obtain ⟨n, hn⟩ : ∃ n, n = 1 + 2 * (l.flatMap polConds).length := ⟨_, rfl⟩
      obtain ⟨g, hg⟩ : ∃ g, g = atAll f (l.flatMap polConds) := ⟨_, rfl⟩
      have Hg : Hid (∀ t, g t = true ↔ t ∈ cutVals l f) := fun t => by rw [hg]; exact atAll_true
      have Hmap : Hid (BoolMap wr w.heap.size n g) := by show BoolMap _ _ _ _; rw [hn, hg]; exact hmf.1
      have hn8 : n * 8 ≤ 140737488355328 := by rw [hn]; exact Hn.out
      have hmw : w.heap.size < wr.heap.size := hmf.1.lt
      clear hmf hn hg Hm
      obtain ⟨wB, rfl⟩ : ∃ wB : World, wB = wr := ⟨_, rfl⟩
      go_wp2_with (at_range; refine wpList_rangeBool rfl _ rfl w.heap.size n g rfl Hmap.out ?_; intro w2 left0 cnt0 hr0 hl0 hc0 hg0 hs0)
      go_frame
      go_loopw [12] (fun ov wi => ∃ (left : Int → Bool) (cnt : Nat) (vs : Value) (xs : List Int), vs = ov ∧ OwnSl wi (wB.heap.size + 1) 3 1 intR vs xs ∧ BoolRange wi w.heap.size wB.heap.size n g left cnt ∧ xs.Nodup ∧ (∀ z, z ∈ xs ↔ left z = false ∧ g z = true ∧ z ≤ mostOf f) ∧ xs.length + cnt ≤ n ∧ Below w.heap.size w wi) (fun _ wi => wi.rangeLeft w.heap.size wB.heap.size)
      case atStart => exact ⟨left0, cnt0, _, [], rfl, OwnSl.nil, hr0, List.nodup_nil, fun z => ⟨fun h => by simp at h, fun h => by have := hl0 z h.2.1; rw [h.1] at this; cases this⟩, by simpa using hc0, Below.grown HbA.out hg0 HbA.out.size (fun g hg => by cases hg)⟩
      case round =>
        obtain ⟨left, cnt, vs, xs, rfl, hown, hrg, hnd, hmem, hlen, hb⟩ := hrel
        have Hown := Lib.hid hown
        have HR := Lib.hid hrg
        have Hnd := Lib.hid hnd
        have Hmem := Lib.hid hmem
        have Hlen := Lib.hid hlen
        have Hb := Lib.hid hb
        have hrl := hrg.lt.1
        have Hob : Hid (∀ g, vs.ownBlock = some g → wB.heap.size + 1 ≤ g ∧ g < wr.heap.size) := fun g hg => by obtain ⟨rows, _, hrw⟩ := hown; exact hrw.lt g hg
        clear hown hrg hnd hmem hlen hb hr0 hl0 hc0 hg0 hs0
        go_wp2_with (at_next; refine wpList_nextBool rfl _ rfl w.heap.size wB.heap.size n g _ _ rfl HR.out ?_ ?_)
        · intro hl0
          have Hx : Hid (∀ z, z ∈ xs ↔ z ∈ cutsOf l f) := fun z => by
            rw [Hmem.out z, hl0 z, mem_cuts, Hg.out z]
            exact ⟨fun h => h.2, fun h => ⟨rfl, h⟩⟩
          have hxl : xs.length ≤ n := by have := Hlen.out; omega
          clear hl0
          go_wp2_with fail
          refine (sortI_any vs xs _ _ Hown.out (fun e => by have := (Hx.out 0).2 (zero_cut l f); rw [e] at this; simp at this) (by omega)).mono ?_
          rintro e w3 ⟨rfl, ho3, hg3⟩
          rw [sorted_unique Hnd.out (rising_cuts l f) Hx.out] at ho3
          have Ho3 := Lib.hid ho3
          have Hb3 := Lib.hid (Below.grown Hb.out hg3 Hb.out.size (fun g hg => by have := (Hob.out g hg).1; omega))
          clear ho3 hg3
          go_wp2
          go_ret
          exact ⟨_, rfl, Ho3.out.base (by omega), Hb3.out⟩
        · intro x w1 cnt1 hlx hr1 hlt hg1 hs1 hen
          have Ho1 : Hid (OwnSl w1 (wB.heap.size + 1) 3 1 intR vs xs) := Hown.out.keepFrom fun b hb hlt => hg1.block b hlt (fun e => by injection e with e; omega)
          have HR1 := Lib.hid hr1
          have Hb1 := Lib.hid (Below.grown Hb.out hg1 Hb.out.size (fun g hg => by injection hg with hg; omega))
          have Hlt := Lib.hid hlt
          have Hlx := Lib.hid hlx
          have hob1 : ∀ g, vs.ownBlock = some g → wB.heap.size + 1 ≤ g ∧ g < w1.heap.size := fun g hg => by have := Hob.out g hg; omega
          have Hob1 := Lib.hid hob1
          have hrl1 := hr1.lt.1
          obtain ⟨gx, hgx⟩ : ∃ b, g x = b := ⟨_, rfl⟩
          rw [hgx] at hen ⊢
          have Hgx := Lib.hid hgx
          clear hgx hr1 hg1 hs1 hlt hlx hob1
          have hnx : x ∉ xs := fun h => by have := ((Hmem.out x).1 h).1; rw [Hlx.out] at this; cases this
          have Hnx := Lib.hid hnx
          clear hnx
          cases gx with
          | false =>
            go_wp2_with fail
            go_roundw
            case rel =>
              refine ⟨_, cnt1, vs, xs, rfl, Ho1.out, HR1.out, Hnd.out, fun z => ?_, by have := Hlen.out; have := Hlt.out; omega, Hb1.out⟩
              by_cases hz : z = x
              · subst hz
                rw [Hgx.out]
                exact ⟨fun h => absurd h Hnx.out, fun h => by cases h.2.1⟩
              · rw [Hmem.out z]
                simp [hz]
            case measure => rw [HR1.out.left_eq, HR.out.left_eq]; exact Hlt.out
          | true =>
            go_wp2_with fail
            refine (mostof_any f _).mono ?_
            rintro e w3 ⟨rfl, hb3⟩
            have Ho3 := Lib.hid (Ho1.out.below hb3)
            have HR3 := Lib.hid (HR1.out.kept (below_grow0 hb3) (by simp) (by simp))
            have Hb3 := Lib.hid (Hb1.out.trans (hb3.mono Hb1.out.size))
            have hs13 := hb3.size
            clear hb3 hen
            by_cases hle : x ≤ mostOf f
            · have hd : decide (x ≤ mostOf f) = true := decide_eq_true hle
              have Hle := Lib.hid hle
              have HoA := Lib.hid (Ho3.out.below (bel_alloc (Below.refl _ w3) (.cells #[.int .i64 x] 3)))
              have HRA := Lib.hid (HR3.out.kept (below_grow0 (bel_alloc (Below.refl _ w3) (.cells #[.int .i64 x] 3))) (by simp) (by simp))
              have HbA3 := Lib.hid (Hb3.out.trans ((bel_alloc (Below.refl _ w3) (.cells #[.int .i64 x] 3)).mono Hb3.out.size))
              have hxl : xs.length + 1 ≤ n := by have := Hlen.out; have := Hlt.out; omega
              clear hle
              go_wp2_with (at_builtin; refine wpList_app2 rfl _ _ 25 rfl (wB.heap.size + 1) 3 i0 _ 1 8 Tryd.underlying25 Hi.out hz0 hz1 hz2 rfl (by decide) _ _ rfl HoA.out _ _ rfl (one_int (by simp)) (fun y _ cs h => intR_one y cs h) (by show _ + 1 ≤ maxLen; unfold maxLen; omega) (by show (_ + 1) * 8 ≤ _; omega) (by simp; omega) ?_; intro v' w5 hown' hg' hat'; have Hown' := Lib.hid hown'; have HR5 := Lib.hid (HRA.out.kept hg' (fun e => by have := (Hob1.out _ e.symm).1; omega) (fun e => by have := (Hob1.out _ e.symm).1; omega)); have Hb5 := Lib.hid (Below.grown HbA3.out hg' HbA3.out.size (fun g hg => by have := (Hob1.out g hg).1; omega)); clear hown' hg' hat')
              go_roundw
              case rel =>
                refine ⟨_, cnt1, v', xs ++ [x], rfl, Hown'.out, HR5.out, ?_, fun z => ?_, by have := Hlen.out; have := Hlt.out; simp; omega, Hb5.out⟩
                · rw [List.nodup_append]
                  exact ⟨Hnd.out, by simp, fun a ha b hb => by simp at hb; subst hb; exact fun e => Hnx.out (e ▸ ha)⟩
                · rw [List.mem_append, Hmem.out z]
                  by_cases hz : z = x
                  · subst hz
                    simp [Hgx.out, Hle.out]
                  · simp [hz]
              case measure => rw [HR5.out.left_eq, HR.out.left_eq]; exact Hlt.out
            · have hd : decide (x ≤ mostOf f) = false := decide_eq_false hle
              have Hle := Lib.hid hle
              clear hle
              go_wp2_with fail
              go_roundw
              case rel =>
                refine ⟨_, cnt1, vs, xs, rfl, Ho3.out, HR3.out, Hnd.out, fun z => ?_, by have := Hlen.out; have := Hlt.out; omega, Hb3.out⟩
                by_cases hz : z = x
                · subst hz
                  exact ⟨fun h => absurd h Hnx.out, fun h => by have h1 := Hle.out; have h2 := h.2.2; omega⟩
                · rw [Hmem.out z]
                  simp [hz]
              case measure => rw [HR3.out.left_eq, HR.out.left_eq]; exact Hlt.out
end Go.Proofs.YtioeliocdbckbaaDoor
namespace Go.Proofs.YtioeliocdbckbaaDoor
open Go.RowKit

set_option maxRecDepth 100000 in
set_option maxHeartbeats 8000000 in
theorem rhome_any (v : Value) (l : List TPol) (x : TCall) (D : Nat → Prop) (w : World) (h : RdPols w D v l) (hok : ∀ p ∈ l, OkPol p) (hn : (1 + 2 * (l.flatMap polConds).length) * 8 ≤ 140737488355328) :
    Calls Tryd.prog 17 #[v, callV x] w fun e w' => e = .returned (callV (homeOf l x)) ∧ Below w.heap.size w w' := by
  have H := Lib.hid h
  have Hn := Lib.hid hn
  have Hok := Lib.hid hok
  clear h hn hok
  have HB0 := Lib.hid (Bx.two (w := w) (o := .cells (callArr x) 24) (o' := .cells (callArr ⟨0, 0, 0, 0, 0⟩) 24))
  go_enter Tryd.func17, Tryd.ntmps17
  go_wp2_with fail
  go_loopw [9] (fun kv wr => ∃ k : Nat, kv = .int .i64 k ∧ k ≤ 5 ∧ Bx w [.cells (callArr (homeTo l x k)) 24, .cells (callArr ⟨0, 0, 0, 0, 0⟩) 24] wr) (fun kv _ => 5 - (intOf kv).toNat)
  case atStart => exact ⟨0, rfl, by omega, HB0.out⟩
  case round =>
    obtain ⟨k, rfl, hk, hbx⟩ := hrel
    have HB := Lib.hid hbx
    have hszr := hbx.size (i := 1) (by simp)
    clear hbx
    by_cases hlt : k < 5
    · go_wp2_with fail
      refine (rcuts_any v l k D _ (H.out.below HB.out.bel) Hok.out Hn.out).mono ?_
      obtain ⟨C, hC⟩ : ∃ C, C = cutsOf l k := ⟨_, rfl⟩
      have HC := Lib.hid hC
      rw [← hC]
      clear hC
      rintro e w1 ⟨v1, rfl, ho1, hb1⟩
      have HB1 := Lib.hid (HB.out.below hb1)
      have R1 : Hid (RdInts w1 (fun _ => True) v1 C) := OwnSl.sl ho1 (D := fun _ => True) (fun _ _ => trivial)
      obtain ⟨a1, c1, rfl⟩ := ho1.slice
      obtain ⟨_, _, _, _, _, hat⟩ := Sl.form R1.out
      have Hat := Lib.hid hat
      clear ho1 hb1 hat
      go_wp2_with fail
      go_loopw [6, 16] (fun bv iv wr => ∃ (i : Nat), iv = .int .i64 i ∧ i ≤ C.length ∧ bv = .int .i64 (best (x.get k) (C.take i) 0) ∧ Bx w [.cells (callArr (homeTo l x k)) 24, .cells (callArr ⟨0, 0, 0, 0, 0⟩) 24] wr ∧ RdInts wr (fun _ => True) (.slice a1 C.length c1) C) (fun _ iv _ => C.length - (intOf iv).toNat)
      case atStart => exact ⟨0, rfl, by omega, rfl, HB1.out, R1.out⟩
      case round =>
        obtain ⟨i, rfl, hi, rfl, hbx, hrd⟩ := hrel
        have HBi := Lib.hid hbx
        have Ri := Lib.hid hrd
        have hc0 : wr.cell? ⟨w.heap.size, k, none⟩ = some (.int .i64 (x.get k)) := by rw [HBi.out.cells0, callArr_get _ k hlt, homeTo_get l x k hlt]
        have hf0 := HBi.out.free0 k
        have hfin : Hid (∀ m, Bx w [.cells (callArr ((homeTo l x k).set k m)) 24, .cells (callArr ⟨0, 0, 0, 0, 0⟩) 24] (wr.setCell ⟨w.heap.size, k, none⟩ (.int .i64 m))) := fun m => by
          have := HBi.out.set (i := 0) rfl k (.int .i64 m)
          rw [callArr_set _ k hlt] at this
          exact this
        clear hbx hrd
        by_cases hil : i < C.length
        · obtain ⟨b, o, rfl, _⟩ := Sl.at_ Ri.out (by omega)
          have hci := RdInts.cell Ri.out hil
          have Hbt := Lib.hid (best_take (x.get k) C i hil 0)
          obtain ⟨n, hn⟩ : ∃ n, C[i] = n := ⟨_, rfl⟩
          rw [hn] at hci Hbt
          clear hn
          by_cases hle : n ≤ x.get k
          · have HB3 : Hid (best (x.get k) (C.take (i + 1)) 0 = n) := by show _ = _; rw [Hbt.out, if_pos hle]
            go_wp2_with fail
            go_roundw
            case rel => first | exact ⟨i + 1, by go_num, by omega, by rw [HB3.out], HBi.out, Ri.out⟩ | ((repeat apply Exists.intro); exact ⟨⟨i + 1, by go_num, by omega, by rw [HB3.out], HBi.out, Ri.out⟩, rfl⟩)
            case measure => simp [intOf]; omega
          · have HB3 : Hid (best (x.get k) (C.take (i + 1)) 0 = best (x.get k) (C.take i) 0) := by show _ = _; rw [Hbt.out, if_neg hle]
            go_wp2_with fail
            go_roundw
            case rel => first | exact ⟨i + 1, by go_num, by omega, by rw [HB3.out], HBi.out, Ri.out⟩ | ((repeat apply Exists.intro); exact ⟨⟨i + 1, by go_num, by omega, by rw [HB3.out], HBi.out, Ri.out⟩, rfl⟩)
            case measure => simp [intOf]; omega
        · obtain rfl : i = C.length := by omega
          have HE2 : Hid (homeTo l x (k + 1) = (homeTo l x k).set k (best (x.get k) C 0)) := by
            show _ = _
            rw [HC.out]
            rfl
          go_wp2_with fail
          go_roundw
          case rel => exact ⟨k + 1, by go_num, by omega, by rw [HE2.out]; exact hfin.out _⟩
          case measure => simp [intOf]; omega
    · obtain rfl : k = 5 := by omega
      rw [homeTo_5] at HB
      obtain ⟨y, hy⟩ : ∃ y, homeOf l x = y := ⟨_, rfl⟩
      rw [hy] at HB
      have Hy := Lib.hid hy
      have hc0 := HB.out.cells0
      have hc1 := HB.out.cells1
      have hf1 := HB.out.free1
      have HBf := Lib.hid (HB.out.setCall1 (x := ⟨0, 0, 0, 0, 0⟩) (y := y))
      have hcf := HBf.out.cells1
      clear hy
      go_wp2
      refine bodyPost_ret (v := callV y) ?_ rfl ⟨by rw [Hy.out], HBf.out.bel⟩
      simp [results, Tryd.results17, go_sem, hcf]
end Go.Proofs.YtioeliocdbckbaaDoor
namespace Go.Proofs.YtioeliocdbckbaaDoor
open Go.RowKit

set_option maxRecDepth 100000 in
set_option maxHeartbeats 4000000 in
theorem rall_any (v : Value) (l : List TPol) (D : Nat → Prop) (w : World) (h : RdPols w D v l) :
    Calls Tryd.prog 11 #[v] w fun e w' => e = .returned (.int .i64 (polsE l)) ∧ Below w.heap.size w w' := by
  have H := Lib.hid h
  obtain ⟨a, c, rfl, hlc, hcm, hat⟩ := Sl.form h
  clear h
  go_enter Tryd.func11, Tryd.ntmps11
  go_wp2_with fail
  go_loopw [8] (fun kv wr => ∃ k : Nat, kv = .int .i64 k ∧ k ≤ l.length ∧ polsE (l.drop k) = polsE l ∧ Below w.heap.size w wr) (fun kv _ => l.length - (intOf kv).toNat)
  case atStart => exact ⟨0, rfl, Nat.zero_le _, rfl, Below.refl _ _⟩
  case round =>
    obtain ⟨k, rfl, hk, hdr, hb⟩ := hrel
    have Hdr := Lib.hid hdr
    have Hb := Lib.hid hb
    have hsz := hb.size
    clear hdr hb
    by_cases hlt : k < l.length
    · obtain ⟨b, o, rfl, hDb, hblt⟩ := hat (by omega)
      obtain ⟨ca, cc, hc0w, hc1w, hrd, hcl, hcmx, hcat⟩ := RdPols.cells H.out hlt
      have Hs := Lib.hid (polsE_drop l k hlt)
      obtain ⟨p, hp⟩ : ∃ p, l[k] = p := ⟨_, rfl⟩
      rw [hp] at hc0w hc1w hrd hcl hcat Hs
      have Hrd := Lib.hid hrd
      have hc0 := (Hb.out.cell (p := ⟨b, o + k * 2, none⟩) hblt).trans hc0w
      have hc1 := (Hb.out.cell (p := ⟨b, o + k * 2 + 1, none⟩) hblt).trans hc1w
      clear hrd hp hc0w hc1w
      go_wp2_with fail
      refine (rpolcheck_any _ p D _ (RdRules.below Hrd.out (bel_alloc Hb.out _))).mono ?_
      rintro e w1 ⟨rfl, hb1⟩
      have Hb1 := Lib.hid (bel_alloc_call Hb.out hb1)
      clear hb1 hc0 hc1
      by_cases h0 : polE p = 0
      · have H0 := Lib.hid h0
        rw [h0]
        clear h0
        go_wp2
        go_roundw
        case rel => exact ⟨k + 1, by go_num, by omega, by have := Hs.out; rw [if_pos H0.out, Hdr.out] at this; exact this.symm, Hb1.out⟩
        case measure => simp [intOf]; omega
      · have hb0 : (polE p != 0) = true := bne_iff_ne.2 h0
        have HE : Hid (polsE l = polE p) := by
          show polsE l = _
          have := Hs.out
          rw [if_neg h0, Hdr.out] at this
          exact this
        clear h0
        go_wp2
        go_ret
        rw [HE.out]
        exact ⟨rfl, Hb1.out⟩
    · obtain rfl : k = l.length := by omega
      have H0 : Hid (polsE l = 0) := by have := Hdr.out; rw [List.drop_length] at this; exact this.symm
      go_wp2
      go_ret
      rw [H0.out]
      exact ⟨rfl, Hb.out⟩
end Go.Proofs.YtioeliocdbckbaaDoor
namespace Go.Proofs.YtioeliocdbckbaaDoor
open Go.RowKit

/-- doneE of the pruned operations, said of the operations as they stand. -/
def doneP (P : Program) (ops : Array Oper) (Inv : (Nat → Bool) → World → Prop) (bs : List (List Nat)) (Q : Act → World → Prop) (n : Nat) : List Oper → Nat → Act → Prop
  | [], _, a => ∀ (done : Nat → Bool) (w : World), (∀ k, k < n → done k = true) → Inv done w → Q a w
  | o :: l, i, a => ∃ x : Value, (∀ (done : Nat → Bool) (w : World), Inv done w → done i = false → (∀ k ∈ (prune o).after.toList.map (fun e => e.on), done k = true) → (∀ k : Nat, i ∈ bs.getD k [] → done k = false) →
      ∀ R : Value → World → Prop, (∀ (v : Value) (w' : World), Inv (updDone done i) w' → v = x → R v w') → if Region.wanted o (yielded ops a.tmps) then gives P o a w R else R undef w) ∧
      doneP P ops Inv bs Q n l (i + 1) (a.put o.dst x)
theorem doneP_step {P : Program} {ops : Array Oper} {Inv : (Nat → Bool) → World → Prop} {bs : List (List Nat)} {Q : Act → World → Prop} {n : Nat} {o : Oper} {l : List Oper} {i : Nat} {a : Act}
    (h : ∀ K : Act → Prop, (∀ a, doneP P ops Inv bs Q n l (i + 1) a → K a) → ∃ x : Value, (∀ (done : Nat → Bool) (w : World), Inv done w → done i = false → (∀ k ∈ (prune o).after.toList.map (fun e => e.on), done k = true) → (∀ k : Nat, i ∈ bs.getD k [] → done k = false) →
      ∀ R : Value → World → Prop, (∀ (v : Value) (w' : World), Inv (updDone done i) w' → v = x → R v w') → if Region.wanted o (yielded ops a.tmps) then gives P o a w R else R undef w) ∧ K (a.put o.dst x)) :
    doneP P ops Inv bs Q n (o :: l) i a := h _ (fun _ h => h)
theorem doneP_prune {P : Program} {ops : List Oper} {Inv : (Nat → Bool) → World → Prop} {bs : List (List Nat)} {Q : Act → World → Prop} {n : Nat} : ∀ (l : List Oper) (i : Nat) (a : Act), doneP P ops.toArray Inv bs Q n l i a → doneE P (ops.map prune).toArray Inv bs Q n (l.map prune) i a
  | [], _, _, h => h
  | o :: l, i, a, ⟨x, h1, h2⟩ => by
    refine ⟨x, fun d w hC h0 hd hn R hR => ?_, doneP_prune l _ _ h2⟩
    have := h1 d w hC h0 hd hn R hR
    rw [← yielded_prune] at this
    exact this
/-- As wp_region_stores: edges that bind no order are left out. -/
theorem wp_region_stores3 {P : Program} {l : List Oper} {Q : Exit → Act → World → Prop} {a : Act} {id : Nat} {w : World} (Inv : (Nat → Bool) → World → Prop) (hm : P.follows .mixedOrders = true) (hB : monoB2 (l.map prune) a.tmps.size = true) (hC : Inv (fun _ => false) w.drew)
    (bs : List (List Nat)) (hbs : befores (l.map prune) [] = bs) (h : doneP P l.toArray Inv bs (Q .normal) l.length l 0 a) : (Code.region id l.toArray true).wp P Q a w := by
  subst hbs
  have h' := doneP_prune (ops := l) l 0 a h
  have hlen : l.length = (l.map prune).length := by simp
  rw [hlen] at h'
  generalize hl : l.map prune = l' at hB h'
  obtain ⟨xs, hx⟩ := doneE_list l' 0 a [] h'
  refine wp_region_any hm (wpAny_prune _ _ _ _ ?_)
  rw [hl]
  refine wpAny_done (Inv := Inv) (T := fun _ _ _ => True) (ss := xs.map ex) hB (fun i k s _ hk v done w1 w2 _ _ _ => ?_) hx _ _ (fun _ => undef) _ _ ?_ ⟨?_, ?_, by simp [← hl], rfl, rfl, ?_, fun _ _ => rfl⟩
  · obtain ⟨x, _, rfl⟩ := List.mem_map.1 (List.mem_of_getElem? hk)
    trivial
  · have := List.length_filter_le (fun i => (Array.replicate l.toArray.size false)[i]? != some true) (List.range l'.length)
    simpa [undone, ← hl] using this
  · refine (congrArg (fun d => Inv d _) ?_).mp hC
    funext k
    rw [Array.getElem?_replicate]
    split <;> simp
  · intro j o hj hl
    rw [Array.getElem?_replicate] at hl
    split at hl <;> simp at hl
  · intro j o s hj _ hl
    rw [Array.getElem?_replicate] at hl
    split at hl <;> simp at hl
end Go.Proofs.YtioeliocdbckbaaDoor
namespace Go.Proofs.YtioeliocdbckbaaDoor
open Go.RowKit
attribute [local go_sem] gives givesUpon

/-- a region with one store, operation n. -/
def OneSt (n : Nat) (w1 w2 : World) (done : Nat → Bool) (W : World) : Prop := W = if done n = true then w2 else w1
section
variable {n k : Nat} {w1 w2 W : World} {done : Nat → Bool}
theorem OneSt.start : OneSt n w1 w2 (fun _ => false) w1 := rfl
theorem OneSt.before (h : OneSt n w1 w2 done W) (hd : done n = false) : W = w1 := by
  unfold OneSt at h
  rw [hd] at h
  exact h
theorem OneSt.step (hk : n ≠ k) (hd : done n = false) : OneSt n w1 w2 (updDone done k) w1 := by
  unfold OneSt updDone
  rw [if_neg hk, hd]
  rfl
theorem OneSt.at_ : OneSt n w1 w2 (updDone done n) w2 := by
  unfold OneSt updDone
  rw [if_pos rfl]
  rfl
theorem OneSt.after (h : OneSt n w1 w2 done W) (hd : done n = true) : W = w2 := by
  unfold OneSt at h
  rw [hd] at h
  exact h
end
theorem ints_set {w : World} {β k : Nat} {v u : Value} {l : List Int} (h : RdInts w (fun b => b ≠ β) u l) : RdInts (w.setCell ⟨β, k, none⟩ v) (fun b => b ≠ β) u l :=
  h.keep (fun _ hb _ => hb) (fun _ hb _ => set_other hb) (by rw [set_size]; exact Nat.le_refl _)
theorem cuts_len (l : List TPol) (f : Int) : (cutsOf l f).length ≤ (cutVals l f).length := by
  unfold cutsOf
  refine Nat.le_trans (List.length_filter_le _ _) ?_
  have h3 : ∀ m : List Int, (setOf m).length ≤ m.length := fun m => by
    have h4 : ∀ (x : Int) (m : List Int), (insU x m).length ≤ m.length + 1 := fun x m => by
      induction m with
      | nil => simp [insU]
      | cons y m ih => unfold insU; split <;> (try split) <;> simp <;> omega
    induction m with
    | nil => simp [setOf]
    | cons x m ih => have := h4 x (setOf m); simp [setOf]; omega
  exact h3 _
theorem flat_le2 (f : Int) : ∀ cs : List TCond, (cs.flatMap (condCuts f)).length ≤ 2 * cs.length
  | [] => by simp
  | c :: cs => by
    have := flat_le2 f cs
    have h2 : (condCuts f c).length ≤ 2 := by unfold condCuts; split <;> (try split) <;> simp
    simp only [List.flatMap_cons, List.length_append, List.length_cons]
    omega
theorem vals_le2 (l : List TPol) (f : Int) : (cutVals l f).length ≤ 1 + 2 * (l.flatMap polConds).length := by
  have e : l.flatMap (polCuts f) = (l.flatMap polConds).flatMap (condCuts f) := by
    unfold polCuts ruleCuts polConds
    simp only [List.flatMap_assoc]
  unfold cutVals
  rw [List.length_cons, e]
  have := flat_le2 f (l.flatMap polConds)
  omega

set_option maxRecDepth 100000 in
set_option maxHeartbeats 16000000 in
theorem rpoints_any (v : Value) (l : List TPol) (D : Nat → Prop) (w : World) (h : RdPols w D v l) (hn : polsE l = 0 → (1 + 2 * (l.flatMap polConds).length) * 8 ≤ 140737488355328) :
    Calls Tryd.prog 10 #[v] w fun e w' => ∃ v', e = .returned (.tuple #[v', .int .i64 (pointsE l).2]) ∧ OwnSl w' w.heap.size 24 5 callR v' (pointsE l).1 ∧ Below w.heap.size w w' := by
  have H := Lib.hid h
  have Hn := Lib.hid hn
  obtain ⟨i0, hi, hz0, hz1, hz2⟩ := info_parts infoCall
  have Hi := Lib.hid hi
  clear h hn hi
  go_enter Tryd.func10, Tryd.ntmps10
  go_wp2_with fail
  refine (rall_any _ l D _ H.out).mono ?_
  rintro e w1 ⟨rfl, hb1⟩
  have Hb1 := Lib.hid hb1
  have H1 := Lib.hid (RdPols.below H.out hb1)
  have hsz1 := hb1.size
  clear hb1
  by_cases h0 : polsE l = 0
  · have H0 := Lib.hid h0
    have Hok := Lib.hid ((polsE_iff l).1 h0)
    have Hnn := Lib.hid (Hn.out h0)
    rw [h0]
    clear h0
    go_wp2_with fail
    go_loopw [6, 17] (fun nv kv wr => ∃ (k : Nat) (cs : Array Value), kv = .int .i64 k ∧ nv = .int .i64 (sizes l k : Nat) ∧ k ≤ 5 ∧ sizes l k ≤ 1000 ∧ cs.size = 5 ∧ wr.heap[w1.heap.size]? = some (.cells cs 58) ∧ (∀ j : Nat, j < k → ∃ u, cs[j]? = some u ∧ RdInts wr (fun b => b ≠ w1.heap.size) u (cutsOf l j)) ∧ Below w1.heap.size w1 wr) (fun _ kv _ => 5 - (intOf kv).toNat)
    case atStart => exact ⟨0, #[.slice none 0 0, .slice none 0 0, .slice none 0 0, .slice none 0 0, .slice none 0 0], rfl, rfl, by omega, by simp [sizes], rfl, heap_last _ _, fun j hj => absurd hj (by omega), bel_alloc (Below.refl _ _) _⟩
    case round =>
      obtain ⟨k, cs, rfl, rfl, hk, hs, hcs, hbk, hrd, hb⟩ := hrel
      have Hs := Lib.hid hs
      have Hcs := Lib.hid hcs
      have Hbk := Lib.hid hbk
      have Hrd := Lib.hid hrd
      have Hb := Lib.hid hb
      have hszr := hb.size
      have hβ : w1.heap.size < wr.heap.size := (Array.getElem?_eq_some_iff.1 hbk).1
      clear hs hcs hbk hrd hb
      by_cases hlt : k < 5
      · have hk5 : (k : Int) < 5 := by omega
        have hk0 : (0 : Int) ≤ (k : Int) := by omega
        have hkw : IntKind.i64.wrap (k : Int) = (k : Int) := IntWalk.i64_in _ (by omega)
        go_wp2_with fail
        refine (rcuts_any _ l k D _ (RdPols.below H1.out Hb.out) Hok.out Hnn.out).mono ?_
        rintro e w2 ⟨v2, rfl, ho2, hb2⟩
        have Hb2 := Lib.hid (bel_call Hb.out hb2)
        have Hbk2 := Lib.hid (blk_below Hbk.out hb2)
        have Ho2 : Hid (RdInts w2 (fun b => b ≠ w1.heap.size) v2 (cutsOf l k)) := ho2.sl (fun b hb => by omega)
        have Hrd2 : Hid (∀ j : Nat, j < k → ∃ u, cs[j]? = some u ∧ RdInts w2 (fun b => b ≠ w1.heap.size) u (cutsOf l j)) := fun j hj => by obtain ⟨u, h1, h2⟩ := Hrd.out j hj; exact ⟨u, h1, h2.below hb2⟩
        obtain ⟨a2, c2, rfl⟩ := ho2.slice
        clear ho2 hb2
        have hlen : (cutsOf l k).length ≤ 17592186044416 := by
          have h1 := Hnn.out
          have h2 := cuts_len l k
          have h3 := vals_le2 l k
          omega
        have Hss : Hid (sizes l (k + 1) = sizes l k * (cutsOf l k).length) := rfl
        obtain ⟨m, hm⟩ : ∃ m, m = (cutsOf l k).length := ⟨_, rfl⟩
        obtain ⟨s, hs⟩ : ∃ s, s = sizes l k := ⟨_, rfl⟩
        obtain ⟨s', hs'⟩ : ∃ s', s' = sizes l (k + 1) := ⟨_, rfl⟩
        have hmul : (s : Int) * (m : Int) = (s' : Int) := by rw [hs', Hss.out, ← hs, ← hm, Int.natCast_mul]
        have hmb : s' ≤ 1000 * 17592186044416 := by rw [hs', Hss.out, ← hm]; exact Nat.mul_le_mul Hs.out (by rw [hm]; exact hlen)
        have hwr : IntKind.i64.wrap (s' : Int) = (s' : Int) := IntWalk.i64_in _ (by omega)
        have hce := cells_of Hbk2.out
        have hfe := not_frozen Hbk2.out
        have Hst := Lib.hid (set_at (o := k) (v := .slice a2 (cutsOf l k).length c2) Hbk2.out)
        have hse := cells_of Hst.out
        have hget : (cs.setIfInBounds k (.slice a2 (cutsOf l k).length c2))[k]? = some (.slice a2 (cutsOf l k).length c2) := Array.getElem?_setIfInBounds_self_of_lt (by rw [Hcs.out]; exact hlt)
        have hck : cs[k]? = some (cs[k]'(by rw [Hcs.out]; exact hlt)) := Array.getElem?_eq_getElem _
        rw [← hm] at hse hget
        rw [← hs, ← hm]
        have Hm := Lib.hid hm
        have HS := Lib.hid hs
        have HS' := Lib.hid hs'
        clear hm hs hs' hlen
        by_cases hbig : 1000 < s'
        · have hd : decide ((1000 : Int) < (s' : Int)) = true := decide_eq_true (by omega)
          have HP : Hid (pointsE l = ([], 2)) := pointsE_err2 H0.out hlt (by rw [← HS'.out]; exact hbig)
          clear hbig hmb
          go_wp2_with fail
          go_ret2
          rw [HP.out]
          exact ⟨_, rfl, OwnSl.nil, Hb1.out.trans ((set_below Hb2.out (Nat.le_refl _)).mono hsz1)⟩
        · have hd : decide ((1000 : Int) < (s' : Int)) = false := decide_eq_false (by omega)
          have Hbig := Lib.hid hbig
          clear hbig hmb
          go_wp2_with fail
          go_roundw
          case rel =>
            refine ⟨k + 1, cs.setIfInBounds k (.slice a2 m c2), by go_num, by rw [HS'.out], by omega, by rw [← HS'.out]; have := Hbig.out; omega, by rw [Array.size_setIfInBounds]; exact Hcs.out, by rw [Hm.out]; exact Hst.out, fun j hj => ?_, set_below Hb2.out (Nat.le_refl _)⟩
            by_cases hjk : j = k
            · subst hjk
              exact ⟨_, hget, by rw [Hm.out]; exact ints_set Ho2.out⟩
            · obtain ⟨u, h1, h2⟩ := Hrd2.out j (by omega)
              exact ⟨u, by rw [Array.getElem?_setIfInBounds_ne (Ne.symm hjk)]; exact h1, ints_set h2⟩
          case measure => simp [intOf]; omega
      · obtain rfl : k = 5 := by omega
        have HP : Hid (pointsE l = (stage l 5, 0)) := pointsE_of Hok.out Hs.out
        have Hsl := Lib.hid (stage_length l 5)
        have Htk := Lib.hid (fun i (h : i < sizes l 5) => stage_take (l := l) h)
        have hn1000 : sizes l 5 ≤ 1000 := Hs.out
        have Hcl : Hid (∀ k : Nat, (cutsOf l k).length ≤ 17592186044416) := fun k => by
          have h1 := Hnn.out
          have h2 := cuts_len l k
          have h3 := vals_le2 l k
          omega
        obtain ⟨n, hn⟩ : ∃ n, n = sizes l 5 := ⟨_, rfl⟩
        have HN := Lib.hid hn
        rw [← hn] at hn1000 ⊢
        clear hn
        obtain ⟨wB, rfl⟩ : ∃ wB : World, wB = wr := ⟨_, rfl⟩
        go_wp2_with fail
        go_loopw [8, 35] (fun ov iv wi => ∃ (i : Nat) (vs : Value), iv = .int .i64 i ∧ vs = ov ∧ i ≤ n ∧ OwnSl wi wB.heap.size 24 5 callR vs ((stage l 5).take i) ∧ Below wB.heap.size wB wi) (fun _ iv _ => n - (intOf iv).toNat)
        case atStart => exact ⟨0, _, rfl, rfl, Nat.zero_le _, OwnSl.nil, Below.refl _ _⟩
        case round =>
          obtain ⟨i, vs, rfl, rfl, hi, hown, hbi⟩ := hrel
          have Hown := Lib.hid hown
          have Hbi := Lib.hid hbi
          have hszi := hbi.size
          clear hown hbi
          by_cases hil : i < n
          · have Htki := Lib.hid (Htk.out i (by rw [← HN.out]; exact hil))
            have Hsli : Hid (((stage l 5).take i).length ≤ 1000) := by show _ ≤ _; rw [List.length_take]; omega
            obtain ⟨L, hL⟩ : ∃ L, L = (stage l 5).take i := ⟨_, rfl⟩
            rw [← hL] at Hown Htki Hsli
            obtain ⟨wo, rfl⟩ : ∃ wo : World, wo = wr := ⟨_, rfl⟩
            have hiw : IntKind.i64.wrap (i : Int) = (i : Int) := IntWalk.i64_in _ (by omega)
            have Hleft : Hid (i < sizes l 5) := by show _ < _; rw [← HN.out]; exact hil
            clear hL
            go_wp2_with fail
            go_loopw [9, 11] (fun qv kv wj => ∃ j : Nat, kv = .int .i64 (4 - (j : Int)) ∧ qv = .int .i64 (leftOf l i j : Nat) ∧ j ≤ 5 ∧ wj.heap[wo.heap.size]? = some (.cells (callArr (tellOf l i j)) 24) ∧ Below wo.heap.size wo wj) (fun _ kv _ => (intOf kv + 1).toNat)
            case atStart => exact ⟨0, rfl, rfl, by omega, heap_last _ _, bel_alloc (Below.refl _ _) _⟩
            case round =>
              obtain ⟨j, rfl, rfl, hj, hbox, hbj⟩ := hrel
              have Hbox := Lib.hid hbox
              have Hbj := Lib.hid hbj
              have hszj := hbj.size
              have hγ : wo.heap.size < wr.heap.size := (Array.getElem?_eq_some_iff.1 hbox).1
              clear hbox hbj
              by_cases hj5 : j < 5
              · obtain ⟨k, hk⟩ : ∃ k, k + j = 4 := ⟨4 - j, by omega⟩
                have e4 : (4 : Int) - (j : Int) = (k : Int) := by omega
                rw [e4]
                obtain ⟨u, hu, hru⟩ := Hrd.out k (by omega)
                obtain ⟨au, cu, rfl, _⟩ := Sl.form hru
                obtain ⟨b2, o2, rfl, _⟩ := Sl.at_ hru (cuts_pos l k)
                have hbB : Below wB.heap.size wB wr := Hbi.out.trans (Hbj.out.mono hszi)
                obtain ⟨x, hx⟩ : ∃ x, x = leftOf l i j := ⟨_, rfl⟩
                obtain ⟨m, hm⟩ : ∃ m, m = (cutsOf l k).length := ⟨_, rfl⟩
                have hm0 : 0 < m := by rw [hm]; exact cuts_pos l k
                obtain ⟨r, hr⟩ : ∃ r, r = x % m := ⟨_, rfl⟩
                have hrm : r < m := by rw [hr]; exact Nat.mod_lt _ hm0
                have hcell := RdInts.cell (hru.belowR hbB (fun _ _ _ h => h)) (i := r) (by rw [← hm]; exact hrm)
                obtain ⟨q, hq⟩ : ∃ q, q = (cutsOf l k)[r]'(by rw [← hm]; exact hrm) := ⟨_, rfl⟩
                rw [← hq] at hcell
                have Hq : Hid (cutAt l k x = q) := by
                  show cutAt l k x = q
                  have h1 := cutAt_get l k x
                  rw [← hm, ← hr, List.getElem?_eq_getElem (by rw [← hm]; exact hrm), ← hq] at h1
                  exact (Option.some.inj h1).symm
                have hbkj := cells_of (blk_below Hbk.out hbB)
                have hrw : IntKind.i64.wrap (r : Int) = (r : Int) := IntWalk.i64_in _ (by omega)
                have hm47 : m ≤ 17592186044416 := by rw [hm]; exact Hcl.out k
                have hx1 : x ≤ 1000 := by
                  have h1 := (left_lt Hleft.out).2 j hj
                  have h2 : sizes l (5 - j) ≤ sizes l 5 := sizes_le l (by omega)
                  rw [← hx] at h1
                  have h3 := HN.out
                  omega
                have hrem : Int.tmod (x : Int) (m : Int) = (r : Int) := by rw [hr]; exact (Int.ofNat_tmod x m).symm
                obtain ⟨d, hd⟩ : ∃ d, d = x / m := ⟨_, rfl⟩
                have hquo : Int.tdiv (x : Int) (m : Int) = (d : Int) := by rw [hd]; exact (Int.ofNat_tdiv x m).symm
                have hdx : d ≤ x := by rw [hd]; exact Nat.div_le_self x m
                have hdw : IntKind.i64.wrap (d : Int) = (d : Int) := IntWalk.i64_in _ (by omega)
                have hmn : ¬ (m = 0) := by omega
                have hk5 : (k : Int) < 5 := by omega
                have hk0 : (0 : Int) ≤ (k : Int) := by omega
                have hkw : IntKind.i64.wrap (k : Int) = (k : Int) := IntWalk.i64_in _ (by omega)
                have hrm' : (r : Int) < (m : Int) := by omega
                have hr0 : (0 : Int) ≤ (r : Int) := by omega
                rw [← hm] at hu
                rw [← hx]
                have Hx := Lib.hid hx
                have Hd := Lib.hid hd
                have Hm := Lib.hid hm
                obtain ⟨wd, hwd⟩ : ∃ wd, wd = wr.drew := ⟨_, rfl⟩
                have Hwd := Lib.hid hwd
                have hbkd : ∀ j, wd.cell? ⟨w1.heap.size, j, none⟩ = cs[j]? := fun j => by rw [hwd]; exact hbkj j
                have hcelld : wd.cell? ⟨b2, o2 + r, none⟩ = some (.int .i64 q) := by rw [hwd]; exact hcell
                have hbd : wd.heap[wo.heap.size]? = some (.cells (callArr (tellOf l i j)) 24) := by rw [hwd]; exact Hbox.out
                have Hbd := Lib.hid hbd
                have hfz := not_frozen hbd
                have hck : (callArr (tellOf l i j))[k]? = some (.int .i64 ((tellOf l i j).get k)) := callArr_get _ k (by omega)
                have hbdc := cells_of hbd
                clear hx hd hm hr hq hbkj hcell hbd hwd hru
                go_wp2_with fail
                refine wp_region_stores3 (OneSt 13 wd (wd.setCell ⟨wo.heap.size, k, none⟩ (.int .i64 q))) (by kernel_rfl) (by kernel_rfl) (by rw [← Hwd.out]; exact OneSt.start) _ rfl ?_
                iterate 13 (refine doneP_step (fun K hK => ?_); apply Exists.intro; refine ⟨fun done W hI h0 hd hn R hR => ?_, ?_⟩; (have h13 : done 13 = false := hn 13 (by decide); obtain rfl : W = wd := hI.before h13; clear h0 hd hn hI; go_simp; exact hR _ _ (OneSt.step (by decide) h13) rfl); (go_simp; refine hK _ ?_; clear hK K))
                (refine doneP_step (fun K hK => ?_); apply Exists.intro; refine ⟨fun done W hI h0 hd hn R hR => ?_, ?_⟩; (obtain rfl : W = wd := hI.before h0; clear h0 hd hn hI; go_simp; exact hR _ _ OneSt.at_ rfl); (go_simp; refine hK _ ?_; clear hK K))
                intro done W hd hI
                obtain rfl := hI.after (hd 13 (by decide))
                clear hd hI
                have Hq' := Lib.hid (callArr_set (tellOf l i j) k (by omega) q)
                have Hst := Lib.hid (set_at (o := k) (v := .int .i64 q) Hbd.out)
                have hbks : ∀ j, (wd.setCell ⟨wo.heap.size, k, none⟩ (.int .i64 q)).cell? ⟨w1.heap.size, j, none⟩ = cs[j]? := fun j => by rw [← hbkd j]; exact World.cell?_setCell_other _ _ _ _ (by intro h; simp only [Addr.mk.injEq] at h; omega)
                have Hbd2 : Hid (Below wo.heap.size wo (wd.setCell ⟨wo.heap.size, k, none⟩ (.int .i64 q))) := set_below (by rw [Hwd.out]; exact Hbj.out.drew) (Nat.le_refl _)
                clear hbkd hcelld hfz hbdc hmn
                have hmn : ¬ (m = 0) := by omega
                go_wp2_with fail
                go_roundw
                case rel => (repeat apply Exists.intro); exact ⟨⟨j + 1, by go_num, by rw [Hd.out, Hx.out, Hm.out]; show Value.int .i64 _ = Value.int .i64 ((leftOf l i j / (cutsOf l (4 - j : Nat)).length : Nat) : Int); rw [show 4 - j = k by omega], by omega, by show _ = some (Obj.cells (callArr ((tellOf l i j).set (4 - j) (cutAt l (4 - j) (leftOf l i j)))) _); rw [show 4 - j = k by omega, ← Hx.out, Hq.out, ← Hq'.out]; exact Hst.out, Hbd2.out⟩, rfl⟩
                case measure => first | (simp [intOf]; done) | (simp [intOf]; omega)
              · obtain rfl : j = 5 := by omega
                have Hown2 := Lib.hid ((Hown.out.below Hbj.out).below (bel_alloc (Below.refl _ wr) (.cells (callArr (tellOf l i 5)) 24)))
                have Hbi2 := Lib.hid ((Hbi.out.trans (Hbj.out.mono hszi)).trans ((bel_alloc (Below.refl _ wr) (.cells (callArr (tellOf l i 5)) 24)).mono (Nat.le_trans hszi hszj)))
                have hbc := cells_of Hbox.out
                generalize hT : tellOf l i 5 = T at *
                have hsl := Hsli.out
                go_wp2_with (at_builtin; refine wpList_app2 rfl _ _ 29 rfl wB.heap.size 24 i0 _ 5 40 Tryd.underlying29 Hi.out hz0 hz1 hz2 rfl (by decide) _ _ rfl Hown2.out _ _ rfl (one_call (x := T) (by simp)) (fun y _ cs h => callR_one y cs h) (by show _ + 1 ≤ maxLen; unfold maxLen; omega) (by show (_ + 1) * 40 ≤ _; omega) (by simp; omega) ?_; intro v' w5 hown' hg' hat'; have Hown' := Lib.hid hown'; have Hb5 := Lib.hid (Hown2.out.grown Hbi2.out hg' (by simp; omega) (Nat.le_refl _)); clear hown' hg' hat')
                go_roundw
                case rel => (repeat apply Exists.intro); exact ⟨⟨i + 1, v', by go_num, rfl, by omega, by rw [Htki.out]; exact Hown'.out, Hb5.out⟩, rfl⟩
                case measure => simp [intOf]; omega
          · obtain rfl : i = n := by omega
            have Ho : Hid (OwnSl wr wB.heap.size 24 5 callR vs (stage l 5)) := by
              have := Hown.out
              rw [List.take_of_length_le (by rw [Hsl.out, ← HN.out]; exact Nat.le_refl _)] at this
              exact this
            go_wp2
            go_ret2
            rw [HP.out]
            exact ⟨_, rfl, Ho.out.base (by omega), Hb1.out.trans ((Hb.out.trans (Hbi.out.mono hszr)).mono hsz1)⟩
  · have hb0 : (polsE l != 0) = true := bne_iff_ne.2 h0
    have HP : Hid (pointsE l = ([], polsE l)) := by show pointsE l = _; unfold pointsE; rw [if_pos h0]
    clear h0
    go_wp2
    go_ret2
    rw [HP.out]
    exact ⟨_, rfl, OwnSl.nil, Hb1.out⟩
end Go.Proofs.YtioeliocdbckbaaDoor
namespace Go.Proofs.YtioeliocdbckbaaDoor
open Go.RowKit Go.ChangeShapes Go.WideShapes Go.Deep

theorem list_of_forall {α : Type} {Q : Nat → α → Prop} : ∀ (n : Nat), (∀ i, i < n → ∃ a, Q i a) → ∃ xs : List α, xs.length = n ∧ ∀ i x, xs[i]? = some x → Q i x
  | 0, _ => ⟨[], rfl, fun i x h => by simp at h⟩
  | n + 1, h => by
    obtain ⟨xs, hl, hx⟩ := list_of_forall n (fun i hi => h i (by omega))
    obtain ⟨a, ha⟩ := h n (by omega)
    refine ⟨xs ++ [a], by simp [hl], fun i x hi => ?_⟩
    rw [List.getElem?_append] at hi
    split at hi
    · exact hx i x hi
    · rename_i hge
      have : i - xs.length = 0 := by
        have := (List.getElem?_eq_some_iff.1 hi).1
        simp at this; exact this
      rw [this] at hi
      simp at hi
      have : i = n := by omega
      subst this; subst hi; exact ha

theorem add_form {b o i j : Nat} : ((⟨b, o, none⟩ : Addr).add i).add j = ⟨b, o + (i + j), none⟩ := by
  unfold Addr.add
  by_cases hi : i = 0 <;> by_cases hj : j = 0 <;> simp [hi, hj, Nat.add_assoc]

section
variable {H : Type} {enc : TypeId × Value → H} {P : Program} {w : World} {base : Nat} {spare : Nat → Bool} {held : Bool}
theorem sl_of_trod {α : Type} {t e : TypeId} {sz fuel : Nat} {R : α → List Value → Prop} {cs : List Value} {x : DataW H × List MemPlace} (ht : P.underlying t = some (.slice e)) (hC : P.cellsOf e = sz) (hsz : 0 < sz)
    (hR : ∀ n cs x, cs.length = sz → DataW.trod enc P w base spare held n e cs = some x → ∃ a : α, R a cs) (h : DataW.trod enc P w base spare held fuel t cs = some x) :
    ∃ (v : Value) (xs : List α), cs = [v] ∧ Sl w (fun _ => True) sz R v xs := by
  rcases open_slice ht h with ⟨h0, _⟩ | ⟨a, len, cap, m, n, D, Pl, hcs, hb, hl, hm, hmm, _, hi⟩
  · exact ⟨_, [], h0, none, 0, rfl, by simp, by unfold maxLen; omega, fun _ => rfl, fun h => absurd h (by simp)⟩
  · have hlm : len ≤ m := by rw [hmm]; split <;> omega
    have hel : ∀ i, i < len → ∃ a' : α, ∃ cs' : List Value, cs'.length = sz ∧ R a' cs' ∧ ∀ j, j < sz → w.cell? ((a.add (i * sz)).add j) = cs'[j]? := fun i hlt => by
      obtain ⟨cs', hc, ht'⟩ := hi i (by omega)
      rw [hC] at hc
      obtain ⟨_, hlen, hcell⟩ := World.cells?_some hc
      obtain ⟨a', ha'⟩ := hR _ _ _ hlen ht'
      exact ⟨a', cs', hlen, ha', hcell⟩
    obtain ⟨xs, hxl, hx⟩ := list_of_forall len hel
    refine ⟨_, xs, hcs, some a, cap, by rw [hxl], by omega, hm, (fun h => by cases h), fun h0 => ?_⟩
    have h00 : xs[0]? = some xs[0] := List.getElem?_eq_getElem h0
    obtain ⟨cs0, hl0, _, hc0⟩ := hx 0 _ h00
    have hc00 := hc0 0 hsz
    rw [List.getElem?_eq_getElem (by omega)] at hc00
    have hspot := World.cell?_spot hc00
    simp [Addr.add] at hspot
    obtain ⟨b, o, s⟩ := a
    dsimp only at hspot
    subst hspot
    refine ⟨b, o, rfl, trivial, ?_, fun i y hy => ?_⟩
    · have := World.block_lt_of_cell? _ _ hc00
      simpa [Addr.add] using this
    · obtain ⟨cs', hl', hr', hc'⟩ := hx i y hy
      refine ⟨cs', hl', hr', fun j u hu => ?_⟩
      have hj : j < sz := by rw [← hl']; exact (List.getElem?_eq_some_iff.1 hu).1
      rw [← hu, ← hc' j hj, add_form]

theorem trod_ints5 {t e : TypeId} {fuel : Nat} {cs : List Value} {x : DataW H × List MemPlace} (ht : P.underlying t = some (.array 5 e)) (he : P.underlying e = some (.int .i64)) (hC : P.cellsOf t = 5) (hCe : P.cellsOf e = 1)
    (h : DataW.trod enc P w base spare held fuel t cs = some x) : ∃ y : TCall, cs = [.int .i64 y.a0, .int .i64 y.a1, .int .i64 y.a2, .int .i64 y.a3, .int .i64 y.a4] := by
  obtain ⟨xs, m, _, _, hlen, hxl, hf⟩ := DataW.trod_array ht h
  rw [hC] at hlen
  match cs, hlen with
  | [c0, c1, c2, c3, c4], _ =>
    match xs, hxl with
    | [x0, x1, x2, x3, x4], _ =>
      have g := fun i (hi : i < 5) => by have := hf i hi; rw [hCe] at this; exact this
      obtain ⟨n0, e0, _⟩ := DataW.trod_int he (g 0 (by omega))
      obtain ⟨n1, e1, _⟩ := DataW.trod_int he (g 1 (by omega))
      obtain ⟨n2, e2, _⟩ := DataW.trod_int he (g 2 (by omega))
      obtain ⟨n3, e3, _⟩ := DataW.trod_int he (g 3 (by omega))
      obtain ⟨n4, e4, _⟩ := DataW.trod_int he (g 4 (by omega))
      simp at e0 e1 e2 e3 e4
      exact ⟨⟨n0, n1, n2, n3, n4⟩, by simp [e0, e1, e2, e3, e4]⟩
theorem open_call {r : Reach} {b0 : Nat} {t e : TypeId} {v : Value} {d : DataW H} {ps : List MemPlace} (ht : P.underlying t = some (.array 5 e)) (he : P.underlying e = some (.int .i64)) (hC : P.cellsOf t = 5) (hCe : P.cellsOf e = 1)
    (hv : Value.okWide P w r b0 t v) (h : DataW.Trod enc P w base spare held t v d ps) : ∃ y : TCall, v = callV y := by
  simp only [Value.okWide, ht] at hv
  obtain ⟨cs, rfl, _, _⟩ := hv
  obtain ⟨fuel, hf⟩ := h
  obtain ⟨y, hy⟩ := trod_ints5 ht he hC hCe hf
  obtain ⟨l⟩ := cs
  exact ⟨y, by simp only [Value.cells] at hy; subst hy; rfl⟩

theorem open_code {t e ei : TypeId} {fs : Array Field} {r : Reach} {b0 : Nat} {v : Value} {d : DataW H} {ps : List MemPlace} (ht : P.underlying t = some (.slice e)) (he : P.underlying e = some (.struct fs)) (hC : P.cellsOf e = 4) (hi : P.underlying ei = some (.int .i64)) (hCi : P.cellsOf ei = 1)
    (hfs : fs.map (fun f => (f.type, f.offset)) = #[(ei, 0), (ei, 1), (ei, 2), (ei, 3)])
    (hv : Value.okWide P w r b0 t v) (h : DataW.Trod enc P w base spare held t v d ps) : ∃ l, RdCode w (fun _ => True) v l := by
  obtain ⟨a, len, cap, rfl⟩ := okWide_slice ht hv
  obtain ⟨fuel, hf⟩ := h
  have hR : ∀ n cs x, cs.length = 4 → DataW.trod enc P w base spare held n e cs = some x → ∃ a : TIns, insR a cs := fun n cs x hl hx => by
    obtain ⟨xs, m, _, _, _, hxl, hg⟩ := DataW.trod_struct he hx
    have hsz : fs.size = 4 := by have := congrArg Array.size hfs; simpa using this
    match cs, hl with
    | [c0, c1, c2, c3], _ =>
      have g : ∀ (i : Nat), i < 4 → ∃ n, ([c0, c1, c2, c3].drop i).take 1 = [.int .i64 n] := fun i hi4 => by
        have hfi : fs[i]? = some fs[i] := Array.getElem?_eq_getElem (by omega)
        have h1 := congrArg (fun a => a[i]?) hfs
        simp only [Array.getElem?_map, hfi, Option.map_some] at h1
        have h2 : fs[i].type = ei ∧ fs[i].offset = i := by
          have : i = 0 ∨ i = 1 ∨ i = 2 ∨ i = 3 := by omega
          rcases this with rfl | rfl | rfl | rfl <;> simpa using h1
        have := hg i _ hfi
        rw [h2.1, h2.2, hCi] at this
        rw [List.getElem?_eq_getElem (by omega)] at this
        obtain ⟨n, e, _⟩ := DataW.trod_int hi this
        exact ⟨n, e⟩
      obtain ⟨n0, e0⟩ := g 0 (by omega)
      obtain ⟨n1, e1⟩ := g 1 (by omega)
      obtain ⟨n2, e2⟩ := g 2 (by omega)
      obtain ⟨n3, e3⟩ := g 3 (by omega)
      simp at e0 e1 e2 e3
      exact ⟨⟨n0, n1, n2, n3⟩, by simp [insR, e0, e1, e2, e3]⟩
  obtain ⟨v', xs, hcs, hsl⟩ := sl_of_trod ht hC (by omega) hR hf
  simp [Value.cells] at hcs
  rw [hcs]
  exact ⟨xs, hsl⟩
end
end Go.Proofs.YtioeliocdbckbaaDoor
namespace Go.Proofs.YtioeliocdbckbaaDoor
open Go.RowKit Go.ChangeShapes Go.WideShapes Go.Deep
set_option maxRecDepth 100000

theorem field_at {fs : Array Field} {l : Array (TypeId × Nat)} (hfs : fs.map (fun f => (f.type, f.offset)) = l) {i : Nat} {ty : TypeId} {off : Nat} (h : l[i]? = some (ty, off)) : ∃ f, fs[i]? = some f ∧ f.type = ty ∧ f.offset = off := by
  subst hfs
  rw [Array.getElem?_map] at h
  cases hf : fs[i]? with
  | none => rw [hf] at h; cases h
  | some f => rw [hf] at h; simp only [Option.map_some, Option.some.injEq, Prod.mk.injEq] at h; exact ⟨f, rfl, h.1, h.2⟩
section
variable {H : Type} {enc : TypeId × Value → H} {w : World} {base : Nat} {spare : Nat → Bool} {held : Bool}
theorem trod_field {P : Program} {e : TypeId} {fs : Array Field} {l : Array (TypeId × Nat)} {fuel : Nat} {cs : List Value} {x : DataW H × List MemPlace} (he : P.underlying e = some (.struct fs)) (hfs : fs.map (fun f => (f.type, f.offset)) = l)
    (h : DataW.trod enc P w base spare held fuel e cs = some x) {i : Nat} {ty : TypeId} {off : Nat} (hi : l[i]? = some (ty, off)) : ∃ n y, DataW.trod enc P w base spare held n ty ((cs.drop off).take (P.cellsOf ty)) = some y := by
  obtain ⟨f, hf, rfl, rfl⟩ := field_at hfs hi
  obtain ⟨xs, m, _, _, _, hxl, hg⟩ := DataW.trod_struct he h
  have hlt : i < xs.length := by rw [hxl]; exact (Array.getElem?_eq_some_iff.1 hf).1
  have := hg i f hf
  rw [List.getElem?_eq_getElem hlt] at this
  exact ⟨_, _, this⟩
theorem trod_field_int {P : Program} {e ei : TypeId} {fs : Array Field} {l : Array (TypeId × Nat)} {fuel : Nat} {cs : List Value} {x : DataW H × List MemPlace} (he : P.underlying e = some (.struct fs)) (hfs : fs.map (fun f => (f.type, f.offset)) = l)
    (h : DataW.trod enc P w base spare held fuel e cs = some x) {i : Nat} {off : Nat} (hi : l[i]? = some (ei, off)) (hu : P.underlying ei = some (.int .i64)) (hc : P.cellsOf ei = 1) : ∃ n, (cs.drop off).take 1 = [.int .i64 n] := by
  obtain ⟨n, y, hy⟩ := trod_field he hfs h hi
  rw [hc] at hy
  obtain ⟨z, e, _⟩ := DataW.trod_int hu hy
  exact ⟨z, e⟩

theorem trod_cond {fuel : Nat} {cs : List Value} {x : DataW H × List MemPlace} (hl : cs.length = 3) (h : DataW.trod enc Tryd.prog w base spare held fuel 67 cs = some x) : ∃ a : TCond, condR a cs := by
  have hfs : (Tryd.prog.underlying 67).map (fun d => match d with | .struct fs => fs.map (fun f => (f.type, f.offset)) | _ => #[]) = some #[(3, 0), (3, 1), (3, 2)] := by kernel_rfl
  obtain ⟨fs, he⟩ : ∃ fs, Tryd.prog.underlying 67 = some (.struct fs) := ⟨_, Tryd.underlying67⟩
  rw [he] at hfs
  simp only [Option.map_some, Option.some.injEq] at hfs
  have hc : Tryd.prog.cellsOf 3 = 1 := by kernel_rfl
  obtain ⟨n0, e0⟩ := trod_field_int (i := 0) he hfs h rfl Tryd.underlying3 hc
  obtain ⟨n1, e1⟩ := trod_field_int (i := 1) he hfs h rfl Tryd.underlying3 hc
  obtain ⟨n2, e2⟩ := trod_field_int (i := 2) he hfs h rfl Tryd.underlying3 hc
  match cs, hl with
  | [c0, c1, c2], _ =>
    simp at e0 e1 e2
    exact ⟨⟨n0, n1, n2⟩, by simp [condR, e0, e1, e2]⟩
theorem trod_rule {fuel : Nat} {cs : List Value} {x : DataW H × List MemPlace} (hl : cs.length = 2) (h : DataW.trod enc Tryd.prog w base spare held fuel 65 cs = some x) : ∃ a : TRule, ruleR w (fun _ => True) a cs := by
  have hfs : (Tryd.prog.underlying 65).map (fun d => match d with | .struct fs => fs.map (fun f => (f.type, f.offset)) | _ => #[]) = some #[(63, 0), (3, 1)] := by kernel_rfl
  obtain ⟨fs, he⟩ : ∃ fs, Tryd.prog.underlying 65 = some (.struct fs) := ⟨_, Tryd.underlying65⟩
  rw [he] at hfs
  simp only [Option.map_some, Option.some.injEq] at hfs
  obtain ⟨n1, e1⟩ := trod_field_int (i := 1) he hfs h rfl Tryd.underlying3 (by kernel_rfl)
  obtain ⟨n, y, hy⟩ := trod_field (i := 0) he hfs h rfl
  have hc : Tryd.prog.cellsOf 63 = 1 := by kernel_rfl
  rw [hc] at hy
  obtain ⟨v, xs, hcs, hsl⟩ := sl_of_trod (sz := 3) Tryd.underlying63 (by kernel_rfl) (by omega) (fun _ _ _ hl hx => trod_cond hl hx) hy
  match cs, hl with
  | [c0, c1], _ =>
    simp at e1 hcs
    exact ⟨⟨xs, n1⟩, v, by rw [hcs, e1], hsl⟩
theorem trod_pol {fuel : Nat} {cs : List Value} {x : DataW H × List MemPlace} (hl : cs.length = 2) (h : DataW.trod enc Tryd.prog w base spare held fuel 44 cs = some x) : ∃ a : TPol, polR w (fun _ => True) a cs := by
  have hfs : (Tryd.prog.underlying 44).map (fun d => match d with | .struct fs => fs.map (fun f => (f.type, f.offset)) | _ => #[]) = some #[(42, 0), (3, 1)] := by kernel_rfl
  obtain ⟨fs, he⟩ : ∃ fs, Tryd.prog.underlying 44 = some (.struct fs) := ⟨_, Tryd.underlying44⟩
  rw [he] at hfs
  simp only [Option.map_some, Option.some.injEq] at hfs
  obtain ⟨n1, e1⟩ := trod_field_int (i := 1) he hfs h rfl Tryd.underlying3 (by kernel_rfl)
  obtain ⟨n, y, hy⟩ := trod_field (i := 0) he hfs h rfl
  have hc : Tryd.prog.cellsOf 42 = 1 := by kernel_rfl
  rw [hc] at hy
  obtain ⟨v, xs, hcs, hsl⟩ := sl_of_trod (sz := 2) Tryd.underlying42 (by kernel_rfl) (by omega) (fun _ _ _ hl hx => trod_rule hl hx) hy
  match cs, hl with
  | [c0, c1], _ =>
    simp at e1 hcs
    exact ⟨⟨xs, n1⟩, v, by rw [hcs, e1], hsl⟩

theorem open_pol {r : Reach} {b0 : Nat} {v : Value} {d : DataW H} {ps : List MemPlace}
    (hv : Value.okWide Tryd.prog w r b0 44 v) (h : DataW.Trod enc Tryd.prog w base spare held 44 v d ps) : ∃ (u : Value) (t : TPol), v = polV u t.dflt ∧ RdRules w (fun _ => True) u t.rules := by
  simp only [Value.okWide, Tryd.underlying44] at hv
  obtain ⟨cs, rfl, _⟩ := hv
  obtain ⟨fuel, hf⟩ := h
  obtain ⟨xs, m, _, _, hlen, _, _⟩ := DataW.trod_struct Tryd.underlying44 hf
  have hc : Tryd.prog.cellsOf 44 = 2 := by kernel_rfl
  rw [hc] at hlen
  obtain ⟨t, u, hcs, hr⟩ := trod_pol hlen hf
  obtain ⟨l⟩ := cs
  simp only [Value.cells] at hcs
  subst hcs
  exact ⟨u, t, rfl, hr⟩
theorem open_rules {r : Reach} {b0 : Nat} {v : Value} {d : DataW H} {ps : List MemPlace}
    (hv : Value.okWide Tryd.prog w r b0 42 v) (h : DataW.Trod enc Tryd.prog w base spare held 42 v d ps) : ∃ l, RdRules w (fun _ => True) v l := by
  obtain ⟨a, len, cap, rfl⟩ := okWide_slice Tryd.underlying42 hv
  obtain ⟨fuel, hf⟩ := h
  obtain ⟨v', xs, hcs, hsl⟩ := sl_of_trod (sz := 2) Tryd.underlying42 (by kernel_rfl) (by omega) (fun _ _ _ hl hx => trod_rule hl hx) hf
  simp [Value.cells] at hcs
  rw [hcs]
  exact ⟨xs, hsl⟩
theorem reach_slice {P : Program} {ts : List TypeId} {ds : List (DataW H)} {j bytes : Nat} {t e : TypeId} {d : DataW H} {a : Option Addr} {n c : Nat} {ps : List MemPlace} (hwt : (DataW.weightsEach P ts ds).all (· ≤ reachBytes) = true)
    (ht : ts[j]? = some t) (hd : ds[j]? = some d) (hu : P.underlying t = some (.slice e)) (hb : P.bytesOf e = bytes) (h : DataW.Trod enc P w base spare held t (.slice a n c) d ps) : n * bytes ≤ 140737488351232 := by
  obtain ⟨fuel, hf⟩ := h
  rcases open_slice hu hf with ⟨h0, _⟩ | ⟨a', len, cap, m, k, D, Pl, hcs, _, hl, _, _, hx, _⟩
  · simp [Value.cells] at h0
    obtain ⟨_, rfl, _⟩ := h0
    simp
  · simp [Value.cells] at hcs
    obtain ⟨_, rfl, _⟩ := hcs
    injection hx with hx _
    have := sized_slice hwt ht (hd.trans (congrArg some hx)) hu
    rw [hb] at this
    simp only [List.length_map, List.length_range] at this
    have h1 : n * bytes ≤ (n + (m - n)) * bytes := Nat.mul_le_mul_right _ (by omega)
    unfold reachBytes at this
    omega
end
end Go.Proofs.YtioeliocdbckbaaDoor
namespace Go.Proofs.YtioeliocdbckbaaDoor
open Go.ChangeShapes Go.WideShapes Go.ChangeAt Go.RowKit
variable {H : Type} {enc : TypeId × Value → H}

theorem law_wrap {a : Assume} {C : Checked} {os : Os} {f : FuncId} {fn : Func} {s : ChangeSpec} {conds : List PathCond} {apart fresh handsOn again : Bool} {X : World → Array Value → Prop}
    (hX : ∀ (w w' : World) (args : Array Value), w.heap = w'.heap → X w args → X w' args)
    (own : ownKnob C.prog.godebug = none) (started : os.Started) (noInit : C.prog.inits.idxOf? f = none) (hfn : C.prog.funcs[f]? = some fn)
    (witness : ∃ (w : World) (tape : Tape) (i : Input), w.os = os ∧ (w.forCall tape i).Shaped C.prog ∧ i.vars = [] ∧ Input.okWide C.prog (w.forCall tape i) .any w.heap.size f i ∧
      ((s.pre enc C.prog fn conds apart (w.forCall tape i).memory i.args ∧ X (w.forCall tape i).memory i.args) ∧ sizedMet enc C.prog fn (OpenSpec.ofChange s) apart (w.forCall tape i).memory i.args) ∧ a.holds C.prog (lone (Frame.enter C.prog f i.args .normal) [] (w.forCall tape i)))
    (contract : ∀ (W : World) (base : Nat) (args : Array Value) (ds gs : List (DataW H)) (before : List MemPlace),
      (∀ (j : Nat) t v, fn.params[j]? = some t → args[j]? = some v → Value.okWide C.prog W .any base t v) →
      DataW.Whole enc C.prog fn.params.toList s.vars apart W args.toList ds gs before →
      (DataW.weightsEach C.prog (fn.params.toList ++ s.plain.varTypes C.prog) (ds ++ gs)).all (· ≤ reachBytes) = true → X W args → W.ShapedOpen C.prog →
      Calls C.prog f args W fun e W' => ∃ v, e = .returned v ∧ s.post enc C.prog fn apart fresh handsOn again W args v W') :
    ReturnsInHanded a C os f .any (fun w args => (s.pre enc C.prog fn conds apart w args ∧ X w args) ∧ sizedMet enc C.prog fn (OpenSpec.ofChange s) apart w args) (s.post enc C.prog fn apart fresh handsOn again) := by
  refine returnsInHanded_of_calls own started noInit witness ?_
  intro w tape i _ hsh _ hok hpre _
  obtain ⟨_, _, _, fn', hfn', _, _, _, _, hval⟩ := hok
  have e : fn' = fn := Option.some.inj (hfn'.symm.trans hfn)
  subst e
  obtain ⟨⟨⟨ds, gs, before, hw, _⟩, hx⟩, hz⟩ := hpre
  have hw' := DataW.Whole.of_heap (w' := w.forCall tape i) (by rfl) hw
  refine (contract (w.forCall tape i) w.heap.size i.args ds gs before hval hw' (hz.weights hw) (hX _ _ _ (by rfl) hx) hsh).mono fun e W' ⟨v, he, hp⟩ => ?_
  subst he
  exact ChangeSpec.post_blind hp

theorem tabIs_of_reads {P : Program} {W : World} {name : String} {k : IntKind} {zs : List Int} {g : Nat} {t e : TypeId} {n : Nat}
    (hg : P.globalNamed name = some g) (hty : (P.globals[g]?).map (·.type) = some t) (ht : P.underlying t = some (.array n e)) (he : P.underlying e = some (.int k)) (hce : P.cellsOf e = 1) (hct : P.cellsOf t = n)
    (h : Lib.VarReads P W name (Lib.tabData k zs)) : Lib.TabIs P W name k zs := by
  obtain ⟨g', t', cs, fuel, p, hg', ht', hvar, hd⟩ := h
  obtain rfl := Option.some.inj (hg.symm.trans hg')
  obtain rfl := Option.some.inj (hty.symm.trans ht')
  unfold Lib.TabIs
  rw [hvar, ← Lib.cells_of_tab ht he hce hct hd]
theorem iface_of_reads {P : Program} {W : World} {name nm : String} {d : DataW Unit} {g : Nat} {t : TypeId} {ms : Array (String × TypeId)}
    (hg : P.globalNamed name = some g) (hty : (P.globals[g]?).map (·.type) = some t) (ht : P.underlying t = some (.interface ms))
    (h : Lib.VarReads P W name (.iface nm d)) : ∃ te pe, W.cell? ⟨g, 0, none⟩ = some (.iface te pe) := by
  obtain ⟨g', t', cs, fuel, p, hg', ht', hvar, hd⟩ := h
  obtain rfl := Option.some.inj (hg.symm.trans hg')
  obtain rfl := Option.some.inj (hty.symm.trans ht')
  cases fuel with
  | zero => simp [DataW.trod] at hd
  | succ fuel =>
    have : ∃ u v, cs.toList = [.iface u v] := by
      cases hcs : cs.toList with
      | nil => rw [hcs] at hd; simp [DataW.trod, ht] at hd
      | cons c r =>
        rw [hcs] at hd
        cases r with
        | cons _ _ => simp [DataW.trod, ht] at hd
        | nil => cases c <;> first | exact ⟨_, _, rfl⟩ | simp [DataW.trod, ht] at hd
    obtain ⟨u, v, hcs⟩ := this
    refine ⟨u, v, ?_⟩
    rw [World.var?_cell hg hvar 0, Array.eq_one_of_toList hcs]
    rfl

/-- what the listed variables hold, as the walks want it. -/
theorem laid_of {l : List (String × DataW Unit)} (hl : (l.all fun x => x.2.handleName?.isNone) = true) (h1 : ("internal/strconv.uint64pow10", Rows.laid_internal_strconv_uint64pow10) ∈ l)
    (h2 : ("strconv.ErrRange", Rows.laid_strconv_ErrRange) ∈ l) (h3 : ("strconv.ErrSyntax", Rows.laid_strconv_ErrSyntax) ∈ l)
    {W : World} (hL : laidMetH Tryd.prog l W) (hsh : W.ShapedOpen Tryd.prog) : Laid W := by
  rw [MakeChecks.laidMetH_plain _ _ _ hl] at hL
  exact {
    ml := cell_of_shapedOpen_int (zero := #[.int .i64 0]) hsh (by decide +kernel) (by kernel_rfl) (by kernel_rfl) (by kernel_rfl) (by kernel_rfl) Tryd.underlying3
    pow := tabIs_of_reads (g := 3) (t := 152) (n := 20) (by kernel_rfl) (by kernel_rfl) Tryd.underlying152 Tryd.underlying107 (by kernel_rfl) (by kernel_rfl) (Lib.laidMet.reads hL h1)
    syn := iface_of_reads (g := 1) (t := 111) (by kernel_rfl) (by kernel_rfl) Tryd.underlying111 (Lib.laidMet.reads hL h3)
    rng := iface_of_reads (g := 2) (t := 111) (by kernel_rfl) (by kernel_rfl) Tryd.underlying111 (Lib.laidMet.reads hL h2) }
end Go.Proofs.YtioeliocdbckbaaDoor
namespace Go.Proofs.YtioeliocdbckbaaDoor
open Go.RowKit Go.ChangeShapes Go.WideShapes Go.Deep
set_option maxRecDepth 100000

theorem bulk_one {H : Type} (d : DataW H) : 1 ≤ Rows.uptoBulk d := by
  cases d with
  | lit l => cases l <;> simp [Rows.uptoBulk]
  | nil => simp [Rows.uptoBulk]
  | ptr d => simp [Rows.uptoBulk]
  | slice elems spare => simp [Rows.uptoBulk]
  | agg parts => simp [Rows.uptoBulk]
  | iface t d => simp [Rows.uptoBulk]
  | map entries => simp [Rows.uptoBulk]
  | held h => simp [Rows.uptoBulk]
theorem bulk_part {H : Type} {d : DataW H} {l : List (DataW H)} (h : d ∈ l) : Rows.uptoBulk d ≤ Rows.uptoBulkAll l := by
  induction l with
  | nil => cases h
  | cons x r ih =>
    simp only [Rows.uptoBulkAll]
    cases List.mem_cons.1 h with
    | inl e => subst e; omega
    | inr e => have := ih e; omega
theorem bulk_sum {H α : Type} {wt : α → Nat} : ∀ (xs : List α) (ds : List (DataW H)), xs.length = ds.length → (∀ (i : Nat) (x : α), xs[i]? = some x → ∃ d, ds[i]? = some d ∧ wt x ≤ Rows.uptoBulk d) → (xs.map wt).sum ≤ Rows.uptoBulkAll ds
  | [], [], _, _ => by simp [Rows.uptoBulkAll]
  | [], _ :: _, h, _ => by cases h
  | _ :: _, [], h, _ => by cases h
  | x :: xs, d :: ds, h, hw => by
    have ih := bulk_sum xs ds (by simpa using h) (fun i y hy => by simpa using hw (i + 1) y (by simpa using hy))
    obtain ⟨d', hd, h1⟩ := hw 0 x rfl
    simp at hd
    subst hd
    simp only [List.map_cons, List.sum_cons, Rows.uptoBulkAll]
    omega
section
variable {H : Type} {enc : TypeId × Value → H} {P : Program} {w : World} {base : Nat} {spare : Nat → Bool} {held : Bool}
theorem sl_of_trodW {α : Type} {t e : TypeId} {sz fuel : Nat} {R : α → List Value → Prop} {wt : α → Nat} {cs : List Value} {x : DataW H × List MemPlace} (ht : P.underlying t = some (.slice e)) (hC : P.cellsOf e = sz) (hsz : 0 < sz)
    (hR : ∀ n cs x, cs.length = sz → DataW.trod enc P w base spare held n e cs = some x → ∃ a : α, R a cs ∧ wt a ≤ Rows.uptoBulk x.1) (h : DataW.trod enc P w base spare held fuel t cs = some x) :
    ∃ (v : Value) (xs : List α), cs = [v] ∧ Sl w (fun _ => True) sz R v xs ∧ (xs.map wt).sum + 1 ≤ Rows.uptoBulk x.1 := by
  rcases open_slice ht h with ⟨h0, hx0⟩ | ⟨a, len, cap, m, n, D, Pl, hcs, hb, hl, hm, hmm, hxx, hi⟩
  · exact ⟨_, [], h0, ⟨none, 0, rfl, by simp, by unfold maxLen; omega, fun _ => rfl, fun h => absurd h (by simp)⟩, by rw [hx0]; simp [Rows.uptoBulk]⟩
  · have hlm : len ≤ m := by rw [hmm]; split <;> omega
    have hel : ∀ i, i < len → ∃ a' : α, (∃ cs' : List Value, cs'.length = sz ∧ R a' cs' ∧ ∀ j, j < sz → w.cell? ((a.add (i * sz)).add j) = cs'[j]?) ∧ wt a' ≤ Rows.uptoBulk (D i) := fun i hlt => by
      obtain ⟨cs', hc, ht'⟩ := hi i (by omega)
      rw [hC] at hc
      obtain ⟨_, hlen, hcell⟩ := World.cells?_some hc
      obtain ⟨a', ha', hw⟩ := hR _ _ _ hlen ht'
      exact ⟨a', ⟨cs', hlen, ha', hcell⟩, hw⟩
    obtain ⟨xs, hxl, hx⟩ := list_of_forall len hel
    refine ⟨_, xs, hcs, ⟨some a, cap, by rw [hxl], by omega, hm, (fun h => by cases h), fun h0 => ?_⟩, ?_⟩
    · have h00 : xs[0]? = some xs[0] := List.getElem?_eq_getElem h0
      obtain ⟨⟨cs0, hl0, _, hc0⟩, _⟩ := hx 0 _ h00
      have hc00 := hc0 0 hsz
      rw [List.getElem?_eq_getElem (by omega)] at hc00
      have hspot := World.cell?_spot hc00
      simp [Addr.add] at hspot
      obtain ⟨b, o, s⟩ := a
      dsimp only at hspot
      subst hspot
      refine ⟨b, o, rfl, trivial, ?_, fun i y hy => ?_⟩
      · have := World.block_lt_of_cell? _ _ hc00
        simpa [Addr.add] using this
      · obtain ⟨⟨cs', hl', hr', hc'⟩, _⟩ := hx i y hy
        refine ⟨cs', hl', hr', fun j u hu => ?_⟩
        have hj : j < sz := by rw [← hl']; exact (List.getElem?_eq_some_iff.1 hu).1
        rw [← hu, ← hc' j hj, add_form]
    · have hs := bulk_sum (wt := wt) xs ((List.range len).map D) (by simp [hxl]) (fun i y hy => ⟨D i, by
        have hi' : i < len := by rw [← hxl]; exact (List.getElem?_eq_some_iff.1 hy).1
        simp [hi'], (hx i y hy).2⟩)
      rw [hxx]
      simp only [Rows.uptoBulk]
      omega
theorem trod_fieldW {e : TypeId} {fs : Array Field} {l : Array (TypeId × Nat)} {fuel : Nat} {cs : List Value} {x : DataW H × List MemPlace} (he : P.underlying e = some (.struct fs)) (hfs : fs.map (fun f => (f.type, f.offset)) = l)
    (h : DataW.trod enc P w base spare held fuel e cs = some x) {i : Nat} {ty : TypeId} {off : Nat} (hi : l[i]? = some (ty, off)) : ∃ n y, DataW.trod enc P w base spare held n ty ((cs.drop off).take (P.cellsOf ty)) = some y ∧ Rows.uptoBulk y.1 + 1 ≤ Rows.uptoBulk x.1 := by
  obtain ⟨f, hf, rfl, rfl⟩ := field_at hfs hi
  obtain ⟨xs, m, _, hx, _, hxl, hg⟩ := DataW.trod_struct he h
  have hlt : i < xs.length := by rw [hxl]; exact (Array.getElem?_eq_some_iff.1 hf).1
  have := hg i f hf
  rw [List.getElem?_eq_getElem hlt] at this
  refine ⟨_, _, this, ?_⟩
  rw [hx]
  have := bulk_part (List.mem_map.2 ⟨xs[i], List.getElem_mem hlt, rfl⟩ : xs[i].1 ∈ xs.map (·.1))
  simp only [Rows.uptoBulk]
  omega
end
section
variable {H : Type} {enc : TypeId × Value → H} {w : World} {base : Nat} {spare : Nat → Bool} {held : Bool}
theorem trod_ruleW {fuel : Nat} {cs : List Value} {x : DataW H × List MemPlace} (hl : cs.length = 2) (h : DataW.trod enc Tryd.prog w base spare held fuel 65 cs = some x) : ∃ a : TRule, ruleR w (fun _ => True) a cs ∧ a.conds.length ≤ Rows.uptoBulk x.1 := by
  have hfs : (Tryd.prog.underlying 65).map (fun d => match d with | .struct fs => fs.map (fun f => (f.type, f.offset)) | _ => #[]) = some #[(63, 0), (3, 1)] := by kernel_rfl
  obtain ⟨fs, he⟩ : ∃ fs, Tryd.prog.underlying 65 = some (.struct fs) := ⟨_, Tryd.underlying65⟩
  rw [he] at hfs
  simp only [Option.map_some, Option.some.injEq] at hfs
  obtain ⟨n1, e1⟩ := trod_field_int (i := 1) he hfs h rfl Tryd.underlying3 (by kernel_rfl)
  obtain ⟨n, y, hy, hb⟩ := trod_fieldW (i := 0) he hfs h rfl
  have hc : Tryd.prog.cellsOf 63 = 1 := by kernel_rfl
  rw [hc] at hy
  obtain ⟨v, xs, hcs, hsl, hw⟩ := sl_of_trodW (sz := 3) (wt := fun _ : TCond => 1) Tryd.underlying63 (by kernel_rfl) (by omega) (fun _ _ x hl hx => by obtain ⟨a, ha⟩ := trod_cond hl hx; exact ⟨a, ha, bulk_one _⟩) hy
  have hlen : (xs.map (fun _ : TCond => 1)).sum = xs.length := by
    clear hsl hw hcs
    induction xs with
    | nil => rfl
    | cons a l ih => simp only [List.map_cons, List.sum_cons, ih, List.length_cons]; omega
  match cs, hl with
  | [c0, c1], _ =>
    simp at e1 hcs
    exact ⟨⟨xs, n1⟩, ⟨v, by rw [hcs, e1], hsl⟩, by show xs.length ≤ _; omega⟩
theorem trod_polW {fuel : Nat} {cs : List Value} {x : DataW H × List MemPlace} (hl : cs.length = 2) (h : DataW.trod enc Tryd.prog w base spare held fuel 44 cs = some x) : ∃ a : TPol, polR w (fun _ => True) a cs ∧ (polConds a).length + 1 ≤ Rows.uptoBulk x.1 := by
  have hfs : (Tryd.prog.underlying 44).map (fun d => match d with | .struct fs => fs.map (fun f => (f.type, f.offset)) | _ => #[]) = some #[(42, 0), (3, 1)] := by kernel_rfl
  obtain ⟨fs, he⟩ : ∃ fs, Tryd.prog.underlying 44 = some (.struct fs) := ⟨_, Tryd.underlying44⟩
  rw [he] at hfs
  simp only [Option.map_some, Option.some.injEq] at hfs
  obtain ⟨n1, e1⟩ := trod_field_int (i := 1) he hfs h rfl Tryd.underlying3 (by kernel_rfl)
  obtain ⟨n, y, hy, hb⟩ := trod_fieldW (i := 0) he hfs h rfl
  have hc : Tryd.prog.cellsOf 42 = 1 := by kernel_rfl
  rw [hc] at hy
  obtain ⟨v, xs, hcs, hsl, hw⟩ := sl_of_trodW (sz := 2) (wt := fun r : TRule => r.conds.length) Tryd.underlying42 (by kernel_rfl) (by omega) (fun _ _ _ hl hx => trod_ruleW hl hx) hy
  match cs, hl with
  | [c0, c1], _ =>
    simp at e1 hcs
    exact ⟨⟨xs, n1⟩, ⟨v, by rw [hcs, e1], hsl⟩, by unfold polConds; rw [List.length_flatMap]; show (xs.map _).sum + 1 ≤ _; omega⟩
theorem open_polsW {r : Reach} {b0 : Nat} {v : Value} {d : DataW H} {ps : List MemPlace}
    (hv : Value.okWide Tryd.prog w r b0 22 v) (h : DataW.Trod enc Tryd.prog w base spare held 22 v d ps) : ∃ l, RdPols w (fun _ => True) v l ∧ (l.flatMap polConds).length + l.length ≤ Rows.uptoBulk d := by
  obtain ⟨a, len, cap, rfl⟩ := okWide_slice Tryd.underlying22 hv
  obtain ⟨fuel, hf⟩ := h
  obtain ⟨v', xs, hcs, hsl, hw⟩ := sl_of_trodW (sz := 2) (wt := fun p : TPol => (polConds p).length + 1) Tryd.underlying22 (by kernel_rfl) (by omega) (fun _ _ _ hl hx => trod_polW hl hx) hf
  simp [Value.cells] at hcs
  rw [hcs]
  refine ⟨xs, hsl, ?_⟩
  have hs : (xs.map fun p : TPol => (polConds p).length + 1).sum = (xs.map fun p : TPol => (polConds p).length).sum + xs.length := by
    clear hw hsl hcs hf
    induction xs with
    | nil => rfl
    | cons p xs ih => simp only [List.map_cons, List.sum_cons, ih, List.length_cons]; omega
  rw [List.length_flatMap]
  dsimp only at hw
  omega
end
/-- how many cuts a list of policies can have. -/
theorem vals_conds (l : List TPol) (f : Int) : (cutVals l f).length ≤ 1 + 2 * (l.flatMap polConds).length := by
  have h1 : ∀ c : TCond, (condCuts f c).length ≤ 2 := fun c => by unfold condCuts; split <;> (try split) <;> simp
  have h2 : ∀ cs : List TCond, (cs.flatMap (condCuts f)).length ≤ 2 * cs.length := fun cs => by
    induction cs with
    | nil => simp
    | cons c cs ih => simp only [List.flatMap_cons, List.length_append, List.length_cons]; have := h1 c; omega
  have h3 : ∀ rs : List TRule, (rs.flatMap (ruleCuts f)).length ≤ 2 * (rs.flatMap fun r => r.conds).length := fun rs => by
    induction rs with
    | nil => simp
    | cons r rs ih => simp only [List.flatMap_cons, List.length_append]; have h5 : (ruleCuts f r).length ≤ 2 * r.conds.length := h2 r.conds; omega
  have h4 : (l.flatMap (polCuts f)).length ≤ 2 * (l.flatMap polConds).length := by
    induction l with
    | nil => simp
    | cons p l ih => simp only [List.flatMap_cons, List.length_append]; have h5 : (polCuts f p).length ≤ 2 * (polConds p).length := h3 p.rules; omega
  unfold cutVals
  simp only [List.length_cons]
  omega
section
variable {H : Type} {enc : TypeId × Value → H}
theorem witness_rowU {C : Checked} {os : Os} {f : FuncId} {fn : Func} {s : OpenSpec} {conds : List PathCond} {apart : Bool} {laid : List (String × DataW Unit)} (modest : Bool) (w0 : World) (args : Array Value) (hos : w0.os = os)
    (hsh : (w0.forCall (fun _ _ => 0) ⟨#[], args, []⟩).Shaped C.prog)
    (hok : Input.okWideB C.prog (w0.forCall (fun _ _ => 0) ⟨#[], args, []⟩) f ⟨#[], args, []⟩ = true)
    (hrow : s.preRow enc C.prog fn conds apart laid (w0.forCall (fun _ _ => 0) ⟨#[], args, []⟩).memory args) :
    ∃ (w : World) (tape : Tape) (i : Input), w.os = os ∧ (w.forCall tape i).Shaped C.prog ∧ i.vars = [] ∧ Input.okWide C.prog (w.forCall tape i) .any w.heap.size f i ∧
      s.preRow enc C.prog fn conds apart laid (w.forCall tape i).memory i.args ∧ ({ modest := modest } : Assume).holds C.prog (lone (Frame.enter C.prog f i.args .normal) [] (w.forCall tape i)) :=
  ⟨w0, fun _ _ => 0, ⟨#[], args, []⟩, hos, hsh, (Input.okWide_of_okWideB (base := 0) hok).1, (Input.okWide_of_okWideB hok).2, hrow, by
    simp only [Assume.holds]
    exact ⟨by simp, by simp, fun _ => Modest.zero, by simp, by simp⟩⟩
end
end Go.Proofs.YtioeliocdbckbaaDoor
namespace Go.Proofs.YtioeliocdbckbaaDoor
open Go.RowKit
attribute [local go_sem] gives givesUpon

set_option maxRecDepth 100000 in
set_option maxHeartbeats 1000000 in
theorem rccall_any (x : TCall) (w : World) : Calls Tryd.prog 14 #[callV x] w fun e w' => e = .returned (.int .i64 (callE x)) ∧ Below w.heap.size w w' := by
  go_enter Tryd.func14, Tryd.ntmps14
  go_wp2_with fail
  go_loopw [4] (fun i wr => ∃ k : Nat, k ≤ 5 ∧ i = .int .i64 k ∧ Hid (okTo x k) ∧ Below (w.heap.size + 1) (w.alloc (.cells #[.int .i64 x.a0, .int .i64 x.a1, .int .i64 x.a2, .int .i64 x.a3, .int .i64 x.a4] 24)) wr) (fun i _ => 5 - (intOf i).toNat)
  case atStart => exact ⟨0, by omega, rfl, fun j hj => absurd hj (by omega), Below.refl _ _⟩
  case round =>
    obtain ⟨k, hk, rfl, hok, hb⟩ := hrel
    have hbel : Below w.heap.size w wr := (bel_alloc (Below.refl _ _) _).trans (hb.mono (by omega))
    have Hb := Lib.hid hbel
    have hsz : w.heap.size + 1 ≤ wr.heap.size := by have := hb.size; simp at this; omega
    clear hbel
    by_cases hlt : k < 5
    · have hc : ∀ W, Cls (w.heap.size + 1) wr W → W.cell? ⟨w.heap.size, k, none⟩ = some (.int .i64 (x.get k)) := fun W hW => by
        rw [hW.2.cell (p := ⟨w.heap.size, k, none⟩) (by simp), hb.cell (p := ⟨w.heap.size, k, none⟩) (by simp), World.cell?_alloc_at _ _ _ _ rfl]
        exact cell5 x k hlt
      have Hc := Lib.hid hc
      clear hc
      go_wp2_with fail
      refine wp_region_exact (w.heap.size + 1) hsz (by kernel_rfl) (by kernel_rfl) ?_
      repeat (refine monoE_step (fun K hK => ?_); apply Exists.intro; refine ⟨fun W hC R hR => ?_, ?_⟩; (first
        | (have := Hc.out W hC; go_simp; exact hR _ _ (Below.refl _ _) rfl)
        | (go_simp; go_at_call 32; refine (mostof_any _ _).mono ?_; rintro e w1 ⟨rfl, hb1⟩; exact ⟨_, rfl, hR _ _ hb1 rfl⟩)
        | (go_simp; go_at_call 31; refine (in_any _ _ _ _).mono ?_; rintro e w1 ⟨rfl, rfl⟩; exact ⟨_, rfl, hR _ _ (Below.refl _ _) rfl⟩)); (go_simp; refine hK _ ?_; clear hK K))
      intro w2 hC2
      have fin : ∀ hr : ¬ (0 ≤ x.get k ∧ x.get k ≤ mostOf k), Ending.returned (.int .i64 3) = .returned (.int .i64 (callE x)) ∧ Below w.heap.size w w2 := fun hr => ⟨ret_int (okTo_not hlt hr).symm, Hb.out.trans (hC2.2.mono (by omega))⟩
      by_cases hr : 0 ≤ x.get k ∧ x.get k ≤ mostOf k
      · have hnx : okTo x (k + 1) := fun j hj => by
          by_cases e : j = k
          · subst e; exact hr
          · exact hok.out j (by omega)
        have Hnx := Lib.hid hnx
        have d := inB_yes hr.1 hr.2
        clear hnx fin hr
        simp only [d, Bool.not_true]
        go_wp2
        go_roundw
        case rel => exact ⟨k + 1, by omega, by go_num, Hnx, hb.trans hC2.2⟩
        case measure => simp [intOf]; omega
      · have Hf := Lib.hid (fin hr)
        have d := inB_no hr
        clear fin hr
        simp only [d, Bool.not_false]
        go_wp2
        go_ret
        exact Hf.out
    · obtain rfl : k = 5 := by omega
      go_wp2
      go_ret
      exact ⟨ret_int (okTo_all hok.out).symm, Hb.out⟩
end Go.Proofs.YtioeliocdbckbaaDoor
