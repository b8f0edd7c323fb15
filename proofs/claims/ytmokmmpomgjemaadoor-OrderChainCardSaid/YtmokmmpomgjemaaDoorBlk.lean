/- A slice over a block that is known whole reads as a list. No condition. -/
import Derived.Test.YtmokmmpomgjemaaDoorOwn
import Derived.Laws.IdiomCopy
namespace Go.Proofs.YtmokmmpomgjemaaDoor
open Go.RowKit

theorem RowsOf.cons {α : Type} {sz : Nat} {R : α → List Value → Prop} {x : α} {xs : List α} {r : List Value} {rows : List (List Value)} (h : RowsOf sz R xs rows) (hx : R x r) (hl : r.length = sz) : RowsOf sz R (x :: xs) (r :: rows) := by
  refine ⟨by simp [h.len], fun t ht => ?_, fun i y t hy ht => ?_⟩
  · rcases List.mem_cons.1 ht with rfl | ht
    · exact hl
    · exact h.size t ht
  · cases i with
    | zero => simp at hy ht; subst hy ht; exact hx
    | succ i => exact h.rel i y t (by simpa using hy) (by simpa using ht)
theorem sl_block {α : Type} {w : World} {D : Nat → Prop} {sz b : Nat} {R : α → List Value → Prop} {xs : List α} {rows : List (List Value)} {cs : List Value} {T : TypeId} {fr : Nat × Nat} (hr : RowsOf sz R xs rows)
    (hb : w.heap[b]? = some (.cells cs.toArray T fr)) (hcs : cs = rows.flatten) (hD : D b) (hm : xs.length ≤ maxLen) : Sl w D sz R (.slice (some ⟨b, 0, none⟩) xs.length xs.length) xs := by
  refine ⟨some ⟨b, 0, none⟩, xs.length, rfl, Nat.le_refl _, hm, (fun h => by cases h), fun _ => ⟨b, 0, rfl, hD, (Array.getElem?_eq_some_iff.1 hb).1, fun i x hx => ?_⟩⟩
  have hi : i < rows.length := by rw [hr.len]; exact (List.getElem?_eq_some_iff.1 hx).1
  have hri : rows[i]? = some rows[i] := List.getElem?_eq_getElem hi
  have hsz := hr.size _ (List.getElem_mem hi)
  refine ⟨rows[i], hsz, hr.rel i x _ hx hri, fun j u hu => ?_⟩
  have hj : j < sz := by rw [← hsz]; exact (List.getElem?_eq_some_iff.1 hu).1
  have h1 := flat_get rows i _ hr.size hri j hj
  rw [hu, ← hcs] at h1
  simp only [World.cell?, hb, Nat.zero_add]
  simpa using h1
theorem Sl.at_ {α : Type} {w : World} {D : Nat → Prop} {sz n c : Nat} {a : Option Addr} {R : α → List Value → Prop} {xs : List α} (h : Sl w D sz R (.slice a n c) xs) (h0 : 0 < xs.length) : ∃ b o, a = some ⟨b, o, none⟩ ∧ D b ∧ b < w.heap.size := by
  obtain ⟨a', c', hv, _, _, _, hat⟩ := h
  injection hv with h1 _ _
  subst h1
  obtain ⟨b, o, ha, hD, hb, _⟩ := hat h0
  exact ⟨b, o, ha, hD, hb⟩
theorem Sl.monoD {α : Type} {w : World} {D D' : Nat → Prop} {sz : Nat} {R : α → List Value → Prop} {v : Value} {xs : List α} (h : Sl w D sz R v xs) (hD : ∀ b, D b → D' b) : Sl w D' sz R v xs :=
  Sl.mono h (fun b hb _ => hD b hb) (fun _ _ _ => rfl) (Nat.le_refl _) (fun _ _ _ h => h)
theorem Sl.belowR {α : Type} {w w' : World} {D : Nat → Prop} {sz : Nat} {R R' : α → List Value → Prop} {v : Value} {xs : List α} (h : Sl w D sz R v xs) (hb : Below w.heap.size w w') (hR : ∀ x ∈ xs, ∀ cs, R x cs → R' x cs) : Sl w' D sz R' v xs :=
  Sl.mono h (fun _ h _ => h) (fun b _ hlt => hb.block b hlt) hb.size hR
/-! ### stores into a block that is known whole -/
theorem set_at {W : World} {b o : Nat} {cs : Array Value} {T : TypeId} {fr : Nat × Nat} {v : Value} (h : W.heap[b]? = some (.cells cs T fr)) : (W.setCell ⟨b, o, none⟩ v).heap[b]? = some (.cells (cs.setIfInBounds o v) T fr) := by
  show (W.heap.modify b _)[b]? = _
  rw [Array.getElem?_modify, if_pos rfl, h]
  rfl
theorem set_other {W : World} {a : Addr} {v : Value} {k : Nat} (h : k ≠ a.block) : (W.setCell a v).heap[k]? = W.heap[k]? := by
  show (W.heap.modify a.block _)[k]? = _
  rw [Array.getElem?_modify, if_neg (fun e => h e.symm)]
theorem set_size (W : World) (a : Addr) (v : Value) : (W.setCell a v).heap.size = W.heap.size := by
  show (W.heap.modify a.block _).size = _
  rw [Array.size_modify]
theorem set_below {B : Nat} {w W : World} {a : Addr} {v : Value} (h : Below B w W) (hb : B ≤ a.block) : Below B w (W.setCell a v) :=
  h.trans ⟨rfl, rfl, rfl, by rw [set_size]; exact Nat.le_refl _, fun k hk => set_other (by omega)⟩
theorem not_frozen {W : World} {b : Nat} {cs : Array Value} {T : TypeId} (h : W.heap[b]? = some (.cells cs T)) (j : Nat) : W.frozen? ⟨b, j, none⟩ = false := by
  simp only [World.frozen?, h]; simp
theorem cells_of {W : World} {b : Nat} {cs : Array Value} {T : TypeId} {fr : Nat × Nat} (h : W.heap[b]? = some (.cells cs T fr)) (j : Nat) : W.cell? ⟨b, j, none⟩ = cs[j]? := by simp [World.cell?, h]

theorem heap_setCells (g : Nat) : ∀ (vs : List Value) (o : Nat) (w : World), (w.setCells g o vs).os = w.os ∧ (w.setCells g o vs).tape = w.tape ∧ (w.setCells g o vs).output = w.output ∧ (w.setCells g o vs).heap.size = w.heap.size ∧ ∀ b, b ≠ g → (w.setCells g o vs).heap[b]? = w.heap[b]?
  | [], _, _ => ⟨rfl, rfl, rfl, rfl, fun _ _ => rfl⟩
  | v :: vs, o, w => by
    obtain ⟨h1, h2, h3, h4, h5⟩ := heap_setCells g vs (o + 1) (w.setCell ⟨g, o, none⟩ v)
    exact ⟨h1, h2, h3, h4.trans (set_size _ _ _), fun b hb => (h5 b hb).trans (set_other hb)⟩
theorem below_setCells {B g o : Nat} {vs : List Value} {w W : World} (h : Below B w W) (hb : B ≤ g) : Below B w (W.setCells g o vs) := by
  obtain ⟨h1, h2, h3, h4, h5⟩ := heap_setCells g vs o W
  exact h.trans ⟨h1, h2, h3, by rw [h4]; exact Nat.le_refl _, fun b hlt => h5 b (by omega)⟩
theorem blk_setCells {g : Nat} {T : TypeId} {fr : Nat × Nat} : ∀ (vs : List Value) (o : Nat) (w : World) (cur : Array Value), w.heap[g]? = some (.cells cur T fr) → ∃ cur' : Array Value, cur'.size = cur.size ∧ (w.setCells g o vs).heap[g]? = some (.cells cur' T fr)
  | [], _, _, cur, h => ⟨cur, rfl, h⟩
  | v :: vs, o, w, cur, h => by
    obtain ⟨cur', h1, h2⟩ := blk_setCells vs (o + 1) (w.setCell ⟨g, o, none⟩ v) _ (set_at h)
    exact ⟨cur', by simpa using h1, h2⟩
end Go.Proofs.YtmokmmpomgjemaaDoor
