/- slices.Sort and slices.Compact at int over a row of the call's own; a sorted list made compact rises. No condition. -/
import Derived.Test.YtmokmmpomgjemaaDoorShelfSort
import Derived.Test.YtmokmmpomgjemaaDoorCuts0
import Derived.Lib.SlicesCompact
import Derived.Sort.OwnSortedInts
namespace Go.Proofs.YtmokmmpomgjemaaDoor
open Go.RowKit Go.Sort

theorem rows_ints : ∀ (l : List Int) (rows : List (List Value)), RowsOf 1 intR l rows → rows = l.map fun x => [Value.int .i64 x] := by
  intro l rows h
  apply List.ext_getElem?
  intro i
  rw [List.getElem?_map]
  rcases Nat.lt_or_ge i l.length with hi | hi
  · have hr : i < rows.length := by rw [h.len]; exact hi
    have := h.rel i l[i] rows[i] (List.getElem?_eq_getElem hi) (List.getElem?_eq_getElem hr)
    rw [List.getElem?_eq_getElem hi, List.getElem?_eq_getElem hr]
    exact congrArg some this
  · rw [List.getElem?_eq_none (by rw [h.len]; exact hi), List.getElem?_eq_none hi]; rfl
theorem flat_ints : ∀ l : List Int, (l.map fun x => [Value.int .i64 x]).flatten = l.map (Value.int .i64)
  | [] => rfl
  | x :: l => by simp [flat_ints l]
theorem OwnSl.ints {w : World} {base : Nat} {e : TypeId} {v : Value} {l : List Int} (h : OwnSl w base e 1 intR v l) : w.ownsRow base e 1 v l.length (l.map (Value.int .i64)) := by
  obtain ⟨rows, hr, ho⟩ := h
  rw [rows_ints l rows hr, flat_ints] at ho
  exact ho
theorem OwnSl.of_ints {w : World} {base : Nat} {e : TypeId} {v : Value} {l : List Int} (h : w.ownsRow base e 1 v l.length (l.map (Value.int .i64))) : OwnSl w base e 1 intR v l := by
  refine ⟨l.map fun x => [.int .i64 x], ⟨by simp, fun r hr => ?_, fun i x r hx hr => ?_⟩, by rw [flat_ints]; exact h⟩
  · obtain ⟨x, _, rfl⟩ := List.mem_map.1 hr; rfl
  · rw [List.getElem?_map, hx] at hr; simp at hr; exact hr.symm
/-- a row whose cells are put anew, its head read. -/
theorem put_ints {w : World} {base g cap q : Nat} {e : TypeId} {os : Array Obj} {cur : Array Value} {l ts : List Int} (hl : ts.length = l.length) (hbase : base ≤ g) (hb : w.heap[g]? = some (.cells cur e (0, 0))) (h1 : l.length ≤ cap) (h2 : cap ≤ maxLen) (h3 : cur.size = cap * 1) {m : Nat} (hm : m ≤ ts.length) :
    OwnSl (grow (putRow (Value.int .i64) (Sort.ahead w q) g 0 ts.toArray) os) base e 1 intR (.slice (some ⟨g, 0, none⟩) m cap) (ts.take m) := by
  have hlm : (ts.take m).length = m := by rw [List.length_take]; omega
  refine OwnSl.of_ints ⟨by simp, .inr ⟨g, cap, _, by rw [hlm], hbase, heap_sortedI _ hb, by omega, h2, by simp [putCells, h3], ?_⟩⟩
  rw [hlm, Nat.mul_one, List.map_take, ← take_putCellsI cur ts (by omega), List.take_take, Nat.min_eq_left hm]

theorem getElem!_int (zs : List Int) (j : Nat) (h : j < zs.length) : (zs.toArray)[j]! = zs[j] := by
  rw [getElem!_pos _ j (by simpa using h)]; simp
theorem compact_mem (zs : List Int) (x : Int) : x ∈ Lib.compact zs ↔ x ∈ zs := by
  unfold Lib.compact Lib.compactUpTo
  rw [List.mem_map]
  constructor
  · rintro ⟨j, hj, rfl⟩
    have hlt := List.mem_range.1 (List.mem_filter.1 hj).1
    rw [getElem!_int zs j hlt]; exact List.getElem_mem hlt
  · intro hx
    obtain ⟨j, hj, rfl⟩ := List.getElem_of_mem hx
    have key : ∀ (n j : Nat) (hj : j < zs.length), j ≤ n → ∃ a, a ∈ (List.range zs.length).filter (Lib.keeps zs.toArray) ∧ zs.toArray[a]! = zs[j] := by
      intro n
      induction n with
      | zero =>
        intro j hj hn
        obtain rfl : j = 0 := by omega
        exact ⟨0, List.mem_filter.2 ⟨List.mem_range.2 hj, Lib.keeps_lt_one _ 0 (by omega)⟩, getElem!_int zs 0 hj⟩
      | succ n ih =>
        intro j hj hn
        by_cases hk : Lib.keeps zs.toArray j = true
        · exact ⟨j, List.mem_filter.2 ⟨List.mem_range.2 hj, hk⟩, getElem!_int zs j hj⟩
        · have h0 : j ≠ 0 ∧ zs.toArray[j]! = zs.toArray[j - 1]! := by
            simp only [Lib.keeps, decide_eq_true_eq, not_or, Decidable.not_not] at hk
            exact hk
          obtain ⟨a, h1, h2⟩ := ih (j - 1) (by omega) (by omega)
          refine ⟨a, h1, ?_⟩
          rw [h2, ← getElem!_int zs (j - 1) (by omega), ← h0.2, getElem!_int zs j hj]
    exact key j j hj (Nat.le_refl _)
theorem compact_rising (zs : List Int) (hs : zs.Pairwise (· ≤ ·)) : Rising (Lib.compact zs) := by
  unfold Rising Lib.compact Lib.compactUpTo
  rw [List.pairwise_map]
  have h0 : (List.range zs.length).Pairwise (· < ·) := List.pairwise_lt_range
  have h1 : ((List.range zs.length).filter (Lib.keeps zs.toArray)).Pairwise (· < ·) := List.Pairwise.sublist List.filter_sublist h0
  refine List.Pairwise.imp_of_mem (fun {i j} hi hj hij => ?_) h1
  have hil := List.mem_range.1 (List.mem_filter.1 hi).1
  have hjl := List.mem_range.1 (List.mem_filter.1 hj).1
  have hk := (List.mem_filter.1 hj).2
  simp only [Lib.keeps, decide_eq_true_eq] at hk
  have hne : zs.toArray[j]! ≠ zs.toArray[j - 1]! := by rcases hk with h | h; omega; exact h
  rw [getElem!_int zs j hjl, getElem!_int zs (j - 1) (by omega)] at hne
  rw [getElem!_int zs i hil, getElem!_int zs j hjl]
  have a1 : zs[i] ≤ zs[j - 1] := by
    rcases Nat.lt_or_ge i (j - 1) with h | h
    · exact List.pairwise_iff_getElem.1 hs i (j - 1) hil (by omega) h
    · obtain rfl : i = j - 1 := by omega
      exact Int.le_refl _
  have a2 := List.pairwise_iff_getElem.1 hs (j - 1) j (by omega) hjl (by omega)
  omega
theorem sort_compact (vals : List Int) : Lib.compact (vals.mergeSort fun x y => decide (x ≤ y)) = setOf vals := by
  have hs : (vals.mergeSort fun x y => decide (x ≤ y)).Pairwise (· ≤ ·) := by
    have := List.pairwise_mergeSort (le := fun x y : Int => decide (x ≤ y)) (fun a b c h1 h2 => by simp at h1 h2 ⊢; omega) (fun a b => by simp; omega) vals
    exact this.imp (by intro a b h; simpa using h)
  refine rising_unique _ _ (compact_rising _ hs) (rising_setOf _) fun z => ?_
  rw [compact_mem, mem_setOf, List.mem_mergeSort]

set_option maxHeartbeats 1000000 in
theorem sortI_any (v : Value) (l : List Int) (base : Nat) (w : World) (hown : OwnSl w base 3 1 intR v l) (hl : l ≠ []) (hsz : l.length < 4611686018427387904) :
    Calls Tryd.prog 32 #[v] w fun e w' => e = .returned (.tuple #[]) ∧ OwnSl w' base 3 1 intR v (l.mergeSort fun x y => decide (x ≤ y)) ∧ w.grownBy w' v.ownBlock := by
  obtain ⟨h1, h2⟩ := hown.ints
  rcases h2 with ⟨_, h0⟩ | ⟨g, cap, cur, rfl, hg, hh, hnc, hcm, hcs, htk⟩
  · exact absurd (List.length_eq_zero_iff.1 h0) hl
  rw [Nat.mul_one] at htk
  refine (Tryd.slices_Sort_int g 0 cap l w (holds_of_blockI hh htk) (Array.getElem?_eq_some_iff.1 hh).1 hsz).mono ?_
  rintro e w' ⟨rfl, n, os, rfl⟩
  refine ⟨rfl, ?_, grownBy_sortedI _⟩
  have hml : (l.mergeSort fun x y => decide (x ≤ y)).length = l.length := List.length_mergeSort ..
  have := put_ints (q := n) (os := os) (base := base) (e := 3) hml hg hh hnc hcm hcs (m := l.length) (by omega)
  rwa [List.take_of_length_le (by omega)] at this
set_option maxHeartbeats 1000000 in
theorem compactI_any (v : Value) (l : List Int) (base : Nat) (w : World) (hown : OwnSl w base 3 1 intR v l) (hl : l ≠ []) (hsz : l.length ≤ 9223372036854775807) :
    Calls Tryd.prog 33 #[v] w fun e w' => ∃ v', e = .returned v' ∧ OwnSl w' base 3 1 intR v' (Lib.compact l) ∧ w.grownBy w' v.ownBlock ∧ v'.ownBlock = v.ownBlock := by
  obtain ⟨h1, h2⟩ := hown.ints
  rcases h2 with ⟨_, h0⟩ | ⟨g, cap, cur, rfl, hg, hh, hnc, hcm, hcs, htk⟩
  · exact absurd (List.length_eq_zero_iff.1 h0) hl
  rw [Nat.mul_one] at htk
  refine (Tryd.slices_Compact_int g 0 cap l w (holds_of_blockI hh htk) hsz hnc).mono ?_
  rintro e w' ⟨rfl, q, rfl⟩
  have hc : (Lib.compact l).length ≤ l.length := by
    unfold Lib.compact Lib.compactUpTo
    rw [List.length_map]
    exact Nat.le_trans (List.length_filter_le _ _) (by simp)
  obtain ⟨ts, hts⟩ : ∃ ts, ts = Lib.compact l ++ List.replicate (l.length - (Lib.compact l).length) 0 := ⟨_, rfl⟩
  have htl : ts.length = l.length := by rw [hts, List.length_append, List.length_replicate]; omega
  have := put_ints (q := q) (os := #[]) (base := base) (e := 3) htl hg hh hnc hcm hcs (m := (Lib.compact l).length) (by omega)
  have e1 : ts.take (Lib.compact l).length = Lib.compact l := by rw [hts]; exact List.take_left' rfl
  rw [e1, grow_empty] at this
  have e2 : (Lib.compact l ++ List.replicate (l.length - (Lib.compact l).length) 0).toArray = ts.toArray := by rw [hts]
  refine ⟨_, rfl, ?_, ?_, rfl⟩
  · rw [e2]; exact this
  · have := grownBy_sortedI (w := w) (g := g) (n := q) (os := #[]) (Lib.compact l ++ List.replicate (l.length - (Lib.compact l).length) 0).toArray
    rw [grow_empty] at this
    exact this
end Go.Proofs.YtmokmmpomgjemaaDoor
