/- Walk: slices.Delete of one element, at Rule, of a row of the call's own. No condition. -/
import Derived.Test.YtlhhomimcnjnfaaDoorCloneRule
import Derived.Deep.RegionLaw
import Derived.Deep.Upon
import Derived.Laws.IdiomCopy
import Derived.Deep.MidRow
namespace Go.Proofs.YtlhhomimcnjnfaaDoor
open Go.RowKit

theorem heap_setCells (g : Nat) : ∀ (vs : List Value) (o : Nat) (w : World), (w.setCells g o vs).os = w.os ∧ (w.setCells g o vs).tape = w.tape ∧ (w.setCells g o vs).output = w.output ∧ (w.setCells g o vs).heap.size = w.heap.size ∧ ∀ b, b ≠ g → (w.setCells g o vs).heap[b]? = w.heap[b]?
  | [], _, _ => ⟨rfl, rfl, rfl, rfl, fun _ _ => rfl⟩
  | v :: vs, o, w => by
    obtain ⟨h1, h2, h3, h4, h5⟩ := heap_setCells g vs (o + 1) (w.setCell ⟨g, o, none⟩ v)
    exact ⟨h1, h2, h3, h4.trans (set_size _ _ _), fun b hb => (h5 b hb).trans (set_other hb)⟩
theorem below_setCells {B g o : Nat} {vs : List Value} {w W : World} (h : Below B w W) (hb : B ≤ g) : Below B w (W.setCells g o vs) := by
  obtain ⟨h1, h2, h3, h4, h5⟩ := heap_setCells g vs o W
  exact h.trans ⟨h1, h2, h3, by rw [h4]; exact Nat.le_refl _, fun b hlt => h5 b (by omega)⟩
theorem blk_setCells {g : Nat} {T : TypeId} {fr : Nat × Nat} : ∀ (vs : List Value) (o : Nat) (w : World) (cur : Array Value), w.heap[g]? = some (.cells cur T fr) → ∃ cur' : Array Value, cur'.size = cur.size ∧ (w.setCells g o vs).heap[g]? = some (.cells cur' T fr)
  | [], _, _, cur, h => ⟨cur, rfl, h⟩
  | v :: vs, o, w, cur, h => by
    obtain ⟨cur', h1, h2⟩ := blk_setCells vs (o + 1) (w.setCell ⟨g, o, none⟩ v) _ (set_at h)
    exact ⟨cur', by simpa using h1, h2⟩
theorem run_clear_one (W : World) (ty : TypeId) (b o c : Nat) (hc : ∀ j, j < 2 → (W.cell? ⟨b, o + j, none⟩).isSome = true) (hf : ∀ j, j < 2 → W.frozen? ⟨b, o + j, none⟩ = false) :
    (Builtin.clear_ #[22] ty #[.slice (some ⟨b, o, none⟩) 1 c]).run Tryd.prog W = .ok (.tuple #[]) (W.setCells b o [.slice none 0 0, .int .i64 0]) := by
  have hz : ∀ w, (zeroValue 41).run Tryd.prog w = .ok (.agg #[.slice none 0 0, .int .i64 0]) w := fun w => by kernel_rfl
  have hzc : (Builtin.zeroCells (Value.agg #[.slice none 0 0, .int .i64 0]).cells 1).toList = [.slice none 0 0, .int .i64 0] := by simp [Builtin.zeroCells, Value.cells, Array.range]
  have hst := run_storeCells_cells (P := Tryd.prog) b o [.slice none 0 0, .int .i64 0] 0 W (by simpa using hc) (by simpa using hf) (by intro v hv; simp at hv; rcases hv with rfl | rfl <;> rfl)
  simp only [Nat.add_zero] at hst
  simp [Builtin.clear_, run_underlying Tryd.underlying22, hz, hzc, hst]

set_option maxHeartbeats 4000000 in
set_option maxRecDepth 1000000 in
theorem deleteRule_any {α : Type} {R : α → List Value → Prop} (h1R : ∀ (y : α) (cs : List Value), R y cs → ∀ c ∈ cs, c.oneCell' = true) (s : Value) (xs : List α) (base i : Nat) (w : World) (hown : OwnSl w base 41 2 R s xs) (hi : i < xs.length) :
    Calls Tryd.prog 20 #[s, .int .i64 i, .int .i64 ((i : Int) + 1)] w fun e w' => ∃ v', e = .returned v' ∧ OwnSl w' base 41 2 R v' (xs.take i ++ xs.drop (i + 1)) ∧ w.grownBy w' s.ownBlock := by
  obtain ⟨i0, hi0, hz0, hz1, hz2⟩ := info_parts infocRule
  obtain ⟨rows, hr, h1, h2⟩ := hown
  rcases h2 with ⟨_, hn⟩ | ⟨g, cap, cur, rfl, hg, hh, hnc, hcm, hcs, htk⟩
  · omega
  obtain ⟨q, hn⟩ : ∃ q, xs.length = i + q + 1 := ⟨xs.length - (i + 1), by omega⟩
  rw [hn] at h1 hi hnc htk ⊢
  unfold maxLen at hcm
  have hne : ((i : Int) == (i : Int) + 1) = false := beq_eq_false_iff_ne.2 (by omega)
  have hwr : IntKind.i64.wrap ((i : Int) + 1) = (i : Int) + 1 := by rw [IntKind.wrap_i64]; omega
  have hp0 : (0 : Int) ≤ (i : Int) + 1 := by omega
  have hp2 : ((i : Int) + 1).toNat = i + 1 := by omega
  have hp4 : ((i + q + 1 : Nat) : Int).toNat = i + q + 1 := by omega
  have hp5 : ((i + q : Nat) : Int).toNat = i + q := by omega
  have hp6 : ((i : Int) + (q : Int)).toNat = i + q := by omega
  have hp7 : ((i : Int) + (q : Int) + 1).toNat = i + q + 1 := by omega
  have hp8 : i + q + 1 - (i + 1) = q := by omega
  have hp9 : i + q + 1 - (i + q) = 1 := by omega
  have hpa : (i : Int) ≤ (i : Int) + (q : Int) := by omega
  have Hh := Lib.hid hh
  have Ht := Lib.hid htk
  have Hr := Lib.hid hr
  have Hi := Lib.hid hi0
  have Hn := Lib.hid hn
  have H1 := Lib.hid h1
  clear hh htk hr hi0 hn h1
  obtain ⟨news, hnews⟩ : ∃ news, rows.flatten.drop ((i + 1) * 2) = news := ⟨_, rfl⟩
  have hnl : news.length = q * 2 := by rw [← hnews, List.length_drop, H1.out]; omega
  have hget : ∀ t u, news[t]? = some u → w.cell? ⟨g, (i + 1) * 2 + t, none⟩ = some u := fun t u hu => by
    have ht : t < q * 2 := by rw [← hnl]; exact (List.getElem?_eq_some_iff.1 hu).1
    rw [← hnews, List.getElem?_drop, ← Ht.out, List.getElem?_take_of_lt (by omega)] at hu
    rw [cells_of Hh.out]
    simpa using hu
  obtain ⟨A, hA, hsrc⟩ : ∃ A : Addr, (if cap = i + 1 then some (⟨g, 0, none⟩ : Addr) else some ⟨g, (i + 1) * 2, none⟩) = some A ∧ Hid (∀ t u, news[t]? = some u → w.drew.cell? (A.add t) = some u) := by
    by_cases h : cap = i + 1
    · refine ⟨⟨g, 0, none⟩, by simp [h], fun t u hu => ?_⟩
      have h0 : news.length = 0 := by rw [hnl]; omega
      rw [List.length_eq_zero_iff.1 h0] at hu
      simp at hu
    · refine ⟨⟨g, (i + 1) * 2, none⟩, by simp [h], fun t u hu => ?_⟩
      have e : (⟨g, (i + 1) * 2, none⟩ : Addr).add t = ⟨g, (i + 1) * 2 + t, none⟩ := by unfold Addr.add; split <;> simp_all
      rw [e]; exact hget t u hu
  have s1 : Hid (news.length = q * 2) := hnl
  have s2 : Hid (∀ u ∈ news, u.oneCell' = true) := fun u hu => by
    rw [← hnews] at hu
    obtain ⟨r, hrm, hur⟩ := List.mem_flatten.1 (List.mem_of_mem_drop hu)
    obtain ⟨k, hk⟩ := List.getElem?_of_mem hrm
    have hkl : k < xs.length := by rw [← Hr.out.len]; exact (List.getElem?_eq_some_iff.1 hk).1
    exact h1R xs[k] r (Hr.out.rel k _ r (List.getElem?_eq_getElem hkl) hk) u hur
  have hthere : Hid (∀ t, t < cap * 2 → (w.drew.cell? ⟨g, t, none⟩).isSome = true ∧ w.drew.frozen? ⟨g, t, none⟩ = false) := fun t ht => by
    refine ⟨?_, not_frozen Hh.out _⟩
    show (w.cell? _).isSome = true
    rw [cells_of Hh.out, Array.getElem?_eq_getElem (by omega)]
    rfl
  have s3 : Hid (∀ t, t < news.length → (w.drew.cell? ⟨g, 0 + i * 2 + t, none⟩).isSome = true ∧ w.drew.frozen? ⟨g, 0 + i * 2 + t, none⟩ = false) := fun t ht => by
    rw [hnl] at ht
    exact hthere.out _ (by omega)
  have hic : i ≤ cap := by omega
  obtain ⟨W1, hW1⟩ : ∃ W1, W1 = w.drew.setCells g (0 + i * 2) news := ⟨_, rfl⟩
  have hthere1 : Hid (∀ t, t < cap * 2 → (W1.cell? ⟨g, t, none⟩).isSome = true ∧ W1.frozen? ⟨g, t, none⟩ = false) := fun t ht => by
    rw [hW1]
    exact ⟨World.isSome_setCells g _ _ _ _ (hthere.out t ht).1, by rw [World.frozen?_setCells]; exact (hthere.out t ht).2⟩
  have hcl := fun ty => run_clear_one W1 ty g ((i + q) * 2) (cap - (i + q)) (fun j hj => (hthere1.out _ (by omega)).1) (fun j hj => (hthere1.out _ (by omega)).2)
  have HW1 := Lib.hid hW1
  have Hnews := Lib.hid hnews
  have Hnl := Lib.hid hnl
  clear hW1 hnews hnl hget
  go_enter Tryd.func20, Tryd.ntmps20
  go_wp2_with fail
  go_region_law (refine step_append_room rfl (.tmp 22) (.tmp 25) 22 rfl 41 i0 2 Tryd.underlying22 Hi.out hz1 g 0 i cap (by simp [Act.eval, Act.put]) A q (cap - (i + 1)) news (by simp [Act.eval, Act.put]) s1.out hsrc.out s2.out (by omega) s3.out ?_; rw [← HW1.out])
  go_wp2
  go_ret
  have hold : ∀ t, t < (i + q + 1) * 2 → w.cell? ⟨g, t, none⟩ = rows.flatten[t]? := fun t ht => by
    rw [cells_of Hh.out, ← Ht.out, List.getElem?_take_of_lt ht, Array.getElem?_toList]
  have hlt : ∀ t, t < cap * 2 → (w.cell? ⟨g, t, none⟩).isSome = true := fun t ht => (hthere.out t ht).1
  have hlow : ∀ t, t < i * 2 → (W1.setCells g ((i + q) * 2) [.slice none 0 0, .int .i64 0]).cell? ⟨g, t, none⟩ = rows.flatten[t]? := fun t ht => by
    rw [World.cell?_setCells_out g _ _ _ _ (fun _ _ => .inl (by show t < _; omega)), HW1.out, World.cell?_setCells_out g _ _ _ _ (fun _ _ => .inl (by show t < _; omega))]
    exact hold t (by omega)
  have hhigh : ∀ t, t < q * 2 → (W1.setCells g ((i + q) * 2) [.slice none 0 0, .int .i64 0]).cell? ⟨g, i * 2 + t, none⟩ = rows.flatten[(i + 1) * 2 + t]? := fun t ht => by
    have hl : t < news.length := by rw [s1.out]; exact ht
    have h1 := World.cell?_setCells_in g news (0 + i * 2) w.drew (fun j hj => (s3.out j hj).1) t hl
    rw [World.cell?_setCells_out g _ _ _ _ (fun _ _ => .inl (by show i * 2 + t < _; omega)), HW1.out, show i * 2 + t = 0 + i * 2 + t by omega, h1, ← List.getElem?_eq_getElem hl, ← Hnews.out, List.getElem?_drop]
  have hlen : (xs.take i ++ xs.drop (i + 1)).length = i + q := by have := Hn.out; simp; omega
  obtain ⟨c1, hs1, hb1⟩ := blk_setCells news (0 + i * 2) w.drew cur Hh.out
  rw [← HW1.out] at hb1
  obtain ⟨c2, hs2, hb2⟩ := blk_setCells [.slice none 0 0, .int .i64 0] ((i + q) * 2) W1 c1 hb1
  have hn' := Hn.out
  have hi' : (rows.take i).length = i := by rw [List.length_take, Hr.out.len]; omega
  have hf1 : (rows.take i).flatten = rows.flatten.take (i * 2) := by
    have e : rows.flatten = (rows.take i).flatten ++ (rows.drop i).flatten := by rw [← List.flatten_append, List.take_append_drop]
    have hl : (rows.take i).flatten.length = i * 2 := by rw [flat_len _ (fun r hr => Hr.out.size r (List.mem_of_mem_take hr)), hi']
    rw [e, List.take_left' hl]
  have hf2 : (rows.drop (i + 1)).flatten = rows.flatten.drop ((i + 1) * 2) := by
    have e : rows.flatten = (rows.take (i + 1)).flatten ++ (rows.drop (i + 1)).flatten := by rw [← List.flatten_append, List.take_append_drop]
    have hl : (rows.take (i + 1)).flatten.length = (i + 1) * 2 := by rw [flat_len _ (fun r hr => Hr.out.size r (List.mem_of_mem_take hr)), List.length_take, Hr.out.len]; congr 1; omega
    rw [e, List.drop_left' hl]
  have hrows : RowsOf 2 R (xs.take i ++ xs.drop (i + 1)) (rows.take i ++ rows.drop (i + 1)) := by
    refine RowsOf.app ⟨by simp [Hr.out.len], fun r hr => Hr.out.size r (List.mem_of_mem_take hr), fun k x r hx hr => ?_⟩ ⟨by simp [Hr.out.len], fun r hr => Hr.out.size r (List.mem_of_mem_drop hr), fun k x r hx hr => ?_⟩
    · have hk : k < i := by have := (List.getElem?_eq_some_iff.1 hx).1; simp at this; omega
      rw [List.getElem?_take_of_lt hk] at hx hr
      exact Hr.out.rel k x r hx hr
    · rw [List.getElem?_drop] at hx hr
      exact Hr.out.rel _ x r hx hr
  have hfl : (rows.take i ++ rows.drop (i + 1)).flatten.length = (i + q) * 2 := by rw [flat_len _ hrows.size, hrows.len, hlen]
  refine ⟨.slice (some ⟨g, 0, none⟩) (i + q) cap, rfl, ⟨rows.take i ++ rows.drop (i + 1), hrows, by rw [hlen, hfl], .inr ⟨g, cap, c2, by rw [hlen], hg, hb2, by rw [hlen]; omega, hcm, by rw [hs2, hs1, hcs], ?_⟩⟩, ?_⟩
  · rw [hlen]
    apply List.ext_getElem?
    intro t
    by_cases ht : t < (i + q) * 2
    · rw [List.getElem?_take_of_lt ht, Array.getElem?_toList, ← cells_of hb2, List.flatten_append, hf1, hf2]
      have hl1 : (rows.flatten.take (i * 2)).length = i * 2 := by rw [List.length_take, H1.out]; omega
      by_cases hti : t < i * 2
      · rw [hlow t hti, List.getElem?_append_left (by omega), List.getElem?_take_of_lt hti]
      · obtain ⟨m, rfl⟩ : ∃ m, t = i * 2 + m := ⟨t - i * 2, by omega⟩
        rw [hhigh m (by omega), List.getElem?_append_right (by omega), hl1, List.getElem?_drop, show i * 2 + m - i * 2 = m by omega]
    · rw [List.getElem?_eq_none (by rw [List.length_take]; omega), List.getElem?_eq_none (by omega)]
  · obtain ⟨h1, h2, h3, h4, h5⟩ := heap_setCells g [.slice none 0 0, .int .i64 0] ((i + q) * 2) W1
    obtain ⟨k1, k2, k3, k4, k5⟩ := heap_setCells g news (0 + i * 2) w.drew
    rw [← HW1.out] at k1 k2 k3 k4 k5
    exact ⟨h1.trans k1, h2.trans k2, h3.trans k3, by rw [h4, k4]; exact Nat.le_refl _, fun k _ hk => by
      have hkg : k ≠ g := fun e => hk (by rw [e]; rfl)
      exact (h5 k hkg).trans (k5 k hkg)⟩
end Go.Proofs.YtlhhomimcnjnfaaDoor
