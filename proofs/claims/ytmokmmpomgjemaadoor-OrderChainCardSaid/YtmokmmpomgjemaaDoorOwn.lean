/- Slices that the call itself appends to: a row of its own that reads as a list; append of whatever slice reads. No condition. -/
import Derived.Test.YtmokmmpomgjemaaDoorBase
import Derived.Laws.AppendOwnNone
import Derived.Lib.AppendZeros
namespace Go.Proofs.YtmokmmpomgjemaaDoor
open Go.RowKit

/-- Rows of a list: each its sz cells. -/
structure RowsOf {α : Type} (sz : Nat) (R : α → List Value → Prop) (xs : List α) (rows : List (List Value)) : Prop where
  len : rows.length = xs.length
  size : ∀ r ∈ rows, r.length = sz
  rel : ∀ (i : Nat) (x : α) (r : List Value), xs[i]? = some x → rows[i]? = some r → R x r
theorem RowsOf.nil {α : Type} {sz : Nat} {R : α → List Value → Prop} : RowsOf sz R ([] : List α) [] := ⟨rfl, (fun _ h => by cases h), (fun i x r h => by simp at h)⟩
theorem RowsOf.app {α : Type} {sz : Nat} {R : α → List Value → Prop} {xs ys : List α} {r s : List (List Value)} (h : RowsOf sz R xs r) (k : RowsOf sz R ys s) : RowsOf sz R (xs ++ ys) (r ++ s) := by
  refine ⟨by simp [h.len, k.len], fun t ht => ?_, fun i x t hx ht => ?_⟩
  · rcases List.mem_append.1 ht with ht | ht
    · exact h.size t ht
    · exact k.size t ht
  · rw [List.getElem?_append] at hx ht
    rw [h.len] at ht
    split at hx
    · rename_i hl; rw [if_pos hl] at ht; exact h.rel i x t hx ht
    · rename_i hl; rw [if_neg hl] at ht; exact k.rel _ x t hx ht
theorem RowsOf.mono {α : Type} {sz : Nat} {R R' : α → List Value → Prop} {xs : List α} {r : List (List Value)} (h : RowsOf sz R xs r) (hR : ∀ x ∈ xs, ∀ cs, R x cs → R' x cs) : RowsOf sz R' xs r :=
  ⟨h.len, h.size, fun i x t hx ht => hR x (List.mem_of_getElem? hx) t (h.rel i x t hx ht)⟩
theorem flat_len {sz : Nat} : ∀ (rows : List (List Value)), (∀ r ∈ rows, r.length = sz) → rows.flatten.length = rows.length * sz
  | [], _ => by simp
  | r :: rows, h => by
    rw [List.flatten_cons, List.length_append, flat_len rows (fun r hr => h r (List.mem_cons_of_mem _ hr)), h r (List.mem_cons_self ..), List.length_cons, Nat.add_mul]; omega
theorem flat_get {sz : Nat} : ∀ (rows : List (List Value)) (i : Nat) (r : List Value), (∀ r ∈ rows, r.length = sz) → rows[i]? = some r → ∀ j, j < sz → rows.flatten[i * sz + j]? = r[j]?
  | [], _, _, _, h => by simp at h
  | r0 :: rows, i, r, hs, h => fun j hj => by
    have h0 := hs r0 (List.mem_cons_self ..)
    cases i with
    | zero =>
      simp at h; subst h
      rw [List.flatten_cons, List.getElem?_append_left (by omega)]; simp
    | succ i =>
      have e : (i + 1) * sz + j = r0.length + (i * sz + j) := by rw [h0, Nat.add_mul]; omega
      rw [List.flatten_cons, e, List.getElem?_append_right (by omega), Nat.add_sub_cancel_left]
      exact flat_get rows i r (fun r hr => hs r (List.mem_cons_of_mem _ hr)) (by simpa using h) j hj

/-- The rows of what a slice reads as, and where they lie. -/
theorem Sl.rows {α : Type} {w : World} {D : Nat → Prop} {sz : Nat} {R : α → List Value → Prop} {v : Value} {xs : List α} (h : Sl w D sz R v xs) :
    ∃ (a : Option Addr) (c : Nat) (rows : List (List Value)), v = .slice a xs.length c ∧ RowsOf sz R xs rows ∧ c ≤ maxLen ∧ (a = none → c = 0 ∧ xs = []) ∧ ∀ ad, a = some ad → ∀ j u, rows.flatten[j]? = some u → w.cell? (ad.add j) = some u := by
  obtain ⟨a, c, hv, hl, hm, hn, h⟩ := h
  by_cases h0 : 0 < xs.length
  · obtain ⟨b, o, ha, hDb, hb, hc⟩ := h h0
    have hex : ∀ (n : Nat), n ≤ xs.length → ∃ rows : List (List Value), RowsOf sz R (xs.take n) rows ∧ ∀ j u, rows.flatten[j]? = some u → w.cell? ⟨b, o + j, none⟩ = some u := by
      intro n
      induction n with
      | zero => intro _; exact ⟨[], by simpa using RowsOf.nil, fun j u hu => by simp at hu⟩
      | succ n ih =>
        intro hn'
        obtain ⟨rows, hr, hcell⟩ := ih (by omega)
        have hlt : n < xs.length := by omega
        obtain ⟨cs, hcs, hR, hcc⟩ := hc n xs[n] (List.getElem?_eq_getElem hlt)
        refine ⟨rows ++ [cs], ?_, fun j u hu => ?_⟩
        · rw [List.take_succ_eq_append_getElem hlt]
          exact hr.app ⟨rfl, fun r hr => by simp at hr; rw [hr]; exact hcs, fun i x r hx hr => by
            cases i with
            | zero => simp at hx hr; subst hx hr; exact hR
            | succ i => simp at hx⟩
        · rw [List.flatten_append, List.flatten_singleton, List.getElem?_append] at hu
          have hfl : rows.flatten.length = n * sz := by rw [flat_len rows hr.size, hr.len, List.length_take, Nat.min_eq_left (by omega)]
          split at hu
          · exact hcell j u hu
          · rename_i hge
            have := hcc _ u hu
            rw [hfl] at this
            rwa [show o + (n * sz + (j - n * sz)) = o + j by omega] at this
    obtain ⟨rows, hr, hcell⟩ := hex xs.length (Nat.le_refl _)
    rw [List.take_length] at hr
    refine ⟨a, c, rows, hv, hr, hm, (fun e => by rw [e] at ha; cases ha), fun ad had j u hu => ?_⟩
    rw [ha] at had
    injection had with had
    subst had
    have : ((⟨b, o, none⟩ : Addr).add j) = ⟨b, o + j, none⟩ := by unfold Addr.add; split <;> simp_all
    rw [this]; exact hcell j u hu
  · have hx : xs = [] := List.length_eq_zero_iff.1 (by omega)
    subst hx
    exact ⟨a, c, [], hv, RowsOf.nil, hm, (fun e => ⟨hn e, rfl⟩), (fun ad _ j u hu => by simp at hu)⟩

/-- A slice value with a row of the call's own, from block base on, that reads as a list. -/
def OwnSl {α : Type} (w : World) (base : Nat) (e : TypeId) (sz : Nat) (R : α → List Value → Prop) (v : Value) (xs : List α) : Prop :=
  ∃ rows, RowsOf sz R xs rows ∧ w.ownsRow base e sz v xs.length rows.flatten
section
variable {α : Type} {w w' : World} {base : Nat} {e : TypeId} {sz : Nat} {R R' : α → List Value → Prop} {v : Value} {xs : List α}
theorem OwnSl.nil : OwnSl w base e sz R (.slice none 0 0) ([] : List α) := ⟨[], RowsOf.nil, by simp, .inl ⟨rfl, rfl⟩⟩
theorem OwnSl.monoR (h : OwnSl w base e sz R v xs) (hR : ∀ x ∈ xs, ∀ cs, R x cs → R' x cs) : OwnSl w base e sz R' v xs := by
  obtain ⟨rows, hr, ho⟩ := h
  exact ⟨rows, hr.mono hR, ho⟩
theorem ownsRow_keep {n : Nat} {cells : List Value} (h : w.ownsRow base e sz v n cells) (hb : ∀ b, base ≤ b → b < w.heap.size → w'.heap[b]? = w.heap[b]?) : w'.ownsRow base e sz v n cells := by
  obtain ⟨h1, h2⟩ := h
  refine ⟨h1, ?_⟩
  rcases h2 with h2 | ⟨g, cap, cur, hv, hg, hh, r⟩
  · exact .inl h2
  · exact .inr ⟨g, cap, cur, hv, hg, by rw [hb g hg (Array.getElem?_eq_some_iff.1 hh).1]; exact hh, r⟩
theorem OwnSl.block (h : OwnSl w base e sz R v xs) : ∀ g, v.ownBlock = some g → base ≤ g := by
  obtain ⟨rows, _, _, h2⟩ := h
  intro g hg
  rcases h2 with ⟨hv, _⟩ | ⟨g', cap, cur, hv, hg', _⟩
  · subst hv; simp [Value.ownBlock] at hg
  · subst hv; simp [Value.ownBlock] at hg; omega
theorem OwnSl.grown {B : Nat} {w0 : World} (h : OwnSl w base e sz R v xs) (hb : Below B w0 w) (hg : w.grownBy w' v.ownBlock) (hB : B ≤ w.heap.size) (hbase : B ≤ base) : Below B w0 w' :=
  hb.grown hg hB fun g hk => Nat.le_trans hbase (h.block g hk)
theorem OwnSl.below (h : OwnSl w base e sz R v xs) (hb : Below w.heap.size w w') : OwnSl w' base e sz R v xs := by
  obtain ⟨rows, hr, ho⟩ := h
  exact ⟨rows, hr, ownsRow_keep ho (fun b _ hlt => hb.block b hlt)⟩
theorem OwnSl.sl {D : Nat → Prop} (h : OwnSl w base e sz R v xs) (hD : ∀ b, base ≤ b → D b) : Sl w D sz R v xs := by
  obtain ⟨rows, hr, ho1, ho2⟩ := h
  rcases ho2 with ⟨hv, hn⟩ | ⟨g, cap, cur, hv, hg, hh, hnc, hcm, hcs, htk⟩
  · have hx : xs = [] := List.length_eq_zero_iff.1 hn
    subst hx
    exact ⟨none, 0, hv, by simp, by unfold maxLen; omega, fun _ => rfl, fun h => absurd h (by simp)⟩
  · refine ⟨some ⟨g, 0, none⟩, cap, hv, hnc, hcm, (fun h => by cases h), fun h0 => ⟨g, 0, rfl, hD g hg, (Array.getElem?_eq_some_iff.1 hh).1, fun i x hx => ?_⟩⟩
    have hi : i < rows.length := by rw [hr.len]; exact (List.getElem?_eq_some_iff.1 hx).1
    have hri : rows[i]? = some rows[i] := List.getElem?_eq_getElem hi
    have hsz := hr.size _ (List.getElem_mem hi)
    refine ⟨rows[i], hsz, hr.rel i x _ hx hri, fun j u hu => ?_⟩
    have hj : j < sz := by rw [← hsz]; exact (List.getElem?_eq_some_iff.1 hu).1
    have h1 := flat_get rows i _ hr.size hri j hj
    rw [hu, ← htk] at h1
    have hlt : i * sz + j < xs.length * sz := by
      have := (List.getElem?_eq_some_iff.1 hx).1
      calc i * sz + j < i * sz + sz := by omega
        _ = (i + 1) * sz := by rw [Nat.add_mul]; omega
        _ ≤ xs.length * sz := Nat.mul_le_mul_right _ this
    rw [List.getElem?_take_of_lt hlt] at h1
    simp only [World.cell?, hh, Nat.zero_add]
    simpa using h1
end

/-- append onto an own row, from whatever slice reads. -/
theorem wpList_app {α : Type} {P : Program} {w : World} {ops : Array Oper} {rest : List Oper} {o : Oper} {a : Act} {Q : Exit → Act → World → Prop} {R : α → List Value → Prop} {D : Nat → Prop} (hgd : o.guard = none) (s x : Operand) (t : TypeId)
    (ho : o.op = .call { callee := .builtin .append, args := #[s, x], argTypes := #[t, t] })
    (base : Nat) (e : TypeId) (i : TypeInfo) (z : Value) (size bytes : Nat) (ht : P.underlying t = some (.slice e)) (hi : P.info? e = some i) (hz : i.zero = some z)
    (hsize : i.size = size) (hby : i.bytes = bytes) (hzs : z.cells.size = size) (hsz : 0 < size)
    (v : Value) (xs : List α) (hs : a.eval s = v) (hown : OwnSl w base e size R v xs)
    (u : Value) (ys : List α) (hx : a.eval x = u) (hu : Sl w D size R u ys) (h1 : ∀ y ∈ ys, ∀ cs, R y cs → ∀ c ∈ cs, c.oneCell' = true)
    (h63 : xs.length + ys.length ≤ maxLen) (hbytes : (xs.length + ys.length) * bytes ≤ 140737488355328) (hbase : base ≤ w.heap.size)
    (h : ∀ v' w', OwnSl w' base e size R v' (xs ++ ys) → w.grownBy w' v.ownBlock → wpList P ops Q rest (a.put o.dst v') w') : wpList P ops Q (o :: rest) a w := by
  obtain ⟨au, cu, rows, hv, hr, hcm, hnone, hcell⟩ := hu.rows
  obtain ⟨rows0, hr0, ho0⟩ := hown
  cases au with
  | none =>
    obtain ⟨hc0, hy⟩ := hnone rfl
    subst hc0 hy
    refine wpList_append_own_none hgd s x t ho base e i size ht hi v xs.length rows0.flatten hs ho0 (by rw [hx, hv]; rfl) (h v w ⟨rows0, by simpa using hr0, by simpa using ho0⟩ ⟨rfl, rfl, rfl, Nat.le_refl _, fun _ _ _ => rfl⟩)
  | some ad =>
    refine wpList_append_own w hgd s x t ho base e i z size bytes ht hi hz hsize hby hzs hsz v xs.length rows0.flatten hs ho0 ad ys.length cu rows.flatten (by rw [hx, hv]) (by rw [flat_len rows hr.size, hr.len]) (hcell ad rfl) ?_ h63 hbytes hbase
      fun v' w' hown' hg _ => h v' w' ⟨rows0 ++ rows, hr0.app hr, by simpa using hown'⟩ hg
    intro c hc
    obtain ⟨r, hrm, hcr⟩ := List.mem_flatten.1 hc
    obtain ⟨k, hk⟩ := List.getElem?_of_mem hrm
    have hkl : k < ys.length := by rw [← hr.len]; exact (List.getElem?_eq_some_iff.1 hk).1
    exact h1 ys[k] (List.getElem_mem hkl) r (hr.rel k _ r (List.getElem?_eq_getElem hkl) hk) c hcr

/-- how long the first k are together. -/
def lenTo {α : Type} (ls : List (List α)) (k : Nat) : Nat := (ls.take k).flatten.length
theorem flat_take_succ {α : Type} (ls : List (List α)) (k : Nat) (h : k < ls.length) : (ls.take k).flatten ++ ls[k] = (ls.take (k + 1)).flatten := by
  rw [List.take_succ_eq_append_getElem h, List.flatten_append, List.flatten_singleton]
theorem lenTo_succ {α : Type} (ls : List (List α)) (k : Nat) (h : k < ls.length) : lenTo ls (k + 1) = lenTo ls k + ls[k].length := by
  unfold lenTo; rw [← flat_take_succ ls k h, List.length_append]
theorem lenTo_le {α : Type} (ls : List (List α)) (k : Nat) (_h : k ≤ ls.length) : lenTo ls k ≤ lenTo ls ls.length := by
  unfold lenTo
  have := congrArg (fun l => l.flatten.length) (List.take_append_drop k ls)
  rw [List.take_length]
  simp only [List.flatten_append, List.length_append] at this
  omega
end Go.Proofs.YtmokmmpomgjemaaDoor
