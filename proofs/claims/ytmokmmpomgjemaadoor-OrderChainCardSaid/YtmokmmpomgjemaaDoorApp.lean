/- A region that draws its order and ends in 'box.f = append(box.f, E{..})': the class of its worlds, and what its operations keep. No condition. -/
import Derived.Test.YtmokmmpomgjemaaDoorPrune
import Derived.Test.YtmokmmpomgjemaaDoorBase
import Derived.Deep.AppendLies
namespace Go.Proofs.YtmokmmpomgjemaaDoor
open Go.RowKit

section
variable {P : Program} {ops : Array Oper} {Inv : (Nat → Bool) → World → Prop} {T : Nat → World → World → Prop} {bs : List (List Nat)} {Q : Act → World → Prop} {n : Nat} {o : Oper} {l : List Oper} {ss : List Spec} {i : Nat} {a : Act} {fs : List (World → Prop)} {F : World → Prop}
/-- As doneOb, but that the edges that bind no order are left out. -/
def obP (P : Program) (ops : Array Oper) (Inv : (Nat → Bool) → World → Prop) (T : World → World → Prop) (s : Spec) (i : Nat) (bs : List (List Nat)) (o : Oper) (a : Act) (fs : List (World → Prop)) : Prop :=
  ∀ (done : Nat → Bool) (w : World), Inv done w → done i = false → (∀ k ∈ (prune o).after.toList.map (fun e => e.on), done k = true) → (∀ k : Nat, i ∈ bs.getD k [] → done k = false) → depFacts (prune o) fs w → ∀ R : Value → World → Prop, (∀ (v : Value) (w' : World), Inv (updDone done i) w' → T w w' → s.holds v w' → R v w') →
    if Region.wanted o (yielded ops a.tmps) then gives P o a w R else R undef w
def walkP (P : Program) (ops : Array Oper) (Inv : (Nat → Bool) → World → Prop) (T : Nat → World → World → Prop) (bs : List (List Nat)) (Q : Act → World → Prop) (n : Nat) :
    List Oper → List Spec → Nat → Act → List (World → Prop) → (World → Prop) → Prop
  | [], _, _, a, _, F => ∀ (done : Nat → Bool) (w : World), (∀ k, k < n → done k = true) → Inv done w → F w → Q a w
  | _ :: _, [], _, _, _, _ => False
  | o :: l, s :: ss, i, a, fs, F => obP P ops Inv (T i) s i bs o a fs ∧
      match s.exact? with
      | some x => walkP P ops Inv T bs Q n l ss (i + 1) (a.put o.dst x) (fs ++ [fun _ : World => True]) F
      | none => ∀ v : Value, walkP P ops Inv T bs Q n l ss (i + 1) (a.put o.dst v) (fs ++ [s.pred v]) (fun w : World => F w ∧ s.pred v w)
theorem walk_prune {ops' : List Oper} : ∀ (l : List Oper) (ss : List Spec) (i : Nat) (a : Act) (fs : List (World → Prop)) (F : World → Prop), walkP P ops'.toArray Inv T bs Q n l ss i a fs F → doneWalk P (ops'.map prune).toArray Inv T bs Q n (l.map prune) ss i a fs F
  | [], _, _, _, _, _, h => h
  | _ :: _, [], _, _, _, _, h => h.elim
  | o :: l, s :: ss, i, a, fs, F, h => by
    obtain ⟨h1, h2⟩ := h
    refine ⟨fun done w hI h0 hd hn hf R hR => ?_, ?_⟩
    · have := h1 done w hI h0 hd hn hf R hR
      rw [← yielded_prune] at this
      exact this
    · revert h2
      show (match s.exact? with | some x => _ | none => _) → (match s.exact? with | some x => _ | none => _)
      cases s.exact? with
      | some x => exact fun h2 => walk_prune l ss (i + 1) _ _ _ h2
      | none => exact fun h2 v => walk_prune l ss (i + 1) _ _ _ (h2 v)
theorem walkP_ex {x : Value} (h : ∀ K : Act → Prop, (∀ a', walkP P ops Inv T bs Q n l ss (i + 1) a' (fs ++ [fun _ : World => True]) F → K a') → obP P ops Inv (T i) (ex x) i bs o a fs ∧ K (a.put o.dst x)) :
    walkP P ops Inv T bs Q n (o :: l) (ex x :: ss) i a fs F := h _ (fun _ h => h)
theorem walkP_pr {p : Value → World → Prop} (h : ∀ K : Value → Act → Prop, (∀ v a', walkP P ops Inv T bs Q n l ss (i + 1) a' (fs ++ [p v]) (fun w : World => F w ∧ p v w) → K v a') → obP P ops Inv (T i) (pr p) i bs o a fs ∧ ∀ v, K v (a.put o.dst v)) :
    walkP P ops Inv T bs Q n (o :: l) (pr p :: ss) i a fs F := h _ (fun _ _ h => h)
end

theorem wp_region_done3 {P : Program} {l : List Oper} {Q : Exit → Act → World → Prop} {a : Act} {id : Nat} {w : World} (ss : List Spec) (Inv : (Nat → Bool) → World → Prop) (T : Nat → World → World → Prop) (hm : P.follows .mixedOrders = true) (hB : monoB2 (l.map prune) a.tmps.size = true)
    (hst : ∀ (i k : Nat) (s : Spec), i ≠ k → ss[k]? = some s → ∀ v done w w', Inv done w → T i w w' → s.fact v w → s.fact v w') (hC : Inv (fun _ => false) w.drew)
    (bs : List (List Nat)) (hbs : befores (l.map prune) [] = bs) (h : walkP P l.toArray Inv T bs (Q .normal) l.length l ss 0 a [] (fun _ => True)) : (Code.region id l.toArray true).wp P Q a w := by
  subst hbs
  have h' := walk_prune (ops' := l) l ss 0 a [] _ h
  rw [show l.length = (l.map prune).length by simp] at h'
  refine wp_region_any hm (wpAny_prune _ _ _ _ (wpAny_done hB hst h' _ _ (fun _ => undef) _ _ ?_ ⟨?_, ?_, by simp, rfl, rfl, ?_, fun _ _ => rfl⟩))
  · have := List.length_filter_le (fun i => (Array.replicate l.toArray.size false)[i]? != some true) (List.range (l.map prune).length)
    simpa [undone] using this
  · refine (congrArg (fun d => Inv d _) ?_).mp hC
    funext k
    rw [Array.getElem?_replicate]
    split <;> simp
  · intro j o hj hl
    rw [Array.getElem?_replicate] at hl
    split at hl <;> simp at hl
  · intro j o s hj _ hl
    rw [Array.getElem?_replicate] at hl
    split at hl <;> simp at hl

theorem ob_plain {o : Oper} {y : Nat → Option Bool} {A B : Prop} (h : o.guard = none) (hA : A) : if Region.wanted o y then A else B := by
  have : Region.wanted o y = true := by simp [Region.wanted, h]
  rw [if_pos this]; exact hA

/-- The operation append. -/
theorem gives_append {P : Program} {w : World} {o : Oper} {a : Act} {R : Value → World → Prop} (s x : Operand) (t : TypeId)
    (ho : o.op = .call { callee := .builtin .append, args := #[s, x], argTypes := #[t, t] })
    (base : Nat) (e : TypeId) (i : TypeInfo) (z : Value) (size bytes : Nat) (ht : P.underlying t = some (.slice e)) (hi : P.info? e = some i) (hz : i.zero = some z)
    (hsize : i.size = size) (hby : i.bytes = bytes) (hzs : z.cells.size = size) (hsz : 0 < size)
    (v : Value) (n : Nat) (xs : List Value) (hs : a.eval s = v) (hown : w.ownsRow base e size v n xs)
    (ad : Addr) (m c : Nat) (news : List Value) (hx : a.eval x = .slice (some ad) m c) (hl : news.length = m * size) (hnews : ∀ j u, news[j]? = some u → w.cell? (ad.add j) = some u) (h1 : ∀ u ∈ news, u.oneCell' = true)
    (hm : 0 < m) (h63 : n + m ≤ maxLen) (hbytes : (n + m) * bytes ≤ 140737488355328) (hbase : base ≤ w.heap.size)
    (h : ∀ v' w', w'.ownsRow base e size v' (n + m) (xs ++ news) → w.grownBy w' v.ownBlock → R v' w') : gives P o a w R := by
  obtain ⟨g, cap, w', hr, h2, h3, _, _⟩ := run_append_lies (P := P) w t o.type base e i z size bytes ht hi hz hsize hby hzs hsz v n xs hown ad m c news hl hnews h1 hm h63 hbytes hbase _ rfl
  unfold gives execOp
  simp only [ho, resolve, invoke, builtin, Sem.run_bind, Sem.run_pure, Result.andThen_ok, List.map_toArray, List.map_cons, List.map_nil, hs, hx, hr]
  exact h _ _ h2 h3

/-- The worlds of such a region: w0 is the world at its head; β the box (its cells, the slice at offset off); cv the slice, with n elements; news: the cells of what is appended; ia, is: the numbers of the append and of the store. -/
structure AppInv (w0 : World) (β : Nat) (T : TypeId) (box : Array Value) (off base : Nat) (E : TypeId) (sz : Nat) (cv : Value) (n : Nat) (cells : List Value) (m : Nat) (news : List Value) (ia is : Nat) (done : Nat → Bool) (W : World) : Prop where
  os : W.os = w0.os
  tape : W.tape = w0.tape
  output : W.output = w0.output
  size : w0.heap.size ≤ W.heap.size
  blk : ∀ b, b < w0.heap.size → b ≠ β → some b ≠ cv.ownBlock → W.heap[b]? = w0.heap[b]?
  before : done is = false → W.heap[β]? = some (.cells box T)
  own : done ia = false → W.ownsRow base E sz cv n cells
  after : done is = true → ∃ v, W.heap[β]? = some (.cells (box.setIfInBounds off v) T) ∧ W.ownsRow base E sz v (n + m) (cells ++ news)
def AppT (β : Nat) (cv : Value) (ia : Nat) (i : Nat) (w w' : World) : Prop := w.heap.size ≤ w'.heap.size ∧ ∀ b, b < w.heap.size → b ≠ β → (i = ia → some b ≠ cv.ownBlock) → w'.heap[b]? = w.heap[b]?
/-- what buildSlice lays. -/
def NewP (B : Nat) (E : TypeId) (m : Nat) (cs : Array Value) (v : Value) (W : World) : Prop := ∃ b, v = .slice (some ⟨b, 0, none⟩) m m ∧ B ≤ b ∧ W.heap[b]? = some (.cells cs E)
def OwnP (base : Nat) (E : TypeId) (sz n : Nat) (cells : List Value) (v : Value) (W : World) : Prop := W.ownsRow base E sz v n cells

theorem NewP.stable {B β m ia i : Nat} {E : TypeId} {cs : Array Value} {cv v : Value} {w w' : World} (hβ : β < B) (hcv : ∀ g, cv.ownBlock = some g → g < B) (hT : AppT β cv ia i w w') (h : NewP B E m cs v w) : NewP B E m cs v w' := by
  obtain ⟨b, hv, hb, hc⟩ := h
  have hlt : b < w.heap.size := (Array.getElem?_eq_some_iff.1 hc).1
  refine ⟨b, hv, hb, ?_⟩
  rw [hT.2 b hlt (by omega) (fun _ e => by have := hcv b e.symm; omega)]
  exact hc
theorem ownsRow_keep1 {w w' : World} {base : Nat} {E : TypeId} {sz n : Nat} {v : Value} {cells : List Value} (h : w.ownsRow base E sz v n cells) (hb : ∀ b, base ≤ b → b < w.heap.size → v.ownBlock = some b → w'.heap[b]? = w.heap[b]?) : w'.ownsRow base E sz v n cells := by
  obtain ⟨h1, h2⟩ := h
  refine ⟨h1, ?_⟩
  rcases h2 with h2 | ⟨g, cap, cur, hv, hg, hh, r⟩
  · exact .inl h2
  · exact .inr ⟨g, cap, cur, hv, hg, by rw [hb g hg (Array.getElem?_eq_some_iff.1 hh).1 (by rw [hv]; rfl)]; exact hh, r⟩
theorem OwnP.stable {base β sz n ia i : Nat} {E : TypeId} {cells : List Value} {cv v : Value} {w w' : World} (hβ : β < base) (hi : i ≠ ia) (hT : AppT β cv ia i w w') (h : OwnP base E sz n cells v w) : OwnP base E sz n cells v w' :=
  ownsRow_keep1 h fun b hb hlt _ => hT.2 b hlt (by omega) (fun e => absurd e hi)

section
variable {w0 W W' : World} {β : Nat} {T : TypeId} {box : Array Value} {off base : Nat} {E : TypeId} {sz n m ia is i : Nat} {cv : Value} {cells news : List Value} {done : Nat → Bool}
theorem AppInv.start (h : w0.heap[β]? = some (.cells box T)) (ho : w0.ownsRow base E sz cv n cells) : AppInv w0 β T box off base E sz cv n cells m news ia is (fun _ => false) w0.drew :=
  ⟨rfl, rfl, rfl, Nat.le_refl _, fun _ _ _ _ => rfl, fun _ => h, fun _ => by exact ownsRow_keep1 ho fun _ _ _ _ => rfl, fun h => by cases h⟩
/-- an operation that leaves the world alone, or lays blocks alone. -/
theorem AppInv.step (h : AppInv w0 β T box off base E sz cv n cells m news ia is done W) (hb : Below W.heap.size W W') (h1 : i ≠ ia) (h2 : i ≠ is) : AppInv w0 β T box off base E sz cv n cells m news ia is (updDone done i) W' where
  os := hb.os.trans h.os
  tape := hb.tape.trans h.tape
  output := hb.output.trans h.output
  size := Nat.le_trans h.size hb.size
  blk := fun b hlt hn ho => (hb.block b (Nat.lt_of_lt_of_le hlt h.size)).trans (h.blk b hlt hn ho)
  before := fun hd => by
    have : done is = false := by simpa [updDone, Ne.symm h2] using hd
    exact blk_below (h.before this) hb
  own := fun hd => by
    have : done ia = false := by simpa [updDone, Ne.symm h1] using hd
    exact ownsRow_keep1 (h.own this) fun b _ hlt _ => hb.block b hlt
  after := fun hd => by
    have : done is = true := by simpa [updDone, Ne.symm h2] using hd
    obtain ⟨v, h1, h2⟩ := h.after this
    exact ⟨v, blk_below h1 hb, ownsRow_keep1 h2 fun b _ hlt _ => hb.block b hlt⟩
theorem AppT.of_below (hb : Below W.heap.size W W') : AppT β cv ia i W W' := ⟨hb.size, fun b hlt _ _ => hb.block b hlt⟩
/-- the append. -/
theorem AppInv.appended (h : AppInv w0 β T box off base E sz cv n cells m news ia is done W) (hd : done is = false) (hne : ia ≠ is) (hcv : ∀ g, cv.ownBlock = some g → g ≠ β) (hg : W.grownBy W' cv.ownBlock) (hβ : β < w0.heap.size) : AppInv w0 β T box off base E sz cv n cells m news ia is (updDone done ia) W' where
  os := hg.os.trans h.os
  tape := hg.tape.trans h.tape
  output := hg.output.trans h.output
  size := Nat.le_trans h.size hg.size
  blk := fun b hlt hn ho => (hg.block b (Nat.lt_of_lt_of_le hlt h.size) ho).trans (h.blk b hlt hn ho)
  before := fun _ => by rw [hg.block β (Nat.lt_of_lt_of_le hβ h.size) (fun e => hcv β e.symm rfl)]; exact h.before hd
  own := fun hd => by simp [updDone] at hd
  after := fun hd' => by simp [updDone, Ne.symm hne, hd] at hd'
theorem AppT.of_grown (hg : W.grownBy W' cv.ownBlock) : AppT β cv ia ia W W' := ⟨hg.size, fun b hlt _ h => hg.block b hlt (h rfl)⟩
/-- the store. -/
theorem AppInv.stored {v : Value} (h : AppInv w0 β T box off base E sz cv n cells m news ia is done W) (hd : done is = false) (hda : done ia = true) (hne : is ≠ ia) (hv : W.ownsRow base E sz v (n + m) (cells ++ news)) (hβ : β < base) :
    AppInv w0 β T box off base E sz cv n cells m news ia is (updDone done is) (W.setCell ⟨β, off, none⟩ v) where
  os := h.os
  tape := h.tape
  output := h.output
  size := by show _ ≤ (W.heap.modify _ _).size; rw [Array.size_modify]; exact h.size
  blk := fun b hlt hn ho => by
    have : (W.setCell ⟨β, off, none⟩ v).heap[b]? = W.heap[b]? := by
      show (W.heap.modify β _)[b]? = _
      rw [Array.getElem?_modify, if_neg (fun e => hn e.symm)]
    rw [this]; exact h.blk b hlt hn ho
  before := fun hd => by simp [updDone] at hd
  own := fun hd' => by simp [updDone, Ne.symm hne, hda] at hd'
  after := fun _ => by
    refine ⟨v, ?_, ownsRow_keep1 hv fun b hb _ _ => ?_⟩
    · show (W.heap.modify β _)[β]? = _
      rw [Array.getElem?_modify, if_pos rfl, h.before hd]
      rfl
    · show (W.heap.modify β _)[b]? = _
      rw [Array.getElem?_modify, if_neg (by omega)]
theorem AppT.of_store {v : Value} : AppT β cv ia i W (W.setCell ⟨β, off, none⟩ v) :=
  ⟨by show _ ≤ (W.heap.modify _ _).size; rw [Array.size_modify]; exact Nat.le_refl _, fun b _ hn _ => by
    show (W.heap.modify β _)[b]? = _
    rw [Array.getElem?_modify, if_neg (fun e => hn e.symm)]⟩
theorem AppInv.below {w : World} {B : Nat} (h : AppInv w0 β T box off base E sz cv n cells m news ia is done W) (hb : Below B w w0) (hβ : B ≤ β) (ho : ∀ g, cv.ownBlock = some g → B ≤ g) (hB : B ≤ w0.heap.size) : Below B w W :=
  hb.trans ⟨h.os, h.tape, h.output, h.size, fun b hlt => h.blk b (by omega) (by omega) (fun e => by have := ho b e.symm; omega)⟩
def goodSpecs (N O : Value → World → Prop) (ia : Nat) : List Spec → Nat → Prop
  | [], _ => True
  | s :: r, k => ((∃ x, s = ex x) ∨ s = pr N ∨ (k = ia ∧ s = pr O)) ∧ goodSpecs N O ia r (k + 1)
theorem goodSpecs_get {N O : Value → World → Prop} {ia : Nat} : ∀ (ss : List Spec) (k0 : Nat), goodSpecs N O ia ss k0 → ∀ (k : Nat) (s : Spec), ss[k]? = some s → (∃ x, s = ex x) ∨ s = pr N ∨ (k0 + k = ia ∧ s = pr O)
  | [], _, _, _, _, h => by simp at h
  | s0 :: r, k0, hg, 0, s, h => by simp at h; subst h; exact hg.1
  | s0 :: r, k0, hg, k + 1, s, h => by
    have := goodSpecs_get r (k0 + 1) hg.2 k s (by simpa using h)
    rw [show k0 + (k + 1) = k0 + 1 + k by omega]; exact this
/-- THE LAW of such a region. -/
theorem wp_region_app {P : Program} {l : List Oper} {Q : Exit → Act → World → Prop} {a : Act} {id : Nat} (β : Nat) (T : TypeId) (box : Array Value) (off base : Nat) (E : TypeId) (sz : Nat) (cv : Value) (n : Nat) (cells : List Value) (m : Nat) (news : List Value) (ia is : Nat)
    (hm : P.follows .mixedOrders = true) (hB : monoB2 (l.map prune) a.tmps.size = true) (hbox : w0.heap[β]? = some (.cells box T)) (hown : w0.ownsRow base E sz cv n cells) (hβ : β < base) (hβ' : β < w0.heap.size)
    (bs : List (List Nat)) (hbs : befores (l.map prune) [] = bs) (ss : List Spec)
    (h : walkP P l.toArray (AppInv w0 β T box off base E sz cv n cells m news ia is) (AppT β cv ia) bs (Q .normal) l.length l ss 0 a [] (fun _ => True))
    (hss : goodSpecs (NewP w0.heap.size E m news.toArray) (OwnP base E sz (n + m) (cells ++ news)) ia ss 0) : (Code.region id l.toArray true).wp P Q a w0 := by
  refine wp_region_done3 ss _ (AppT β cv ia) hm hB (fun i k s hik hk v done w w' _ hT hf => ?_) (AppInv.start hbox hown) bs hbs h
  have hlt : ∀ g, cv.ownBlock = some g → g < w0.heap.size := fun g hg => (hown.lt g hg).2
  rcases goodSpecs_get ss 0 hss k s hk with ⟨x, rfl⟩ | rfl | ⟨hka, rfl⟩
  · trivial
  · exact NewP.stable hβ' hlt hT hf
  · exact OwnP.stable hβ (by omega) hT hf
end
end Go.Proofs.YtmokmmpomgjemaaDoor
