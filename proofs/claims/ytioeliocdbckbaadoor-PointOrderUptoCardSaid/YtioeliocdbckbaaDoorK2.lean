/- Texts laid one behind the other: Prune, App, Rel, Init, Bx, PolSpec, PolRd, PointSpec, Cuts0. No condition beyond theirs. -/
import Derived.Test.YtioeliocdbckbaaDoorK1
import Derived.Deep.AppendLies
import Derived.Test.YtioeliocdbckbaaDoorProg
import Derived.KernelRfl
namespace Go.Proofs.YtioeliocdbckbaaDoor
open Go.RowKit

def prune (o : Oper) : Oper := { o with after := o.after.filter (Region.binds .any) }
theorem prune_get (l : List Oper) (i : Nat) : (l.map prune).toArray[i]? = (l.toArray[i]?).map prune := by simp
theorem all_prune (p q : Edge → Bool) (es : Array Edge) : ((es.filter p).all fun e => !p e || q e) = es.all fun e => !p e || q e := by
  rw [Bool.eq_iff_iff]
  simp only [Array.all_eq_true_iff_forall_mem, Array.mem_filter]
  constructor
  · intro h e he
    cases hp : p e with
    | false => rfl
    | true => have := h e ⟨he, hp⟩; rwa [hp] at this
  · intro h e he
    exact h e he.1
theorem ready_prune (l : List Oper) (listed : Array Bool) : Region.ready .any (l.map prune).toArray listed = Region.ready .any l.toArray listed := by
  unfold Region.ready
  have hs : (l.map prune).toArray.size = l.toArray.size := by simp
  rw [hs]
  congr 1
  funext i
  rw [prune_get, Option.map_map]
  congr 2
  congr 1
  funext o
  exact all_prune _ _ _
theorem yielded_prune (l : List Oper) (t : Array Value) : yielded (l.map prune).toArray t = yielded l.toArray t := by
  funext j
  unfold yielded
  rw [prune_get]
  cases l.toArray[j]? <;> rfl
theorem wpOp_prune {P : Program} {l : List Oper} {Q : Exit → Act → World → Prop} {i : Nat} {K : Act → World → Prop} {a : Act} {w : World} (h : wpOp P (l.map prune).toArray Q i K a w) : wpOp P l.toArray Q i K a w := by
  unfold wpOp at h ⊢
  rw [prune_get] at h
  cases ho : l.toArray[i]? with
  | none => rw [ho] at h; exact h
  | some o => rw [ho, yielded_prune] at h; exact h
theorem wpAny_prune {P : Program} {l : List Oper} {Q : Exit → Act → World → Prop} : ∀ (fuel : Nat) (listed : Array Bool) (a : Act) (w : World), wpAny P .any (l.map prune).toArray Q fuel listed a w → wpAny P .any l.toArray Q fuel listed a w
  | 0, listed, a, w, h => by unfold wpAny at h ⊢; rwa [ready_prune] at h
  | fuel + 1, listed, a, w, h => by
    unfold wpAny at h ⊢
    rw [ready_prune] at h
    exact ⟨h.1, fun i hi => wpOp_mono (fun a' w' h' => wpAny_prune fuel _ a' w' h') (wpOp_prune (h.2 i hi))⟩
theorem monoE_prune {P : Program} {ops : List Oper} {C : World → Prop} {T : Nat → World → World → Prop} {Q : Act → World → Prop} : ∀ (l : List Oper) (i : Nat) (a : Act), monoE P ops.toArray C T Q l i a → monoE P (ops.map prune).toArray C T Q (l.map prune) i a
  | [], _, _, h => h
  | o :: l, i, a, ⟨x, h1, h2⟩ => by
    refine ⟨x, fun w hC R hR => ?_, monoE_prune l _ _ h2⟩
    have := h1 w hC R hR
    rw [← yielded_prune] at this
    exact this

/-- As wp_region_exact: edges that bind no order are left out, and a temporary may be read ahead of being written. -/
theorem wp_region_exact3 {P : Program} {l : List Oper} {Q : Exit → Act → World → Prop} {a : Act} {id : Nat} {w : World} (B : Nat) (hBw : B ≤ w.heap.size) (hm : P.follows .mixedOrders = true) (hB : monoB2 (l.map prune) a.tmps.size = true)
    (h : monoE P l.toArray (Cls B w) TB (Q .normal) l 0 a) : (Code.region id l.toArray true).wp P Q a w := by
  have h' := monoE_prune (ops := l) l 0 a h
  generalize hl : l.map prune = l' at hB h'
  have conv : ∀ (l'' : List Oper) (i : Nat) (a' : Act), monoE P l'.toArray (Cls B w) TB (Q .normal) l'' i a' → doneE P l'.toArray (fun _ => Cls B w) (befores l' []) (Q .normal) l'.length l'' i a' := by
    intro l''
    induction l'' with
    | nil => intro i a' h _ W _ hC; exact h W hC
    | cons o l'' ih =>
      intro i a' h
      obtain ⟨x, h1, h2⟩ := h
      exact ⟨x, fun _ W hC _ _ _ R hR => h1 W hC R (fun v w' hT hv => hR v w' (hC.step hT) hv), ih _ _ h2⟩
  obtain ⟨xs, hx⟩ := doneE_list l' 0 a [] (conv l' 0 a h')
  refine wp_region_any hm (wpAny_prune _ _ _ _ ?_)
  rw [hl]
  refine wpAny_done (Inv := fun _ => Cls B w) (T := fun _ _ _ => True) (ss := xs.map ex) hB (fun i k s _ hk v done w1 w2 _ _ _ => ?_) hx _ _ (fun _ => undef) _ _ ?_ ⟨⟨hBw, (Below.refl _ _).drew⟩, ?_, by simp [← hl], rfl, rfl, ?_, fun _ _ => rfl⟩
  · obtain ⟨x, _, rfl⟩ := List.mem_map.1 (List.mem_of_getElem? hk)
    trivial
  · have := List.length_filter_le (fun i => (Array.replicate l.toArray.size false)[i]? != some true) (List.range l'.length)
    simpa [undone, ← hl] using this
  · intro j o hj hl
    rw [Array.getElem?_replicate] at hl
    split at hl <;> simp at hl
  · intro j o s hj _ hl
    rw [Array.getElem?_replicate] at hl
    split at hl <;> simp at hl
end Go.Proofs.YtioeliocdbckbaaDoor
namespace Go.Proofs.YtioeliocdbckbaaDoor
open Go.RowKit

section
variable {P : Program} {ops : Array Oper} {Inv : (Nat → Bool) → World → Prop} {T : Nat → World → World → Prop} {bs : List (List Nat)} {Q : Act → World → Prop} {n : Nat} {o : Oper} {l : List Oper} {ss : List Spec} {i : Nat} {a : Act} {fs : List (World → Prop)} {F : World → Prop}
/-- As doneOb, but that the edges that bind no order are left out. -/
def obP (P : Program) (ops : Array Oper) (Inv : (Nat → Bool) → World → Prop) (T : World → World → Prop) (s : Spec) (i : Nat) (bs : List (List Nat)) (o : Oper) (a : Act) (fs : List (World → Prop)) : Prop :=
  ∀ (done : Nat → Bool) (w : World), Inv done w → done i = false → (∀ k ∈ (prune o).after.toList.map (fun e => e.on), done k = true) → (∀ k : Nat, i ∈ bs.getD k [] → done k = false) → depFacts (prune o) fs w → ∀ R : Value → World → Prop, (∀ (v : Value) (w' : World), Inv (updDone done i) w' → T w w' → s.holds v w' → R v w') →
    if Region.wanted o (yielded ops a.tmps) then gives P o a w R else R undef w
def walkP (P : Program) (ops : Array Oper) (Inv : (Nat → Bool) → World → Prop) (T : Nat → World → World → Prop) (bs : List (List Nat)) (Q : Act → World → Prop) (n : Nat) :
    List Oper → List Spec → Nat → Act → List (World → Prop) → (World → Prop) → Prop
  | [], _, _, a, _, F => ∀ (done : Nat → Bool) (w : World), (∀ k, k < n → done k = true) → Inv done w → F w → Q a w
  | _ :: _, [], _, _, _, _ => False
  | o :: l, s :: ss, i, a, fs, F => obP P ops Inv (T i) s i bs o a fs ∧
      match s.exact? with
      | some x => walkP P ops Inv T bs Q n l ss (i + 1) (a.put o.dst x) (fs ++ [fun _ : World => True]) F
      | none => ∀ v : Value, walkP P ops Inv T bs Q n l ss (i + 1) (a.put o.dst v) (fs ++ [s.pred v]) (fun w : World => F w ∧ s.pred v w)
theorem walk_prune {ops' : List Oper} : ∀ (l : List Oper) (ss : List Spec) (i : Nat) (a : Act) (fs : List (World → Prop)) (F : World → Prop), walkP P ops'.toArray Inv T bs Q n l ss i a fs F → doneWalk P (ops'.map prune).toArray Inv T bs Q n (l.map prune) ss i a fs F
  | [], _, _, _, _, _, h => h
  | _ :: _, [], _, _, _, _, h => h.elim
  | o :: l, s :: ss, i, a, fs, F, h => by
    obtain ⟨h1, h2⟩ := h
    refine ⟨fun done w hI h0 hd hn hf R hR => ?_, ?_⟩
    · have := h1 done w hI h0 hd hn hf R hR
      rw [← yielded_prune] at this
      exact this
    · revert h2
      show (match s.exact? with | some x => _ | none => _) → (match s.exact? with | some x => _ | none => _)
      cases s.exact? with
      | some x => exact fun h2 => walk_prune l ss (i + 1) _ _ _ h2
      | none => exact fun h2 v => walk_prune l ss (i + 1) _ _ _ (h2 v)
theorem walkP_ex {x : Value} (h : ∀ K : Act → Prop, (∀ a', walkP P ops Inv T bs Q n l ss (i + 1) a' (fs ++ [fun _ : World => True]) F → K a') → obP P ops Inv (T i) (ex x) i bs o a fs ∧ K (a.put o.dst x)) :
    walkP P ops Inv T bs Q n (o :: l) (ex x :: ss) i a fs F := h _ (fun _ h => h)
theorem walkP_pr {p : Value → World → Prop} (h : ∀ K : Value → Act → Prop, (∀ v a', walkP P ops Inv T bs Q n l ss (i + 1) a' (fs ++ [p v]) (fun w : World => F w ∧ p v w) → K v a') → obP P ops Inv (T i) (pr p) i bs o a fs ∧ ∀ v, K v (a.put o.dst v)) :
    walkP P ops Inv T bs Q n (o :: l) (pr p :: ss) i a fs F := h _ (fun _ _ h => h)
end

theorem wp_region_done3 {P : Program} {l : List Oper} {Q : Exit → Act → World → Prop} {a : Act} {id : Nat} {w : World} (ss : List Spec) (Inv : (Nat → Bool) → World → Prop) (T : Nat → World → World → Prop) (hm : P.follows .mixedOrders = true) (hB : monoB2 (l.map prune) a.tmps.size = true)
    (hst : ∀ (i k : Nat) (s : Spec), i ≠ k → ss[k]? = some s → ∀ v done w w', Inv done w → T i w w' → s.fact v w → s.fact v w') (hC : Inv (fun _ => false) w.drew)
    (bs : List (List Nat)) (hbs : befores (l.map prune) [] = bs) (h : walkP P l.toArray Inv T bs (Q .normal) l.length l ss 0 a [] (fun _ => True)) : (Code.region id l.toArray true).wp P Q a w := by
  subst hbs
  have h' := walk_prune (ops' := l) l ss 0 a [] _ h
  rw [show l.length = (l.map prune).length by simp] at h'
  refine wp_region_any hm (wpAny_prune _ _ _ _ (wpAny_done hB hst h' _ _ (fun _ => undef) _ _ ?_ ⟨?_, ?_, by simp, rfl, rfl, ?_, fun _ _ => rfl⟩))
  · have := List.length_filter_le (fun i => (Array.replicate l.toArray.size false)[i]? != some true) (List.range (l.map prune).length)
    simpa [undone] using this
  · refine (congrArg (fun d => Inv d _) ?_).mp hC
    funext k
    rw [Array.getElem?_replicate]
    split <;> simp
  · intro j o hj hl
    rw [Array.getElem?_replicate] at hl
    split at hl <;> simp at hl
  · intro j o s hj _ hl
    rw [Array.getElem?_replicate] at hl
    split at hl <;> simp at hl

theorem ob_plain {o : Oper} {y : Nat → Option Bool} {A B : Prop} (h : o.guard = none) (hA : A) : if Region.wanted o y then A else B := by
  have : Region.wanted o y = true := by simp [Region.wanted, h]
  rw [if_pos this]; exact hA

/-- The operation append. -/
theorem gives_append {P : Program} {w : World} {o : Oper} {a : Act} {R : Value → World → Prop} (s x : Operand) (t : TypeId)
    (ho : o.op = .call { callee := .builtin .append, args := #[s, x], argTypes := #[t, t] })
    (base : Nat) (e : TypeId) (i : TypeInfo) (z : Value) (size bytes : Nat) (ht : P.underlying t = some (.slice e)) (hi : P.info? e = some i) (hz : i.zero = some z)
    (hsize : i.size = size) (hby : i.bytes = bytes) (hzs : z.cells.size = size) (hsz : 0 < size)
    (v : Value) (n : Nat) (xs : List Value) (hs : a.eval s = v) (hown : w.ownsRow base e size v n xs)
    (ad : Addr) (m c : Nat) (news : List Value) (hx : a.eval x = .slice (some ad) m c) (hl : news.length = m * size) (hnews : ∀ j u, news[j]? = some u → w.cell? (ad.add j) = some u) (h1 : ∀ u ∈ news, u.oneCell' = true)
    (hm : 0 < m) (h63 : n + m ≤ maxLen) (hbytes : (n + m) * bytes ≤ 140737488355328) (hbase : base ≤ w.heap.size)
    (h : ∀ v' w', w'.ownsRow base e size v' (n + m) (xs ++ news) → w.grownBy w' v.ownBlock → R v' w') : gives P o a w R := by
  obtain ⟨g, cap, w', hr, h2, h3, _, _⟩ := run_append_lies (P := P) w t o.type base e i z size bytes ht hi hz hsize hby hzs hsz v n xs hown ad m c news hl hnews h1 hm h63 hbytes hbase _ rfl
  unfold gives execOp
  simp only [ho, resolve, invoke, builtin, Sem.run_bind, Sem.run_pure, Result.andThen_ok, List.map_toArray, List.map_cons, List.map_nil, hs, hx, hr]
  exact h _ _ h2 h3

/-- The worlds of such a region: w0 is the world at its head; β the box (its cells, the slice at offset off); cv the slice, with n elements; news: the cells of what is appended; ia, is: the numbers of the append and of the store. -/
structure AppInv (w0 : World) (β : Nat) (T : TypeId) (box : Array Value) (off base : Nat) (E : TypeId) (sz : Nat) (cv : Value) (n : Nat) (cells : List Value) (m : Nat) (news : List Value) (ia is : Nat) (done : Nat → Bool) (W : World) : Prop where
  os : W.os = w0.os
  tape : W.tape = w0.tape
  output : W.output = w0.output
  size : w0.heap.size ≤ W.heap.size
  blk : ∀ b, b < w0.heap.size → b ≠ β → some b ≠ cv.ownBlock → W.heap[b]? = w0.heap[b]?
  before : done is = false → W.heap[β]? = some (.cells box T)
  own : done ia = false → W.ownsRow base E sz cv n cells
  after : done is = true → ∃ v, W.heap[β]? = some (.cells (box.setIfInBounds off v) T) ∧ W.ownsRow base E sz v (n + m) (cells ++ news)
def AppT (β : Nat) (cv : Value) (ia : Nat) (i : Nat) (w w' : World) : Prop := w.heap.size ≤ w'.heap.size ∧ ∀ b, b < w.heap.size → b ≠ β → (i = ia → some b ≠ cv.ownBlock) → w'.heap[b]? = w.heap[b]?
/-- what buildSlice lays. -/
def NewP (B : Nat) (E : TypeId) (m : Nat) (cs : Array Value) (v : Value) (W : World) : Prop := ∃ b, v = .slice (some ⟨b, 0, none⟩) m m ∧ B ≤ b ∧ W.heap[b]? = some (.cells cs E)
def OwnP (base : Nat) (E : TypeId) (sz n : Nat) (cells : List Value) (v : Value) (W : World) : Prop := W.ownsRow base E sz v n cells

theorem NewP.stable {B β m ia i : Nat} {E : TypeId} {cs : Array Value} {cv v : Value} {w w' : World} (hβ : β < B) (hcv : ∀ g, cv.ownBlock = some g → g < B) (hT : AppT β cv ia i w w') (h : NewP B E m cs v w) : NewP B E m cs v w' := by
  obtain ⟨b, hv, hb, hc⟩ := h
  have hlt : b < w.heap.size := (Array.getElem?_eq_some_iff.1 hc).1
  refine ⟨b, hv, hb, ?_⟩
  rw [hT.2 b hlt (by omega) (fun _ e => by have := hcv b e.symm; omega)]
  exact hc
theorem ownsRow_keep1 {w w' : World} {base : Nat} {E : TypeId} {sz n : Nat} {v : Value} {cells : List Value} (h : w.ownsRow base E sz v n cells) (hb : ∀ b, base ≤ b → b < w.heap.size → v.ownBlock = some b → w'.heap[b]? = w.heap[b]?) : w'.ownsRow base E sz v n cells := by
  obtain ⟨h1, h2⟩ := h
  refine ⟨h1, ?_⟩
  rcases h2 with h2 | ⟨g, cap, cur, hv, hg, hh, r⟩
  · exact .inl h2
  · exact .inr ⟨g, cap, cur, hv, hg, by rw [hb g hg (Array.getElem?_eq_some_iff.1 hh).1 (by rw [hv]; rfl)]; exact hh, r⟩
theorem OwnP.stable {base β sz n ia i : Nat} {E : TypeId} {cells : List Value} {cv v : Value} {w w' : World} (hβ : β < base) (hi : i ≠ ia) (hT : AppT β cv ia i w w') (h : OwnP base E sz n cells v w) : OwnP base E sz n cells v w' :=
  ownsRow_keep1 h fun b hb hlt _ => hT.2 b hlt (by omega) (fun e => absurd e hi)

section
variable {w0 W W' : World} {β : Nat} {T : TypeId} {box : Array Value} {off base : Nat} {E : TypeId} {sz n m ia is i : Nat} {cv : Value} {cells news : List Value} {done : Nat → Bool}
theorem AppInv.start (h : w0.heap[β]? = some (.cells box T)) (ho : w0.ownsRow base E sz cv n cells) : AppInv w0 β T box off base E sz cv n cells m news ia is (fun _ => false) w0.drew :=
  ⟨rfl, rfl, rfl, Nat.le_refl _, fun _ _ _ _ => rfl, fun _ => h, fun _ => by exact ownsRow_keep1 ho fun _ _ _ _ => rfl, fun h => by cases h⟩
/-- an operation that leaves the world alone, or lays blocks alone. -/
theorem AppInv.step (h : AppInv w0 β T box off base E sz cv n cells m news ia is done W) (hb : Below W.heap.size W W') (h1 : i ≠ ia) (h2 : i ≠ is) : AppInv w0 β T box off base E sz cv n cells m news ia is (updDone done i) W' where
  os := hb.os.trans h.os
  tape := hb.tape.trans h.tape
  output := hb.output.trans h.output
  size := Nat.le_trans h.size hb.size
  blk := fun b hlt hn ho => (hb.block b (Nat.lt_of_lt_of_le hlt h.size)).trans (h.blk b hlt hn ho)
  before := fun hd => by
    have : done is = false := by simpa [updDone, Ne.symm h2] using hd
    exact blk_below (h.before this) hb
  own := fun hd => by
    have : done ia = false := by simpa [updDone, Ne.symm h1] using hd
    exact ownsRow_keep1 (h.own this) fun b _ hlt _ => hb.block b hlt
  after := fun hd => by
    have : done is = true := by simpa [updDone, Ne.symm h2] using hd
    obtain ⟨v, h1, h2⟩ := h.after this
    exact ⟨v, blk_below h1 hb, ownsRow_keep1 h2 fun b _ hlt _ => hb.block b hlt⟩
theorem AppT.of_below (hb : Below W.heap.size W W') : AppT β cv ia i W W' := ⟨hb.size, fun b hlt _ _ => hb.block b hlt⟩
/-- the append. -/
theorem AppInv.appended (h : AppInv w0 β T box off base E sz cv n cells m news ia is done W) (hd : done is = false) (hne : ia ≠ is) (hcv : ∀ g, cv.ownBlock = some g → g ≠ β) (hg : W.grownBy W' cv.ownBlock) (hβ : β < w0.heap.size) : AppInv w0 β T box off base E sz cv n cells m news ia is (updDone done ia) W' where
  os := hg.os.trans h.os
  tape := hg.tape.trans h.tape
  output := hg.output.trans h.output
  size := Nat.le_trans h.size hg.size
  blk := fun b hlt hn ho => (hg.block b (Nat.lt_of_lt_of_le hlt h.size) ho).trans (h.blk b hlt hn ho)
  before := fun _ => by rw [hg.block β (Nat.lt_of_lt_of_le hβ h.size) (fun e => hcv β e.symm rfl)]; exact h.before hd
  own := fun hd => by simp [updDone] at hd
  after := fun hd' => by simp [updDone, Ne.symm hne, hd] at hd'
theorem AppT.of_grown (hg : W.grownBy W' cv.ownBlock) : AppT β cv ia ia W W' := ⟨hg.size, fun b hlt _ h => hg.block b hlt (h rfl)⟩
/-- the store. -/
theorem AppInv.stored {v : Value} (h : AppInv w0 β T box off base E sz cv n cells m news ia is done W) (hd : done is = false) (hda : done ia = true) (hne : is ≠ ia) (hv : W.ownsRow base E sz v (n + m) (cells ++ news)) (hβ : β < base) :
    AppInv w0 β T box off base E sz cv n cells m news ia is (updDone done is) (W.setCell ⟨β, off, none⟩ v) where
  os := h.os
  tape := h.tape
  output := h.output
  size := by show _ ≤ (W.heap.modify _ _).size; rw [Array.size_modify]; exact h.size
  blk := fun b hlt hn ho => by
    have : (W.setCell ⟨β, off, none⟩ v).heap[b]? = W.heap[b]? := by
      show (W.heap.modify β _)[b]? = _
      rw [Array.getElem?_modify, if_neg (fun e => hn e.symm)]
    rw [this]; exact h.blk b hlt hn ho
  before := fun hd => by simp [updDone] at hd
  own := fun hd' => by simp [updDone, Ne.symm hne, hda] at hd'
  after := fun _ => by
    refine ⟨v, ?_, ownsRow_keep1 hv fun b hb _ _ => ?_⟩
    · show (W.heap.modify β _)[β]? = _
      rw [Array.getElem?_modify, if_pos rfl, h.before hd]
      rfl
    · show (W.heap.modify β _)[b]? = _
      rw [Array.getElem?_modify, if_neg (by omega)]
theorem AppT.of_store {v : Value} : AppT β cv ia i W (W.setCell ⟨β, off, none⟩ v) :=
  ⟨by show _ ≤ (W.heap.modify _ _).size; rw [Array.size_modify]; exact Nat.le_refl _, fun b _ hn _ => by
    show (W.heap.modify β _)[b]? = _
    rw [Array.getElem?_modify, if_neg (fun e => hn e.symm)]⟩
theorem AppInv.below {w : World} {B : Nat} (h : AppInv w0 β T box off base E sz cv n cells m news ia is done W) (hb : Below B w w0) (hβ : B ≤ β) (ho : ∀ g, cv.ownBlock = some g → B ≤ g) (hB : B ≤ w0.heap.size) : Below B w W :=
  hb.trans ⟨h.os, h.tape, h.output, h.size, fun b hlt => h.blk b (by omega) (by omega) (fun e => by have := ho b e.symm; omega)⟩
def goodSpecs (N O : Value → World → Prop) (ia : Nat) : List Spec → Nat → Prop
  | [], _ => True
  | s :: r, k => ((∃ x, s = ex x) ∨ s = pr N ∨ (k = ia ∧ s = pr O)) ∧ goodSpecs N O ia r (k + 1)
theorem goodSpecs_get {N O : Value → World → Prop} {ia : Nat} : ∀ (ss : List Spec) (k0 : Nat), goodSpecs N O ia ss k0 → ∀ (k : Nat) (s : Spec), ss[k]? = some s → (∃ x, s = ex x) ∨ s = pr N ∨ (k0 + k = ia ∧ s = pr O)
  | [], _, _, _, _, h => by simp at h
  | s0 :: r, k0, hg, 0, s, h => by simp at h; subst h; exact hg.1
  | s0 :: r, k0, hg, k + 1, s, h => by
    have := goodSpecs_get r (k0 + 1) hg.2 k s (by simpa using h)
    rw [show k0 + (k + 1) = k0 + 1 + k by omega]; exact this
/-- THE LAW of such a region. -/
theorem wp_region_app {P : Program} {l : List Oper} {Q : Exit → Act → World → Prop} {a : Act} {id : Nat} (β : Nat) (T : TypeId) (box : Array Value) (off base : Nat) (E : TypeId) (sz : Nat) (cv : Value) (n : Nat) (cells : List Value) (m : Nat) (news : List Value) (ia is : Nat)
    (hm : P.follows .mixedOrders = true) (hB : monoB2 (l.map prune) a.tmps.size = true) (hbox : w0.heap[β]? = some (.cells box T)) (hown : w0.ownsRow base E sz cv n cells) (hβ : β < base) (hβ' : β < w0.heap.size)
    (bs : List (List Nat)) (hbs : befores (l.map prune) [] = bs) (ss : List Spec)
    (h : walkP P l.toArray (AppInv w0 β T box off base E sz cv n cells m news ia is) (AppT β cv ia) bs (Q .normal) l.length l ss 0 a [] (fun _ => True))
    (hss : goodSpecs (NewP w0.heap.size E m news.toArray) (OwnP base E sz (n + m) (cells ++ news)) ia ss 0) : (Code.region id l.toArray true).wp P Q a w0 := by
  refine wp_region_done3 ss _ (AppT β cv ia) hm hB (fun i k s hik hk v done w w' _ hT hf => ?_) (AppInv.start hbox hown) bs hbs h
  have hlt : ∀ g, cv.ownBlock = some g → g < w0.heap.size := fun g hg => (hown.lt g hg).2
  rcases goodSpecs_get ss 0 hss k s hk with ⟨x, rfl⟩ | rfl | ⟨hka, rfl⟩
  · trivial
  · exact NewP.stable hβ' hlt hT hf
  · exact OwnP.stable hβ (by omega) hT hf
end
end Go.Proofs.YtioeliocdbckbaaDoor
namespace Go.Proofs.YtioeliocdbckbaaDoor
open Go.RowKit

def valOr (X : Option ((Nat → Value) → Value)) (vf : Nat → Value) (k : Nat) : Value := match X with
  | some X => X vf
  | none => vf k
def valsOf (Xs : Nat → Option ((Nat → Value) → Value)) (vf : Nat → Value) (k : Nat) : Value := valOr (Xs k) vf k
def updVal (vf : Nat → Value) (i : Nat) (v : Value) : Nat → Value := fun j => if j = i then v else vf j
def Proper (bs : List (List Nat)) (i : Nat) (X : (Nat → Value) → Value) : Prop := ∀ f g : Nat → Value, (∀ m ∈ bs.getD i [], f m = g m) → X f = X g
section
variable (P : Program) (ops : Array Oper) (Inv : (Nat → Bool) → World → Prop) (T : Nat → (Nat → Value) → World → World → Prop) (F : Nat → (Nat → Bool) → (Nat → Value) → World → Prop) (bs : List (List Nat)) (Q : Act → World → Prop) (n : Nat)
def relOb (i : Nat) (o : Oper) (av : (Nat → Value) → Act) (E : (Nat → Value) → Value → Prop) : Prop :=
  ∀ (done : Nat → Bool) (vf : Nat → Value) (w : World), Inv done w → done i = false → (∀ k ∈ (prune o).after.toList.map (fun e => e.on), done k = true) → (∀ k : Nat, i ∈ bs.getD k [] → done k = false) → (∀ k, done k = true → F k done vf w) →
    ∀ R : Value → World → Prop, (∀ (v : Value) (w' : World), Inv (updDone done i) w' → T i vf w w' → E vf v → F i (updDone done i) (updVal vf i v) w' → R v w') → if Region.wanted o (yielded ops (av vf).tmps) then gives P o (av vf) w R else R undef w
def relWalk : List Oper → Nat → ((Nat → Value) → Act) → Prop
  | [], _, av => ∀ (done : Nat → Bool) (vf : Nat → Value) (w : World), (∀ k, k < n → done k = true) → Inv done w → (∀ k, k < n → F k done vf w) → Q (av vf) w
  | o :: l, i, av => (∃ X : (Nat → Value) → Value, Proper bs i X ∧ relOb P ops Inv T F bs i o av (fun vf v => v = X vf) ∧ relWalk l (i + 1) (fun vf => (av vf).put o.dst (X vf))) ∨
      (relOb P ops Inv T F bs i o av (fun _ _ => True) ∧ relWalk l (i + 1) (fun vf => (av vf).put o.dst (vf i)))
end
section
variable {P : Program} {ops : Array Oper} {Inv : (Nat → Bool) → World → Prop} {T : Nat → (Nat → Value) → World → World → Prop} {F : Nat → (Nat → Bool) → (Nat → Value) → World → Prop} {bs : List (List Nat)} {Q : Act → World → Prop} {n : Nat} {o : Oper} {l : List Oper} {i : Nat} {av : (Nat → Value) → Act}
/-- an operation whose value is told. -/
theorem rel_ex (h : ∀ K : ((Nat → Value) → Act) → Prop, (∀ a', relWalk P ops Inv T F bs Q n l (i + 1) a' → K a') → ∃ X : (Nat → Value) → Value, relOb P ops Inv T F bs i o av (fun vf v => v = X vf) ∧ Proper bs i X ∧ K (fun vf => (av vf).put o.dst (X vf))) : relWalk P ops Inv T F bs Q n (o :: l) i av := by
  obtain ⟨X, h1, h2, h3⟩ := h _ (fun _ h => h)
  exact .inl ⟨X, h2, h1, h3⟩
/-- an operation whose value meets a fact. -/
theorem rel_pr (h : ∀ K : ((Nat → Value) → Act) → Prop, (∀ a', relWalk P ops Inv T F bs Q n l (i + 1) a' → K a') → relOb P ops Inv T F bs i o av (fun _ _ => True) ∧ K (fun vf => (av vf).put o.dst (vf i))) : relWalk P ops Inv T F bs Q n (o :: l) i av := by
  exact .inr (h _ (fun _ h => h))
end
theorem lexAct_congr {f g : Nat → Value} : ∀ (l : List Oper) (i : Nat) (a : Act), (∀ k, i ≤ k → f k = g k) → lexAct f l i a = lexAct g l i a
  | [], _, _, _ => rfl
  | o :: l, i, a, h => by
    simp only [lexAct]
    rw [h i (Nat.le_refl _)]
    exact lexAct_congr l (i + 1) _ (fun k hk => h k (by omega))
def exOf (X : Option ((Nat → Value) → Value)) (vf : Nat → Value) (v : Value) : Prop := ∀ Y, X = some Y → v = Y vf
section
variable {P : Program} {ops : Array Oper} {Inv : (Nat → Bool) → World → Prop} {T : Nat → (Nat → Value) → World → World → Prop} {F : Nat → (Nat → Bool) → (Nat → Value) → World → Prop} {bs : List (List Nat)} {Q : Act → World → Prop} {n : Nat}
theorem rel_ext : ∀ (l : List Oper) (i : Nat) (av : (Nat → Value) → Act), relWalk P ops Inv T F bs Q n l i av → ∃ Xs : Nat → Option ((Nat → Value) → Value),
    (∀ k X, Xs k = some X → Proper bs k X) ∧ (∀ j o, l[j]? = some o → relOb P ops Inv T F bs (i + j) o (fun vf => lexAct (valsOf Xs vf) (l.take j) i (av vf)) (exOf (Xs (i + j)))) ∧
    (∀ (done : Nat → Bool) (vf : Nat → Value) (w : World), (∀ k, k < n → done k = true) → Inv done w → (∀ k, k < n → F k done vf w) → Q (lexAct (valsOf Xs vf) l i (av vf)) w)
  | [], i, av, h => ⟨fun _ => none, (fun _ _ h => by cases h), (fun j o hj => by simp at hj), h⟩
  | o :: l, i, av, h => by
    have main : ∀ (X0 : Option ((Nat → Value) → Value)), (∀ X, X0 = some X → Proper bs i X) → relOb P ops Inv T F bs i o av (exOf X0) →
        (∃ Xs : Nat → Option ((Nat → Value) → Value), (∀ k X, Xs k = some X → Proper bs k X) ∧ (∀ j o', l[j]? = some o' → relOb P ops Inv T F bs (i + 1 + j) o' (fun vf => lexAct (valsOf Xs vf) (l.take j) (i + 1) ((av vf).put o.dst (valOr X0 vf i))) (exOf (Xs (i + 1 + j)))) ∧
          (∀ (done : Nat → Bool) (vf : Nat → Value) (w : World), (∀ k, k < n → done k = true) → Inv done w → (∀ k, k < n → F k done vf w) → Q (lexAct (valsOf Xs vf) l (i + 1) ((av vf).put o.dst (valOr X0 vf i))) w)) →
        ∃ Xs : Nat → Option ((Nat → Value) → Value), (∀ k X, Xs k = some X → Proper bs k X) ∧ (∀ j o', (o :: l)[j]? = some o' → relOb P ops Inv T F bs (i + j) o' (fun vf => lexAct (valsOf Xs vf) ((o :: l).take j) i (av vf)) (exOf (Xs (i + j)))) ∧
          (∀ (done : Nat → Bool) (vf : Nat → Value) (w : World), (∀ k, k < n → done k = true) → Inv done w → (∀ k, k < n → F k done vf w) → Q (lexAct (valsOf Xs vf) (o :: l) i (av vf)) w) := by
      rintro X0 hp0 hob ⟨Xs, hp, hobs, hend⟩
      let Ys : Nat → Option ((Nat → Value) → Value) := fun k => if k = i then X0 else Xs k
      have yi : Ys i = X0 := if_pos rfl
      have yk : ∀ k, i + 1 ≤ k → Ys k = Xs k := fun k hk => if_neg (by omega)
      have hv : ∀ vf, valsOf Ys vf i = (valOr X0 vf i) := fun vf => by unfold valsOf; rw [yi]
      have hc : ∀ (m : List Oper) (vf : Nat → Value) (a : Act), lexAct (valsOf Ys vf) m (i + 1) a = lexAct (valsOf Xs vf) m (i + 1) a := fun m vf a => lexAct_congr m (i + 1) a fun k hk => by unfold valsOf; rw [yk k hk]
      refine ⟨Ys, fun k X hk => ?_, fun j o' hj => ?_, fun done vf w hd hI hF => ?_⟩
      · by_cases e : k = i
        · subst e; rw [yi] at hk; exact hp0 X hk
        · have : Ys k = Xs k := if_neg e
          rw [this] at hk; exact hp k X hk
      · cases j with
        | zero =>
          simp only [List.getElem?_cons_zero, Option.some.injEq] at hj
          subst hj
          rw [Nat.add_zero, yi]
          exact hob
        | succ j =>
          have := hobs j o' (by simpa using hj)
          rw [show i + (j + 1) = i + 1 + j by omega, yk _ (by omega)]
          refine (congrArg (fun a => relOb P ops Inv T F bs (i + 1 + j) o' a (exOf (Xs (i + 1 + j)))) ?_).mp this
          funext vf
          simp only [List.take_succ_cons, lexAct, hv]
          exact (hc _ _ _).symm
      · simp only [lexAct, hv]
        rw [hc]
        exact hend done vf w hd hI hF
    rcases h with ⟨X, hp, hob, hw⟩ | ⟨hob, hw⟩
    · exact main (some X) (fun Y e => by injection e with e; subst e; exact hp) (fun done vf w h1 h2 h3 h4 h5 R hR => hob done vf w h1 h2 h3 h4 h5 R fun v w' a b c d => hR v w' a b (fun Y e => by injection e with e; subst e; exact c) d) (rel_ext l (i + 1) _ hw)
    · exact main none (fun Y e => by cases e) (fun done vf w h1 h2 h3 h4 h5 R hR => hob done vf w h1 h2 h3 h4 h5 R fun v w' a b _ d => hR v w' a b (fun Y e => by cases e) d) (rel_ext l (i + 1) _ hw)
end

/-- What holds when the operations that are listed have been done. -/
structure RelInv (l : List Oper) (Xs : Nat → Option ((Nat → Value) → Value)) (Inv : (Nat → Bool) → World → Prop) (F : Nat → (Nat → Bool) → (Nat → Value) → World → Prop) (a : Act) (vf : Nat → Value) (listed : Array Bool) (a' : Act) (w' : World) : Prop where
  cls : Inv (fun k => listed[k]? == some true) w'
  down : ∀ (j : Nat) (o : Oper), l[j]? = some o → listed[j]? = some true → ∀ e ∈ o.after, listed[e.on]? = some true
  lsize : listed.size = l.length
  defers : a'.defers = a.defers
  size : a'.tmps.size = a.tmps.size
  vals : ∀ j, listed[j]? = some true → vf j = valsOf Xs vf j
  facts : ∀ j, listed[j]? = some true → F j (fun k => listed[k]? == some true) vf w'
  slots : ∀ (j : Nat) (o : Oper), l[j]? = some o → listed[j]? = some true → ∀ d, o.dst = some d → a'.tmps[d]? = some (vf j)
  rest : ∀ t, (∀ (j : Nat) (o : Oper), l[j]? = some o → listed[j]? = some true → o.dst ≠ some t) → a'.tmps[t]? = a.tmps[t]?

section
variable {P : Program} {l : List Oper} {Inv : (Nat → Bool) → World → Prop} {T : Nat → (Nat → Value) → World → World → Prop} {F : Nat → (Nat → Bool) → (Nat → Value) → World → Prop} {Q : Exit → Act → World → Prop} {a : Act}
theorem wpAny_rel (hB : monoB2 l a.tmps.size = true) (hpr : ∀ o ∈ l, prune o = o)
    (hst : ∀ (i : Nat) (done : Nat → Bool) (vf : Nat → Value) (w w' : World), Inv done w → done i = false → (∀ m ∈ (befores l []).getD i [], done m = true) → (∀ m, done m = true → F m done vf w) → T i vf w w' → ∀ k, done k = true → F k (updDone done i) vf w')
    (hF : ∀ (k : Nat) (done : Nat → Bool) (f g : Nat → Value) (w : World), (∀ m ∈ (befores l []).getD k [], f m = g m) → f k = g k → F k done f w → F k done g w)
    (h : relWalk P l.toArray Inv T F (befores l []) (Q .normal) l.length l 0 (fun _ => a)) :
    ∃ Xs, ∀ (fuel : Nat) (listed : Array Bool) (vf : Nat → Value) (a' : Act) (w' : World), (undone listed l.length).length ≤ fuel → RelInv l Xs Inv F a vf listed a' w' → wpAny P .any l.toArray Q fuel listed a' w' := by
  obtain ⟨Xs, hpX, hobs, hend⟩ := rel_ext l 0 _ h
  refine ⟨Xs, ?_⟩
  have hS := fun {i : Nat} {o : Oper} (hi : l[i]? = some o) => monoB2_spec hB hi
  have fin : ∀ (listed : Array Bool) (vf : Nat → Value) (a' : Act) (w' : World), (∀ j, j < l.length → listed[j]? = some true) → RelInv l Xs Inv F a vf listed a' w' → Q .normal a' w' := by
    intro listed vf a' w' hall hI
    have hq := hend _ vf w' (fun k hk => by simp [hall k hk]) hI.cls (fun k hk => hI.facts k (hall k hk))
    have ea : a' = lexAct (valsOf Xs vf) l 0 a := by
      obtain ⟨hz, hd⟩ := lexAct_size (valsOf Xs vf) l 0 a
      have ht : a'.tmps = (lexAct (valsOf Xs vf) l 0 a).tmps := by
        apply Array.ext_getElem?
        intro t
        by_cases hex : ∃ (j : Nat) (o : Oper), l[j]? = some o ∧ o.dst = some t
        · obtain ⟨j, o, hj, hdt⟩ := hex
          have hjl := (List.getElem?_eq_some_iff.1 hj).1
          obtain ⟨hlt, huniq⟩ := (hS hj).2.2.2 t hdt
          rw [lexAct_same _ l 0 a j o hj hdt huniq hlt, Nat.zero_add, ← hI.vals j (hall j hjl)]
          exact hI.slots j o hj (hall j hjl) t hdt
        · have hn : ∀ (j : Nat) (o : Oper), l[j]? = some o → o.dst ≠ some t := fun j o hj e => hex ⟨j, o, hj, e⟩
          rw [lexAct_other _ l 0 a (fun o ho => by obtain ⟨j, hj⟩ := List.getElem?_of_mem ho; exact hn j o hj)]
          exact hI.rest t (fun j o hj _ => hn j o hj)
      cases a'; cases hx : lexAct (valsOf Xs vf) l 0 a
      rw [hx] at ht hd
      have := hI.defers
      simp_all
    rw [ea]; exact hq
  have allIf : ∀ (listed : Array Bool), listed.size = l.length → Region.ready .any l.toArray listed = [] → ∀ j, j < l.length → listed[j]? = some true := by
    intro listed hsz hr j
    induction j using Nat.strongRecOn with
    | ind j ih =>
      intro hj
      have hsome : listed[j]? = some listed[j] := Array.getElem?_eq_getElem (by omega)
      cases hb : listed[j] with
      | true => rw [hsome, hb]
      | false =>
        have : j ∈ Region.ready .any l.toArray listed := by
          rw [mem_ready]
          refine ⟨by simp [Array.getD_eq_getD_getElem?, hsome, hb], l[j], by simp [hj], fun e he _ => ?_⟩
          have h1 := ((hS (List.getElem?_eq_getElem hj)).2.1 e he).1
          have h2 := ih e.on h1 (by omega)
          simp [Array.getD_eq_getD_getElem?, h2]
        rw [hr] at this
        cases this
  intro fuel
  induction fuel with
  | zero =>
    intro listed vf a' w' hf hI
    have hall : ∀ j, j < l.length → listed[j]? = some true := by
      intro j hj
      have h0 : undone listed l.length = [] := List.eq_nil_of_length_eq_zero (by omega)
      unfold undone at h0
      rw [List.filter_eq_nil_iff] at h0
      simpa using h0 j (List.mem_range.2 hj)
    refine ⟨?_, fin _ _ _ _ hall hI⟩
    rw [List.eq_nil_iff_forall_not_mem]
    intro j hj
    obtain ⟨h0, o, ho, _⟩ := mem_ready.1 hj
    have hj' : j < l.length := by
      have := (Array.getElem?_eq_some_iff.1 ho).1
      simpa using this
    simp [Array.getD_eq_getD_getElem?, hall j hj'] at h0
  | succ fuel ih =>
    intro listed vf a' w' hf hI
    refine ⟨fun hr => fin _ _ _ _ (allIf listed hI.lsize hr) hI, fun i hi => ?_⟩
    obtain ⟨h0, o, ho, hdep⟩ := mem_ready.1 hi
    have hil : l[i]? = some o := by simpa using ho
    have hilt : i < l.length := (List.getElem?_eq_some_iff.1 hil).1
    have hnl : listed[i]? ≠ some true := fun e => by simp [Array.getD_eq_getD_getElem?, e] at h0
    obtain ⟨hsel, hafter, hlooks, hdst⟩ := hS hil
    have hdone : ∀ e ∈ o.after, listed[e.on]? = some true := fun e he => by
      have := hdep e he (hafter e he).2
      rw [Array.getD_eq_getD_getElem?] at this
      cases hx : listed[e.on]? with
      | none => simp [hx] at this
      | some b => simp [hx] at this; rw [this]
    have hob := hobs i o hil
    rw [Nat.zero_add] at hob
    have hclosed : ∀ k m : Nat, m ∈ (befores l []).getD k [] → listed[k]? = some true → listed[m]? = some true := fun k m hk hlk =>
      befores_spec l [] (fun k i => listed[k]? = some true → listed[i]? = some true) (fun k i h => by simp at h) (fun j o' e hj he hlj => by
        simp at hlj; exact hI.down j o' hj hlj e he) (fun a b c h1 h2 h3 => h2 (h1 h3)) k m hk hlk
    have hsame : ∀ t ∈ o.looksAt l.toArray, (lexAct (valsOf Xs vf) (l.take i) 0 a).tmps[t]? = a'.tmps[t]? := by
      intro t ht
      by_cases hex : ∃ (j : Nat) (o' : Oper), l[j]? = some o' ∧ o'.dst = some t
      · obtain ⟨j, o', hj, hdt⟩ := hex
        rcases hlooks t ht j o' hj hdt with ⟨hji, e, he, hej⟩ | hbef
        rotate_left
        · have hij : i < j := befores_spec l [] (fun k i => i < k) (fun k i h => by simp at h) (fun j o' e hj he => by
            have := ((hS (show l[j]? = some o' from hj)).2.1 e he).1; simpa using this) (fun a b c h1 h2 => Nat.lt_trans h2 h1) j i hbef
          have hnj : listed[j]? ≠ some true := fun hlj => hnl (hclosed j i hbef hlj)
          obtain ⟨_, huniq⟩ := (hS hj).2.2.2 t hdt
          rw [lexAct_other _ (l.take i) 0 a (fun o'' ho'' => by
            obtain ⟨k, hk⟩ := List.getElem?_of_mem ho''
            have hki : k < i := by have := (List.getElem?_eq_some_iff.1 hk).1; simp at this; omega
            rw [List.getElem?_take_of_lt hki] at hk
            exact huniq k o'' hk (by omega))]
          refine (hI.rest t fun k o'' hk hlk => ?_).symm
          by_cases hkj : k = j
          · subst hkj; exact absurd hlk hnj
          · exact huniq k o'' hk hkj
        have hlj : listed[j]? = some true := hej ▸ hdone e he
        obtain ⟨hlt, huniq⟩ := (hS hj).2.2.2 t hdt
        rw [lexAct_same _ (l.take i) 0 a j o' (by rw [List.getElem?_take_of_lt hji]; exact hj) hdt (fun j' o'' hj' hne => huniq j' o'' (by
          have hlt' : j' < i := by
            have := (List.getElem?_eq_some_iff.1 hj').1
            simp at this; omega
          rw [List.getElem?_take_of_lt hlt'] at hj'; exact hj') hne) hlt, Nat.zero_add, ← hI.vals j hlj]
        exact (hI.slots j o' hj hlj t hdt).symm
      · have hn : ∀ (j : Nat) (o : Oper), l[j]? = some o → o.dst ≠ some t := fun j o hj e => hex ⟨j, o, hj, e⟩
        rw [lexAct_other _ (l.take i) 0 a (fun o' ho' => by obtain ⟨j, hj⟩ := List.getElem?_of_mem (List.mem_of_mem_take ho'); exact hn j o' hj)]
        exact (hI.rest t (fun j o hj _ => hn j o hj)).symm
    have hexec : execOp (lexAct (valsOf Xs vf) (l.take i) 0 a).eval o = execOp a'.eval o := by
      refine execOp_congr o hsel fun x hx => ?_
      cases x with
      | tmp t =>
        have := hsame t (List.mem_append_left _ (List.mem_filterMap.2 ⟨.tmp t, by simpa using hx, rfl⟩))
        simp [Act.eval, Array.getD_eq_getD_getElem?, this]
      | _ => rfl
    have hwant : Region.wanted o (yielded l.toArray (lexAct (valsOf Xs vf) (l.take i) 0 a).tmps) = Region.wanted o (yielded l.toArray a'.tmps) := by
      unfold Region.wanted
      cases hg : o.guard with
      | none => rfl
      | some gw =>
        obtain ⟨g, want⟩ := gw
        have hy : yielded l.toArray (lexAct (valsOf Xs vf) (l.take i) 0 a).tmps g = yielded l.toArray a'.tmps g := by
          unfold yielded
          cases ht : (l.toArray[g]?).bind (·.dst) with
          | none => rfl
          | some t =>
            have := hsame t (by simp only [Oper.looksAt, hg, ht]; simp)
            simp only [Option.bind_some, this]
        simp only [hy]
    have hnot : ∀ k : Nat, i ∈ (befores l []).getD k [] → ((fun k => listed[k]? == some true) k) = false := by
      intro k hk
      cases hx : (listed[k]? == some true) with
      | false => exact hx
      | true => exact absurd (hclosed k i hk (by simpa using hx)) hnl
    have hbi : ∀ m ∈ (befores l []).getD i [], listed[m]? = some true := fun m hm => by
      have hmi : m < i := befores_spec l [] (fun k i => i < k) (fun k i h => by simp at h) (fun j o' e hj he => by
          have := ((hS (show l[j]? = some o' from hj)).2.1 e he).1; simpa using this) (fun a b c h1 h2 => Nat.lt_trans h2 h1) i m hm
      have key := befores_spec l [] (fun k m => (k = i ∨ listed[k]? = some true) → (m = i ∨ listed[m]? = some true)) (fun k m h => by simp at h) (fun j o' e hj he hlj => by
        rw [List.length_nil, Nat.zero_add] at hlj
        rcases hlj with rfl | hlj
        · rw [hil] at hj
          obtain rfl : o = o' := by simpa using hj
          exact .inr (hdone e he)
        · exact .inr (hI.down j o' hj hlj e he)) (fun a b c h1 h2 h3 => h2 (h1 h3)) i m hm (.inl rfl)
      rcases key with h | h
      · omega
      · exact h
    have hres := hob _ vf w' hI.cls (by simpa using hnl) (fun k hk => by
      rw [hpr o (List.mem_of_getElem? hil)] at hk
      obtain ⟨e, he, rfl⟩ := List.mem_map.1 hk
      simp [hdone e (by simpa using he)]) hnot (fun k hk => hI.facts k (by simpa using hk))
      (fun v w'' => Inv (updDone (fun k => listed[k]? == some true) i) w'' ∧ T i vf w' w'' ∧ exOf (Xs i) vf v ∧ F i (updDone (fun k => listed[k]? == some true) i) (updVal vf i v) w'') (fun v w'' h0 h1 h2 h3 => ⟨h0, h1, h2, h3⟩)
    rw [hwant] at hres
    have next : ∀ v w'', Inv (updDone (fun k => listed[k]? == some true) i) w'' → T i vf w' w'' → exOf (Xs i) vf v → F i (updDone (fun k => listed[k]? == some true) i) (updVal vf i v) w'' → wpAny P .any l.toArray Q fuel (listed.setIfInBounds i true) (a'.put o.dst v) w'' := by
      intro v w'' hIv hT hE hFv
      have hu := undone_set hilt (by rw [hI.lsize]; exact Nat.le_refl _) hnl
      have hset : ∀ j, (listed.setIfInBounds i true)[j]? = some true → j = i ∨ (j ≠ i ∧ listed[j]? = some true) := fun j hj => by
        by_cases e : j = i
        · exact .inl e
        · rw [Array.getElem?_setIfInBounds_ne (Ne.symm e)] at hj
          exact .inr ⟨e, hj⟩
      have hagree : ∀ j, listed[j]? = some true → ∀ m ∈ (befores l []).getD j [], vf m = updVal vf i v m := fun j hj m hm => by
        have hm' := hclosed j m hm hj
        unfold updVal
        rw [if_neg (fun e : m = i => hnl (e ▸ hm'))]
      have hagreei : ∀ m ∈ (befores l []).getD i [], vf m = updVal vf i v m := fun m hm => by
        have hmi : m < i := befores_spec l [] (fun k i => i < k) (fun k i h => by simp at h) (fun j o' e hj he => by
            have := ((hS (show l[j]? = some o' from hj)).2.1 e he).1; simpa using this) (fun a b c h1 h2 => Nat.lt_trans h2 h1) i m hm
        unfold updVal
        rw [if_neg (by omega)]
      have hfun : updDone (fun k => listed[k]? == some true) i = fun k => (listed.setIfInBounds i true)[k]? == some true := by
        funext k
        unfold updDone
        by_cases e : k = i
        · subst e; rw [if_pos rfl, Array.getElem?_setIfInBounds_self_of_lt (by rw [hI.lsize]; exact hilt)]; simp
        · rw [if_neg e, Array.getElem?_setIfInBounds_ne (Ne.symm e)]
      refine ih _ (updVal vf i v) _ _ (by omega) ⟨?_, ?_, by simp [hI.lsize], ?_, ?_, ?_, ?_, ?_, ?_⟩
      · rw [← hfun]; exact hIv
      · intro j o' hj hlj e he
        by_cases hje : j = i
        · subst hje
          rw [hil] at hj
          obtain rfl : o = o' := by simpa using hj
          have := hdone e he
          by_cases hei : e.on = j
          · rw [hei, Array.getElem?_setIfInBounds_self_of_lt (by rw [hI.lsize]; exact hilt)]
          · rw [Array.getElem?_setIfInBounds_ne (Ne.symm hei)]; exact this
        · rw [Array.getElem?_setIfInBounds_ne (Ne.symm hje)] at hlj
          have := hI.down j o' hj hlj e he
          by_cases hei : e.on = i
          · rw [hei, Array.getElem?_setIfInBounds_self_of_lt (by rw [hI.lsize]; exact hilt)]
          · rw [Array.getElem?_setIfInBounds_ne (Ne.symm hei)]; exact this
      · rw [← hI.defers]; cases o.dst <;> rfl
      · rw [← hI.size]; cases o.dst <;> simp [Act.put]
      · intro j hj
        rcases hset j hj with rfl | ⟨hne, hj'⟩
        · have e1 : updVal vf j v j = v := if_pos rfl
          rw [e1]
          unfold valsOf
          cases hx : Xs j with
          | none => exact e1.symm
          | some X => exact (hE X hx).trans (hpX j X hx _ _ hagreei)
        · have e1 : updVal vf i v j = vf j := if_neg hne
          rw [e1, hI.vals j hj']
          unfold valsOf
          cases hx : Xs j with
          | none => exact e1.symm
          | some X => exact hpX j X hx _ _ (hagree j hj')
      · intro j hj
        rw [← hfun]
        rcases hset j hj with rfl | ⟨hne, hj'⟩
        · exact hFv
        · refine hF j _ vf _ w'' (hagree j hj') (by unfold updVal; rw [if_neg hne]) ?_
          exact hst i _ vf w' w'' hI.cls (by simpa using hnl) (fun m hm => by simpa using hbi m hm) (fun m hm => hI.facts m (by simpa using hm)) hT j (by simpa using hj')
      · intro j o' hj hlj d hd
        rcases hset j hlj with rfl | ⟨hne, hj'⟩
        · rw [hil] at hj
          obtain rfl : o = o' := by simpa using hj
          rw [hd, put_get_same (by rw [hI.size]; exact (hdst d hd).1)]
          unfold updVal; rw [if_pos rfl]
        · rw [put_get_other (fun e' => (hdst d e').2 j o' hj hne hd)]
          unfold updVal; rw [if_neg hne]
          exact hI.slots j o' hj hj' d hd
      · intro t ht
        have hti : o.dst ≠ some t := ht i o hil (by rw [Array.getElem?_setIfInBounds_self_of_lt (by rw [hI.lsize]; exact hilt)])
        rw [put_get_other hti]
        refine hI.rest t fun j o' hj hlj => ?_
        by_cases e : j = i
        · subst e; exact absurd hlj hnl
        · exact ht j o' hj (by rw [Array.getElem?_setIfInBounds_ne (Ne.symm e)]; exact hlj)
    unfold wpOp
    rw [ho]
    by_cases hw : Region.wanted o (yielded l.toArray a'.tmps) = true
    · simp only [hw, if_true] at hres ⊢
      refine .inl (wp_of_gives (R := fun v w'' => Inv (updDone (fun k => listed[k]? == some true) i) w'' ∧ T i vf w' w'' ∧ exOf (Xs i) vf v ∧ F i (updDone (fun k => listed[k]? == some true) i) (updVal vf i v) w'') ?_ fun v w'' ⟨h0, h1, h2, h3⟩ => next v w'' h0 h1 h2 h3)
      unfold gives at hres ⊢
      rw [← hexec]; exact hres
    · simp only [hw] at hres ⊢
      exact next _ _ hres.1 hres.2.1 hres.2.2.1 hres.2.2.2
end
theorem prune_prune (o : Oper) : prune (prune o) = prune o := by
  unfold prune
  simp only [Array.filter_filter, Bool.and_self]
theorem rel_prune {P : Program} {Inv : (Nat → Bool) → World → Prop} {T : Nat → (Nat → Value) → World → World → Prop} {F : Nat → (Nat → Bool) → (Nat → Value) → World → Prop} {bs : List (List Nat)} {Q : Act → World → Prop} {n : Nat} {ops' : List Oper} :
    ∀ (l : List Oper) (i : Nat) (av : (Nat → Value) → Act), relWalk P ops'.toArray Inv T F bs Q n l i av → relWalk P (ops'.map prune).toArray Inv T F bs Q n (l.map prune) i av
  | [], _, _, h => h
  | o :: l, i, av, h => by
    have one : ∀ E, relOb P ops'.toArray Inv T F bs i o av E → relOb P (ops'.map prune).toArray Inv T F bs i (prune o) av E := fun E h1 done vf w a b c d e R hR => by
      rw [prune_prune] at c
      have := h1 done vf w a b c d e R hR
      rw [← yielded_prune] at this
      exact this
    rcases h with ⟨X, hp, h1, h2⟩ | ⟨h1, h2⟩
    · exact .inl ⟨X, hp, one _ h1, rel_prune l (i + 1) _ h2⟩
    · exact .inr ⟨one _ h1, rel_prune l (i + 1) _ h2⟩
/-- THE LAW. -/
theorem wp_region_rel {P : Program} {l : List Oper} {Q : Exit → Act → World → Prop} {a : Act} {id : Nat} {w : World} (Inv : (Nat → Bool) → World → Prop) (T : Nat → (Nat → Value) → World → World → Prop) (F : Nat → (Nat → Bool) → (Nat → Value) → World → Prop)
    (hm : P.follows .mixedOrders = true) (hB : monoB2 (l.map prune) a.tmps.size = true) (bs : List (List Nat)) (hbs : befores (l.map prune) [] = bs)
    (hst : ∀ (i : Nat) (done : Nat → Bool) (vf : Nat → Value) (w w' : World), Inv done w → done i = false → (∀ m ∈ bs.getD i [], done m = true) → (∀ m, done m = true → F m done vf w) → T i vf w w' → ∀ k, done k = true → F k (updDone done i) vf w')
    (hF : ∀ (k : Nat) (done : Nat → Bool) (f g : Nat → Value) (w : World), (∀ m ∈ bs.getD k [], f m = g m) → f k = g k → F k done f w → F k done g w)
    (hC : Inv (fun _ => false) w.drew) (h : relWalk P l.toArray Inv T F bs (Q .normal) l.length l 0 (fun _ => a)) : (Code.region id l.toArray true).wp P Q a w := by
  subst hbs
  have h' := rel_prune (ops' := l) l 0 _ h
  rw [show l.length = (l.map prune).length by simp] at h'
  obtain ⟨Xs, hX⟩ := wpAny_rel hB (fun o ho => by obtain ⟨o', _, rfl⟩ := List.mem_map.1 ho; exact prune_prune o') hst hF h'
  refine wp_region_any hm (wpAny_prune _ _ _ _ (hX _ _ (fun _ => undef) _ _ ?_ ⟨?_, ?_, by simp, rfl, rfl, ?_, ?_, ?_, fun _ _ => rfl⟩))
  · have := List.length_filter_le (fun i => (Array.replicate l.toArray.size false)[i]? != some true) (List.range (l.map prune).length)
    simpa [undone] using this
  · refine (congrArg (fun d => Inv d _) ?_).mp hC
    funext k
    rw [Array.getElem?_replicate]
    split <;> simp
  · intro j o hj hl
    rw [Array.getElem?_replicate] at hl
    split at hl <;> simp at hl
  · intro j hl
    rw [Array.getElem?_replicate] at hl
    split at hl <;> simp at hl
  · intro j hl
    rw [Array.getElem?_replicate] at hl
    split at hl <;> simp at hl
  · intro j o hj hl
    rw [Array.getElem?_replicate] at hl
    split at hl <;> simp at hl
end Go.Proofs.YtioeliocdbckbaaDoor
namespace Go.Proofs.YtioeliocdbckbaaDoor
open Go.RowKit

def Typed (T0 : TypeId) (o : Obj) : Prop := ∃ cs fr, o = .cells cs T0 fr
/-- what may become of a world: blocks stay, but for those of the types ts. -/
structure InitT (ts : List TypeId) (w w' : World) : Prop where
  size : w.heap.size ≤ w'.heap.size
  keep : ∀ (k : Nat) (o : Obj), w.heap[k]? = some o → (∀ T ∈ ts, ¬ Typed T o) → w'.heap[k]? = some o
theorem InitT.of_below {ts : List TypeId} {w w' : World} (h : Below w.heap.size w w') : InitT ts w w' := ⟨h.size, fun _ _ hk _ => blk_below hk h⟩
theorem InitT.of_set {T0 : TypeId} {ts : List TypeId} (hT : T0 ∈ ts) {w : World} {b o : Nat} {v : Value} {cs : Array Value} {fr : Nat × Nat} (h : w.heap[b]? = some (.cells cs T0 fr)) : InitT ts w (w.setCell ⟨b, o, none⟩ v) := by
  refine ⟨by rw [set_size]; exact Nat.le_refl _, fun k o' hk hn => ?_⟩
  rw [set_other (fun e => by subst e; rw [h] at hk; injection hk with hk; exact hn T0 hT ⟨_, _, hk.symm⟩)]
  exact hk
theorem InitT.of_grown {T0 : TypeId} {ts : List TypeId} (hT : T0 ∈ ts) {w w' : World} {own : Option Nat} (hg : w.grownBy w' own) (ho : ∀ g, own = some g → ∃ o, w.heap[g]? = some o ∧ Typed T0 o) : InitT ts w w' := by
  refine ⟨hg.size, fun k o hk hn => ?_⟩
  rw [hg.block k (Array.getElem?_eq_some_iff.1 hk).1 (fun e => by
    obtain ⟨o', h1, h2⟩ := ho k e.symm
    rw [hk] at h1; injection h1 with h1; subst h1; exact hn T0 hT h2)]
  exact hk
theorem OwnSl.init {α : Type} {ts : List TypeId} {w w' : World} {base : Nat} {e : TypeId} {sz : Nat} {R : α → List Value → Prop} {v : Value} {xs : List α} (h : OwnSl w base e sz R v xs) (hi : InitT ts w w') (hne : e ∉ ts) : OwnSl w' base e sz R v xs := by
  obtain ⟨rows, hr, h1, h2⟩ := h
  refine ⟨rows, hr, h1, ?_⟩
  rcases h2 with h2 | ⟨g, cap, cur, hv, hg, hh, r⟩
  · exact .inl h2
  · refine .inr ⟨g, cap, cur, hv, hg, hi.keep g _ hh (fun T hT => ?_), r⟩
    rintro ⟨cs, fr, e'⟩
    injection e' with _ e2 _
    exact hne (e2 ▸ hT)
theorem OwnSl.set {α : Type} {w : World} {base : Nat} {e : TypeId} {sz : Nat} {R : α → List Value → Prop} {v x : Value} {xs : List α} {a : Addr} (h : OwnSl w base e sz R v xs) (hb : v.ownBlock ≠ some a.block) : OwnSl (w.setCell a x) base e sz R v xs := by
  obtain ⟨rows, hr, ho⟩ := h
  exact ⟨rows, hr, ownsRow_keep1 ho fun b _ _ hv => set_other (fun e => hb (by rw [← e]; exact hv))⟩
theorem OwnSl.base {α : Type} {w : World} {base base' : Nat} {e : TypeId} {sz : Nat} {R : α → List Value → Prop} {v : Value} {xs : List α} (h : OwnSl w base e sz R v xs) (hb : base' ≤ base) : OwnSl w base' e sz R v xs := by
  obtain ⟨rows, hr, h1, h2⟩ := h
  refine ⟨rows, hr, h1, ?_⟩
  rcases h2 with h2 | ⟨g, cap, cur, hv, hg, r⟩
  · exact .inl h2
  · exact .inr ⟨g, cap, cur, hv, Nat.le_trans hb hg, r⟩
/-- a cell put anew. -/
theorem OwnSl.put {α : Type} {w : World} {base b n c : Nat} {e : TypeId} {sz : Nat} {R : α → List Value → Prop} {xs : List α} (h : OwnSl w base e sz R (.slice (some ⟨b, 0, none⟩) n c) xs) {i j : Nat} (hi : i < xs.length) (hj : j < sz) {y : α} {u : Value} (hR : ∀ r, R xs[i] r → R y (r.set j u)) :
    OwnSl (w.setCell ⟨b, i * sz + j, none⟩ u) base e sz R (.slice (some ⟨b, 0, none⟩) n c) (xs.set i y) := by
  obtain ⟨rows, hr, h1, h2⟩ := h
  rcases h2 with ⟨h0, _⟩ | ⟨g, cap, cur, hv, hg, hh, hnc, hcm, hcs, htk⟩
  · cases h0
  injection hv with ha hn hc
  injection ha with ha; injection ha with ha
  subst ha hn hc
  have hir : i < rows.length := by rw [hr.len]; exact hi
  have hsz := hr.size _ (List.getElem_mem hir)
  have hrows : RowsOf sz R (xs.set i y) (rows.set i (rows[i].set j u)) := by
    refine ⟨by simp [hr.len], fun r hrm => ?_, fun k x r hx hk => ?_⟩
    · rcases List.mem_or_eq_of_mem_set hrm with h | h
      · exact hr.size r h
      · rw [h, List.length_set]; exact hsz
    · by_cases e : i = k
      · subst e
        rw [List.getElem?_set_self hi] at hx
        rw [List.getElem?_set_self hir] at hk
        injection hx with hx; injection hk with hk
        subst hx hk
        exact hR _ (hr.rel i _ _ (List.getElem?_eq_getElem hi) (List.getElem?_eq_getElem hir))
      · rw [List.getElem?_set_ne e] at hx hk
        exact hr.rel k x r hx hk
  have hfl := flat_len _ hrows.size
  have hlen : (rows.set i (rows[i].set j u)).length = xs.length := by simp [hr.len]
  refine ⟨_, hrows, by rw [hfl, hlen, List.length_set], .inr ⟨b, c, cur.setIfInBounds (i * sz + j) u, by simp, hg, set_at hh, by simpa using hnc, hcm, by simp [hcs], ?_⟩⟩
  rw [List.length_set]
  have hlt : i * sz + j < xs.length * sz := by
    calc i * sz + j < i * sz + sz := by omega
      _ = (i + 1) * sz := by rw [Nat.add_mul]; omega
      _ ≤ xs.length * sz := Nat.mul_le_mul_right _ hi
  apply List.ext_getElem?
  intro k
  by_cases hk : k < xs.length * sz
  · rw [List.getElem?_take_of_lt hk, Array.getElem?_toList]
    have hsz0 : 0 < sz := by omega
    have hdm : k / sz * sz + k % sz = k := by rw [Nat.mul_comm]; exact Nat.div_add_mod k sz
    have hm : k % sz < sz := Nat.mod_lt _ hsz0
    have hd : k / sz < xs.length := (Nat.div_lt_iff_lt_mul hsz0).2 hk
    have g1 : (rows.set i (rows[i].set j u)).flatten[k]? = (rows.set i (rows[i].set j u))[k / sz]?.bind fun r => r[k % sz]? := by
      have hlt2 : k / sz < (rows.set i (rows[i].set j u)).length := by rw [hlen]; exact hd
      have h := flat_get _ (k / sz) _ hrows.size (List.getElem?_eq_getElem hlt2) (k % sz) hm
      rw [hdm] at h
      rw [h, List.getElem?_eq_getElem hlt2]; rfl
    have g2 : rows.flatten[k]? = rows[k / sz]?.bind fun r => r[k % sz]? := by
      have hlt2 : k / sz < rows.length := by rw [hr.len]; exact hd
      have h := flat_get _ (k / sz) _ hr.size (List.getElem?_eq_getElem hlt2) (k % sz) hm
      rw [hdm] at h
      rw [h, List.getElem?_eq_getElem hlt2]; rfl
    rw [g1]
    by_cases e : k = i * sz + j
    · subst e
      have e1 : (i * sz + j) / sz = i := by rw [Nat.mul_comm, Nat.mul_add_div hsz0, Nat.div_eq_of_lt hj, Nat.add_zero]
      have e2 : (i * sz + j) % sz = j := by rw [Nat.mul_comm, Nat.mul_add_mod, Nat.mod_eq_of_lt hj]
      rw [Array.getElem?_setIfInBounds_self_of_lt (by rw [hcs]; exact Nat.lt_of_lt_of_le hlt (Nat.mul_le_mul_right _ hnc)), e1, e2, List.getElem?_set_self hir]
      show some u = (rows[i].set j u)[j]?
      rw [List.getElem?_set_self (by omega)]
    · rw [Array.getElem?_setIfInBounds_ne (Ne.symm e), ← Array.getElem?_toList, ← List.getElem?_take_of_lt (l := cur.toList) hk, htk, g2]
      by_cases ei : i = k / sz
      · rw [← ei, List.getElem?_set_self hir, List.getElem?_eq_getElem hir]
        show rows[i][k % sz]? = (rows[i].set j u)[k % sz]?
        rw [List.getElem?_set_ne (fun ej => e (by rw [← hdm, ← ei, ← ej]))]
      · rw [List.getElem?_set_ne ei]
  · rw [List.getElem?_eq_none (by rw [List.length_take]; omega), List.getElem?_eq_none (by rw [hfl, hlen]; omega)]
theorem OwnSl.slice {α : Type} {w : World} {base : Nat} {e : TypeId} {sz : Nat} {R : α → List Value → Prop} {v : Value} {xs : List α} (h : OwnSl w base e sz R v xs) : ∃ a c, v = .slice a xs.length c := by
  obtain ⟨rows, _, _, h2⟩ := h
  rcases h2 with ⟨hv, hn⟩ | ⟨g, cap, cur, hv, _⟩
  · exact ⟨_, _, by rw [hv, hn]⟩
  · exact ⟨_, _, hv⟩
theorem OwnSl.addr {α : Type} {w : World} {base : Nat} {e : TypeId} {sz n c : Nat} {a : Option Addr} {R : α → List Value → Prop} {xs : List α} (h : OwnSl w base e sz R (.slice a n c) xs) (h0 : 0 < xs.length) : ∃ b, a = some ⟨b, 0, none⟩ ∧ base ≤ b ∧ b < w.heap.size ∧ ∃ cur, w.heap[b]? = some (.cells cur e) := by
  obtain ⟨rows, _, h1, h2⟩ := h
  rcases h2 with ⟨_, hn⟩ | ⟨g, cap, cur, hv, hg, hh, _⟩
  · omega
  · injection hv with ha hn hc
    exact ⟨g, ha, hg, (Array.getElem?_eq_some_iff.1 hh).1, cur, hh⟩
theorem OwnSl.typed {α : Type} {w : World} {base : Nat} {e : TypeId} {sz : Nat} {R : α → List Value → Prop} {v : Value} {xs : List α} (h : OwnSl w base e sz R v xs) : ∀ g, v.ownBlock = some g → ∃ o, w.heap[g]? = some o ∧ Typed e o := by
  obtain ⟨rows, _, _, h2⟩ := h
  intro g hg
  rcases h2 with ⟨hv, _⟩ | ⟨g', cap, cur, hv, _, hh, _⟩
  · subst hv; simp [Value.ownBlock] at hg
  · subst hv; simp [Value.ownBlock] at hg; subst hg; exact ⟨_, hh, _, _, rfl⟩
theorem InitT.trans {ts : List TypeId} {w w' w'' : World} (h : InitT ts w w') (h' : InitT ts w' w'') : InitT ts w w'' := ⟨Nat.le_trans h.size h'.size, fun k o hk hn => h'.keep k o (h.keep k o hk hn) hn⟩
theorem two_cells {cs : Array Value} (h : cs.size = 2) : ∃ c0 c1, cs = #[c0, c1] := by
  obtain ⟨l⟩ := cs
  match l, h with
  | [c0, c1], _ => exact ⟨c0, c1, rfl⟩
theorem five_cells {cs : Array Value} (h : cs.size = 5) : ∃ c0 c1 c2 c3 c4, cs = #[c0, c1, c2, c3, c4] := by
  obtain ⟨l⟩ := cs
  match l, h with
  | [c0, c1, c2, c3, c4], _ => exact ⟨c0, c1, c2, c3, c4, rfl⟩
theorem InitT.of_sets5 {T0 : TypeId} {w : World} {b : Nat} {v0 v1 v2 v3 v4 : Value} {cs : Array Value} (h : w.heap[b]? = some (.cells cs T0)) :
    InitT [T0] w (((((w.setCell ⟨b, 0, none⟩ v0).setCell ⟨b, 1, none⟩ v1).setCell ⟨b, 2, none⟩ v2).setCell ⟨b, 3, none⟩ v3).setCell ⟨b, 4, none⟩ v4) :=
  have m : T0 ∈ [T0] := by simp
  InitT.trans (InitT.trans (InitT.trans (InitT.trans (.of_set m h) (.of_set m (set_at h))) (.of_set m (set_at (set_at h)))) (.of_set m (set_at (set_at (set_at h))))) (.of_set m (set_at (set_at (set_at (set_at h)))))
theorem blk_init {ts : List TypeId} {w w' : World} {b : Nat} {cs : Array Value} {T : TypeId} (h : w.heap[b]? = some (.cells cs T)) (hi : InitT ts w w') (hT : T ∉ ts) : w'.heap[b]? = some (.cells cs T) :=
  hi.keep b _ h fun T' hT' => by
    rintro ⟨cs', fr, e'⟩
    injection e' with _ e2 _
    exact hT (e2 ▸ hT')
def VarAt (B : Nat) (T0 : TypeId) (sz : Nat) (v : Value) (w : World) : Prop := ∃ b, v = .pointer (some ⟨b, 0, none⟩) ∧ B ≤ b ∧ ∃ cs, cs.size = sz ∧ w.heap[b]? = some (.cells cs T0)
def VarIs (T0 : TypeId) (v : Value) (cs : Array Value) (w : World) : Prop := ∃ b, v = .pointer (some ⟨b, 0, none⟩) ∧ w.heap[b]? = some (.cells cs T0)
def initF (B : Nat) (T0 : TypeId) (sz : Nat) (ia is : Nat) (news : (Nat → Value) → Array Value) (G : Nat → (Nat → Bool) → (Nat → Value) → World → Prop) (k : Nat) (done : Nat → Bool) (vf : Nat → Value) (w : World) : Prop :=
  if k = ia then VarAt B T0 sz (vf ia) w else if k = is then VarIs T0 (vf ia) (news vf) w else G k done vf w
def initT (T0 : TypeId) (ts : Nat → List TypeId) (ia is : Nat) (news : (Nat → Value) → Array Value) (i : Nat) (vf : Nat → Value) (w w' : World) : Prop :=
  InitT (if i = is then [T0] else ts i) w w' ∧ (i = is → VarIs T0 (vf ia) (news vf) w')
def initI (B : Nat) (w0 : World) (_ : Nat → Bool) (w : World) : Prop := Cls B w0 w
theorem initT.plain {T0 : TypeId} {ts : Nat → List TypeId} {ia is i : Nat} {news : (Nat → Value) → Array Value} {vf : Nat → Value} {w w' : World} (h : Below w.heap.size w w') (hi : i ≠ is) : initT T0 ts ia is news i vf w w' := ⟨.of_below h, fun e => absurd e hi⟩
theorem initT.other {T0 : TypeId} {ts : Nat → List TypeId} {ia is i : Nat} {news : (Nat → Value) → Array Value} {vf : Nat → Value} {w w' : World} (h : InitT (ts i) w w') (hi : i ≠ is) : initT T0 ts ia is news i vf w w' := ⟨by rw [if_neg hi]; exact h, fun e => absurd e hi⟩
/-- THE LAW: operation ia lays the variable, is stores into it. -/
theorem wp_region_init {P : Program} {l : List Oper} {Q : Exit → Act → World → Prop} {a : Act} {id : Nat} {w : World} (B : Nat) (hBw : B ≤ w.heap.size) (T0 : TypeId) (sz : Nat) (ts : Nat → List TypeId) (ia is : Nat) (news : (Nat → Value) → Array Value) (G : Nat → (Nat → Bool) → (Nat → Value) → World → Prop)
    (hm : P.follows .mixedOrders = true) (hB : monoB2 (l.map prune) a.tmps.size = true) (bs : List (List Nat)) (hbs : befores (l.map prune) [] = bs) (hia : ia ∈ bs.getD is []) (hts : ∀ i, T0 ∉ ts i) (hsz : ∀ vf, (news vf).size = sz)
    (hG : ∀ (i k : Nat) (done : Nat → Bool) (vf : Nat → Value) (w w' : World), k ≠ i → done i = false → (∀ m ∈ bs.getD i [], done m = true) → done k = true → InitT (if i = is then [T0] else ts i) w w' → G k done vf w → G k (updDone done i) vf w')
    (hGp : ∀ (k : Nat) (done : Nat → Bool) (f g : Nat → Value) (w : World), (∀ m ∈ bs.getD k [], f m = g m) → f k = g k → G k done f w → G k done g w) (hN : ∀ f g : Nat → Value, (∀ m ∈ bs.getD is [], f m = g m) → news f = news g)
    (h : relWalk P l.toArray (initI B w) (initT T0 ts ia is news) (initF B T0 sz ia is news G) bs (Q .normal) l.length l 0 (fun _ => a)) : (Code.region id l.toArray true).wp P Q a w := by
  refine wp_region_rel _ _ _ hm hB bs hbs (fun i done vf w1 w2 _ hd hbf hf hT k hk => ?_) (fun k done f g w1 hfg hk hF => ?_) ⟨hBw, (Below.refl _ _).drew⟩ h
  · have hki : k ≠ i := fun e => by rw [e, hd] at hk; cases hk
    have hF := hf k hk
    unfold initF at hF ⊢
    split
    · rename_i e
      rw [if_pos e] at hF
      obtain ⟨b, hv, hb, cs, hs, hc⟩ := hF
      by_cases ei : i = is
      · obtain ⟨b', hv', hc'⟩ := hT.2 ei
        rw [hv] at hv'
        injection hv' with hv'; injection hv' with hv'; injection hv' with hv'
        subst hv'
        exact ⟨b, hv, hb, _, hsz vf, hc'⟩
      · have h1 := hT.1
        rw [if_neg ei] at h1
        exact ⟨b, hv, hb, cs, hs, blk_init hc h1 (hts i)⟩
    · rename_i e
      rw [if_neg e] at hF
      split
      · rename_i e2
        rw [if_pos e2] at hF
        obtain ⟨b, hv, hc⟩ := hF
        have h1 := hT.1
        rw [if_neg (fun e' => hki (e2.trans e'.symm))] at h1
        exact ⟨b, hv, blk_init hc h1 (hts i)⟩
      · rename_i e2
        rw [if_neg e2] at hF
        exact hG i k done vf _ _ hki hd hbf hk hT.1 hF
  · unfold initF at hF ⊢
    split
    · rename_i e
      subst e
      rw [if_pos rfl, hk] at hF
      exact hF
    · rename_i e
      rw [if_neg e] at hF
      split
      · rename_i e2
        subst e2
        rw [if_pos rfl, hN f g hfg, hfg ia hia] at hF
        exact hF
      · rename_i e2
        rw [if_neg e2] at hF
        exact hGp k done f g w1 hfg hk hF
end Go.Proofs.YtioeliocdbckbaaDoor
namespace Go.Proofs.YtioeliocdbckbaaDoor
open Go.RowKit

/-- W is w with these blocks behind it, and more behind those. -/
structure Bx (w : World) (bs : List Obj) (W : World) : Prop where
  bel : Below w.heap.size w W
  at_ : ∀ (i : Nat) (o : Obj), bs[i]? = some o → W.heap[w.heap.size + i]? = some o
section
variable {w W W' : World} {bs : List Obj}
theorem Bx.nil : Bx w [] w := ⟨Below.refl _ _, fun i o h => by simp at h⟩
theorem Bx.push (h : Bx w bs W) (hs : W.heap.size = w.heap.size + bs.length) (o : Obj) : Bx w (bs ++ [o]) (W.alloc o) := by
  refine ⟨bel_alloc h.bel o, fun i x hx => ?_⟩
  rw [List.getElem?_append] at hx
  split at hx
  · exact blk_old (h.at_ i x hx)
  · rename_i hge
    have hi : i - bs.length = 0 := by
      have := (List.getElem?_eq_some_iff.1 hx).1
      simp at this; exact this
    rw [hi] at hx
    simp at hx
    subst hx
    exact blk_at (by omega)
theorem Bx.two {o o' : Obj} : Bx w [o, o'] ((w.alloc o).alloc o') := (Bx.nil.push (by simp) o).push (by simp) o'
theorem Bx.one {o : Obj} : Bx w [o] (w.alloc o) := Bx.nil.push (by simp) o
theorem Bx.three {o o' o2 : Obj} : Bx w [o, o', o2] (((w.alloc o).alloc o').alloc o2) := Bx.two.push (by simp) o2
theorem Bx.below (h : Bx w bs W) (hb : Below W.heap.size W W') : Bx w bs W' := ⟨bel_call h.bel hb, fun i o ho => blk_below (h.at_ i o ho) hb⟩
theorem Bx.alloc (h : Bx w bs W) (o : Obj) : Bx w bs (W.alloc o) := h.below (bel_alloc (Below.refl _ _) o)
theorem Bx.lift {B : Nat} (h : Bx w bs W) (hb : Below B W W') (hB : w.heap.size + bs.length ≤ B) : Bx w bs W' := ⟨h.bel.trans (hb.mono (by omega)), fun i o ho => (hb.block _ (by have := (List.getElem?_eq_some_iff.1 ho).1; omega)).trans (h.at_ i o ho)⟩
theorem Bx.top (h : Bx w bs W) : w.heap.size + bs.length ≤ W.heap.size := by
  rcases Nat.eq_zero_or_pos bs.length with h0 | h0
  · have := h.bel.size; omega
  · have hl : bs.length - 1 < bs.length := by omega
    have := (Array.getElem?_eq_some_iff.1 (h.at_ (bs.length - 1) _ (List.getElem?_eq_getElem hl))).1
    omega
theorem Bx.drew (h : Bx w bs W) : Bx w bs W.drew := h.below (Below.refl _ _).drew
theorem Bx.cells (h : Bx w bs W) {i : Nat} {cs : Array Value} {T : TypeId} (hi : bs[i]? = some (.cells cs T)) (j : Nat) : W.cell? ⟨w.heap.size + i, j, none⟩ = cs[j]? := cells_of (h.at_ i _ hi) j
theorem Bx.free (h : Bx w bs W) {i : Nat} {cs : Array Value} {T : TypeId} (hi : bs[i]? = some (.cells cs T)) (j : Nat) : W.frozen? ⟨w.heap.size + i, j, none⟩ = false := not_frozen (h.at_ i _ hi) j
theorem Bx.cells0 {cs : Array Value} {T : TypeId} {r : List Obj} (h : Bx w (.cells cs T :: r) W) (j : Nat) : W.cell? ⟨w.heap.size, j, none⟩ = cs[j]? := h.cells (i := 0) rfl j
theorem Bx.cells1 {o : Obj} {cs : Array Value} {T : TypeId} {r : List Obj} (h : Bx w (o :: .cells cs T :: r) W) (j : Nat) : W.cell? ⟨w.heap.size + 1, j, none⟩ = cs[j]? := h.cells (i := 1) rfl j
theorem Bx.cells2 {o o' : Obj} {cs : Array Value} {T : TypeId} {r : List Obj} (h : Bx w (o :: o' :: .cells cs T :: r) W) (j : Nat) : W.cell? ⟨w.heap.size + 1 + 1, j, none⟩ = cs[j]? := h.cells (i := 2) rfl j
theorem Bx.free0 {cs : Array Value} {T : TypeId} {r : List Obj} (h : Bx w (.cells cs T :: r) W) (j : Nat) : W.frozen? ⟨w.heap.size, j, none⟩ = false := h.free (i := 0) rfl j
theorem Bx.free1 {o : Obj} {cs : Array Value} {T : TypeId} {r : List Obj} (h : Bx w (o :: .cells cs T :: r) W) (j : Nat) : W.frozen? ⟨w.heap.size + 1, j, none⟩ = false := h.free (i := 1) rfl j
theorem Bx.size (h : Bx w bs W) {i : Nat} (hi : i < bs.length) : w.heap.size + i < W.heap.size :=
  (Array.getElem?_eq_some_iff.1 (h.at_ i _ (List.getElem?_eq_getElem hi))).1
theorem Bx.set (h : Bx w bs W) {i : Nat} {cs : Array Value} {T : TypeId} (hi : bs[i]? = some (.cells cs T)) (j : Nat) (v : Value) : Bx w (bs.set i (.cells (cs.setIfInBounds j v) T)) (W.setCell ⟨w.heap.size + i, j, none⟩ v) := by
  refine ⟨set_below h.bel (by show w.heap.size ≤ w.heap.size + i; omega), fun k o ho => ?_⟩
  by_cases e : k = i
  · subst e
    have hlt := (List.getElem?_eq_some_iff.1 hi).1
    rw [List.getElem?_set_self hlt] at ho
    injection ho with ho
    subst ho
    exact set_at (h.at_ k _ hi)
  · rw [List.getElem?_set_ne (Ne.symm e)] at ho
    rw [set_other (by show w.heap.size + k ≠ w.heap.size + i; omega)]
    exact h.at_ k o ho
end
/-- a call's box behind 'x = right(x)'. -/
theorem Bx.setCall0 {w W : World} {x y : TCall} {T : TypeId} {r : List Obj} (h : Bx w (.cells #[.int .i64 x.a0, .int .i64 x.a1, .int .i64 x.a2, .int .i64 x.a3, .int .i64 x.a4] T :: r) W) :
    Bx w (.cells #[.int .i64 y.a0, .int .i64 y.a1, .int .i64 y.a2, .int .i64 y.a3, .int .i64 y.a4] T :: r) (((((W.setCell ⟨w.heap.size, 0, none⟩ (.int .i64 y.a0)).setCell ⟨w.heap.size, 1, none⟩ (.int .i64 y.a1)).setCell ⟨w.heap.size, 2, none⟩ (.int .i64 y.a2)).setCell ⟨w.heap.size, 3, none⟩ (.int .i64 y.a3)).setCell ⟨w.heap.size, 4, none⟩ (.int .i64 y.a4)) :=
  ((((h.set (i := 0) rfl 0 (.int .i64 y.a0)).set (i := 0) rfl 1 (.int .i64 y.a1)).set (i := 0) rfl 2 (.int .i64 y.a2)).set (i := 0) rfl 3 (.int .i64 y.a3)).set (i := 0) rfl 4 (.int .i64 y.a4)
theorem Bx.setCall1 {w W : World} {x y : TCall} {T : TypeId} {o : Obj} {r : List Obj} (h : Bx w (o :: .cells #[.int .i64 x.a0, .int .i64 x.a1, .int .i64 x.a2, .int .i64 x.a3, .int .i64 x.a4] T :: r) W) :
    Bx w (o :: .cells #[.int .i64 y.a0, .int .i64 y.a1, .int .i64 y.a2, .int .i64 y.a3, .int .i64 y.a4] T :: r) (((((W.setCell ⟨w.heap.size + 1, 0, none⟩ (.int .i64 y.a0)).setCell ⟨w.heap.size + 1, 1, none⟩ (.int .i64 y.a1)).setCell ⟨w.heap.size + 1, 2, none⟩ (.int .i64 y.a2)).setCell ⟨w.heap.size + 1, 3, none⟩ (.int .i64 y.a3)).setCell ⟨w.heap.size + 1, 4, none⟩ (.int .i64 y.a4)) :=
  ((((h.set (i := 1) rfl 0 (.int .i64 y.a0)).set (i := 1) rfl 1 (.int .i64 y.a1)).set (i := 1) rfl 2 (.int .i64 y.a2)).set (i := 1) rfl 3 (.int .i64 y.a3)).set (i := 1) rfl 4 (.int .i64 y.a4)
theorem Bx.setCall2 {w W : World} {x y : TCall} {T : TypeId} {o o' : Obj} {r : List Obj} (h : Bx w (o :: o' :: .cells #[.int .i64 x.a0, .int .i64 x.a1, .int .i64 x.a2, .int .i64 x.a3, .int .i64 x.a4] T :: r) W) :
    Bx w (o :: o' :: .cells #[.int .i64 y.a0, .int .i64 y.a1, .int .i64 y.a2, .int .i64 y.a3, .int .i64 y.a4] T :: r) (((((W.setCell ⟨w.heap.size + 1 + 1, 0, none⟩ (.int .i64 y.a0)).setCell ⟨w.heap.size + 1 + 1, 1, none⟩ (.int .i64 y.a1)).setCell ⟨w.heap.size + 1 + 1, 2, none⟩ (.int .i64 y.a2)).setCell ⟨w.heap.size + 1 + 1, 3, none⟩ (.int .i64 y.a3)).setCell ⟨w.heap.size + 1 + 1, 4, none⟩ (.int .i64 y.a4)) :=
  ((((h.set (i := 2) rfl 0 (.int .i64 y.a0)).set (i := 2) rfl 1 (.int .i64 y.a1)).set (i := 2) rfl 2 (.int .i64 y.a2)).set (i := 2) rfl 3 (.int .i64 y.a3)).set (i := 2) rfl 4 (.int .i64 y.a4)
theorem Bx.free2 {o o' : Obj} {cs : Array Value} {T : TypeId} {r : List Obj} {w W : World} (h : Bx w (o :: o' :: .cells cs T :: r) W) (j : Nat) : W.frozen? ⟨w.heap.size + 1 + 1, j, none⟩ = false := h.free (i := 2) rfl j
end Go.Proofs.YtioeliocdbckbaaDoor
namespace Go.Proofs.YtioeliocdbckbaaDoor

def condE (c : TCond) : Int :=
  if c.f < 0 ∨ 5 ≤ c.f then 5 else if c.op < 1 ∨ 4 < c.op then 4 else if c.v < 0 ∨ mostOf c.f < c.v then 3 else 0
def condsGo : List TCond → Int
  | [] => 0
  | c :: r => if condE c = 0 then condsGo r else condE c
def ruleE (r : TRule) : Int := if 10 < r.conds.length then 2 else if r.verdict < 0 ∨ 4 < r.verdict then 3 else condsGo r.conds
def rulesGo : List TRule → Int
  | [] => 0
  | x :: r => if ruleE x = 0 then rulesGo r else ruleE x
/-- chapter 2's Check. -/
def polE (p : TPol) : Int := if 120 < p.rules.length then 2 else if p.dflt < 0 ∨ 4 < p.dflt then 3 else rulesGo p.rules
theorem condsGo_drop (l : List TCond) (k : Nat) (h : k < l.length) : condsGo (l.drop k) = if condE l[k] = 0 then condsGo (l.drop (k+1)) else condE l[k] := by
  rw [List.drop_eq_getElem_cons h]; rfl
theorem rulesGo_drop (l : List TRule) (k : Nat) (h : k < l.length) : rulesGo (l.drop k) = if ruleE l[k] = 0 then rulesGo (l.drop (k+1)) else ruleE l[k] := by
  rw [List.drop_eq_getElem_cons h]; rfl

structure OkCond (c : TCond) : Prop where
  f0 : 0 ≤ c.f
  f1 : c.f < 5
  o0 : 1 ≤ c.op
  o1 : c.op ≤ 4
  v0 : 0 ≤ c.v
  v1 : c.v ≤ mostOf c.f
structure OkRule (r : TRule) : Prop where
  len : r.conds.length ≤ 10
  v0 : 0 ≤ r.verdict
  v1 : r.verdict ≤ 4
  conds : ∀ c ∈ r.conds, OkCond c
structure OkPol (p : TPol) : Prop where
  len : p.rules.length ≤ 120
  d0 : 0 ≤ p.dflt
  d1 : p.dflt ≤ 4
  rules : ∀ r ∈ p.rules, OkRule r
theorem okCond_iff (c : TCond) : condE c = 0 ↔ OkCond c := by
  unfold condE
  constructor
  · intro h
    split at h
    · simp at h
    · split at h
      · simp at h
      · split at h
        · simp at h
        · constructor <;> omega
  · rintro ⟨h1, h2, h3, h4, h5, h6⟩
    rw [if_neg (by omega), if_neg (by omega), if_neg (by omega)]
theorem okConds_iff : ∀ l : List TCond, condsGo l = 0 ↔ ∀ c ∈ l, OkCond c
  | [] => by simp [condsGo]
  | c :: r => by
    simp only [condsGo, List.mem_cons, forall_eq_or_imp]
    rw [← okConds_iff r, ← okCond_iff c]
    split
    · rename_i h; simp [h]
    · rename_i h; simp [h]
theorem okRule_iff (r : TRule) : ruleE r = 0 ↔ OkRule r := by
  unfold ruleE
  constructor
  · intro h
    split at h
    · simp at h
    · split at h
      · simp at h
      · exact ⟨by omega, by omega, by omega, (okConds_iff _).1 h⟩
  · rintro ⟨h1, h2, h3, h4⟩
    rw [if_neg (by omega), if_neg (by omega)]
    exact (okConds_iff _).2 h4
theorem okRules_iff : ∀ l : List TRule, rulesGo l = 0 ↔ ∀ c ∈ l, OkRule c
  | [] => by simp [rulesGo]
  | c :: r => by
    simp only [rulesGo, List.mem_cons, forall_eq_or_imp]
    rw [← okRules_iff r, ← okRule_iff c]
    split
    · rename_i h; simp [h]
    · rename_i h; simp [h]
theorem okPol_iff (p : TPol) : polE p = 0 ↔ OkPol p := by
  unfold polE
  constructor
  · intro h
    split at h
    · simp at h
    · split at h
      · simp at h
      · exact ⟨by omega, by omega, by omega, (okRules_iff _).1 h⟩
  · rintro ⟨h1, h2, h3, h4⟩
    rw [if_neg (by omega), if_neg (by omega)]
    exact (okRules_iff _).2 h4

/-- chapter 2: does a condition hold of a call? -/
def holdsB (c : TCond) (x : TCall) : Bool :=
  if c.op = 1 then x.get c.f == c.v else if c.op = 2 then x.get c.f != c.v else if c.op = 3 then decide (x.get c.f < c.v) else decide (c.v ≤ x.get c.f)
def allHold (x : TCall) (l : List TCond) : Bool := l.all fun c => holdsB c x
/-- the number of the first rule whose conditions all hold. -/
def which (x : TCall) : List TRule → Nat
  | [] => 0
  | r :: l => if allHold x r.conds then 0 else which x l + 1
def verdictAt (p : TPol) (k : Nat) : Int := match p.rules[k]? with
  | some r => r.verdict
  | none => p.dflt
def judged (p : TPol) (x : TCall) : Int × Nat := (verdictAt p (which x p.rules), which x p.rules)
/-- chapter 2's Judge, errors too. -/
def judgeE (p : TPol) (x : TCall) : Int × Int × Int := if polE p ≠ 0 then (0, 0, polE p) else if x.ok then ((judged p x).1, (judged p x).2, 0) else (0, 0, 3)
theorem which_le (x : TCall) : ∀ l : List TRule, which x l ≤ l.length
  | [] => Nat.le_refl _
  | r :: l => by
    have := which_le x l
    unfold which
    split
    · omega
    · simp; exact this
theorem which_drop (x : TCall) (l : List TRule) (k : Nat) (h : k < l.length) : which x (l.drop k) = if allHold x l[k].conds then 0 else which x (l.drop (k + 1)) + 1 := by
  rw [List.drop_eq_getElem_cons h]; rfl
end Go.Proofs.YtioeliocdbckbaaDoor
namespace Go.Proofs.YtioeliocdbckbaaDoor
open Go.RowKit

def condR (x : TCond) (cs : List Value) : Prop := cs = [.int .i64 x.f, .int .i64 x.op, .int .i64 x.v]
def RdConds (w : World) (D : Nat → Prop) (v : Value) (l : List TCond) : Prop := Sl w D 3 condR v l
theorem RdConds.keep {w w' : World} {D D' : Nat → Prop} {v : Value} {l : List TCond} (h : RdConds w D v l) (hD : ∀ b, D b → b < w.heap.size → D' b)
    (hw : ∀ b, D b → b < w.heap.size → w'.heap[b]? = w.heap[b]?) (hs : w.heap.size ≤ w'.heap.size) : RdConds w' D' v l := Sl.mono h hD hw hs (fun _ _ _ h => h)
theorem RdConds.below {w w' : World} {D : Nat → Prop} {v : Value} {l : List TCond} (h : RdConds w D v l) (hb : Below w.heap.size w w') : RdConds w' D v l :=
  h.keep (fun _ h _ => h) (fun b _ hlt => hb.block b hlt) hb.size
theorem RdConds.cells {w : World} {D : Nat → Prop} {b o n c : Nat} {s : Option Nat} {l : List TCond} (h : RdConds w D (.slice (some ⟨b, o, s⟩) n c) l) {i : Nat} (hi : i < l.length) :
    w.cell? ⟨b, o + i * 3, none⟩ = some (.int .i64 l[i].f) ∧ w.cell? ⟨b, o + i * 3 + 1, none⟩ = some (.int .i64 l[i].op) ∧ w.cell? ⟨b, o + i * 3 + 2, none⟩ = some (.int .i64 l[i].v) := by
  obtain ⟨cs, hcs, hr, hcell⟩ := Sl.get h hi
  unfold condR at hr
  subst hr
  exact ⟨hcell 0 _ rfl, hcell 1 _ rfl, hcell 2 _ rfl⟩

def ruleR (w : World) (D : Nat → Prop) (r : TRule) (cs : List Value) : Prop := ∃ v, cs = [v, .int .i64 r.verdict] ∧ RdConds w D v r.conds
def RdRules (w : World) (D : Nat → Prop) (v : Value) (l : List TRule) : Prop := Sl w D 2 (ruleR w D) v l
theorem RdRules.keep {w w' : World} {D D' : Nat → Prop} {v : Value} {l : List TRule} (h : RdRules w D v l) (hD : ∀ b, D b → b < w.heap.size → D' b)
    (hw : ∀ b, D b → b < w.heap.size → w'.heap[b]? = w.heap[b]?) (hs : w.heap.size ≤ w'.heap.size) : RdRules w' D' v l :=
  Sl.mono h hD hw hs (fun _ _ _ ⟨u, h1, h2⟩ => ⟨u, h1, h2.keep hD hw hs⟩)
theorem RdRules.below {w w' : World} {D : Nat → Prop} {v : Value} {l : List TRule} (h : RdRules w D v l) (hb : Below w.heap.size w w') : RdRules w' D v l :=
  h.keep (fun _ h _ => h) (fun b _ hlt => hb.block b hlt) hb.size
theorem RdRules.cells {w : World} {D : Nat → Prop} {b o n c : Nat} {s : Option Nat} {l : List TRule} (h : RdRules w D (.slice (some ⟨b, o, s⟩) n c) l) {i : Nat} (hi : i < l.length) :
    ∃ (a' : Option Addr) (c' : Nat), w.cell? ⟨b, o + i * 2, none⟩ = some (.slice a' l[i].conds.length c') ∧ w.cell? ⟨b, o + i * 2 + 1, none⟩ = some (.int .i64 l[i].verdict) ∧ RdConds w D (.slice a' l[i].conds.length c') l[i].conds ∧
      l[i].conds.length ≤ c' ∧ c' ≤ 9223372036854775807 ∧ (0 < l[i].conds.length → ∃ b o, a' = some ⟨b, o, none⟩ ∧ D b ∧ b < w.heap.size) := by
  obtain ⟨cs, hcs, ⟨u, hu, hr⟩, hcell⟩ := Sl.get h hi
  obtain ⟨a', c', hv, h1, h2, h3⟩ := Sl.form hr
  subst hu hv
  exact ⟨a', c', hcell 0 _ rfl, hcell 1 _ rfl, hr, h1, h2, h3⟩
/-- a policy as a value. -/
@[reducible] def polV (v : Value) (d : Int) : Value := .agg #[v, .int .i64 d]
def polR (w : World) (D : Nat → Prop) (p : TPol) (cs : List Value) : Prop := ∃ v, cs = [v, .int .i64 p.dflt] ∧ RdRules w D v p.rules
def RdPols (w : World) (D : Nat → Prop) (v : Value) (l : List TPol) : Prop := Sl w D 2 (polR w D) v l
theorem RdPols.below {w w' : World} {D : Nat → Prop} {v : Value} {l : List TPol} (h : RdPols w D v l) (hb : Below w.heap.size w w') : RdPols w' D v l :=
  Sl.mono h (fun _ h _ => h) (fun b _ hlt => hb.block b hlt) hb.size (fun _ _ _ ⟨u, h1, h2⟩ => ⟨u, h1, h2.below hb⟩)
end Go.Proofs.YtioeliocdbckbaaDoor
namespace Go.Proofs.YtioeliocdbckbaaDoor

/-! ### rising lists of integers -/
def insU (x : Int) : List Int → List Int
  | [] => [x]
  | y :: l => if x < y then x :: y :: l else if x = y then y :: l else y :: insU x l
def Rising (l : List Int) : Prop := l.Pairwise (· < ·)
theorem mem_insU (x z : Int) : ∀ l : List Int, z ∈ insU x l ↔ z = x ∨ z ∈ l
  | [] => by simp [insU]
  | y :: l => by
    unfold insU
    split
    · simp
    · split
      · rename_i h; subst h; simp
      · simp only [List.mem_cons, mem_insU x z l]
        constructor
        · rintro (h | h | h) <;> simp [h]
        · rintro (h | h | h) <;> simp [h]
theorem rising_insU (x : Int) : ∀ l : List Int, Rising l → Rising (insU x l)
  | [], _ => by simp [insU, Rising]
  | y :: l, h => by
    unfold Rising at h
    obtain ⟨h1, h2⟩ := List.pairwise_cons.1 h
    unfold insU
    split
    · rename_i hlt
      refine List.pairwise_cons.2 ⟨fun z hz => ?_, h⟩
      rcases List.mem_cons.1 hz with rfl | hz
      · exact hlt
      · have := h1 z hz; omega
    · split
      · exact h
      · rename_i h3 h4
        refine List.pairwise_cons.2 ⟨fun z hz => ?_, rising_insU x l h2⟩
        rcases (mem_insU x z l).1 hz with rfl | hz
        · omega
        · exact h1 z hz
def setOf : List Int → List Int
  | [] => []
  | x :: l => insU x (setOf l)
theorem mem_setOf (z : Int) : ∀ l : List Int, z ∈ setOf l ↔ z ∈ l
  | [] => by simp [setOf]
  | x :: l => by simp [setOf, mem_insU, mem_setOf z l]
theorem rising_setOf : ∀ l : List Int, Rising (setOf l)
  | [] => List.Pairwise.nil
  | x :: l => rising_insU x _ (rising_setOf l)
theorem rising_unique : ∀ (l m : List Int), Rising l → Rising m → (∀ z, z ∈ l ↔ z ∈ m) → l = m
  | [], [], _, _, _ => rfl
  | [], y :: m, _, _, h => by have := (h y).2 (List.mem_cons_self ..); simp at this
  | x :: l, [], _, _, h => by have := (h x).1 (List.mem_cons_self ..); simp at this
  | x :: l, y :: m, hl, hm, h => by
    obtain ⟨h1, h2⟩ := List.pairwise_cons.1 hl
    obtain ⟨h3, h4⟩ := List.pairwise_cons.1 hm
    have hxy : x = y := by
      have a := (h x).1 (List.mem_cons_self ..)
      have b := (h y).2 (List.mem_cons_self ..)
      rcases List.mem_cons.1 a with a | a
      · exact a
      · rcases List.mem_cons.1 b with b | b
        · exact b.symm
        · have := h1 _ b; have := h3 _ a; omega
    subst hxy
    rw [rising_unique l m h2 h4 (fun z => ?_)]
    constructor
    · intro hz
      rcases List.mem_cons.1 ((h z).1 (List.mem_cons_of_mem _ hz)) with rfl | hz'
      · have := h1 _ hz; omega
      · exact hz'
    · intro hz
      rcases List.mem_cons.1 ((h z).2 (List.mem_cons_of_mem _ hz)) with rfl | hz'
      · have := h3 _ hz; omega
      · exact hz'
theorem rising_filter {l : List Int} (p : Int → Bool) (h : Rising l) : Rising (l.filter p) := List.Pairwise.sublist (List.filter_sublist) h

/-! ### cuts -/
def condCuts (f : Int) (c : TCond) : List Int := if c.f = f then (if c.op = 1 ∨ c.op = 2 then [c.v, c.v + 1] else [c.v]) else []
def ruleCuts (f : Int) (r : TRule) : List Int := r.conds.flatMap (condCuts f)
def polCuts (f : Int) (p : TPol) : List Int := p.rules.flatMap (ruleCuts f)
def cutVals (l : List TPol) (f : Int) : List Int := 0 :: l.flatMap (polCuts f)
def cutsOf (l : List TPol) (f : Int) : List Int := (setOf (cutVals l f)).filter fun n => decide (n ≤ mostOf f)
theorem rising_cuts (l : List TPol) (f : Int) : Rising (cutsOf l f) := rising_filter _ (rising_setOf _)
theorem mem_cuts {l : List TPol} {f n : Int} : n ∈ cutsOf l f ↔ n ∈ cutVals l f ∧ n ≤ mostOf f := by
  unfold cutsOf; rw [List.mem_filter, mem_setOf]; simp
theorem most_pos (f : Int) : 0 ≤ mostOf f := by unfold mostOf; split <;> (try split) <;> omega
theorem zero_cut (l : List TPol) (f : Int) : 0 ∈ cutsOf l f := mem_cuts.2 ⟨List.mem_cons_self .., most_pos f⟩
theorem cuts_pos (l : List TPol) (f : Int) : 0 < (cutsOf l f).length := List.length_pos_of_mem (zero_cut l f)
theorem mem_vals {l : List TPol} {f n : Int} : n ∈ cutVals l f ↔ n = 0 ∨ ∃ p ∈ l, ∃ r ∈ p.rules, ∃ c ∈ r.conds, n ∈ condCuts f c := by
  unfold cutVals polCuts ruleCuts
  simp only [List.mem_cons, List.mem_flatMap]
theorem mem_condCuts {f n : Int} {c : TCond} : n ∈ condCuts f c ↔ c.f = f ∧ (n = c.v ∨ ((c.op = 1 ∨ c.op = 2) ∧ n = c.v + 1)) := by
  unfold condCuts
  split
  · rename_i h
    split
    · rename_i h'; simp [h, h']
    · rename_i h'; simp [h, h']
  · rename_i h; simp [h]
/-- all right: no error. -/
def polsE : List TPol → Int
  | [] => 0
  | p :: l => if polE p = 0 then polsE l else polE p
theorem polsE_iff : ∀ l : List TPol, polsE l = 0 ↔ ∀ p ∈ l, OkPol p
  | [] => by simp [polsE]
  | p :: l => by
    simp only [polsE, List.mem_cons, forall_eq_or_imp]
    rw [← polsE_iff l, ← okPol_iff p]
    split
    · rename_i h; simp [h]
    · rename_i h; simp [h]
theorem polsE_drop (l : List TPol) (k : Nat) (h : k < l.length) : polsE (l.drop k) = if polE l[k] = 0 then polsE (l.drop (k + 1)) else polE l[k] := by
  rw [List.drop_eq_getElem_cons h]; rfl
theorem cuts_range {l : List TPol} (h : ∀ p ∈ l, OkPol p) {f n : Int} (hn : n ∈ cutsOf l f) : 0 ≤ n ∧ n ≤ mostOf f := by
  obtain ⟨h1, h2⟩ := mem_cuts.1 hn
  refine ⟨?_, h2⟩
  rcases mem_vals.1 h1 with rfl | ⟨p, hp, r, hr, c, hc, hm⟩
  · omega
  · have := ((h p hp).rules r hr).conds c hc
    obtain ⟨_, h | ⟨_, h⟩⟩ := mem_condCuts.1 hm <;> have := this.v0 <;> omega

/-! ### homes -/
/-- the last one that isn't above n. -/
def best (n : Int) : List Int → Int → Int
  | [], b => b
  | m :: l, b => if m ≤ n then best n l m else best n l b
theorem best_spec (n : Int) : ∀ (l : List Int) (b : Int), Rising l → (∀ m ∈ l, b < m) → b ≤ n → (best n l b = b ∨ best n l b ∈ l) ∧ best n l b ≤ n ∧ b ≤ best n l b ∧ ∀ m ∈ l, m ≤ n → m ≤ best n l b
  | [], b, _, _, hb => by simp [best]; exact hb
  | m :: l, b, h, hm, hb => by
    obtain ⟨h1, h2⟩ := List.pairwise_cons.1 h
    unfold best
    split
    · rename_i hle
      obtain ⟨a1, a2, a3, a4⟩ := best_spec n l m h2 h1 hle
      have := hm m (List.mem_cons_self ..)
      refine ⟨?_, a2, by omega, fun z hz hzn => ?_⟩
      · rcases a1 with a1 | a1
        · right; rw [a1]; exact List.mem_cons_self ..
        · right; exact List.mem_cons_of_mem _ a1
      · rcases List.mem_cons.1 hz with rfl | hz
        · exact a3
        · exact a4 z hz hzn
    · rename_i hle
      obtain ⟨a1, a2, a3, a4⟩ := best_spec n l b h2 (fun z hz => hm z (List.mem_cons_of_mem _ hz)) hb
      refine ⟨?_, a2, a3, fun z hz hzn => ?_⟩
      · rcases a1 with a1 | a1
        · exact .inl a1
        · right; exact List.mem_cons_of_mem _ a1
      · rcases List.mem_cons.1 hz with rfl | hz
        · omega
        · exact a4 z hz hzn
/-- the greatest cut that isn't above n. -/
def homeCut (l : List TPol) (f n : Int) : Int := best n (cutsOf l f) 0
theorem best_zero {n : Int} {l : List Int} (hr : Rising l) (h0 : 0 ∈ l) (hp : ∀ m ∈ l, 0 ≤ m) (hn : 0 ≤ n) : best n l 0 ∈ l ∧ best n l 0 ≤ n ∧ ∀ m ∈ l, m ≤ n → m ≤ best n l 0 := by
  cases l with
  | nil => simp at h0
  | cons z l =>
    obtain ⟨h1, h2⟩ := List.pairwise_cons.1 hr
    have hz : z = 0 := by
      rcases List.mem_cons.1 h0 with h | h
      · exact h.symm
      · have := h1 _ h; have := hp z (List.mem_cons_self ..); omega
    subst hz
    obtain ⟨a1, a2, a3, a4⟩ := best_spec n l 0 h2 h1 hn
    have e : best n (0 :: l) 0 = best n l 0 := by
      show (if (0 : Int) ≤ n then _ else _) = _
      rw [if_pos hn]
    rw [e]
    refine ⟨?_, a2, fun m hm hmn => ?_⟩
    · rcases a1 with a1 | a1
      · rw [a1]; exact List.mem_cons_self ..
      · exact List.mem_cons_of_mem _ a1
    · rcases List.mem_cons.1 hm with rfl | hm
      · exact a3
      · exact a4 m hm hmn
theorem homeCut_spec {l : List TPol} (h : ∀ p ∈ l, OkPol p) {f n : Int} (hn : 0 ≤ n) : homeCut l f n ∈ cutsOf l f ∧ homeCut l f n ≤ n ∧ ∀ m ∈ cutsOf l f, m ≤ n → m ≤ homeCut l f n :=
  best_zero (rising_cuts l f) (zero_cut l f) (fun _ hm => (cuts_range h hm).1) hn
def homeOf (l : List TPol) (x : TCall) : TCall := ⟨homeCut l 0 x.a0, homeCut l 1 x.a1, homeCut l 2 x.a2, homeCut l 3 x.a3, homeCut l 4 x.a4⟩
theorem get_home (l : List TPol) (x : TCall) {f : Int} (h0 : 0 ≤ f) (h1 : f < 5) : (homeOf l x).get f = homeCut l f (x.get f) := by
  have hf : f = 0 ∨ f = 1 ∨ f = 2 ∨ f = 3 ∨ f = 4 := by omega
  rcases hf with rfl | rfl | rfl | rfl | rfl <;> rfl
theorem ok_get {x : TCall} (h : x.ok) {f : Int} (h0 : 0 ≤ f) (h1 : f < 5) : 0 ≤ x.get f ∧ x.get f ≤ mostOf f := by
  have := TCall.ok_get h (k := f.toNat) (by omega)
  rwa [Int.toNat_of_nonneg h0] at this
theorem holds_home {l : List TPol} (h : ∀ p ∈ l, OkPol p) {x : TCall} (hx : x.ok) {p : TPol} (hp : p ∈ l) {r : TRule} (hr : r ∈ p.rules) {c : TCond} (hc : c ∈ r.conds) : holdsB c (homeOf l x) = holdsB c x := by
  have ok := ((h p hp).rules r hr).conds c hc
  have hg := ok_get hx ok.f0 ok.f1
  obtain ⟨a1, a2, a3⟩ := homeCut_spec h (f := c.f) hg.1
  have hv : c.v ∈ cutsOf l c.f := mem_cuts.2 ⟨mem_vals.2 (.inr ⟨p, hp, r, hr, c, hc, mem_condCuts.2 ⟨rfl, .inl rfl⟩⟩), ok.v1⟩
  have hv1 : (c.op = 1 ∨ c.op = 2) → c.v + 1 ≤ mostOf c.f → c.v + 1 ∈ cutsOf l c.f := fun ho hle => mem_cuts.2 ⟨mem_vals.2 (.inr ⟨p, hp, r, hr, c, hc, mem_condCuts.2 ⟨rfl, .inr ⟨ho, rfl⟩⟩⟩), hle⟩
  unfold holdsB
  rw [get_home l x ok.f0 ok.f1]
  generalize hn : x.get c.f = n at *
  generalize hh : homeCut l c.f n = m at *
  have key1 : (c.op = 1 ∨ c.op = 2) → (m = c.v ↔ n = c.v) := by
    intro ho
    constructor
    · intro e
      by_cases e' : n = c.v
      · exact e'
      · have := a3 _ (hv1 ho (by omega)) (by omega); omega
    · intro e
      have := a3 _ hv (by omega); omega
  have key2 : (m < c.v ↔ n < c.v) := by
    constructor
    · intro e
      by_cases e' : n < c.v
      · exact e'
      · have := a3 _ hv (by omega); omega
    · intro e; omega
  split
  · rename_i ho
    rw [Bool.eq_iff_iff]; simp [key1 (.inl ho)]
  · split
    · rename_i ho
      rw [Bool.eq_iff_iff]; simp [key1 (.inr ho)]
    · split
      · rw [Bool.eq_iff_iff]; simp [key2]
      · rw [Bool.eq_iff_iff]; simp; omega
theorem allHold_home {l : List TPol} (h : ∀ p ∈ l, OkPol p) {x : TCall} (hx : x.ok) {p : TPol} (hp : p ∈ l) {r : TRule} (hr : r ∈ p.rules) : allHold (homeOf l x) r.conds = allHold x r.conds := by
  unfold allHold
  rw [Bool.eq_iff_iff, List.all_eq_true, List.all_eq_true]
  constructor
  · intro a c hc; rw [← holds_home h hx hp hr hc]; exact a c hc
  · intro a c hc; rw [holds_home h hx hp hr hc]; exact a c hc
theorem which_congr {x y : TCall} : ∀ (l : List TRule), (∀ r ∈ l, allHold x r.conds = allHold y r.conds) → which x l = which y l
  | [], _ => rfl
  | r :: l, h => by
    unfold which
    rw [h r (List.mem_cons_self ..), which_congr l (fun r hr => h r (List.mem_cons_of_mem _ hr))]
/-- EACH POLICY SAYS OF A CALL WHAT IT SAYS OF ITS HOME, by the same rule. -/
theorem which_home {l : List TPol} (h : ∀ p ∈ l, OkPol p) {x : TCall} (hx : x.ok) {p : TPol} (hp : p ∈ l) : which (homeOf l x) p.rules = which x p.rules :=
  which_congr _ fun _ hr => allHold_home h hx hp hr
theorem judged_home {l : List TPol} (h : ∀ p ∈ l, OkPol p) {x : TCall} (hx : x.ok) {p : TPol} (hp : p ∈ l) : judged p (homeOf l x) = judged p x := by
  unfold judged; rw [which_home h hx hp]
theorem ok_home {l : List TPol} (h : ∀ p ∈ l, OkPol p) {x : TCall} (hx : x.ok) : (homeOf l x).ok := by
  refine TCall.ok_of fun k hk => ?_
  rw [get_home l x (by omega) (by omega)]
  exact cuts_range h (homeCut_spec h (ok_get hx (f := k) (by omega) (by omega)).1).1
theorem homeCut_self {l : List TPol} (h : ∀ p ∈ l, OkPol p) {f n : Int} (hn : n ∈ cutsOf l f) : homeCut l f n = n := by
  obtain ⟨a1, a2, a3⟩ := homeCut_spec h (f := f) (n := n) (cuts_range h hn).1
  have := a3 n hn (Int.le_refl _); omega
theorem home_home {l : List TPol} (h : ∀ p ∈ l, OkPol p) {x : TCall} (hx : x.ok) : homeOf l (homeOf l x) = homeOf l x := by
  have g := fun (f : Int) (h0 : 0 ≤ f) (h1 : f < 5) => homeCut_self h (homeCut_spec h (f := f) (ok_get hx h0 h1).1).1
  have g0 := g 0 (by omega) (by omega); have g1 := g 1 (by omega) (by omega); have g2 := g 2 (by omega) (by omega); have g3 := g 3 (by omega) (by omega); have g4 := g 4 (by omega) (by omega)
  simp only [TCall.get] at g0 g1 g2 g3 g4
  simp only [homeOf]
  simp at g0 g1 g2 g3 g4
  rw [g0, g1, g2, g3, g4]

/-! ### points -/
def TCall.set (x : TCall) (k : Nat) (n : Int) : TCall := match k with
  | 0 => { x with a0 := n } | 1 => { x with a1 := n } | 2 => { x with a2 := n } | 3 => { x with a3 := n } | _ => { x with a4 := n }
def stage (l : List TPol) : Nat → List TCall
  | 0 => [⟨0, 0, 0, 0, 0⟩]
  | k + 1 => (stage l k).flatMap fun x => (cutsOf l k).map fun n => x.set k n
def sizes (l : List TPol) : Nat → Nat
  | 0 => 1
  | k + 1 => sizes l k * (cutsOf l k).length
theorem stage_length (l : List TPol) : ∀ k, (stage l k).length = sizes l k
  | 0 => rfl
  | k + 1 => by
    simp only [stage, sizes, List.length_flatMap, List.length_map]
    rw [← stage_length l k]
    generalize (cutsOf l k).length = m
    induction stage l k with
    | nil => simp
    | cons x r ih => simp [ih, Nat.add_mul]; omega
theorem sizes_pos (l : List TPol) : ∀ k, 0 < sizes l k
  | 0 => by simp [sizes]
  | k + 1 => Nat.mul_pos (sizes_pos l k) (cuts_pos l k)
theorem sizes_mono (l : List TPol) (k : Nat) : sizes l k ≤ sizes l (k + 1) := Nat.le_mul_of_pos_right _ (cuts_pos l k)
theorem sizes_le (l : List TPol) {k m : Nat} (h : k ≤ m) : sizes l k ≤ sizes l m := by
  induction h with
  | refl => exact Nat.le_refl _
  | step _ ih => exact Nat.le_trans ih (sizes_mono l _)
/-- chapter 6's Points. -/
def pointsE (l : List TPol) : List TCall × Int := if polsE l ≠ 0 then ([], polsE l) else if 1000 < sizes l 5 then ([], 2) else (stage l 5, 0)
theorem mem_stage {l : List TPol} {y : TCall} : ∀ {k : Nat}, y ∈ stage l (k + 1) ↔ ∃ x ∈ stage l k, ∃ n ∈ cutsOf l k, y = x.set k n := by
  intro k
  simp only [stage, List.mem_flatMap, List.mem_map]
  constructor
  · rintro ⟨x, hx, n, hn, rfl⟩; exact ⟨x, hx, n, hn, rfl⟩
  · rintro ⟨x, hx, n, hn, rfl⟩; exact ⟨x, hx, n, hn, rfl⟩
theorem mem_points {l : List TPol} {y : TCall} : y ∈ stage l 5 ↔ y.a0 ∈ cutsOf l 0 ∧ y.a1 ∈ cutsOf l 1 ∧ y.a2 ∈ cutsOf l 2 ∧ y.a3 ∈ cutsOf l 3 ∧ y.a4 ∈ cutsOf l 4 := by
  constructor
  · intro h
    obtain ⟨x4, h4, n4, m4, rfl⟩ := mem_stage.1 h
    obtain ⟨x3, h3, n3, m3, rfl⟩ := mem_stage.1 h4
    obtain ⟨x2, h2, n2, m2, rfl⟩ := mem_stage.1 h3
    obtain ⟨x1, h1, n1, m1, rfl⟩ := mem_stage.1 h2
    obtain ⟨x0, h0, n0, m0, rfl⟩ := mem_stage.1 h1
    exact ⟨m0, m1, m2, m3, m4⟩
  · rintro ⟨m0, m1, m2, m3, m4⟩
    refine mem_stage.2 ⟨⟨y.a0, y.a1, y.a2, y.a3, 0⟩, mem_stage.2 ⟨⟨y.a0, y.a1, y.a2, 0, 0⟩, mem_stage.2 ⟨⟨y.a0, y.a1, 0, 0, 0⟩, mem_stage.2 ⟨⟨y.a0, 0, 0, 0, 0⟩, mem_stage.2 ⟨⟨0, 0, 0, 0, 0⟩, List.mem_cons_self .., y.a0, m0, rfl⟩, y.a1, m1, rfl⟩, y.a2, m2, rfl⟩, y.a3, m3, rfl⟩, y.a4, m4, rfl⟩
theorem home_point {l : List TPol} (h : ∀ p ∈ l, OkPol p) {x : TCall} (hx : x.ok) : homeOf l x ∈ stage l 5 := by
  have g := fun (f : Int) (h0 : 0 ≤ f) (h1 : f < 5) => (homeCut_spec h (f := f) (ok_get hx h0 h1).1).1
  exact mem_points.2 ⟨g 0 (by omega) (by omega), g 1 (by omega) (by omega), g 2 (by omega) (by omega), g 3 (by omega) (by omega), g 4 (by omega) (by omega)⟩
theorem point_ok {l : List TPol} (h : ∀ p ∈ l, OkPol p) {x : TCall} (hx : x ∈ stage l 5) : x.ok := by
  obtain ⟨m0, m1, m2, m3, m4⟩ := mem_points.1 hx
  exact ⟨cuts_range h m0, cuts_range h m1, cuts_range h m2, cuts_range h m3, cuts_range h m4⟩
theorem pointsE_ok {l : List TPol} (h : (pointsE l).2 = 0) : (∀ p ∈ l, OkPol p) ∧ sizes l 5 ≤ 1000 ∧ pointsE l = (stage l 5, 0) := by
  unfold pointsE at h ⊢
  split at h
  · rename_i h1; exact absurd h h1
  · rename_i h1
    split at h
    · simp at h
    · rename_i h2
      exact ⟨(polsE_iff l).1 (by simpa using h1), by omega, by rw [if_neg h1, if_neg h2]⟩
theorem pointsE_of {l : List TPol} (h : ∀ p ∈ l, OkPol p) (hs : sizes l 5 ≤ 1000) : pointsE l = (stage l 5, 0) := by
  unfold pointsE
  rw [if_neg (by rw [(polsE_iff l).2 h]; simp), if_neg (by omega)]
/-- with fewer conditions there are no more points. -/
theorem cuts_sub {l m : List TPol} {f : Int} (h : ∀ n, n ∈ cutVals l f → n ∈ cutVals m f) : (∀ n ∈ cutsOf l f, n ∈ cutsOf m f) := fun _ hn => mem_cuts.2 ⟨h _ (mem_cuts.1 hn).1, (mem_cuts.1 hn).2⟩
theorem rising_len : ∀ (l m : List Int), Rising l → Rising m → (∀ z ∈ l, z ∈ m) → l.length ≤ m.length
  | [], _, _, _, _ => by simp
  | x :: l, [], _, _, h => by have := h x (List.mem_cons_self ..); simp at this
  | x :: l, y :: m, hl, hm, h => by
    obtain ⟨h1, h2⟩ := List.pairwise_cons.1 hl
    obtain ⟨h3, h4⟩ := List.pairwise_cons.1 hm
    have := rising_len l m h2 h4 fun z hz => by
      rcases List.mem_cons.1 (h z (List.mem_cons_of_mem _ hz)) with rfl | h'
      · rcases List.mem_cons.1 (h x (List.mem_cons_self ..)) with rfl | h''
        · have := h1 _ hz; omega
        · have := h1 _ hz; have := h3 _ h''; omega
      · exact h'
    simp; omega
theorem sizes_sub {l m : List TPol} (h : ∀ f n, n ∈ cutVals l f → n ∈ cutVals m f) : ∀ k, sizes l k ≤ sizes m k
  | 0 => Nat.le_refl _
  | k + 1 => Nat.mul_le_mul (sizes_sub h k) (rising_len _ _ (rising_cuts l k) (rising_cuts m k) (cuts_sub (h k)))
theorem stage_sub {l m : List TPol} (h : ∀ f n, n ∈ cutVals l f → n ∈ cutVals m f) {x : TCall} (hx : x ∈ stage l 5) : x ∈ stage m 5 := by
  obtain ⟨m0, m1, m2, m3, m4⟩ := mem_points.1 hx
  exact mem_points.2 ⟨cuts_sub (h 0) _ m0, cuts_sub (h 1) _ m1, cuts_sub (h 2) _ m2, cuts_sub (h 3) _ m3, cuts_sub (h 4) _ m4⟩
end Go.Proofs.YtioeliocdbckbaaDoor
namespace Go.Proofs.YtioeliocdbckbaaDoor
open Go.RowKit

theorem infoInt : (Tryd.prog.info? 3).map (fun i => (i.zero, i.size, i.bytes)) = some (some (.int .i64 0), 1, 8) := by kernel_rfl
theorem intR_one (y : Int) (cs : List Value) (h : intR y cs) : ∀ c ∈ cs, c.oneCell' = true := by
  unfold intR at h; subst h; intro c hc; simp at hc; subst hc; rfl
theorem RdPols.cells {w : World} {D : Nat → Prop} {b o n c : Nat} {s : Option Nat} {l : List TPol} (h : RdPols w D (.slice (some ⟨b, o, s⟩) n c) l) {i : Nat} (hi : i < l.length) :
    ∃ (a' : Option Addr) (c' : Nat), w.cell? ⟨b, o + i * 2, none⟩ = some (.slice a' l[i].rules.length c') ∧ w.cell? ⟨b, o + i * 2 + 1, none⟩ = some (.int .i64 l[i].dflt) ∧ RdRules w D (.slice a' l[i].rules.length c') l[i].rules ∧
      l[i].rules.length ≤ c' ∧ c' ≤ 9223372036854775807 ∧ (0 < l[i].rules.length → ∃ b o, a' = some ⟨b, o, none⟩ ∧ D b ∧ b < w.heap.size) := by
  obtain ⟨cs, hcs, ⟨u, hu, hr⟩, hcell⟩ := Sl.get h hi
  obtain ⟨a', c', hv, h1, h2, h3⟩ := Sl.form hr
  subst hu hv
  exact ⟨a', c', hcell 0 _ rfl, hcell 1 _ rfl, hr, h1, h2, h3⟩
theorem flatMap_take {α β : Type} (g : α → List β) (l : List α) (k : Nat) (h : k < l.length) : (l.take (k + 1)).flatMap g = (l.take k).flatMap g ++ g l[k] := by
  rw [List.take_succ_eq_append_getElem h, List.flatMap_append]; simp
theorem flatMap_take_le {α β : Type} (g : α → List β) (l : List α) (k : Nat) : ((l.take k).flatMap g).length ≤ (l.flatMap g).length := by
  have := congrArg (fun m => (m.flatMap g).length) (List.take_append_drop k l)
  simp only [List.flatMap_append, List.length_append] at this
  omega
/-- one integer, just laid. -/
theorem one_int {W : World} {x : Int} {T : TypeId} {b : Nat} (hb : b = W.heap.size) : RdInts (W.alloc (.cells #[.int .i64 x] T)) (fun _ => True) (.slice (some ⟨b, 0, none⟩) 1 1) [x] :=
  sl_block (R := intR) (sz := 1) (xs := [x]) (rows := [[.int .i64 x]]) (RowsOf.cons RowsOf.nil rfl rfl) (blk_at hb) rfl trivial (by simp [maxLen])

end Go.Proofs.YtioeliocdbckbaaDoor
