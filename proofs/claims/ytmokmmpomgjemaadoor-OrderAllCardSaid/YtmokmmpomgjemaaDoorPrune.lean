/- A region's edges that bind no compiler's order may be left out. Condition: a program that follows mixedOrders. -/
import Derived.Test.YtmokmmpomgjemaaDoorDone
namespace Go.Proofs.YtmokmmpomgjemaaDoor
open Go.RowKit

def prune (o : Oper) : Oper := { o with after := o.after.filter (Region.binds .any) }
theorem prune_get (l : List Oper) (i : Nat) : (l.map prune).toArray[i]? = (l.toArray[i]?).map prune := by simp
theorem all_prune (p q : Edge → Bool) (es : Array Edge) : ((es.filter p).all fun e => !p e || q e) = es.all fun e => !p e || q e := by
  rw [Bool.eq_iff_iff]
  simp only [Array.all_eq_true_iff_forall_mem, Array.mem_filter]
  constructor
  · intro h e he
    cases hp : p e with
    | false => rfl
    | true => have := h e ⟨he, hp⟩; rwa [hp] at this
  · intro h e he
    exact h e he.1
theorem ready_prune (l : List Oper) (listed : Array Bool) : Region.ready .any (l.map prune).toArray listed = Region.ready .any l.toArray listed := by
  unfold Region.ready
  have hs : (l.map prune).toArray.size = l.toArray.size := by simp
  rw [hs]
  congr 1
  funext i
  rw [prune_get, Option.map_map]
  congr 2
  congr 1
  funext o
  exact all_prune _ _ _
theorem yielded_prune (l : List Oper) (t : Array Value) : yielded (l.map prune).toArray t = yielded l.toArray t := by
  funext j
  unfold yielded
  rw [prune_get]
  cases l.toArray[j]? <;> rfl
theorem wpOp_prune {P : Program} {l : List Oper} {Q : Exit → Act → World → Prop} {i : Nat} {K : Act → World → Prop} {a : Act} {w : World} (h : wpOp P (l.map prune).toArray Q i K a w) : wpOp P l.toArray Q i K a w := by
  unfold wpOp at h ⊢
  rw [prune_get] at h
  cases ho : l.toArray[i]? with
  | none => rw [ho] at h; exact h
  | some o => rw [ho, yielded_prune] at h; exact h
theorem wpAny_prune {P : Program} {l : List Oper} {Q : Exit → Act → World → Prop} : ∀ (fuel : Nat) (listed : Array Bool) (a : Act) (w : World), wpAny P .any (l.map prune).toArray Q fuel listed a w → wpAny P .any l.toArray Q fuel listed a w
  | 0, listed, a, w, h => by unfold wpAny at h ⊢; rwa [ready_prune] at h
  | fuel + 1, listed, a, w, h => by
    unfold wpAny at h ⊢
    rw [ready_prune] at h
    exact ⟨h.1, fun i hi => wpOp_mono (fun a' w' h' => wpAny_prune fuel _ a' w' h') (wpOp_prune (h.2 i hi))⟩
theorem monoE_prune {P : Program} {ops : List Oper} {C : World → Prop} {T : Nat → World → World → Prop} {Q : Act → World → Prop} : ∀ (l : List Oper) (i : Nat) (a : Act), monoE P ops.toArray C T Q l i a → monoE P (ops.map prune).toArray C T Q (l.map prune) i a
  | [], _, _, h => h
  | o :: l, i, a, ⟨x, h1, h2⟩ => by
    refine ⟨x, fun w hC R hR => ?_, monoE_prune l _ _ h2⟩
    have := h1 w hC R hR
    rw [← yielded_prune] at this
    exact this

/-- As wp_region_exact: edges that bind no order are left out, and a temporary may be read ahead of being written. -/
theorem wp_region_exact3 {P : Program} {l : List Oper} {Q : Exit → Act → World → Prop} {a : Act} {id : Nat} {w : World} (B : Nat) (hBw : B ≤ w.heap.size) (hm : P.follows .mixedOrders = true) (hB : monoB2 (l.map prune) a.tmps.size = true)
    (h : monoE P l.toArray (Cls B w) TB (Q .normal) l 0 a) : (Code.region id l.toArray true).wp P Q a w := by
  have h' := monoE_prune (ops := l) l 0 a h
  generalize hl : l.map prune = l' at hB h'
  have conv : ∀ (l'' : List Oper) (i : Nat) (a' : Act), monoE P l'.toArray (Cls B w) TB (Q .normal) l'' i a' → doneE P l'.toArray (fun _ => Cls B w) (befores l' []) (Q .normal) l'.length l'' i a' := by
    intro l''
    induction l'' with
    | nil => intro i a' h _ W _ hC; exact h W hC
    | cons o l'' ih =>
      intro i a' h
      obtain ⟨x, h1, h2⟩ := h
      exact ⟨x, fun _ W hC _ _ _ R hR => h1 W hC R (fun v w' hT hv => hR v w' (hC.step hT) hv), ih _ _ h2⟩
  obtain ⟨xs, hx⟩ := doneE_list l' 0 a [] (conv l' 0 a h')
  refine wp_region_any hm (wpAny_prune _ _ _ _ ?_)
  rw [hl]
  refine wpAny_done (Inv := fun _ => Cls B w) (T := fun _ _ _ => True) (ss := xs.map ex) hB (fun i k s _ hk v done w1 w2 _ _ _ => ?_) hx _ _ (fun _ => undef) _ _ ?_ ⟨⟨hBw, (Below.refl _ _).drew⟩, ?_, by simp [← hl], rfl, rfl, ?_, fun _ _ => rfl⟩
  · obtain ⟨x, _, rfl⟩ := List.mem_map.1 (List.mem_of_getElem? hk)
    trivial
  · have := List.length_filter_le (fun i => (Array.replicate l.toArray.size false)[i]? != some true) (List.range l'.length)
    simpa [undone, ← hl] using this
  · intro j o hj hl
    rw [Array.getElem?_replicate] at hl
    split at hl <;> simp at hl
  · intro j o s hj _ hl
    rw [Array.getElem?_replicate] at hl
    split at hl <;> simp at hl
end Go.Proofs.YtmokmmpomgjemaaDoor
