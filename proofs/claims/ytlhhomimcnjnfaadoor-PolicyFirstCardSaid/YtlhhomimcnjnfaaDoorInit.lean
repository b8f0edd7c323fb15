/- A region that draws its order, lays a variable of its own and stores into it, calls beside it. No condition. -/
import Derived.Test.YtlhhomimcnjnfaaDoorRel
import Derived.Test.YtlhhomimcnjnfaaDoorBlk
namespace Go.Proofs.YtlhhomimcnjnfaaDoor
open Go.RowKit

def Typed (T0 : TypeId) (o : Obj) : Prop := ∃ cs fr, o = .cells cs T0 fr
/-- what may become of a world: blocks stay, but for those of the types ts. -/
structure InitT (ts : List TypeId) (w w' : World) : Prop where
  size : w.heap.size ≤ w'.heap.size
  keep : ∀ (k : Nat) (o : Obj), w.heap[k]? = some o → (∀ T ∈ ts, ¬ Typed T o) → w'.heap[k]? = some o
theorem InitT.of_below {ts : List TypeId} {w w' : World} (h : Below w.heap.size w w') : InitT ts w w' := ⟨h.size, fun _ _ hk _ => blk_below hk h⟩
theorem InitT.of_set {T0 : TypeId} {ts : List TypeId} (hT : T0 ∈ ts) {w : World} {b o : Nat} {v : Value} {cs : Array Value} {fr : Nat × Nat} (h : w.heap[b]? = some (.cells cs T0 fr)) : InitT ts w (w.setCell ⟨b, o, none⟩ v) := by
  refine ⟨by rw [set_size]; exact Nat.le_refl _, fun k o' hk hn => ?_⟩
  rw [set_other (fun e => by subst e; rw [h] at hk; injection hk with hk; exact hn T0 hT ⟨_, _, hk.symm⟩)]
  exact hk
theorem InitT.of_grown {T0 : TypeId} {ts : List TypeId} (hT : T0 ∈ ts) {w w' : World} {own : Option Nat} (hg : w.grownBy w' own) (ho : ∀ g, own = some g → ∃ o, w.heap[g]? = some o ∧ Typed T0 o) : InitT ts w w' := by
  refine ⟨hg.size, fun k o hk hn => ?_⟩
  rw [hg.block k (Array.getElem?_eq_some_iff.1 hk).1 (fun e => by
    obtain ⟨o', h1, h2⟩ := ho k e.symm
    rw [hk] at h1; injection h1 with h1; subst h1; exact hn T0 hT h2)]
  exact hk
theorem OwnSl.init {α : Type} {ts : List TypeId} {w w' : World} {base : Nat} {e : TypeId} {sz : Nat} {R : α → List Value → Prop} {v : Value} {xs : List α} (h : OwnSl w base e sz R v xs) (hi : InitT ts w w') (hne : e ∉ ts) : OwnSl w' base e sz R v xs := by
  obtain ⟨rows, hr, h1, h2⟩ := h
  refine ⟨rows, hr, h1, ?_⟩
  rcases h2 with h2 | ⟨g, cap, cur, hv, hg, hh, r⟩
  · exact .inl h2
  · refine .inr ⟨g, cap, cur, hv, hg, hi.keep g _ hh (fun T hT => ?_), r⟩
    rintro ⟨cs, fr, e'⟩
    injection e' with _ e2 _
    exact hne (e2 ▸ hT)
theorem OwnSl.base {α : Type} {w : World} {base base' : Nat} {e : TypeId} {sz : Nat} {R : α → List Value → Prop} {v : Value} {xs : List α} (h : OwnSl w base e sz R v xs) (hb : base' ≤ base) : OwnSl w base' e sz R v xs := by
  obtain ⟨rows, hr, h1, h2⟩ := h
  refine ⟨rows, hr, h1, ?_⟩
  rcases h2 with h2 | ⟨g, cap, cur, hv, hg, r⟩
  · exact .inl h2
  · exact .inr ⟨g, cap, cur, hv, Nat.le_trans hb hg, r⟩
theorem OwnSl.slice {α : Type} {w : World} {base : Nat} {e : TypeId} {sz : Nat} {R : α → List Value → Prop} {v : Value} {xs : List α} (h : OwnSl w base e sz R v xs) : ∃ a c, v = .slice a xs.length c := by
  obtain ⟨rows, _, _, h2⟩ := h
  rcases h2 with ⟨hv, hn⟩ | ⟨g, cap, cur, hv, _⟩
  · exact ⟨_, _, by rw [hv, hn]⟩
  · exact ⟨_, _, hv⟩
theorem OwnSl.typed {α : Type} {w : World} {base : Nat} {e : TypeId} {sz : Nat} {R : α → List Value → Prop} {v : Value} {xs : List α} (h : OwnSl w base e sz R v xs) : ∀ g, v.ownBlock = some g → ∃ o, w.heap[g]? = some o ∧ Typed e o := by
  obtain ⟨rows, _, _, h2⟩ := h
  intro g hg
  rcases h2 with ⟨hv, _⟩ | ⟨g', cap, cur, hv, _, hh, _⟩
  · subst hv; simp [Value.ownBlock] at hg
  · subst hv; simp [Value.ownBlock] at hg; subst hg; exact ⟨_, hh, _, _, rfl⟩
theorem InitT.trans {ts : List TypeId} {w w' w'' : World} (h : InitT ts w w') (h' : InitT ts w' w'') : InitT ts w w'' := ⟨Nat.le_trans h.size h'.size, fun k o hk hn => h'.keep k o (h.keep k o hk hn) hn⟩
theorem two_cells {cs : Array Value} (h : cs.size = 2) : ∃ c0 c1, cs = #[c0, c1] := by
  obtain ⟨l⟩ := cs
  match l, h with
  | [c0, c1], _ => exact ⟨c0, c1, rfl⟩
theorem blk_init {ts : List TypeId} {w w' : World} {b : Nat} {cs : Array Value} {T : TypeId} (h : w.heap[b]? = some (.cells cs T)) (hi : InitT ts w w') (hT : T ∉ ts) : w'.heap[b]? = some (.cells cs T) :=
  hi.keep b _ h fun T' hT' => by
    rintro ⟨cs', fr, e'⟩
    injection e' with _ e2 _
    exact hT (e2 ▸ hT')
def VarAt (B : Nat) (T0 : TypeId) (sz : Nat) (v : Value) (w : World) : Prop := ∃ b, v = .pointer (some ⟨b, 0, none⟩) ∧ B ≤ b ∧ ∃ cs, cs.size = sz ∧ w.heap[b]? = some (.cells cs T0)
def VarIs (T0 : TypeId) (v : Value) (cs : Array Value) (w : World) : Prop := ∃ b, v = .pointer (some ⟨b, 0, none⟩) ∧ w.heap[b]? = some (.cells cs T0)
def initF (B : Nat) (T0 : TypeId) (sz : Nat) (ia is : Nat) (news : (Nat → Value) → Array Value) (G : Nat → (Nat → Bool) → (Nat → Value) → World → Prop) (k : Nat) (done : Nat → Bool) (vf : Nat → Value) (w : World) : Prop :=
  if k = ia then VarAt B T0 sz (vf ia) w else if k = is then VarIs T0 (vf ia) (news vf) w else G k done vf w
def initT (T0 : TypeId) (ts : Nat → List TypeId) (ia is : Nat) (news : (Nat → Value) → Array Value) (i : Nat) (vf : Nat → Value) (w w' : World) : Prop :=
  InitT (if i = is then [T0] else ts i) w w' ∧ (i = is → VarIs T0 (vf ia) (news vf) w')
def initI (B : Nat) (w0 : World) (_ : Nat → Bool) (w : World) : Prop := Cls B w0 w
theorem initT.plain {T0 : TypeId} {ts : Nat → List TypeId} {ia is i : Nat} {news : (Nat → Value) → Array Value} {vf : Nat → Value} {w w' : World} (h : Below w.heap.size w w') (hi : i ≠ is) : initT T0 ts ia is news i vf w w' := ⟨.of_below h, fun e => absurd e hi⟩
theorem initT.other {T0 : TypeId} {ts : Nat → List TypeId} {ia is i : Nat} {news : (Nat → Value) → Array Value} {vf : Nat → Value} {w w' : World} (h : InitT (ts i) w w') (hi : i ≠ is) : initT T0 ts ia is news i vf w w' := ⟨by rw [if_neg hi]; exact h, fun e => absurd e hi⟩
/-- THE LAW: operation ia lays the variable, is stores into it. -/
theorem wp_region_init {P : Program} {l : List Oper} {Q : Exit → Act → World → Prop} {a : Act} {id : Nat} {w : World} (B : Nat) (hBw : B ≤ w.heap.size) (T0 : TypeId) (sz : Nat) (ts : Nat → List TypeId) (ia is : Nat) (news : (Nat → Value) → Array Value) (G : Nat → (Nat → Bool) → (Nat → Value) → World → Prop)
    (hm : P.follows .mixedOrders = true) (hB : monoB2 (l.map prune) a.tmps.size = true) (bs : List (List Nat)) (hbs : befores (l.map prune) [] = bs) (hia : ia ∈ bs.getD is []) (hts : ∀ i, T0 ∉ ts i) (hsz : ∀ vf, (news vf).size = sz)
    (hG : ∀ (i k : Nat) (done : Nat → Bool) (vf : Nat → Value) (w w' : World), k ≠ i → done i = false → done k = true → InitT (if i = is then [T0] else ts i) w w' → G k done vf w → G k (updDone done i) vf w')
    (hGp : ∀ (k : Nat) (done : Nat → Bool) (f g : Nat → Value) (w : World), (∀ m ∈ bs.getD k [], f m = g m) → f k = g k → G k done f w → G k done g w) (hN : ∀ f g : Nat → Value, (∀ m ∈ bs.getD is [], f m = g m) → news f = news g)
    (h : relWalk P l.toArray (initI B w) (initT T0 ts ia is news) (initF B T0 sz ia is news G) bs (Q .normal) l.length l 0 (fun _ => a)) : (Code.region id l.toArray true).wp P Q a w := by
  refine wp_region_rel _ _ _ hm hB bs hbs (fun i done vf w1 w2 _ hd hf hT k hk => ?_) (fun k done f g w1 hfg hk hF => ?_) ⟨hBw, (Below.refl _ _).drew⟩ h
  · have hki : k ≠ i := fun e => by rw [e, hd] at hk; cases hk
    have hF := hf k hk
    unfold initF at hF ⊢
    split
    · rename_i e
      rw [if_pos e] at hF
      obtain ⟨b, hv, hb, cs, hs, hc⟩ := hF
      by_cases ei : i = is
      · obtain ⟨b', hv', hc'⟩ := hT.2 ei
        rw [hv] at hv'
        injection hv' with hv'; injection hv' with hv'; injection hv' with hv'
        subst hv'
        exact ⟨b, hv, hb, _, hsz vf, hc'⟩
      · have h1 := hT.1
        rw [if_neg ei] at h1
        exact ⟨b, hv, hb, cs, hs, blk_init hc h1 (hts i)⟩
    · rename_i e
      rw [if_neg e] at hF
      split
      · rename_i e2
        rw [if_pos e2] at hF
        obtain ⟨b, hv, hc⟩ := hF
        have h1 := hT.1
        rw [if_neg (fun e' => hki (e2.trans e'.symm))] at h1
        exact ⟨b, hv, blk_init hc h1 (hts i)⟩
      · rename_i e2
        rw [if_neg e2] at hF
        exact hG i k done vf _ _ hki hd hk hT.1 hF
  · unfold initF at hF ⊢
    split
    · rename_i e
      subst e
      rw [if_pos rfl, hk] at hF
      exact hF
    · rename_i e
      rw [if_neg e] at hF
      split
      · rename_i e2
        subst e2
        rw [if_pos rfl, hN f g hfg, hfg ia hia] at hF
        exact hF
      · rename_i e2
        rw [if_neg e2] at hF
        exact hGp k done f g w1 hfg hk hF
end Go.Proofs.YtlhhomimcnjnfaaDoor
