/- Texts laid one behind the other: Prune3, Reverse, RegB, ConcatChain. No condition beyond theirs. -/
import Derived.Test.YtkiipnbjckdlbaaGreatDoorK3
import Derived.Test.YtkiipnbjckdlbaaGreatDoorProg
import Derived.Test.YtkiipnbjckdlbaaGreatDoorK1
import Derived.KernelRfl
import Derived.Deep.LoopGhost
namespace Go.Proofs.YtkiipnbjckdlbaaGreatDoor
open Go.RowKit

/-- doneE of the pruned operations, said of the operations as they stand. -/
def doneP (P : Program) (ops : Array Oper) (Inv : (Nat → Bool) → World → Prop) (bs : List (List Nat)) (Q : Act → World → Prop) (n : Nat) : List Oper → Nat → Act → Prop
  | [], _, a => ∀ (done : Nat → Bool) (w : World), (∀ k, k < n → done k = true) → Inv done w → Q a w
  | o :: l, i, a => ∃ x : Value, (∀ (done : Nat → Bool) (w : World), Inv done w → done i = false → (∀ k ∈ (prune o).after.toList.map (fun e => e.on), done k = true) → (∀ k : Nat, i ∈ bs.getD k [] → done k = false) →
      ∀ R : Value → World → Prop, (∀ (v : Value) (w' : World), Inv (updDone done i) w' → v = x → R v w') → if Region.wanted o (yielded ops a.tmps) then gives P o a w R else R undef w) ∧
      doneP P ops Inv bs Q n l (i + 1) (a.put o.dst x)
theorem doneP_step {P : Program} {ops : Array Oper} {Inv : (Nat → Bool) → World → Prop} {bs : List (List Nat)} {Q : Act → World → Prop} {n : Nat} {o : Oper} {l : List Oper} {i : Nat} {a : Act}
    (h : ∀ K : Act → Prop, (∀ a, doneP P ops Inv bs Q n l (i + 1) a → K a) → ∃ x : Value, (∀ (done : Nat → Bool) (w : World), Inv done w → done i = false → (∀ k ∈ (prune o).after.toList.map (fun e => e.on), done k = true) → (∀ k : Nat, i ∈ bs.getD k [] → done k = false) →
      ∀ R : Value → World → Prop, (∀ (v : Value) (w' : World), Inv (updDone done i) w' → v = x → R v w') → if Region.wanted o (yielded ops a.tmps) then gives P o a w R else R undef w) ∧ K (a.put o.dst x)) :
    doneP P ops Inv bs Q n (o :: l) i a := h _ (fun _ h => h)
theorem doneP_prune {P : Program} {ops : List Oper} {Inv : (Nat → Bool) → World → Prop} {bs : List (List Nat)} {Q : Act → World → Prop} {n : Nat} : ∀ (l : List Oper) (i : Nat) (a : Act), doneP P ops.toArray Inv bs Q n l i a → doneE P (ops.map prune).toArray Inv bs Q n (l.map prune) i a
  | [], _, _, h => h
  | o :: l, i, a, ⟨x, h1, h2⟩ => by
    refine ⟨x, fun d w hC h0 hd hn R hR => ?_, doneP_prune l _ _ h2⟩
    have := h1 d w hC h0 hd hn R hR
    rw [← yielded_prune] at this
    exact this
/-- As wp_region_stores: edges that bind no order are left out. -/
theorem wp_region_stores3 {P : Program} {l : List Oper} {Q : Exit → Act → World → Prop} {a : Act} {id : Nat} {w : World} (Inv : (Nat → Bool) → World → Prop) (hm : P.follows .mixedOrders = true) (hB : monoB2 (l.map prune) a.tmps.size = true) (hC : Inv (fun _ => false) w.drew)
    (bs : List (List Nat)) (hbs : befores (l.map prune) [] = bs) (h : doneP P l.toArray Inv bs (Q .normal) l.length l 0 a) : (Code.region id l.toArray true).wp P Q a w := by
  subst hbs
  have h' := doneP_prune (ops := l) l 0 a h
  have hlen : l.length = (l.map prune).length := by simp
  rw [hlen] at h'
  generalize hl : l.map prune = l' at hB h'
  obtain ⟨xs, hx⟩ := doneE_list l' 0 a [] h'
  refine wp_region_any hm (wpAny_prune _ _ _ _ ?_)
  rw [hl]
  refine wpAny_done (Inv := Inv) (T := fun _ _ _ => True) (ss := xs.map ex) hB (fun i k s _ hk v done w1 w2 _ _ _ => ?_) hx _ _ (fun _ => undef) _ _ ?_ ⟨?_, ?_, by simp [← hl], rfl, rfl, ?_, fun _ _ => rfl⟩
  · obtain ⟨x, _, rfl⟩ := List.mem_map.1 (List.mem_of_getElem? hk)
    trivial
  · have := List.length_filter_le (fun i => (Array.replicate l.toArray.size false)[i]? != some true) (List.range l'.length)
    simpa [undone, ← hl] using this
  · refine (congrArg (fun d => Inv d _) ?_).mp hC
    funext k
    rw [Array.getElem?_replicate]
    split <;> simp
  · intro j o hj hl
    rw [Array.getElem?_replicate] at hl
    split at hl <;> simp at hl
  · intro j o s hj _ hl
    rw [Array.getElem?_replicate] at hl
    split at hl <;> simp at hl
end Go.Proofs.YtkiipnbjckdlbaaGreatDoor
namespace Go.Proofs.YtkiipnbjckdlbaaGreatDoor
open Go.RowKit
attribute [local go_sem] gives givesUpon

/-- the outer i pairs swapped. -/
def RevTo {α : Type} (l m : List α) (i : Nat) : Prop := m.length = l.length ∧ ∀ p, p < l.length → m[p]? = if p < i ∨ l.length ≤ p + i then l[l.length - 1 - p]? else l[p]?
theorem rev_zero {α : Type} (l : List α) : RevTo l l 0 := ⟨rfl, fun p hp => by rw [if_neg (by omega)]⟩
theorem rev_done {α : Type} {l m : List α} {i : Nat} (h : RevTo l m i) (hi : l.length ≤ i + i + 1) : m = l.reverse := by
  apply List.ext_getElem?
  intro p
  by_cases hp : p < l.length
  · rw [h.2 p hp, List.getElem?_reverse hp]
    split
    · rfl
    · congr 1; omega
  · rw [List.getElem?_eq_none (by rw [h.1]; omega), List.getElem?_eq_none (by simp; omega)]
theorem rev_next {α : Type} {l m : List α} {i : Nat} (h : RevTo l m i) (hi : i + i + 1 < l.length) {x y : α} (hx : m[i]? = some x) (hy : m[l.length - 1 - i]? = some y) : RevTo l ((m.set i y).set (l.length - 1 - i) x) (i + 1) := by
  have h1 := h.2 i (by omega)
  have h2 := h.2 (l.length - 1 - i) (by omega)
  rw [hx, if_neg (by omega)] at h1
  rw [hy, if_neg (by omega)] at h2
  refine ⟨by simp [h.1], fun p hp => ?_⟩
  by_cases e1 : p = l.length - 1 - i
  · subst e1
    rw [List.getElem?_set_self (by simp [h.1]; omega), if_pos (by omega)]
    rw [h1]; congr 1; omega
  · rw [List.getElem?_set_ne (Ne.symm e1)]
    by_cases e2 : p = i
    · subst e2
      rw [List.getElem?_set_self (by rw [h.1]; omega), if_pos (by omega)]
      rw [h2]
    · rw [List.getElem?_set_ne (Ne.symm e2), h.2 p hp]
      by_cases e3 : p < i ∨ l.length ≤ p + i
      · rw [if_pos e3, if_pos (by omega)]
      · rw [if_neg e3, if_neg (by omega)]
/-- what the region's world is: which of both stores are done. -/
structure RevInv {α : Type} (w0 : World) (base g n c i j : Nat) (R : α → List Value → Prop) (m : List α) (x y : α) (ui uj : Value) (done : Nat → Bool) (W : World) : Prop where
  own : OwnSl W base 31 1 R (.slice (some ⟨g, 0, none⟩) n c) (if done 15 then (if done 13 then (m.set i y).set j x else m.set j x) else if done 13 then m.set i y else m)
  gr : w0.grownBy W (some g)
  ci : W.cell? ⟨g, i, none⟩ = some (if done 13 then uj else ui)
  cj : W.cell? ⟨g, j, none⟩ = some (if done 15 then ui else uj)
section
variable {α : Type} {w0 W W' : World} {base g n c i j k : Nat} {R : α → List Value → Prop} {m : List α} {x y : α} {ui uj : Value} {done : Nat → Bool}
theorem RevInv.step (h : RevInv w0 base g n c i j R m x y ui uj done W) (h1 : k ≠ 13) (h2 : k ≠ 15) : RevInv w0 base g n c i j R m x y ui uj (updDone done k) W := by
  have e1 : updDone done k 13 = done 13 := by simp [updDone, Ne.symm h1]
  have e2 : updDone done k 15 = done 15 := by simp [updDone, Ne.symm h2]
  exact ⟨by rw [e1, e2]; exact h.own, h.gr, by rw [e1]; exact h.ci, by rw [e2]; exact h.cj⟩
theorem cell_other {W : World} {g i j : Nat} {v : Value} (h : i ≠ j) : (W.setCell ⟨g, j, none⟩ v).cell? ⟨g, i, none⟩ = W.cell? ⟨g, i, none⟩ := by
  unfold World.cell?
  show (match (W.heap.modify g _)[g]? with | some (.cells cs _ _) => cs[i]? | _ => none) = _
  rw [Array.getElem?_modify, if_pos rfl]
  cases hw : W.heap[g]? with
  | none => rfl
  | some o =>
    cases o <;> simp [Ne.symm h]
theorem RevInv.blk (h : RevInv w0 base g n c i j R m x y ui uj done W) (hl : 0 < m.length) : ∃ cur, W.heap[g]? = some (.cells cur 31) := by
  have ho := h.own
  obtain ⟨b, e, _, _, cur, hc⟩ := OwnSl.addr ho (by split <;> (try split) <;> simpa using hl)
  injection e with e
  injection e with e
  subst e
  exact ⟨cur, hc⟩
theorem cell_self {W : World} {g i : Nat} {v u : Value} {cur : Array Value} {T : TypeId} (hb : W.heap[g]? = some (.cells cur T)) (hc : W.cell? ⟨g, i, none⟩ = some u) : (W.setCell ⟨g, i, none⟩ v).cell? ⟨g, i, none⟩ = some v := by
  have h1 := cells_of hb i
  rw [hc] at h1
  have hi : i < cur.size := (Array.getElem?_eq_some_iff.1 h1.symm).1
  rw [cells_of (set_at (o := i) (v := v) hb) i, Array.getElem?_setIfInBounds_self_of_lt hi]
theorem RevInv.frz (h : RevInv w0 base g n c i j R m x y ui uj done W) (hl : 0 < m.length) (k : Nat) : W.frozen? ⟨g, k, none⟩ = false := by
  obtain ⟨cur, hc⟩ := h.blk hl
  simp [World.frozen?, hc]
theorem grown_set {w0 W : World} {g i : Nat} {v : Value} (h : w0.grownBy W (some g)) : w0.grownBy (W.setCell ⟨g, i, none⟩ v) (some g) :=
  ⟨h.os, h.tape, h.output, by rw [set_size]; exact h.size, fun k hk hn => by rw [set_other (fun e => hn (by rw [e]))]; exact h.block k hk hn⟩
theorem RevInv.puti (h : RevInv w0 base g n c i j R m x y ui uj done W) (hij : i ≠ j) (hi : i < m.length) (hR : R y [uj]) (hR1 : ∀ z r, R z r → r.length = 1) (hd0 : done 13 = false) :
    RevInv w0 base g n c i j R m x y ui uj (updDone done 13) (W.setCell ⟨g, i, none⟩ uj) := by
  have e1 : updDone done 13 13 = true := by simp [updDone]
  have e2 : updDone done 13 15 = done 15 := by simp [updDone]
  obtain ⟨cur, hcur⟩ := h.blk (by omega)
  have hset : ∀ r : List Value, r.length = 1 → R y (r.set 0 uj) := fun r hr => by
    match r, hr with
    | [_], _ => exact hR
  refine ⟨?_, grown_set h.gr, by rw [e1]; exact cell_self hcur h.ci, by rw [e2, cell_other (Ne.symm hij)]; exact h.cj⟩
  have ho := h.own
  rw [hd0] at ho
  rw [e1, e2]
  cases hd : done 15 with
  | true =>
    rw [hd] at ho
    simp only [Bool.false_eq_true, if_false, if_true] at ho ⊢
    have := OwnSl.put (i := i) (j := 0) ho (by simpa using hi) (by decide) (y := y) (u := uj) (fun r hr => hset r (hR1 _ r hr))
    rw [List.set_comm _ _ hij]
    simpa using this
  | false =>
    rw [hd] at ho
    simp only [Bool.false_eq_true, if_false, if_true] at ho ⊢
    have := OwnSl.put (i := i) (j := 0) ho hi (by decide) (y := y) (u := uj) (fun r hr => hset r (hR1 _ r hr))
    simpa using this
theorem RevInv.putj (h : RevInv w0 base g n c i j R m x y ui uj done W) (hij : i ≠ j) (hj : j < m.length) (hR : R x [ui]) (hR1 : ∀ z r, R z r → r.length = 1) (hd0 : done 15 = false) :
    RevInv w0 base g n c i j R m x y ui uj (updDone done 15) (W.setCell ⟨g, j, none⟩ ui) := by
  have e1 : updDone done 15 13 = done 13 := by simp [updDone]
  have e2 : updDone done 15 15 = true := by simp [updDone]
  obtain ⟨cur, hcur⟩ := h.blk (by omega)
  have hset : ∀ r : List Value, r.length = 1 → R x (r.set 0 ui) := fun r hr => by
    match r, hr with
    | [_], _ => exact hR
  refine ⟨?_, grown_set h.gr, by rw [e1, cell_other hij]; exact h.ci, by rw [e2]; exact cell_self hcur h.cj⟩
  have ho := h.own
  rw [hd0] at ho
  rw [e1, e2]
  cases hd : done 13 with
  | true =>
    rw [hd] at ho
    simp only [Bool.false_eq_true, if_false, if_true] at ho ⊢
    have := OwnSl.put (i := j) (j := 0) ho (by simpa using hj) (by decide) (y := x) (u := ui) (fun r hr => hset r (hR1 _ r hr))
    simpa using this
  | false =>
    rw [hd] at ho
    simp only [Bool.false_eq_true, if_false, if_true] at ho ⊢
    have := OwnSl.put (i := j) (j := 0) ho hj (by decide) (y := x) (u := ui) (fun r hr => hset r (hR1 _ r hr))
    simpa using this
end

set_option maxRecDepth 100000 in
set_option maxHeartbeats 4000000 in
theorem reverse_any {α : Type} (R : α → List Value → Prop) (hR1 : ∀ z r, R z r → r.length = 1) (hRs : ∀ z u, R z [u] → ∃ a n c, u = .slice a n c) (v : Value) (l : List α) (base : Nat) (w : World) (h : OwnSl w base 31 1 R v l) (hn : l.length ≤ 1000000) :
    Calls Tryz.prog 15 #[v] w fun e w' => e = .returned (.tuple #[]) ∧ OwnSl w' base 31 1 R v l.reverse ∧ w.grownBy w' v.ownBlock := by
  have H := Lib.hid h
  obtain ⟨a, c, rfl⟩ := h.slice
  rcases Nat.eq_zero_or_pos l.length with h0 | hpos
  · have hl0 : l = [] := List.length_eq_zero_iff.1 h0
    subst hl0
    clear h
    have hl1 : ([] : List α).length = 0 := rfl
    go_enter Tryz.func15, Tryz.ntmps15
    go_wp2_with fail
    go_loopw [2, 3] (fun iv jv wr => iv = .int .i64 0 ∧ jv = .int .i64 (-1) ∧ wr = w) (fun _ _ _ => 0)
    case atStart => exact ⟨rfl, rfl, rfl⟩
    case round =>
      obtain ⟨rfl, rfl, rfl⟩ := hrel
      go_wp2
      exact bodyPost_end (results_none rfl _ _ _) rfl ⟨rfl, H.out, ⟨rfl, rfl, rfl, Nat.le_refl _, fun _ _ _ => rfl⟩⟩
  · obtain ⟨g, rfl, hgb, hgl, cur0, hcur0⟩ := OwnSl.addr h hpos
    clear h hcur0
    go_enter Tryz.func15, Tryz.ntmps15
    go_wp2_with fail
    go_loopw [2, 3] (fun iv jv wr => ∃ (i : Nat) (m : List α), iv = .int .i64 i ∧ jv = .int .i64 ((l.length : Int) - 1 - i) ∧ i + i ≤ l.length ∧ RevTo l m i ∧ OwnSl wr base 31 1 R (.slice (some ⟨g, 0, none⟩) l.length c) m ∧ w.grownBy wr (some g)) (fun iv _ _ => l.length - (intOf iv).toNat)
    case atStart => exact ⟨0, l, rfl, by simp, by omega, rev_zero l, H.out, ⟨rfl, rfl, rfl, Nat.le_refl _, fun _ _ _ => rfl⟩⟩
    case round =>
      obtain ⟨i, m, rfl, rfl, hi2, hrev, hown, hgr⟩ := hrel
      have Hrev := Lib.hid hrev
      have Hown := Lib.hid hown
      have Hgr := Lib.hid hgr
      have hml := hrev.1
      clear hrev hown hgr
      by_cases hlt : i + i + 1 < l.length
      · obtain ⟨j, hj⟩ : ∃ j, l.length - 1 - i = j := ⟨_, rfl⟩
        have hjI : ((l.length : Int) - 1 - i) = (j : Int) := by omega
        have hijn : i ≠ j := by omega
        have hsl : Sl wr (fun _ => True) 1 R (.slice (some ⟨g, 0, none⟩) l.length c) m := Hown.out.sl (fun _ _ => trivial)
        have geti : ∀ k (hk : k < m.length), ∃ u, R m[k] [u] ∧ wr.cell? ⟨g, k, none⟩ = some u := fun k hk => by
          obtain ⟨cs, hcs, hr, hcell⟩ := Sl.get hsl hk
          match cs, hcs with
          | [u], _ =>
            have := hcell 0 u rfl
            simp only [Nat.mul_one, Nat.zero_add, Nat.add_zero] at this
            exact ⟨u, hr, this⟩
        obtain ⟨ui, hRi, hci⟩ := geti i (by omega)
        obtain ⟨uj, hRj, hcj⟩ := geti j (by omega)
        obtain ⟨ai, ni, ki, rfl⟩ := hRs _ _ hRi
        obtain ⟨aj, nj, kj, rfl⟩ := hRs _ _ hRj
        have Hnx := Lib.hid (rev_next Hrev.out hlt (List.getElem?_eq_getElem (by omega)) (by rw [hj]; exact List.getElem?_eq_getElem (by omega)))
        rw [hj] at Hnx
        obtain ⟨x, hx⟩ : ∃ x, m[i]'(by omega) = x := ⟨_, rfl⟩
        obtain ⟨y, hy⟩ : ∃ y, m[j]'(by omega) = y := ⟨_, rfl⟩
        have hRi' : R x [.slice ai ni ki] := by rw [← hx]; exact hRi
        have hRj' : R y [.slice aj nj kj] := by rw [← hy]; exact hRj
        rw [hx, hy] at Hnx
        have HI0 : Hid (RevInv w base g l.length c i j R m x y (.slice ai ni ki) (.slice aj nj kj) (fun _ => false) wr.drew) := ⟨Hown.out.below (Below.refl _ _).drew, ⟨Hgr.out.os, Hgr.out.tape, Hgr.out.output, Hgr.out.size, Hgr.out.block⟩, hci, hcj⟩
        have HRi := Lib.hid hRi'
        have HRj := Lib.hid hRj'
        have Hml : Hid (m.length = l.length ∧ 0 < m.length) := ⟨hml, by omega⟩
        have Him : Hid (i < m.length) := (by omega : i < m.length)
        have Hjm : Hid (j < m.length) := (by omega : j < m.length)
        have Hj := Lib.hid hj
        clear hsl geti hRi hRj hci hcj hRi' hRj' hx hy hml
        rw [hjI]
        have hwi : IntKind.i64.wrap (i : Int) = (i : Int) := IntWalk.i64_in _ (by omega)
        have hwj : IntKind.i64.wrap (j : Int) = (j : Int) := IntWalk.i64_in _ (by omega)
        have hi0 : (0 : Int) ≤ (i : Int) := by omega
        have hj0 : (0 : Int) ≤ (j : Int) := by omega
        have hil : (i : Int) < (l.length : Int) := by omega
        have hjl : (j : Int) < (l.length : Int) := by omega
        clear hjI
        go_wp2_with fail
        refine wp_region_stores3 (RevInv w base g l.length c i j R m x y (.slice ai ni ki) (.slice aj nj kj)) (by kernel_rfl) (by kernel_rfl) HI0.out _ rfl ?_
        (refine doneP_step (fun K hK => ?_); apply Exists.intro; refine ⟨fun done W hI h0 hd hn R hR => ?_, ?_⟩; (go_simp; exact hR _ _ (hI.step (by decide) (by decide)) rfl); (go_simp; refine hK _ ?_; clear hK K))
        (refine doneP_step (fun K hK => ?_); apply Exists.intro; refine ⟨fun done W hI h0 hd hn R hR => ?_, ?_⟩; (go_simp; exact hR _ _ (hI.step (by decide) (by decide)) rfl); (go_simp; refine hK _ ?_; clear hK K))
        (refine doneP_step (fun K hK => ?_); apply Exists.intro; refine ⟨fun done W hI h0 hd hn R hR => ?_, ?_⟩; (go_simp; exact hR _ _ (hI.step (by decide) (by decide)) rfl); (go_simp; refine hK _ ?_; clear hK K))
        (refine doneP_step (fun K hK => ?_); apply Exists.intro; refine ⟨fun done W hI h0 hd hn R hR => ?_, ?_⟩; (go_simp; exact hR _ _ (hI.step (by decide) (by decide)) rfl); (go_simp; refine hK _ ?_; clear hK K))
        (refine doneP_step (fun K hK => ?_); apply Exists.intro; refine ⟨fun done W hI h0 hd hn R hR => ?_, ?_⟩; (go_simp; exact hR _ _ (hI.step (by decide) (by decide)) rfl); (go_simp; refine hK _ ?_; clear hK K))
        (refine doneP_step (fun K hK => ?_); apply Exists.intro; refine ⟨fun done W hI h0 hd hn R hR => ?_, ?_⟩; (go_simp; exact hR _ _ (hI.step (by decide) (by decide)) rfl); (go_simp; refine hK _ ?_; clear hK K))
        (refine doneP_step (fun K hK => ?_); apply Exists.intro; refine ⟨fun done W hI h0 hd hn R hR => ?_, ?_⟩; (go_simp; exact hR _ _ (hI.step (by decide) (by decide)) rfl); (go_simp; refine hK _ ?_; clear hK K))
        (refine doneP_step (fun K hK => ?_); apply Exists.intro; refine ⟨fun done W hI h0 hd hn R hR => ?_, ?_⟩; (have hc := hI.cj; have h13 : done 13 = false := hn 13 (by decide); have h15 : done 15 = false := hn 15 (by decide); rw [h15] at hc; simp only [Bool.false_eq_true, if_false] at hc; clear h0 hd hn; go_simp; exact hR _ _ (hI.step (by decide) (by decide)) rfl); (go_simp; refine hK _ ?_; clear hK K))
        (refine doneP_step (fun K hK => ?_); apply Exists.intro; refine ⟨fun done W hI h0 hd hn R hR => ?_, ?_⟩; (go_simp; exact hR _ _ (hI.step (by decide) (by decide)) rfl); (go_simp; refine hK _ ?_; clear hK K))
        (refine doneP_step (fun K hK => ?_); apply Exists.intro; refine ⟨fun done W hI h0 hd hn R hR => ?_, ?_⟩; (go_simp; exact hR _ _ (hI.step (by decide) (by decide)) rfl); (go_simp; refine hK _ ?_; clear hK K))
        (refine doneP_step (fun K hK => ?_); apply Exists.intro; refine ⟨fun done W hI h0 hd hn R hR => ?_, ?_⟩; (go_simp; exact hR _ _ (hI.step (by decide) (by decide)) rfl); (go_simp; refine hK _ ?_; clear hK K))
        (refine doneP_step (fun K hK => ?_); apply Exists.intro; refine ⟨fun done W hI h0 hd hn R hR => ?_, ?_⟩; (have hc := hI.ci; have h13 : done 13 = false := hn 13 (by decide); have h15 : done 15 = false := hn 15 (by decide); rw [h13] at hc; simp only [Bool.false_eq_true, if_false] at hc; clear h0 hd hn; go_simp; exact hR _ _ (hI.step (by decide) (by decide)) rfl); (go_simp; refine hK _ ?_; clear hK K))
        (refine doneP_step (fun K hK => ?_); apply Exists.intro; refine ⟨fun done W hI h0 hd hn R hR => ?_, ?_⟩; (go_simp; exact hR _ _ (hI.step (by decide) (by decide)) rfl); (go_simp; refine hK _ ?_; clear hK K))
        (refine doneP_step (fun K hK => ?_); apply Exists.intro; refine ⟨fun done W hI h0 hd hn R hR => ?_, ?_⟩; (have hc := hI.ci; have hfz := hI.frz Hml.out.2 i; have hN := hI.puti hijn Him.out HRj.out hR1 h0; clear hd hn hI h0; go_simp; exact hR _ _ hN rfl); (go_simp; refine hK _ ?_; clear hK K))
        (refine doneP_step (fun K hK => ?_); apply Exists.intro; refine ⟨fun done W hI h0 hd hn R hR => ?_, ?_⟩; (go_simp; exact hR _ _ (hI.step (by decide) (by decide)) rfl); (go_simp; refine hK _ ?_; clear hK K))
        (refine doneP_step (fun K hK => ?_); apply Exists.intro; refine ⟨fun done W hI h0 hd hn R hR => ?_, ?_⟩; (have hc := hI.cj; have hfz := hI.frz Hml.out.2 j; have hN := hI.putj hijn Hjm.out HRi.out hR1 h0; clear hd hn hI h0; go_simp; exact hR _ _ hN rfl); (go_simp; refine hK _ ?_; clear hK K))
        intro done W hdone hI
        have h13 : done 13 = true := hdone 13 (by decide)
        have h15 : done 15 = true := hdone 15 (by decide)
        have ho := hI.own
        rw [h13, h15] at ho
        simp only [if_true] at ho
        have HO := Lib.hid ho
        have HG := Lib.hid hI.gr
        clear hI hdone h13 h15 ho
        go_wp2
        go_roundw
        case rel => exact ⟨i + 1, (m.set i y).set j x, by go_num, by rw [Hj.out.symm]; go_num, by omega, Hnx.out, HO.out, HG.out⟩
        case measure => simp [intOf]; omega
      · go_wp2
        have e := rev_done Hrev.out (by omega)
        subst e
        exact bodyPost_end (results_none rfl _ _ _) rfl ⟨rfl, Hown.out, Hgr.out⟩
end Go.Proofs.YtkiipnbjckdlbaaGreatDoor
namespace Go.Proofs.YtkiipnbjckdlbaaGreatDoor
open Go.RowKit

section
variable {P : Program} {ops : Array Oper} {B : Nat} {w0 : World} {Q : Act → World → Prop} {o : Oper} {l : List Oper} {ss : List Spec} {a : Act} {fs : List (World → Prop)} {F : World → Prop}
def obB (P : Program) (ops : Array Oper) (B : Nat) (w0 : World) (s : Spec) (o : Oper) (a : Act) (fs : List (World → Prop)) : Prop :=
  ∀ (W : World), Cls B w0 W → depFacts (prune o) fs W → ∀ R : Value → World → Prop, (∀ (v : Value) (W' : World), Below W.heap.size W W' → s.holds v W' → R v W') → if Region.wanted o (yielded ops a.tmps) then gives P o a W R else R undef W
def walkB (P : Program) (ops : Array Oper) (B : Nat) (w0 : World) (Q : Act → World → Prop) : List Oper → List Spec → Act → List (World → Prop) → (World → Prop) → Prop
  | [], _, a, _, F => ∀ (W : World), Cls B w0 W → F W → Q a W
  | _ :: _, [], _, _, _ => False
  | o :: l, s :: ss, a, fs, F => obB P ops B w0 s o a fs ∧
      match s.exact? with
      | some x => walkB P ops B w0 Q l ss (a.put o.dst x) (fs ++ [fun _ : World => True]) F
      | none => ∀ v : Value, walkB P ops B w0 Q l ss (a.put o.dst v) (fs ++ [s.pred v]) (fun w : World => F w ∧ s.pred v w)
theorem walkB_ex {x : Value} (h : ∀ K : Act → Prop, (∀ a', walkB P ops B w0 Q l ss a' (fs ++ [fun _ : World => True]) F → K a') → obB P ops B w0 (ex x) o a fs ∧ K (a.put o.dst x)) : walkB P ops B w0 Q (o :: l) (ex x :: ss) a fs F := h _ (fun _ h => h)
theorem walkB_pr {p : Value → World → Prop} (h : ∀ K : Value → Act → Prop, (∀ v a', walkB P ops B w0 Q l ss a' (fs ++ [p v]) (fun w : World => F w ∧ p v w) → K v a') → obB P ops B w0 (pr p) o a fs ∧ ∀ v, K v (a.put o.dst v)) : walkB P ops B w0 Q (o :: l) (pr p :: ss) a fs F := h _ (fun _ _ h => h)
theorem walkB_P {bs : List (List Nat)} {n : Nat} : ∀ (l : List Oper) (ss : List Spec) (i : Nat) (a : Act) (fs : List (World → Prop)) (F : World → Prop), walkB P ops B w0 Q l ss a fs F → walkP P ops (fun _ => Cls B w0) TB bs Q n l ss i a fs F
  | [], _, _, _, _, _, h => fun _ W _ hC hF => h W hC hF
  | _ :: _, [], _, _, _, _, h => h.elim
  | o :: l, s :: ss, i, a, fs, F, h => by
    obtain ⟨h1, h2⟩ := h
    refine ⟨fun done W hI _ _ _ hf R hR => h1 W hI hf R fun v W' hb hs => hR v W' (hI.step hb) hb hs, ?_⟩
    revert h2
    show (match s.exact? with | some x => _ | none => _) → (match s.exact? with | some x => _ | none => _)
    cases s.exact? with
    | some x => exact fun h2 => walkB_P l ss (i + 1) _ _ _ h2
    | none => exact fun h2 v => walkB_P l ss (i + 1) _ _ _ (h2 v)
def stableP (p : Value → World → Prop) : Prop := ∀ v w w', Below w.heap.size w w' → p v w → p v w'
def stables : List Spec → Prop
  | [] => True
  | s :: r => ((∃ x, s = ex x) ∨ ∃ p, s = pr p ∧ stableP p) ∧ stables r
theorem stables_get : ∀ (ss : List Spec), stables ss → ∀ s ∈ ss, stableB s
  | [], _, s, h => by cases h
  | s0 :: r, h, s, hm => by
    rcases List.mem_cons.1 hm with rfl | hm
    · rcases h.1 with ⟨x, rfl⟩ | ⟨p, rfl, hp⟩
      · exact stable_ex x
      · exact hp
    · exact stables_get r h.2 s hm
/-- THE LAW. -/
theorem wp_region_B {Q : Exit → Act → World → Prop} {id : Nat} {w : World} (ss : List Spec) (B : Nat) (hBw : B ≤ w.heap.size) (hm : P.follows .mixedOrders = true) (hB : monoB2 (l.map prune) a.tmps.size = true)
    (hst : stables ss) (h : walkB P l.toArray B w (Q .normal) l ss a [] (fun _ => True)) : (Code.region id l.toArray true).wp P Q a w :=
  wp_region_done3 ss (fun _ => Cls B w) TB hm hB (fun _ _ s _ hk v _ w1 w2 _ hT hf => stables_get ss hst s (List.mem_of_getElem? hk) v w1 w2 hT hf) ⟨hBw, (Below.refl _ _).drew⟩ _ rfl (walkB_P l ss 0 a [] _ h)
end
end Go.Proofs.YtkiipnbjckdlbaaGreatDoor
namespace Go.Proofs.YtkiipnbjckdlbaaGreatDoor
open Go.RowKit

theorem infocRow : (Tryz.prog.info? 31).map (fun i => (i.zero, i.size, i.bytes)) = some (some (.slice none 0 0), 1, 24) := by kernel_rfl

set_option maxHeartbeats 1000000 in
theorem growChain_nil {α : Type} (R : α → List Value → Prop) (n : Nat) (w : World) (hn : n * 24 ≤ 140737488355328) : Calls Tryz.prog 48 #[.slice none 0 0, .int .i64 n] w fun e w' => ∃ v, e = .returned v ∧ OwnSl w' w.heap.size 31 1 R v ([] : List α) ∧ Below w.heap.size w w' := by
  by_cases h0 : n = 0
  · subst h0
    go_enter Tryz.func48, Tryz.ntmps48
    go_wp2
    go_ret
    exact ⟨_, rfl, OwnSl.nil, Below.refl _ _⟩
  · obtain ⟨i0, hi, hz0, hz1, hz2⟩ := info_parts infocRow
    have hrun := fun (W : World) (ty : TypeId) => Lib.run_append_nil_zeros (P := Tryz.prog) W 22 3 ty 31 i0 (.slice none 0 0) .i64 .i64 Tryz.underlying22 Tryz.underlying3 hi hz0 n (by omega) (by rw [hz1]; omega) (by omega) (by rw [hz2]; omega)
    have hgc : ∀ W : World, grownCap W n 0 31 ≤ maxLen := fun W => grownCap_le_maxLen W n 0 31 (by unfold maxLen; omega)
    have h1 : 0 < (n : Int) := by omega
    have h2 : (n : Int) ≤ 9223372036854775807 := by omega
    have Hrun := Lib.hid hrun
    have Hz := Lib.hid hz1
    clear hrun hi hz0 hz1 hz2 h0 hn
    go_enter Tryz.func48, Tryz.ntmps48
    go_wp2_with (at_builtin; refine Lib.wpList_append_run _ rfl _ _ _ _ rfl _ _ rfl rfl _ _ (Hrun.out _ _) ?_)
    go_ret
    refine ⟨_, rfl, ⟨[], RowsOf.nil, by simp, .inr ⟨w.heap.size, grownCap w n 0 31, _, rfl, Nat.le_refl _, blk_at rfl, by simp, hgc w, ?_, by simp⟩⟩, (bel_alloc (Below.refl _ _) _).drew⟩
    have hge := grownCap_ge w n 0 31
    simp [size_zeroCells]
    omega

/-- a slice of slices. -/
def rowsRChain {α : Type} (R : α → List Value → Prop) (w : World) (D : Nat → Prop) (l : List α) (cs : List Value) : Prop := ∃ u, cs = [u] ∧ Sl w D 1 R u l
set_option maxRecDepth 100000 in
set_option maxHeartbeats 2000000 in
theorem concatChain_any {α : Type} (R : α → List Value → Prop) (h1R : ∀ (y : α) (cs : List Value), R y cs → ∀ c ∈ cs, c.oneCell' = true) (v : Value) (ls : List (List α)) (D : Nat → Prop) (w : World) (h : Sl w D 1 (rowsRChain R w D) v ls) (hn : lenTo ls ls.length * 24 ≤ 140737488355328) :
    Calls Tryz.prog 16 #[v] w fun e w' => ∃ v', e = .returned v' ∧ OwnSl w' w.heap.size 31 1 R v' ls.flatten ∧ Below w.heap.size w w' := by
  obtain ⟨a, c, rfl, hlc, hcm, hat⟩ := Sl.form h
  obtain ⟨i0, hi, hz0, hz1, hz2⟩ := info_parts infocRow
  have H := Lib.hid h
  clear h
  have hrow : ∀ k (hk : k < ls.length) b o, a = some ⟨b, o, none⟩ → ∃ (u : Value) (cu : Option Addr × Nat), u = Value.slice cu.1 ls[k].length cu.2 ∧ Sl w D 1 R u ls[k] ∧ ∀ wr, Below w.heap.size w wr → wr.cell? ⟨b, o + k, none⟩ = some u := fun k hk b o e => by
    subst e
    obtain ⟨cs, hcs, ⟨u, hu, hs⟩, hcell⟩ := Sl.get H.out hk
    obtain ⟨a', c', hv, _⟩ := Sl.form hs
    refine ⟨u, (a', c'), hv, hs, fun wr hb => ?_⟩
    subst hu
    have hc := hcell 0 u rfl
    rw [Nat.mul_one] at hc
    exact (hb.cell (p := ⟨b, o + k, none⟩) (World.block_lt_of_cell? _ _ hc)).trans hc
  have Hrow := Lib.hid hrow
  have Hn := Lib.hid hn
  have hn' : lenTo ls ls.length ≤ 140737488355328 := by omega
  clear hrow hn
  go_enter Tryz.func16, Tryz.ntmps16
  go_wp2_with fail
  go_loop [3, 11] (fun s i => ∃ k : Nat, k ≤ ls.length ∧ i = .int .i64 k ∧ s = .int .i64 (lenTo ls k)) (fun _ i => ls.length - (intOf i).toNat)
  case atStart => exact ⟨0, by omega, rfl, rfl⟩
  case round =>
    obtain ⟨k, hk, rfl, rfl⟩ := hrel
    by_cases hlt : k < ls.length
    · obtain ⟨b, o, rfl, hDb, hb⟩ := hat (by omega)
      obtain ⟨u, ⟨a', c'⟩, rfl, hs, hc⟩ := Hrow.out k hlt b o rfl
      have hcw := hc w (Below.refl _ _)
      have hle := lenTo_le ls (k + 1) (by omega)
      have Hs := Lib.hid (lenTo_succ ls k hlt)
      have hle' : lenTo ls k + ls[k].length ≤ 140737488355328 := by have := Hs.out; omega
      clear hs hc
      go_wp2
      go_round
      case rel => exact ⟨k + 1, by omega, by go_num, by rw [Hs.out]; go_num⟩
      case measure => simp [intOf]; omega
    · obtain rfl : k = ls.length := by omega
      go_wp2_with fail
      refine (growChain_nil R (lenTo ls ls.length) _ Hn.out).mono ?_
      rintro e w1 ⟨vg, rfl, hown, hb1⟩
      go_wp2_with fail
      go_loopw [6, 27] (fun s i wr => ∃ (k : Nat) (vs : Value), k ≤ ls.length ∧ i = .int .i64 k ∧ vs = s ∧ OwnSl wr w.heap.size 31 1 R vs (ls.take k).flatten ∧ Below w.heap.size w wr) (fun _ i _ => ls.length - (intOf i).toNat)
      case atStart => exact ⟨0, vg, by omega, rfl, rfl, by simpa using hown, hb1⟩
      case round =>
        obtain ⟨k, vs, hk, rfl, rfl, hown, hbw⟩ := hrel
        have Hown := Lib.hid hown
        have hsz := hbw.size
        clear hown
        by_cases hlt : k < ls.length
        · obtain ⟨b, o, rfl, hDb, hb⟩ := hat (by omega)
          obtain ⟨u, ⟨a', c'⟩, rfl, hs, hc⟩ := Hrow.out k hlt b o rfl
          have hcw := hc wr hbw
          have hle := lenTo_le ls (k + 1) (by omega)
          have Hl := Lib.hid (lenTo_succ ls k hlt)
          have hs' : Sl wr D 1 R (.slice a' ls[k].length c') ls[k] := Sl.mono hs (fun _ h _ => h) (fun b _ hlt => hbw.block b hlt) hbw.size (fun _ _ _ h => h)
          have Hs' := Lib.hid hs'
          have Hs := Lib.hid (flat_take_succ ls k hlt)
          clear hs hc hs'
          go_wp2_with (at_builtin; refine wpList_app rfl _ _ 22 rfl w.heap.size 31 i0 _ 1 24 Tryz.underlying22 hi hz0 hz1 hz2 rfl (by decide) _ _ rfl Hown.out _ _ rfl Hs'.out (fun y _ cs h => h1R y cs h) (by have := Hl.out; unfold lenTo at *; unfold maxLen; omega) (by have := Hn.out; have := Hl.out; unfold lenTo at *; omega) hsz ?_; intro v' w2 hown' hg)
          go_roundw
          case rel => exact ⟨k + 1, v', by omega, by go_num, rfl, by rw [← flat_take_succ ls k hlt]; exact hown', Hown.out.grown hbw hg hsz (Nat.le_refl _)⟩
          case measure => simp [intOf]; omega
        · obtain rfl : k = ls.length := by omega
          have Hf : Hid (OwnSl wr w.heap.size 31 1 R vs ls.flatten) := by have := Hown.out; rwa [List.take_length] at this
          go_wp2
          go_ret
          exact ⟨_, rfl, Hf.out, hbw⟩
end Go.Proofs.YtkiipnbjckdlbaaGreatDoor
