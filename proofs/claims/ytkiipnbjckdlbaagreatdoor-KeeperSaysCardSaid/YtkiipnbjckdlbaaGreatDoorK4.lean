/- Texts laid one behind the other: ChainCopy, AppR, ConcatRule, CloneRule, PolRd, RulesOf, Gather, MWhole, ConcatCond, Policy, PolCheck, Pair. No condition beyond theirs. -/
import Derived.Test.YtkiipnbjckdlbaaGreatDoorK3
import Derived.Test.YtkiipnbjckdlbaaGreatDoorK1
import Derived.Test.YtkiipnbjckdlbaaGreatDoorProg
import Derived.KernelRfl
import Derived.Deep.LoopGhost
import Derived.Test.YtkiipnbjckdlbaaGreatDoorK2
import Derived.Laws.ResultCell
namespace Go.Proofs.YtkiipnbjckdlbaaGreatDoor
open Go.RowKit

theorem insR_one (y : TIns) (cs : List Value) (h : insR y cs) : ∀ c ∈ cs, c.oneCell' = true := by
  unfold insR at h; subst h; simp [Value.oneCell']
theorem chainR_one {w : World} {D : Nat → Prop} (y : List TIns) (cs : List Value) (h : chainR w D y cs) : ∀ c ∈ cs, c.oneCell' = true := by
  obtain ⟨u, rfl, h⟩ := h
  obtain ⟨a, c, rfl, _⟩ := Sl.form h
  simp [Value.oneCell']
/-- a filter, and whether it was copied: then it reads from blocks from B on; none reads from the row's own block g. -/
def copyR (w : World) (g B : Nat) (y : List TIns × Bool) (cs : List Value) : Prop := ∃ u, cs = [u] ∧ RdCode w (fun b => b ≠ g ∧ (y.2 = true → B ≤ b)) u y.1
theorem OwnSl.unmark {w : World} {base B g : Nat} {e : TypeId} {v : Value} {l : List (List TIns)} (h : OwnSl w base e 1 (copyR w g B) v (l.map fun f => (f, true))) : OwnSl w base e 1 (chainR w (fun b => B ≤ b ∧ b ≠ g)) v l := by
  obtain ⟨rows, hr, ho⟩ := h
  refine ⟨rows, ⟨by simpa using hr.len, hr.size, fun i x r hx hk => ?_⟩, by simpa using ho⟩
  obtain ⟨u, h1, h2⟩ := hr.rel i (x, true) r (by rw [List.getElem?_map, hx]; rfl) hk
  exact ⟨u, h1, h2.keep (fun _ hb _ => ⟨hb.2 rfl, hb.1⟩) (fun _ _ _ => rfl) (Nat.le_refl _)⟩
theorem OwnSl.mark {w : World} {base B g : Nat} {e : TypeId} {D : Nat → Prop} {v : Value} {l : List (List TIns)} (h : OwnSl w base e 1 (chainR w D) v l) (hD : ∀ b, D b → b ≠ g) : OwnSl w base e 1 (copyR w g B) v (l.map fun f => (f, false)) := by
  obtain ⟨rows, hr, ho⟩ := h
  refine ⟨rows, ⟨by simpa using hr.len, hr.size, fun i x r hx hk => ?_⟩, by simpa using ho⟩
  rw [List.getElem?_map] at hx
  cases hy : l[i]? with
  | none => rw [hy] at hx; cases hx
  | some y =>
    rw [hy] at hx
    injection hx with hx
    subst hx
    obtain ⟨u, h1, h2⟩ := hr.rel i y r hy hk
    exact ⟨u, h1, h2.keep (fun b hb _ => ⟨hD b hb, fun h => by cases h⟩) (fun _ _ _ => rfl) (Nat.le_refl _)⟩
/-- the first k are copied. -/
def marked (l : List (List TIns)) (k : Nat) : List (List TIns × Bool) := (l.take k).map (fun f => (f, true)) ++ (l.drop k).map (fun f => (f, false))
theorem marked_len (l : List (List TIns)) (k : Nat) (h : k ≤ l.length) : (marked l k).length = l.length := by simp [marked]; omega
theorem marked_get {l : List (List TIns)} {k : Nat} (h : k < l.length) : (marked l k)[k]'(by rw [marked_len l k (by omega)]; exact h) = (l[k], false) := by
  unfold marked
  rw [List.getElem_append_right (by simp; omega)]
  simp
  congr 1
  omega
theorem marked_set {l : List (List TIns)} {k : Nat} (h : k < l.length) : (marked l k).set k (l[k], true) = marked l (k + 1) := by
  unfold marked
  have e : ((l.take k).map fun f => (f, true)).length = k := by simp; omega
  rw [List.set_append_right _ _ (by rw [e]; exact Nat.le_refl _), e, Nat.sub_self, List.drop_eq_getElem_cons h, List.map_cons, List.set_cons_zero, List.take_succ_eq_append_getElem h, List.map_append]
  simp
theorem marked_zero (l : List (List TIns)) : marked l 0 = l.map fun f => (f, false) := by simp [marked]
theorem marked_all (l : List (List TIns)) : marked l l.length = l.map fun f => (f, true) := by simp [marked]

set_option maxRecDepth 100000 in
set_option maxHeartbeats 8000000 in
theorem copy_any (v : Value) (l : List (List TIns)) (D : Nat → Prop) (w : World) (h : RdChain w D v l) (hn : l.length ≤ 1000000) (hc : ∀ f ∈ l, f.length ≤ 1000000) :
    Calls Tryz.prog 51 #[v] w fun e w' => ∃ v', e = .returned v' ∧ OwnSl w' w.heap.size 31 1 (chainR w' (fun b => w.heap.size ≤ b ∧ v'.ownBlock ≠ some b)) v' l ∧ Below w.heap.size w w' := by
  have H := Lib.hid h
  have Hc := Lib.hid hc
  obtain ⟨a, c, rfl, hlc, hcm, hat⟩ := Sl.form h
  clear h hc
  go_enter Tryz.func51, Tryz.ntmps51
  go_wp2_with fail
  have H0 : Hid (Sl w D 1 (chainR w (fun b => D b ∧ b < w.heap.size)) (.slice a l.length c) l) := Sl.mono H.out (fun _ h _ => h) (fun _ _ _ => rfl) (Nat.le_refl _) (fun _ _ _ ⟨u, h1, h2⟩ => ⟨u, h1, h2.keep (fun _ h hl => ⟨h, hl⟩) (fun _ _ _ => rfl) (Nat.le_refl _)⟩)
  refine (cloneChain_any (chainR w (fun b => D b ∧ b < w.heap.size)) (fun y cs h => chainR_one y cs h) _ l D w H0.out (by omega)).mono ?_
  rintro e w1 ⟨v1, rfl, ho1, hb1⟩
  have ho1' : OwnSl w1 w.heap.size 31 1 (chainR w1 (fun b => D b ∧ b < w.heap.size)) v1 l := ho1.monoR fun _ _ _ ⟨u, h1, h2⟩ => ⟨u, h1, h2.below hb1⟩
  have Ho1 := Lib.hid ho1'
  have Hb1 := Lib.hid hb1
  obtain ⟨a1, c1, rfl⟩ := ho1.slice
  clear ho1 ho1' hb1
  rcases Nat.eq_zero_or_pos l.length with h0 | hpos
  · have hl0 : l = [] := List.length_eq_zero_iff.1 h0
    subst hl0
    have hlen0 : ([] : List (List TIns)).length = 0 := rfl
    go_wp2_with fail
    go_loopw [9] (fun kv wr => kv = .int .i64 0 ∧ wr = w1) (fun _ _ => 0)
    case atStart => exact ⟨rfl, rfl⟩
    case round =>
      obtain ⟨rfl, rfl⟩ := hrel
      go_wp2
      go_ret
      exact ⟨_, rfl, Ho1.out.monoR (fun x hx => by cases hx), Hb1.out⟩
  · obtain ⟨g, rfl, hgb, hgl, cur, hcur⟩ := OwnSl.addr Ho1.out hpos
    have HM : Hid (OwnSl w1 w.heap.size 31 1 (copyR w1 g w.heap.size) (.slice (some ⟨g, 0, none⟩) l.length c1) (marked l 0)) := by
      show OwnSl _ _ _ _ _ _ _
      rw [marked_zero]
      exact Ho1.out.mark (fun b hb => by omega)
    clear hcur
    go_wp2_with fail
    go_loopw [9] (fun kv wr => ∃ k : Nat, kv = .int .i64 k ∧ k ≤ l.length ∧ OwnSl wr w.heap.size 31 1 (copyR wr g w.heap.size) (.slice (some ⟨g, 0, none⟩) l.length c1) (marked l k) ∧ Below w.heap.size w wr) (fun kv _ => l.length - (intOf kv).toNat)
    case atStart => exact ⟨0, rfl, by omega, HM.out, Hb1.out⟩
    case round =>
      obtain ⟨k, rfl, hk, hown, hb⟩ := hrel
      have Hown := Lib.hid hown
      have Hb := Lib.hid hb
      clear hown hb
      by_cases hlt : k < l.length
      · have hml := marked_len l k (by omega)
        have hg2 : g < wr.heap.size := by
          obtain ⟨b, e, _, hl, _⟩ := OwnSl.addr Hown.out (by omega)
          injection e with e; injection e with e; rw [e]; exact hl
        have hsl : Sl wr (fun _ => True) 1 (copyR wr g w.heap.size) (.slice (some ⟨g, 0, none⟩) l.length c1) (marked l k) := Hown.out.sl (fun _ _ => trivial)
        obtain ⟨cs, _, ⟨u, hu, hr⟩, hcell⟩ := Sl.get hsl (i := k) (by omega)
        rw [marked_get hlt] at hr
        have Hr : Hid (RdCode wr (fun b => b ≠ g) u l[k]) := hr.keep (fun _ h _ => h.1) (fun _ _ _ => rfl) (Nat.le_refl _)
        have Hck := Lib.hid (Hc.out l[k] (List.getElem_mem hlt))
        have Hset := Lib.hid (marked_set hlt)
        obtain ⟨f, hf⟩ : ∃ f, l[k] = f := ⟨_, rfl⟩
        rw [hf] at Hr Hck Hset
        obtain ⟨cf, cc, rfl, _⟩ := Sl.form Hr.out
        subst hu
        have hck := hcell 0 _ rfl
        simp only [Nat.mul_one, Nat.zero_add, Nat.add_zero] at hck
        have hcl := Hck.out
        clear hr hcell hf hsl
        go_wp2_with fail
        refine (cloneIns_any insR insR_one _ f (fun b => b ≠ g) wr Hr.out (by omega)).mono ?_
        rintro e w2 ⟨v2, rfl, ho2, hb2⟩
        have Hb2 := Lib.hid (bel_call Hb.out hb2)
        have hown2 : OwnSl w2 w.heap.size 31 1 (copyR w2 g w.heap.size) (.slice (some ⟨g, 0, none⟩) l.length c1) (marked l k) := (Hown.out.below hb2).monoR fun _ _ _ ⟨u, h1, h2⟩ => ⟨u, h1, h2.below hb2⟩
        obtain ⟨b', e', _, hgl2, cur2, hcur2⟩ := OwnSl.addr hown2 (by omega)
        obtain rfl : g = b' := by injection e' with e'; injection e' with e'
        have hfg := not_frozen hcur2 k
        have hcg := (OwnSl.sl hown2 (D := fun _ => True) (fun _ _ => trivial))
        obtain ⟨cs3, _, ⟨u3, hu3, _⟩, hcell3⟩ := Sl.get hcg (i := k) (by omega)
        subst hu3
        have hck2 := hcell3 0 _ rfl
        simp only [Nat.mul_one, Nat.zero_add, Nat.add_zero] at hck2
        obtain ⟨a2, c2, rfl⟩ := ho2.slice
        have Hw3 : Hid (Below w.heap.size w (w2.setCell ⟨g, k, none⟩ (.slice a2 f.length c2))) := set_below Hb2.out hgb
        have hsz2 := Hb2.out.size
        have Hown3 : Hid (OwnSl (w2.setCell ⟨g, k, none⟩ (.slice a2 f.length c2)) w.heap.size 31 1 (copyR (w2.setCell ⟨g, k, none⟩ (.slice a2 f.length c2)) g w.heap.size) (.slice (some ⟨g, 0, none⟩) l.length c1) (marked l (k + 1))) := by
          have hm : OwnSl w2 w.heap.size 31 1 (copyR (w2.setCell ⟨g, k, none⟩ (.slice a2 f.length c2)) g w.heap.size) (.slice (some ⟨g, 0, none⟩) l.length c1) (marked l k) := hown2.monoR fun _ _ _ ⟨u, h1, h2⟩ => ⟨u, h1, h2.keep (fun _ h _ => h) (fun b hb _ => set_other (by exact hb.1)) (by rw [set_size]; exact Nat.le_refl _)⟩
          have hp := OwnSl.put (i := k) (j := 0) hm (by omega) (by decide) (y := (f, true)) (u := .slice a2 f.length c2) (fun r hr => by
            obtain ⟨u, rfl, _⟩ := hr
            refine ⟨.slice a2 f.length c2, rfl, ?_⟩
            have hs : Sl w2 (fun b => wr.heap.size ≤ b) 4 insR (.slice a2 f.length c2) f := ho2.sl fun _ h => h
            exact Sl.mono hs (fun b hb _ => by have h1 : wr.heap.size ≤ b := hb; exact ⟨by omega, fun _ => by omega⟩) (fun b hb _ => set_other (by have h1 : wr.heap.size ≤ b := hb; show b ≠ g; omega)) (by rw [set_size]; exact Nat.le_refl _) (fun _ _ _ h => h))
          rw [Hset.out] at hp
          show OwnSl _ _ _ _ _ _ _
          simpa using hp
        clear ho2 hb2 hown2 hcur2 hcell3 hcg
        go_wp2
        go_roundw
        case rel => exact ⟨k + 1, by go_num, by omega, Hown3.out, Hw3.out⟩
        case measure => simp [intOf]; omega
      · obtain rfl : k = l.length := by omega
        have HR : Hid (OwnSl wr w.heap.size 31 1 (chainR wr (fun b => w.heap.size ≤ b ∧ (Value.slice (some ⟨g, 0, none⟩) l.length c1).ownBlock ≠ some b)) (.slice (some ⟨g, 0, none⟩) l.length c1) l) := by
          have := Hown.out
          rw [marked_all] at this
          exact this.unmark.monoR fun _ _ _ ⟨u, h1, h2⟩ => ⟨u, h1, h2.keep (fun b hb _ => ⟨hb.1, fun e => hb.2 (by simpa [Value.ownBlock] using e.symm)⟩) (fun _ _ _ => rfl) (Nat.le_refl _)⟩
        go_wp2
        go_ret
        exact ⟨_, rfl, HR.out, Hb.out⟩
end Go.Proofs.YtkiipnbjckdlbaaGreatDoor
namespace Go.Proofs.YtkiipnbjckdlbaaGreatDoor
open Go.RowKit

/-- The operation append, and where the new row lies. -/
theorem gives_append_at {P : Program} {w : World} {o : Oper} {a : Act} {R : Value → World → Prop} (s x : Operand) (t : TypeId)
    (ho : o.op = .call { callee := .builtin .append, args := #[s, x], argTypes := #[t, t] })
    (base : Nat) (e : TypeId) (i : TypeInfo) (z : Value) (size bytes : Nat) (ht : P.underlying t = some (.slice e)) (hi : P.info? e = some i) (hz : i.zero = some z)
    (hsize : i.size = size) (hby : i.bytes = bytes) (hzs : z.cells.size = size) (hsz : 0 < size)
    (v : Value) (n : Nat) (xs : List Value) (hs : a.eval s = v) (hown : w.ownsRow base e size v n xs)
    (ad : Addr) (m c : Nat) (news : List Value) (hx : a.eval x = .slice (some ad) m c) (hl : news.length = m * size) (hnews : ∀ j u, news[j]? = some u → w.cell? (ad.add j) = some u) (h1 : ∀ u ∈ news, u.oneCell' = true)
    (hm : 0 < m) (h63 : n + m ≤ maxLen) (hbytes : (n + m) * bytes ≤ 140737488355328) (hbase : base ≤ w.heap.size)
    (h : ∀ v' w', w'.ownsRow base e size v' (n + m) (xs ++ news) → w.grownBy w' v.ownBlock → (v'.ownBlock = v.ownBlock ∨ v'.ownBlock = some w.heap.size) → R v' w') : gives P o a w R := by
  obtain ⟨g, cap, w', hr, h2, h3, h4, _⟩ := run_append_lies (P := P) w t o.type base e i z size bytes ht hi hz hsize hby hzs hsz v n xs hown ad m c news hl hnews h1 hm h63 hbytes hbase _ rfl
  unfold gives execOp
  simp only [ho, resolve, invoke, builtin, Sem.run_bind, Sem.run_pure, Result.andThen_ok, List.map_toArray, List.map_cons, List.map_nil, hs, hx, hr]
  refine h _ _ h2 h3 ?_
  rcases h4 with h4 | h4
  · left; rw [h4]; rfl
  · right; rw [h4]; rfl

/-- The worlds of such a region: w0 is the world at its head; β the box; cv the slice, with n elements; ia, is: the numbers of the append and of the store. -/
structure ApInv (w0 : World) (β : Nat) (T : TypeId) (box : Array Value) (base : Nat) (E : TypeId) (sz : Nat) (cv : Value) (n : Nat) (cells : List Value) (ia is : Nat) (done : Nat → Bool) (W : World) : Prop where
  os : W.os = w0.os
  tape : W.tape = w0.tape
  output : W.output = w0.output
  size : w0.heap.size ≤ W.heap.size
  blk : ∀ b, b < w0.heap.size → b ≠ β → some b ≠ cv.ownBlock → W.heap[b]? = w0.heap[b]?
  before : done is = false → W.heap[β]? = some (.cells box T)
  old : done ia = false → ∀ b, b < w0.heap.size → b ≠ β → W.heap[b]? = w0.heap[b]?
  own : done ia = false → W.ownsRow base E sz cv n cells
def ApT (β : Nat) (cv : Value) (ia is : Nat) (i : Nat) (_ : Nat → Value) (w w' : World) : Prop := w.heap.size ≤ w'.heap.size ∧ ∀ b, b < w.heap.size → (i = is → b ≠ β) → (i = ia → some b ≠ cv.ownBlock) → w'.heap[b]? = w.heap[b]?
def apF (w0 : World) (β : Nat) (T : TypeId) (box : Array Value) (off base : Nat) (E : TypeId) (sz : Nat) (cv : Value) (n : Nat) (cells : List Value) (m : Nat) (news : (Nat → Value) → List Value) (ia is : Nat) (G : Nat → (Nat → Value) → World → Prop) (k : Nat) (_ : Nat → Bool) (vf : Nat → Value) (W : World) : Prop :=
  if k = ia then W.ownsRow base E sz (vf ia) (n + m) (cells ++ news vf) ∧ ((vf ia).ownBlock = cv.ownBlock ∨ ∀ g, (vf ia).ownBlock = some g → w0.heap.size ≤ g)
  else if k = is then W.heap[β]? = some (.cells (box.setIfInBounds off (vf ia)) T) else G k vf W
section
variable {w0 W W' : World} {β : Nat} {T : TypeId} {box : Array Value} {off base : Nat} {E : TypeId} {sz n m ia is i : Nat} {cv : Value} {cells : List Value} {done : Nat → Bool} {vf : Nat → Value}
theorem ownsRow_same {v : Value} (h : W.ownsRow base E sz v n cells) (hb : ∀ b, base ≤ b → b < W.heap.size → v.ownBlock = some b → W'.heap[b]? = W.heap[b]?) : W'.ownsRow base E sz v n cells := ownsRow_keep1 h hb
theorem ApInv.step (h : ApInv w0 β T box base E sz cv n cells ia is done W) (hb : Below W.heap.size W W') (h1 : i ≠ ia) (h2 : i ≠ is) (hβ : β < w0.heap.size) : ApInv w0 β T box base E sz cv n cells ia is (updDone done i) W' where
  os := hb.os.trans h.os
  tape := hb.tape.trans h.tape
  output := hb.output.trans h.output
  size := Nat.le_trans h.size hb.size
  blk := fun b hlt hn ho => (hb.block b (Nat.lt_of_lt_of_le hlt h.size)).trans (h.blk b hlt hn ho)
  before := fun hd => by
    have : done is = false := by simpa [updDone, Ne.symm h2] using hd
    rw [hb.block β (Nat.lt_of_lt_of_le hβ h.size)]; exact h.before this
  old := fun hd b hlt hn => by
    have : done ia = false := by simpa [updDone, Ne.symm h1] using hd
    exact (hb.block b (Nat.lt_of_lt_of_le hlt h.size)).trans (h.old this b hlt hn)
  own := fun hd => by
    have : done ia = false := by simpa [updDone, Ne.symm h1] using hd
    exact ownsRow_keep1 (h.own this) fun b _ hlt _ => hb.block b hlt
theorem ApT.of_below (hb : Below W.heap.size W W') : ApT β cv ia is i vf W W' := ⟨hb.size, fun b hlt _ _ => hb.block b hlt⟩
theorem ApInv.appended (h : ApInv w0 β T box base E sz cv n cells ia is done W) (hd : done is = false) (hcv : ∀ g, cv.ownBlock = some g → g ≠ β) (hg : W.grownBy W' cv.ownBlock) (hβ : β < w0.heap.size) : ApInv w0 β T box base E sz cv n cells ia is (updDone done ia) W' where
  os := hg.os.trans h.os
  tape := hg.tape.trans h.tape
  output := hg.output.trans h.output
  size := Nat.le_trans h.size hg.size
  blk := fun b hlt hn ho => (hg.block b (Nat.lt_of_lt_of_le hlt h.size) ho).trans (h.blk b hlt hn ho)
  before := fun _ => by rw [hg.block β (Nat.lt_of_lt_of_le hβ h.size) (fun e => hcv β e.symm rfl)]; exact h.before hd
  old := fun hd => by simp [updDone] at hd
  own := fun hd => by simp [updDone] at hd
theorem ApT.of_grown (hg : W.grownBy W' cv.ownBlock) : ApT β cv ia is ia vf W W' := ⟨hg.size, fun b hlt _ h => hg.block b hlt (h rfl)⟩
theorem ApInv.stored {v : Value} (h : ApInv w0 β T box base E sz cv n cells ia is done W) (hda : done ia = true) (hne : is ≠ ia) :
    ApInv w0 β T box base E sz cv n cells ia is (updDone done is) (W.setCell ⟨β, off, none⟩ v) where
  os := h.os
  tape := h.tape
  output := h.output
  size := by rw [set_size]; exact h.size
  blk := fun b hlt hn ho => by rw [set_other (by exact hn)]; exact h.blk b hlt hn ho
  before := fun hd => by simp [updDone] at hd
  old := fun hd => by simp [updDone, Ne.symm hne, hda] at hd
  own := fun hd => by simp [updDone, Ne.symm hne, hda] at hd
theorem ApT.of_store {v : Value} : ApT β cv ia is is vf W (W.setCell ⟨β, off, none⟩ v) := ⟨by rw [set_size]; exact Nat.le_refl _, fun b _ hn _ => set_other (by exact hn rfl)⟩
end
/-- THE LAW. -/
theorem wp_region_apr {P : Program} {l : List Oper} {Q : Exit → Act → World → Prop} {a : Act} {id : Nat} {w0 : World} (β : Nat) (T : TypeId) (box : Array Value) (off base : Nat) (E : TypeId) (sz : Nat) (cv : Value) (n : Nat) (cells : List Value) (m : Nat) (news : (Nat → Value) → List Value) (ia is : Nat) (G : Nat → (Nat → Value) → World → Prop)
    (hm : P.follows .mixedOrders = true) (hB : monoB2 (l.map prune) a.tmps.size = true) (bs : List (List Nat)) (hbs : befores (l.map prune) [] = bs)
    (hbox : w0.heap[β]? = some (.cells box T)) (hown : w0.ownsRow base E sz cv n cells) (hβ : β < base) (hcv : ∀ g, cv.ownBlock = some g → g ≠ β) (his : ia ≠ is) (hia : ia ∈ bs.getD is [])
    (hG : ∀ (k : Nat) (vf : Nat → Value) (w w' : World), (∀ b, w0.heap.size ≤ b → b < w.heap.size → w'.heap[b]? = w.heap[b]?) → w.heap.size ≤ w'.heap.size → G k vf w → G k vf w')
    (hGp : ∀ (k : Nat) (f g : Nat → Value) (w : World), (∀ m ∈ bs.getD k [], f m = g m) → f k = g k → G k f w → G k g w) (hN : ∀ f g : Nat → Value, (∀ m ∈ bs.getD ia [], f m = g m) → news f = news g)
    (h : relWalk P l.toArray (ApInv w0 β T box base E sz cv n cells ia is) (ApT β cv ia is) (apF w0 β T box off base E sz cv n cells m news ia is G) bs (Q .normal) l.length l 0 (fun _ => a)) : (Code.region id l.toArray true).wp P Q a w0 := by
  have hβ' : β < w0.heap.size := (Array.getElem?_eq_some_iff.1 hbox).1
  have hlt : ∀ g, cv.ownBlock = some g → g < w0.heap.size := fun g hg => (hown.lt g hg).2
  refine wp_region_rel _ _ _ hm hB bs hbs (fun i done vf w1 w2 _ hd hbf hf hT k hk => ?_) (fun k done f g w1 hfg hk hF => ?_) ⟨rfl, rfl, rfl, Nat.le_refl _, fun _ _ _ _ => rfl, fun _ => hbox, fun _ _ _ _ => rfl, fun _ => ownsRow_keep1 hown fun _ _ _ _ => rfl⟩ h
  · have hki : k ≠ i := fun e => by rw [e, hd] at hk; cases hk
    have hF := hf k hk
    unfold apF at hF ⊢
    split
    · rename_i e
      rw [if_pos e] at hF
      refine ⟨ownsRow_keep1 hF.1 fun b hb hl ho => hT.2 b hl (fun _ => by omega) (fun e' => absurd (e.trans e'.symm) hki), hF.2⟩
    · rename_i e
      rw [if_neg e] at hF
      split
      · rename_i e2
        rw [if_pos e2] at hF
        rw [hT.2 β (Array.getElem?_eq_some_iff.1 hF).1 (fun e' => absurd (e2.trans e'.symm) hki) (fun _ e' => hcv β e'.symm rfl)]
        exact hF
      · rename_i e2
        rw [if_neg e2] at hF
        exact hG k vf _ _ (fun b hb hl => hT.2 b hl (fun _ => by omega) (fun _ e' => by have := hlt b e'.symm; omega)) hT.1 hF
  · unfold apF at hF ⊢
    split
    · rename_i e
      subst e
      rw [if_pos rfl, hk, hN f g hfg] at hF
      exact hF
    · rename_i e
      rw [if_neg e] at hF
      split
      · rename_i e2
        subst e2
        rw [if_pos rfl, hfg ia hia] at hF
        exact hF
      · rename_i e2
        rw [if_neg e2] at hF
        exact hGp k f g w1 hfg hk hF
/-- what buildSlice lays: one row. -/
def NewRow (B : Nat) (E : TypeId) (m : Nat) (cs : Array Value) (v : Value) (W : World) : Prop := ∃ b, v = .slice (some ⟨b, 0, none⟩) m m ∧ B ≤ b ∧ W.heap[b]? = some (.cells cs E)
theorem NewRow.keep {B : Nat} {E : TypeId} {m : Nat} {cs : Array Value} {v : Value} {w w' : World} (h : NewRow B E m cs v w) (hb : ∀ b, B ≤ b → b < w.heap.size → w'.heap[b]? = w.heap[b]?) : NewRow B E m cs v w' := by
  obtain ⟨b, hv, hB, hc⟩ := h
  refine ⟨b, hv, hB, ?_⟩
  rw [hb b hB (Array.getElem?_eq_some_iff.1 hc).1]; exact hc
theorem OwnSl.keepFrom {α : Type} {w w' : World} {base : Nat} {e : TypeId} {sz : Nat} {R : α → List Value → Prop} {v : Value} {xs : List α} (h : OwnSl w base e sz R v xs) (hb : ∀ b, base ≤ b → b < w.heap.size → w'.heap[b]? = w.heap[b]?) : OwnSl w' base e sz R v xs := by
  obtain ⟨rows, hr, ho⟩ := h
  exact ⟨rows, hr, ownsRow_keep1 ho fun b hbb hl _ => hb b hbb hl⟩
/-- A region that makes an own slice (io), what is appended (ib), and appends it (ia). -/
def ap1F (io ib ia : Nat) (O N A : Value → World → Prop) (k : Nat) (done : Nat → Bool) (vf : Nat → Value) (W : World) : Prop :=
  if k = ia then A (vf ia) W else if k = io then (done ia = false → O (vf io) W) else if k = ib then (done ia = false → N (vf ib) W) else True
def ap1T (ia : Nat) (i : Nat) (_ : Nat → Value) (w w' : World) : Prop := i ≠ ia → Below w.heap.size w w'
theorem wp_region_ap1 {P : Program} {l : List Oper} {Q : Exit → Act → World → Prop} {a : Act} {id : Nat} {w0 : World} (B : Nat) (hBw : B ≤ w0.heap.size) (io ib ia : Nat) (O N A : Value → World → Prop)
    (hm : P.follows .mixedOrders = true) (hB : monoB2 (l.map prune) a.tmps.size = true) (bs : List (List Nat)) (hbs : befores (l.map prune) [] = bs)
    (hO : ∀ v w w', Below w.heap.size w w' → O v w → O v w') (hN : ∀ v w w', Below w.heap.size w w' → N v w → N v w') (hA : ∀ v w w', Below w.heap.size w w' → A v w → A v w')
    (h : relWalk P l.toArray (initI B w0) (ap1T ia) (ap1F io ib ia O N A) bs (Q .normal) l.length l 0 (fun _ => a)) : (Code.region id l.toArray true).wp P Q a w0 := by
  refine wp_region_rel _ _ _ hm hB bs hbs (fun i done vf w1 w2 _ hd hbf hf hT k hk => ?_) (fun k done f g w1 hfg hk hF => ?_) ⟨hBw, (Below.refl _ _).drew⟩ h
  · have hki : k ≠ i := fun e => by rw [e, hd] at hk; cases hk
    have hF := hf k hk
    unfold ap1F at hF ⊢
    split
    · rename_i e
      rw [if_pos e] at hF
      exact hA _ _ _ (hT (fun e' => hki (e.trans e'.symm))) hF
    · rename_i e
      rw [if_neg e] at hF
      split
      · rename_i e2
        rw [if_pos e2] at hF
        intro hx
        unfold updDone at hx
        split at hx
        · cases hx
        · rename_i hia
          exact hO _ _ _ (hT (fun e' => hia e'.symm)) (hF hx)
      · rename_i e2
        rw [if_neg e2] at hF
        split
        · rename_i e3
          rw [if_pos e3] at hF
          intro hx
          unfold updDone at hx
          split at hx
          · cases hx
          · rename_i hia
            exact hN _ _ _ (hT (fun e' => hia e'.symm)) (hF hx)
        · trivial
  · unfold ap1F at hF ⊢
    split
    · rename_i e
      subst e
      rw [if_pos rfl, hk] at hF
      exact hF
    · rename_i e
      rw [if_neg e] at hF
      split
      · rename_i e2
        subst e2
        rw [if_pos rfl, hk] at hF
        exact hF
      · rename_i e2
        rw [if_neg e2] at hF
        split
        · rename_i e3
          subst e3
          rw [if_pos rfl, hk] at hF
          exact hF
        · trivial
theorem NewRow.below {B : Nat} {E : TypeId} {m : Nat} {cs : Array Value} {v : Value} {w w' : World} (h : NewRow B E m cs v w) (hb : Below w.heap.size w w') : NewRow B E m cs v w' := h.keep fun b _ hl => hb.block b hl
end Go.Proofs.YtkiipnbjckdlbaaGreatDoor
namespace Go.Proofs.YtkiipnbjckdlbaaGreatDoor
open Go.RowKit

theorem infocRule : (Tryz.prog.info? 80).map (fun i => (i.zero, i.size, i.bytes)) = some (some (.agg #[.slice none 0 0, .int .i64 0]), 2, 32) := by kernel_rfl

end Go.Proofs.YtkiipnbjckdlbaaGreatDoor
namespace Go.Proofs.YtkiipnbjckdlbaaGreatDoor
open Go.RowKit

set_option maxRecDepth 100000 in
set_option maxHeartbeats 1000000 in
theorem cloneRule_any {α : Type} (R : α → List Value → Prop) (h1R : ∀ (y : α) (cs : List Value), R y cs → ∀ c ∈ cs, c.oneCell' = true) (v : Value) (xs : List α) (D : Nat → Prop) (w : World) (h : Sl w D 2 R v xs) (hn : xs.length * 32 ≤ 140737488355328) :
    Calls Tryz.prog 98 #[v] w fun e w' => ∃ v', e = .returned v' ∧ OwnSl w' w.heap.size 80 2 R v' xs ∧ Below w.heap.size w w' := by
  obtain ⟨i0, hi, hz0, hz1, hz2⟩ := info_parts infocRule
  have H := Lib.hid h
  obtain ⟨a, c, rfl, hlc, hcm, hnil, hat⟩ := h
  have Hi := Lib.hid hi
  clear hi
  cases a with
  | none =>
    have hc := hnil rfl
    subst hc
    have hx : xs = [] := List.length_eq_zero_iff.1 (by omega)
    subst hx
    have hq := fun (a : Option Addr) (n c : Nat) (W : World) => Lib.run_eql_slice_nil (P := Tryz.prog) W 35 80 a n c 0 0 Tryz.underlying35
    go_enter Tryz.func98, Tryz.ntmps98
    go_wp2
    go_ret
    exact ⟨_, rfl, OwnSl.nil, Below.refl _ _⟩
  | some ad =>
    have H2 := Lib.hid (H.out.belowR (bel_alloc (Below.refl _ w) (.cells #[] 80)) (fun _ _ _ h => h))
    have Hown : Hid (OwnSl (w.alloc (.cells #[] 80)) w.heap.size 80 2 R (.slice (some ⟨w.heap.size, 0, none⟩) 0 0) ([] : List α)) :=
      ⟨[], RowsOf.nil, by simp, .inr ⟨w.heap.size, 0, #[], rfl, Nat.le_refl _, heap_last _ _, by simp, by simp, by simp, by simp⟩⟩
    clear hat hnil
    have hq := fun (a : Option Addr) (n c : Nat) (W : World) => Lib.run_eql_slice_nil (P := Tryz.prog) W 35 80 a n c 0 0 Tryz.underlying35
    go_enter Tryz.func98, Tryz.ntmps98
    go_wp2_with (at_builtin; refine wpList_app rfl _ _ 35 rfl w.heap.size 80 i0 _ 2 32 Tryz.underlying35 Hi.out hz0 hz1 hz2 rfl (by decide) _ _ rfl Hown.out _ _ rfl H2.out (fun y _ cs h => h1R y cs h) (by show 0 + _ ≤ maxLen; unfold maxLen; omega) (by show (0 + _) * 32 ≤ _; omega) (by simp) ?_; intro v' w3 hown' hg)
    go_ret
    exact ⟨_, rfl, hown', Hown.out.grown (bel_alloc (Below.refl _ _) _) hg (by simp) (Nat.le_refl _)⟩
end Go.Proofs.YtkiipnbjckdlbaaGreatDoor
namespace Go.Proofs.YtkiipnbjckdlbaaGreatDoor
open Go.RowKit

def condR (x : TCond) (cs : List Value) : Prop := cs = [.int .i64 x.f, .int .i64 x.op, .int .i64 x.v]
def RdConds (w : World) (D : Nat → Prop) (v : Value) (l : List TCond) : Prop := Sl w D 3 condR v l
theorem RdConds.keep {w w' : World} {D D' : Nat → Prop} {v : Value} {l : List TCond} (h : RdConds w D v l) (hD : ∀ b, D b → b < w.heap.size → D' b)
    (hw : ∀ b, D b → b < w.heap.size → w'.heap[b]? = w.heap[b]?) (hs : w.heap.size ≤ w'.heap.size) : RdConds w' D' v l := Sl.mono h hD hw hs (fun _ _ _ h => h)
theorem RdConds.below {w w' : World} {D : Nat → Prop} {v : Value} {l : List TCond} (h : RdConds w D v l) (hb : Below w.heap.size w w') : RdConds w' D v l :=
  h.keep (fun _ h _ => h) (fun b _ hlt => hb.block b hlt) hb.size
theorem RdConds.cells {w : World} {D : Nat → Prop} {b o n c : Nat} {s : Option Nat} {l : List TCond} (h : RdConds w D (.slice (some ⟨b, o, s⟩) n c) l) {i : Nat} (hi : i < l.length) :
    w.cell? ⟨b, o + i * 3, none⟩ = some (.int .i64 l[i].f) ∧ w.cell? ⟨b, o + i * 3 + 1, none⟩ = some (.int .i64 l[i].op) ∧ w.cell? ⟨b, o + i * 3 + 2, none⟩ = some (.int .i64 l[i].v) := by
  obtain ⟨cs, hcs, hr, hcell⟩ := Sl.get h hi
  unfold condR at hr
  subst hr
  exact ⟨hcell 0 _ rfl, hcell 1 _ rfl, hcell 2 _ rfl⟩

def ruleR (w : World) (D : Nat → Prop) (r : TRule) (cs : List Value) : Prop := ∃ v, cs = [v, .int .i64 r.verdict] ∧ RdConds w D v r.conds
def RdRules (w : World) (D : Nat → Prop) (v : Value) (l : List TRule) : Prop := Sl w D 2 (ruleR w D) v l
theorem RdRules.keep {w w' : World} {D D' : Nat → Prop} {v : Value} {l : List TRule} (h : RdRules w D v l) (hD : ∀ b, D b → b < w.heap.size → D' b)
    (hw : ∀ b, D b → b < w.heap.size → w'.heap[b]? = w.heap[b]?) (hs : w.heap.size ≤ w'.heap.size) : RdRules w' D' v l :=
  Sl.mono h hD hw hs (fun _ _ _ ⟨u, h1, h2⟩ => ⟨u, h1, h2.keep hD hw hs⟩)
theorem RdRules.below {w w' : World} {D : Nat → Prop} {v : Value} {l : List TRule} (h : RdRules w D v l) (hb : Below w.heap.size w w') : RdRules w' D v l :=
  h.keep (fun _ h _ => h) (fun b _ hlt => hb.block b hlt) hb.size
theorem RdRules.cells {w : World} {D : Nat → Prop} {b o n c : Nat} {s : Option Nat} {l : List TRule} (h : RdRules w D (.slice (some ⟨b, o, s⟩) n c) l) {i : Nat} (hi : i < l.length) :
    ∃ (a' : Option Addr) (c' : Nat), w.cell? ⟨b, o + i * 2, none⟩ = some (.slice a' l[i].conds.length c') ∧ w.cell? ⟨b, o + i * 2 + 1, none⟩ = some (.int .i64 l[i].verdict) ∧ RdConds w D (.slice a' l[i].conds.length c') l[i].conds ∧
      l[i].conds.length ≤ c' ∧ c' ≤ 9223372036854775807 ∧ (0 < l[i].conds.length → ∃ b o, a' = some ⟨b, o, none⟩ ∧ D b ∧ b < w.heap.size) := by
  obtain ⟨cs, hcs, ⟨u, hu, hr⟩, hcell⟩ := Sl.get h hi
  obtain ⟨a', c', hv, h1, h2, h3⟩ := Sl.form hr
  subst hu hv
  exact ⟨a', c', hcell 0 _ rfl, hcell 1 _ rfl, hr, h1, h2, h3⟩
/-- a policy as a value. -/
@[reducible] def polV (v : Value) (d : Int) : Value := .agg #[v, .int .i64 d]
def polR (w : World) (D : Nat → Prop) (p : TPol) (cs : List Value) : Prop := ∃ v, cs = [v, .int .i64 p.dflt] ∧ RdRules w D v p.rules
def RdPols (w : World) (D : Nat → Prop) (v : Value) (l : List TPol) : Prop := Sl w D 2 (polR w D) v l
theorem RdPols.below {w w' : World} {D : Nat → Prop} {v : Value} {l : List TPol} (h : RdPols w D v l) (hb : Below w.heap.size w w') : RdPols w' D v l :=
  Sl.mono h (fun _ h _ => h) (fun b _ hlt => hb.block b hlt) hb.size (fun _ _ _ ⟨u, h1, h2⟩ => ⟨u, h1, h2.below hb⟩)
end Go.Proofs.YtkiipnbjckdlbaaGreatDoor
namespace Go.Proofs.YtkiipnbjckdlbaaGreatDoor
open Go.RowKit

theorem ruleR_one {w : World} {D : Nat → Prop} (y : TRule) (cs : List Value) (h : ruleR w D y cs) : ∀ c ∈ cs, c.oneCell' = true := by
  obtain ⟨v, rfl, h⟩ := h
  obtain ⟨a, c, rfl, _⟩ := Sl.form h
  intro u hu
  simp at hu
  rcases hu with rfl | rfl <;> rfl
theorem rules_of {w W : World} {D : Nat → Prop} {v : Value} {l : List TRule} (h : Sl W D 2 (ruleR w (fun _ => True)) v l) (hb : Below w.heap.size w W) : RdRules W (fun _ => True) v l :=
  Sl.mono h (fun _ _ _ => trivial) (fun _ _ _ => rfl) (Nat.le_refl _) (fun _ _ _ ⟨u, h1, h2⟩ => ⟨u, h1, h2.below hb⟩)
theorem rules_true {w : World} {D : Nat → Prop} {v : Value} {l : List TRule} (h : RdRules w D v l) : RdRules w (fun _ => True) v l := h.keep (fun _ _ _ => trivial) (fun _ _ _ => rfl) (Nat.le_refl _)
theorem OwnSl.app1 {α : Type} {w : World} {base n : Nat} {e : TypeId} {sz : Nat} {R : α → List Value → Prop} {v : Value} {xs : List α} {rows : List (List Value)} {y : α} {r : List Value} (hr : RowsOf sz R xs rows) (hy : R y r) (hl : r.length = sz) (h : w.ownsRow base e sz v n (rows.flatten ++ r)) (hn : n = xs.length + 1) : OwnSl w base e sz R v (xs ++ [y]) := by
  subst hn
  refine ⟨rows ++ [r], hr.app (RowsOf.cons (x := y) (r := r) RowsOf.nil hy hl), ?_⟩
  simpa using h
end Go.Proofs.YtkiipnbjckdlbaaGreatDoor
namespace Go.Proofs.YtkiipnbjckdlbaaGreatDoor
open Go.RowKit

/-- a block that holds no policy. -/
def NotPol (W : World) (b : Nat) : Prop := ∀ cs fr, W.heap[b]? ≠ some (.cells cs 37 fr)
theorem NotPol.keep {w w' : World} {b : Nat} (h : NotPol w b) (e : w'.heap[b]? = w.heap[b]?) : NotPol w' b := fun cs fr => by rw [e]; exact h cs fr
/-- blocks from B on, but a slice's own one. -/
def ButP (W : World) (B : Nat) (pv : Value) (b : Nat) : Prop := B ≤ b ∧ pv.ownBlock ≠ some b ∧ NotPol W b
/-- an own slice reads from blocks of its type. -/
theorem OwnSl.typedSl {α : Type} {w : World} {base : Nat} {e : TypeId} {sz : Nat} {R : α → List Value → Prop} {v : Value} {xs : List α} (h : OwnSl w base e sz R v xs) (he : e ≠ 37) : Sl w (fun b => base ≤ b ∧ NotPol w b) sz R v xs := by
  have hs : Sl w (fun b => base ≤ b) sz R v xs := h.sl fun _ h => h
  by_cases h0 : 0 < xs.length
  · obtain ⟨a, c, rfl⟩ := h.slice
    obtain ⟨b, rfl, hb, hlt, cur, hcur⟩ := h.addr h0
    obtain ⟨a', c', hv, hl, hm, hn, hat⟩ := hs
    refine ⟨a', c', hv, hl, hm, hn, fun h1 => ?_⟩
    obtain ⟨b', o, ha, hD, hlt', hr⟩ := hat h1
    injection hv with hv _ _
    rw [ha] at hv
    injection hv with hv
    injection hv with hv _ _
    subst hv
    refine ⟨b, o, ha, ⟨hD, fun cs fr e' => ?_⟩, hlt', hr⟩
    rw [hcur] at e'
    injection e' with e'
    injection e' with _ e' _
    exact he e'
  · obtain ⟨a', c', hv, hl, hm, hn, hat⟩ := hs
    exact ⟨a', c', hv, hl, hm, hn, fun h1 => absurd h1 h0⟩
theorem ruleT_np : 80 ≠ 37 := by decide
theorem condT_np : 89 ≠ 37 := by decide
/-- the world wi, as the box β gathers the rules rs; wB: the world from which on that is told; pv0: the box's slice there. -/
structure GatherI (B β : Nat) (d : Value) (wB : World) (pv0 : Value) (wi : World) (pv : Value) (rs : List TRule) : Prop where
  os : wi.os = wB.os
  tape : wi.tape = wB.tape
  output : wi.output = wB.output
  size : wB.heap.size ≤ wi.heap.size
  blk : ∀ b, b < wB.heap.size → b ≠ β → some b ≠ pv0.ownBlock → wi.heap[b]? = wB.heap[b]?
  box : wi.heap[β]? = some (.cells #[pv, d] 37)
  own : OwnSl wi B 80 2 (ruleR wi (ButP wi B pv)) pv rs
  hob : pv.ownBlock = pv0.ownBlock ∨ ∀ g, pv.ownBlock = some g → wB.heap.size ≤ g
section
variable {B β : Nat} {d : Value} {wA wB wi W : World} {pvA pv0 pv : Value} {rs rs' : List TRule}
theorem GatherI.start (hbox : wB.heap[β]? = some (.cells #[pv0, d] 37)) (hown : OwnSl wB B 80 2 (ruleR wB (ButP wB B pv0)) pv0 rs) : GatherI B β d wB pv0 wB pv0 rs := ⟨rfl, rfl, rfl, Nat.le_refl _, fun _ _ _ _ => rfl, hbox, hown, .inl rfl⟩
theorem GatherI.below (h : GatherI B β d wB pv0 wi pv rs) (hb : Below wi.heap.size wi W) : GatherI B β d wB pv0 W pv rs where
  os := hb.os.trans h.os
  tape := hb.tape.trans h.tape
  output := hb.output.trans h.output
  size := Nat.le_trans h.size hb.size
  blk := fun b hl hn ho => (hb.block b (Nat.lt_of_lt_of_le hl h.size)).trans (h.blk b hl hn ho)
  box := blk_below h.box hb
  own := (h.own.below hb).monoR fun _ _ _ ⟨v, h1, h2⟩ => ⟨v, h1, h2.keep (fun b hb' hl => ⟨hb'.1, hb'.2.1, hb'.2.2.keep (hb.block b hl)⟩) (fun b _ hl => hb.block b hl) hb.size⟩
  hob := h.hob
theorem GatherI.trans (h : GatherI B β d wA pvA wB pv0 rs) (h' : GatherI B β d wB pv0 wi pv rs') : GatherI B β d wA pvA wi pv rs' where
  os := h'.os.trans h.os
  tape := h'.tape.trans h.tape
  output := h'.output.trans h.output
  size := Nat.le_trans h.size h'.size
  blk := fun b hl hn ho => (h'.blk b (Nat.lt_of_lt_of_le hl h.size) hn (fun e => by
    rcases h.hob with e' | e'
    · exact ho (e.trans e')
    · have := e' b e.symm; omega)).trans (h.blk b hl hn ho)
  box := h'.box
  own := h'.own
  hob := by
    rcases h'.hob with e | e
    · rcases h.hob with e' | e'
      · exact .inl (e.trans e')
      · exact .inr fun g hg => e' g (e.symm.trans hg)
    · exact .inr fun g hg => Nat.le_trans h.size (e g hg)
theorem GatherI.belowB {C : Nat} {w : World} (h : GatherI B β d wB pv0 wi pv rs) (hb : Below C w wB) (hC : C ≤ wB.heap.size) (hβ : C ≤ β) (h0 : ∀ g, pv0.ownBlock = some g → C ≤ g) : Below C w wi :=
  hb.trans ⟨h.os, h.tape, h.output, h.size, fun b hl => h.blk b (by omega) (by omega) (fun e => by have := h0 b e.symm; omega)⟩
theorem GatherI.rules (h : GatherI B β d wB pv0 wi pv rs) : RdRules wi (fun b => B ≤ b ∧ NotPol wi b) pv rs :=
  (h.own.monoR fun _ _ _ ⟨v, h1, h2⟩ => ⟨v, h1, h2.keep (fun _ hb _ => ⟨hb.1, hb.2.2⟩) (fun _ _ _ => rfl) (Nat.le_refl _)⟩).typedSl ruleT_np
/-- conds in a row of one's own, apart from another one's row. -/
theorem conds_but {w : World} {B C : Nat} {v pv : Value} {cs : List TCond} {E : TypeId} {n : Nat} {cells : List Value} (h : OwnSl w C 89 3 condR v cs) (hB : B ≤ C) (ho : w.ownsRow B E 2 pv n cells) (hE : E ≠ 89) : RdConds w (ButP w B pv) v cs := by
  have hs : RdConds w (fun b => C ≤ b ∧ NotPol w b) v cs := h.typedSl condT_np
  by_cases h0 : 0 < cs.length
  · obtain ⟨a, c, rfl⟩ := h.slice
    obtain ⟨b, rfl, hb, hlt, cur, hcur⟩ := h.addr h0
    have hs2 := hs
    obtain ⟨a', c', hv, hl, hm, hn, hat⟩ := hs2
    refine ⟨a', c', hv, hl, hm, hn, fun h1 => ?_⟩
    obtain ⟨b', o, ha, hD, hlt', hr⟩ := hat h1
    refine ⟨b', o, ha, ⟨Nat.le_trans hB hD.1, fun e => ?_, hD.2⟩, hlt', hr⟩
    injection hv with hv _ _
    rw [ha] at hv
    injection hv with hv
    injection hv with hv _ _
    subst hv
    rcases ho.2 with ⟨hp, _⟩ | ⟨g, cap, cur', hp, _, hh, _⟩
    · subst hp; simp [Value.ownBlock] at e
    · subst hp
      simp [Value.ownBlock] at e
      subst e
      rw [hcur] at hh
      injection hh with hh
      injection hh with _ hh _
      exact hE hh.symm
  · obtain ⟨a', c', hv, hl, hm, hn, hat⟩ := hs
    exact ⟨a', c', hv, hl, hm, hn, fun h1 => absurd h1 h0⟩
/-- one rule more. -/
theorem GatherI.step {w0 : World} {pv' cv : Value} {cs : List TCond} {vd : Int} {rows : List (List Value)} {ia is : Nat} {done : Nat → Bool} {cells : List Value} (h : GatherI B β d wB pv0 wi pv rs) (hb : Below wi.heap.size wi w0) (hβ : β < B) (hB : B ≤ w0.heap.size)
    (hI : ApInv w0 β 37 #[pv, d] B 80 2 pv rs.length cells ia is done W) (hro : RowsOf 2 (ruleR wi (ButP wi B pv)) rs rows)
    (hrow : W.ownsRow B 80 2 pv' (rs.length + 1) (rows.flatten ++ [cv, .int .i64 vd])) (hat : pv'.ownBlock = pv.ownBlock ∨ ∀ g, pv'.ownBlock = some g → w0.heap.size ≤ g)
    (hbox : W.heap[β]? = some (.cells (#[pv, d].setIfInBounds 0 pv') 37)) (hcv : OwnSl W w0.heap.size 89 3 condR cv cs) (hT : 80 ≠ 89) : GatherI B β d wB pv0 W pv' (rs ++ [⟨cs, vd⟩]) where
  os := hI.os.trans (hb.os.trans h.os)
  tape := hI.tape.trans (hb.tape.trans h.tape)
  output := hI.output.trans (hb.output.trans h.output)
  size := Nat.le_trans (Nat.le_trans h.size hb.size) hI.size
  blk := fun b hl hn ho => by
    have h1 : b < wi.heap.size := Nat.lt_of_lt_of_le hl h.size
    rw [hI.blk b (Nat.lt_of_lt_of_le h1 hb.size) hn (fun e => by
      rcases h.hob with e' | e'
      · exact ho (e.trans e')
      · have := e' b e.symm; omega), hb.block b h1]
    exact h.blk b hl hn ho
  box := by simpa using hbox
  own := by
    refine OwnSl.app1 (rows := rows) (r := [cv, .int .i64 vd]) (hro.mono fun x _ c hx => ?_) ⟨cv, rfl, conds_but hcv hB hrow hT⟩ rfl hrow rfl
    obtain ⟨v, e1, e2⟩ := hx
    have hsame : ∀ b, ButP wi B pv b → b < wi.heap.size → W.heap[b]? = wi.heap[b]? := fun b hb' hlt => by
      rw [hI.blk b (Nat.lt_of_lt_of_le hlt hb.size) (by have := hb'.1; omega) (fun e => hb'.2.1 e.symm)]
      exact hb.block b hlt
    exact ⟨v, e1, e2.keep (fun b hb' hlt => ⟨hb'.1, fun e => by
      rcases hat with h' | h'
      · exact hb'.2.1 (h'.symm.trans e)
      · have := h' b e; have := hb.size; omega, hb'.2.2.keep (hsame b hb' hlt)⟩) hsame (Nat.le_trans hb.size hI.size)⟩
  hob := by
    have hs := h.size
    have hs' := hb.size
    rcases hat with e | e
    · rcases h.hob with e' | e'
      · exact .inl (e.trans e')
      · exact .inr fun g hg => e' g (e.symm.trans hg)
    · exact .inr fun g hg => by have := e g hg; omega
end
/-- rules that are a call's own, told apart from a box. -/
theorem rules_ne {w W : World} {B β : Nat} {D : Nat → Prop} {v : Value} {l : List TRule} (h : OwnSl W B 80 2 (ruleR w D) v l) (hb : Below w.heap.size w W) (h1 : β < B) (h2 : ∀ b, D b → b ≠ β) : RdRules W (fun b => b ≠ β) v l :=
  (h.monoR fun _ _ _ ⟨u, e1, e2⟩ => ⟨u, e1, e2.keep (fun b hd _ => h2 b hd) (fun b _ hlt => hb.block b hlt) hb.size⟩).sl fun b hb' => by omega
theorem rules_lt {w : World} {v : Value} {l : List TRule} (h : RdRules w (fun _ => True) v l) : RdRules w (fun b => b < w.heap.size) v l := h.keep (fun _ _ hlt => hlt) (fun _ _ _ => rfl) (Nat.le_refl _)
end Go.Proofs.YtkiipnbjckdlbaaGreatDoor
namespace Go.Proofs.YtkiipnbjckdlbaaGreatDoor
open Go.RowKit
attribute [local go_sem] gives givesUpon

theorem nil_conds (w : World) (D : Nat → Prop) : RdConds w D (.slice none 0 0) [] := ⟨none, 0, rfl, Nat.le_refl _, by unfold maxLen; simp, fun _ => rfl, fun h => by cases h⟩

set_option maxRecDepth 100000 in
set_option maxHeartbeats 4000000 in
theorem mwhole_any (v : Value) (p : TPol) (D : Nat → Prop) (w : World) (h : RdRules w D v p.rules) (hn : p.rules.length ≤ 120) :
    Calls Tryz.prog 106 #[polV v p.dflt] w fun e w' => ∃ u, e = .returned u ∧ OwnSl w' w.heap.size 80 2 (ruleR w D) u (wholeOf p) ∧ Below w.heap.size w w' := by
  have H := Lib.hid h
  obtain ⟨a, c, rfl, _⟩ := Sl.form h
  clear h
  obtain ⟨i0, hi, hz0, hz1, hz2⟩ := info_parts infocRule
  have Hi := Lib.hid hi
  clear hi
  have HS : Hid (∀ W, Cls (w.heap.size + 1) (w.alloc (.cells #[.slice a p.rules.length c, .int .i64 p.dflt] 37)) W → ∀ j, W.cell? ⟨w.heap.size, j, none⟩ = (#[.slice a p.rules.length c, .int .i64 p.dflt] : Array Value)[j]?) := fun W hW => (Bx.one.lift hW.2 (by simp)).cells0
  have HR : Hid (∀ W, Cls (w.heap.size + 1) (w.alloc (.cells #[.slice a p.rules.length c, .int .i64 p.dflt] 37)) W → Sl W D 2 (ruleR w D) (.slice a p.rules.length c) p.rules) := fun W hW => H.out.belowR ((bel_alloc (Below.refl _ _) _).trans (hW.2.mono (by omega))) (fun _ _ _ h => h)
  go_enter Tryz.func106, Tryz.ntmps106
  go_wp2_with fail
  refine wp_region_ap1 (w.heap.size + 1) (by simp) 2 6 7 (fun v W => OwnSl W (w.heap.size + 1) 80 2 (ruleR w D) v p.rules) (NewRow (w.heap.size + 1) 80 1 #[.slice none 0 0, .int .i64 p.dflt]) (fun v W => OwnSl W (w.heap.size + 1) 80 2 (ruleR w D) v (p.rules ++ [⟨[], p.dflt⟩])) (by kernel_rfl) (by kernel_rfl) _ rfl
    (fun _ _ _ hb h => h.below hb) (fun _ _ _ hb h => h.below hb) (fun _ _ _ hb h => h.below hb) ?_
  iterate 2 (refine rel_ex (fun K hK => ?_); apply Exists.intro; refine ⟨fun done vf W hI h0 hd hn hf R hR => ?_, ?_, ?_⟩; (have hcell := HS.out W hI; clear h0 hd hn hf; go_simp; exact hR _ _ (Cls.step hI (Below.refl _ _)) (fun _ => Below.refl _ _) rfl trivial); exact (fun _ _ _ => rfl); (go_simp; refine hK _ ?_; clear hK K))
  (refine rel_pr (fun K hK => ?_); refine ⟨fun done vf W hI h0 hd hn hf R hR => ?_, ?_⟩; (have hsl := HR.out W hI; clear h0 hd hn hf; go_simp; go_at_call 98; refine (cloneRule_any (ruleR w D) (fun y cs h => ruleR_one y cs h) _ p.rules D W hsl (by omega)).mono ?_; (rintro e w4 ⟨v4, rfl, hr4, hb4⟩; exact ⟨_, rfl, hR _ _ (Cls.step hI hb4) (fun _ => hb4) trivial (fun _ => hr4.base hI.1)⟩)); (go_simp; refine hK _ ?_; clear hK K))
  iterate 3 (refine rel_ex (fun K hK => ?_); apply Exists.intro; refine ⟨fun done vf W hI h0 hd hn hf R hR => ?_, ?_, ?_⟩; (have hcell := HS.out W hI; clear h0 hd hn hf; go_simp; exact hR _ _ (Cls.step hI (Below.refl _ _)) (fun _ => Below.refl _ _) rfl trivial); exact (fun _ _ _ => rfl); (go_simp; refine hK _ ?_; clear hK K))
  (refine rel_pr (fun K hK => ?_); refine ⟨fun done vf W hI h0 hd hn hf R hR => ?_, ?_⟩; (clear h0 hd hn hf; go_simp; exact hR _ _ (Cls.step hI (bel_alloc (Below.refl _ _) _)) (fun _ => bel_alloc (Below.refl _ _) _) trivial (fun _ => ⟨_, rfl, hI.1, heap_last _ _⟩)); (go_simp; refine hK _ ?_; clear hK K))
  (refine rel_pr (fun K hK => ?_); refine ⟨fun done vf W hI h0 hd hn hf R hR => ?_, ?_⟩; (have h2 : OwnSl W (w.heap.size + 1) 80 2 (ruleR w D) (vf 2) p.rules := hf 2 (hd 2 (by decide)) h0; have h6 : NewRow (w.heap.size + 1) 80 1 #[.slice none 0 0, .int .i64 p.dflt] (vf 6) W := hf 6 (hd 6 (by decide)) h0; obtain ⟨bn, hbv, hbn, hcn⟩ := h6; have hblk := h2.block; obtain ⟨rows, hrows, hown⟩ := h2; refine ob_plain rfl ?_; refine gives_append_at (.tmp 5) (.tmp 9) 35 rfl (w.heap.size + 1) 80 i0 _ 2 32 Tryz.underlying35 Hi.out hz0 hz1 hz2 rfl (by omega) (vf 2) p.rules.length rows.flatten (by rfl) hown ⟨bn, 0, none⟩ 1 1 [.slice none 0 0, .int .i64 p.dflt] (by exact hbv) (by rfl) (World.news_of_block hcn) (by simp [Value.oneCell']) (by omega) (by unfold maxLen; omega) (by omega) hI.1 (fun v' w' h1 h2 _ => hR _ _ ⟨Nat.le_trans hI.1 h2.size, Below.grown hI.2 h2 hI.1 hblk⟩ (fun h => absurd rfl h) trivial (OwnSl.app1 hrows ⟨_, rfl, nil_conds _ _⟩ rfl h1 rfl))); (go_simp; refine hK _ ?_; clear hK K))
  (refine rel_ex (fun K hK => ?_); apply Exists.intro; refine ⟨fun done vf W hI h0 hd hn hf R hR => ?_, ?_, ?_⟩; (clear h0 hd hn hf; go_simp; exact hR _ _ (Cls.step hI (Below.refl _ _)) (fun _ => Below.refl _ _) rfl trivial); exact (fun f g h => h 7 (by decide)); (go_simp; refine hK _ ?_; clear hK K))
  intro done vf w3 hd hI hF
  have h7 : OwnSl w3 (w.heap.size + 1) 80 2 (ruleR w D) (vf 7) (p.rules ++ [⟨[], p.dflt⟩]) := hF 7 (by decide)
  have H7 := Lib.hid (h7.base (base' := w.heap.size) (by omega))
  have HB := Lib.hid ((bel_alloc (Below.refl w.heap.size w) (.cells #[.slice a p.rules.length c, .int .i64 p.dflt] 37)).trans (hI.2.mono (by omega)))
  clear hd hI hF h7
  go_wp2
  go_ret
  exact ⟨_, rfl, H7.out, HB.out⟩

theorem except_any (a b : Int) (w : World) : Calls Tryz.prog 82 #[.int .i64 a, .int .i64 b] w fun e w' => e = .returned (.int .i64 (exceptOf a b)) ∧ w = w' := by
  go_enter Tryz.func82, Tryz.ntmps82
  by_cases h : a < b
  · go_wp2
    go_ret
    exact ⟨ret_int (by unfold exceptOf; rw [if_pos h]), rfl⟩
  · go_wp2
    go_ret
    exact ⟨ret_int (by unfold exceptOf; rw [if_neg (by omega)]), rfl⟩
end Go.Proofs.YtkiipnbjckdlbaaGreatDoor
namespace Go.Proofs.YtkiipnbjckdlbaaGreatDoor
open Go.RowKit

theorem infocCond : (Tryz.prog.info? 89).map (fun i => (i.zero, i.size, i.bytes)) = some (some (.agg #[.int .i64 0, .int .i64 0, .int .i64 0]), 3, 24) := by kernel_rfl

set_option maxHeartbeats 1000000 in
theorem growCond_nil (n : Nat) (w : World) (hn : n * 24 ≤ 140737488355328) : Calls Tryz.prog 109 #[.slice none 0 0, .int .i64 n] w fun e w' => ∃ v, e = .returned v ∧ OwnSl w' w.heap.size 89 3 condR v ([] : List TCond) ∧ Below w.heap.size w w' := by
  by_cases h0 : n = 0
  · subst h0
    go_enter Tryz.func109, Tryz.ntmps109
    go_wp2
    go_ret
    exact ⟨_, rfl, OwnSl.nil, Below.refl _ _⟩
  · obtain ⟨i0, hi, hz0, hz1, hz2⟩ := info_parts infocCond
    have hrun := fun (W : World) (ty : TypeId) => Lib.run_append_nil_zeros (P := Tryz.prog) W 78 3 ty 89 i0 (.agg #[.int .i64 0, .int .i64 0, .int .i64 0]) .i64 .i64 Tryz.underlying78 Tryz.underlying3 hi hz0 n (by omega) (by rw [hz1]; omega) (by omega) (by rw [hz2]; omega)
    have hgc : ∀ W : World, grownCap W n 0 89 ≤ maxLen := fun W => grownCap_le_maxLen W n 0 89 (by unfold maxLen; omega)
    have h1 : 0 < (n : Int) := by omega
    have h2 : (n : Int) ≤ 9223372036854775807 := by omega
    have Hrun := Lib.hid hrun
    have Hz := Lib.hid hz1
    clear hrun hi hz0 hz1 hz2 h0 hn
    go_enter Tryz.func109, Tryz.ntmps109
    go_wp2_with (at_builtin; refine Lib.wpList_append_run _ rfl _ _ _ _ rfl _ _ rfl rfl _ _ (Hrun.out _ _) ?_)
    go_ret
    refine ⟨_, rfl, ⟨[], RowsOf.nil, by simp, .inr ⟨w.heap.size, grownCap w n 0 89, _, rfl, Nat.le_refl _, blk_at rfl, by simp, hgc w, ?_, by simp⟩⟩, (bel_alloc (Below.refl _ _) _).drew⟩
    have hge := grownCap_ge w n 0 89
    simp [size_zeroCells]
    omega

theorem oneCond (y : TCond) (cs : List Value) (h : condR y cs) : ∀ c ∈ cs, c.oneCell' = true := by
  unfold condR at h; subst h; simp [Value.oneCell']
/-- a slice of slices. -/
def rowsRCond (w : World) (D : Nat → Prop) (l : List TCond) (cs : List Value) : Prop := ∃ u, cs = [u] ∧ Sl w D 3 condR u l
set_option maxRecDepth 100000 in
set_option maxHeartbeats 2000000 in
theorem concatCond_any (v : Value) (ls : List (List TCond)) (D : Nat → Prop) (w : World) (h : Sl w D 1 (rowsRCond w D) v ls) (hn : lenTo ls ls.length * 24 ≤ 140737488355328) :
    Calls Tryz.prog 90 #[v] w fun e w' => ∃ v', e = .returned v' ∧ OwnSl w' w.heap.size 89 3 condR v' ls.flatten ∧ Below w.heap.size w w' := by
  obtain ⟨a, c, rfl, hlc, hcm, hat⟩ := Sl.form h
  obtain ⟨i0, hi, hz0, hz1, hz2⟩ := info_parts infocCond
  have H := Lib.hid h
  clear h
  have hrow : ∀ k (hk : k < ls.length) b o, a = some ⟨b, o, none⟩ → ∃ (u : Value) (cu : Option Addr × Nat), u = Value.slice cu.1 ls[k].length cu.2 ∧ Sl w D 3 condR u ls[k] ∧ ∀ wr, Below w.heap.size w wr → wr.cell? ⟨b, o + k, none⟩ = some u := fun k hk b o e => by
    subst e
    obtain ⟨cs, hcs, ⟨u, hu, hs⟩, hcell⟩ := Sl.get H.out hk
    obtain ⟨a', c', hv, _⟩ := Sl.form hs
    refine ⟨u, (a', c'), hv, hs, fun wr hb => ?_⟩
    subst hu
    have hc := hcell 0 u rfl
    rw [Nat.mul_one] at hc
    exact (hb.cell (p := ⟨b, o + k, none⟩) (World.block_lt_of_cell? _ _ hc)).trans hc
  have Hrow := Lib.hid hrow
  have Hn := Lib.hid hn
  have hn' : lenTo ls ls.length ≤ 140737488355328 := by omega
  clear hrow hn
  go_enter Tryz.func90, Tryz.ntmps90
  go_wp2_with fail
  go_loop [3, 11] (fun s i => ∃ k : Nat, k ≤ ls.length ∧ i = .int .i64 k ∧ s = .int .i64 (lenTo ls k)) (fun _ i => ls.length - (intOf i).toNat)
  case atStart => exact ⟨0, by omega, rfl, rfl⟩
  case round =>
    obtain ⟨k, hk, rfl, rfl⟩ := hrel
    by_cases hlt : k < ls.length
    · obtain ⟨b, o, rfl, hDb, hb⟩ := hat (by omega)
      obtain ⟨u, ⟨a', c'⟩, rfl, hs, hc⟩ := Hrow.out k hlt b o rfl
      have hcw := hc w (Below.refl _ _)
      have hle := lenTo_le ls (k + 1) (by omega)
      have Hs := Lib.hid (lenTo_succ ls k hlt)
      have hle' : lenTo ls k + ls[k].length ≤ 140737488355328 := by have := Hs.out; omega
      clear hs hc
      go_wp2
      go_round
      case rel => exact ⟨k + 1, by omega, by go_num, by rw [Hs.out]; go_num⟩
      case measure => simp [intOf]; omega
    · obtain rfl : k = ls.length := by omega
      go_wp2_with fail
      refine (growCond_nil (lenTo ls ls.length) _ Hn.out).mono ?_
      rintro e w1 ⟨vg, rfl, hown, hb1⟩
      go_wp2_with fail
      go_loopw [6, 27] (fun s i wr => ∃ (k : Nat) (vs : Value), k ≤ ls.length ∧ i = .int .i64 k ∧ vs = s ∧ OwnSl wr w.heap.size 89 3 condR vs (ls.take k).flatten ∧ Below w.heap.size w wr) (fun _ i _ => ls.length - (intOf i).toNat)
      case atStart => exact ⟨0, vg, by omega, rfl, rfl, by simpa using hown, hb1⟩
      case round =>
        obtain ⟨k, vs, hk, rfl, rfl, hown, hbw⟩ := hrel
        have Hown := Lib.hid hown
        have hsz := hbw.size
        clear hown
        by_cases hlt : k < ls.length
        · obtain ⟨b, o, rfl, hDb, hb⟩ := hat (by omega)
          obtain ⟨u, ⟨a', c'⟩, rfl, hs, hc⟩ := Hrow.out k hlt b o rfl
          have hcw := hc wr hbw
          have hle := lenTo_le ls (k + 1) (by omega)
          have Hl := Lib.hid (lenTo_succ ls k hlt)
          have hs' : Sl wr D 3 condR (.slice a' ls[k].length c') ls[k] := Sl.mono hs (fun _ h _ => h) (fun b _ hlt => hbw.block b hlt) hbw.size (fun _ _ _ h => h)
          have Hs' := Lib.hid hs'
          have Hs := Lib.hid (flat_take_succ ls k hlt)
          clear hs hc hs'
          go_wp2_with (at_builtin; refine wpList_app rfl _ _ 78 rfl w.heap.size 89 i0 _ 3 24 Tryz.underlying78 hi hz0 hz1 hz2 rfl (by decide) _ _ rfl Hown.out _ _ rfl Hs'.out (fun y _ cs h => oneCond y cs h) (by have := Hl.out; unfold lenTo at *; unfold maxLen; omega) (by have := Hn.out; have := Hl.out; unfold lenTo at *; omega) hsz ?_; intro v' w2 hown' hg)
          go_roundw
          case rel => exact ⟨k + 1, v', by omega, by go_num, rfl, by rw [← flat_take_succ ls k hlt]; exact hown', Hown.out.grown hbw hg hsz (Nat.le_refl _)⟩
          case measure => simp [intOf]; omega
        · obtain rfl : k = ls.length := by omega
          have Hf : Hid (OwnSl wr w.heap.size 89 3 condR vs ls.flatten) := by have := Hown.out; rwa [List.take_length] at this
          go_wp2
          go_ret
          exact ⟨_, rfl, Hf.out, hbw⟩
end Go.Proofs.YtkiipnbjckdlbaaGreatDoor
namespace Go.Proofs.YtkiipnbjckdlbaaGreatDoor
open Go.RowKit
attribute [local go_sem] gives givesUpon

set_option maxHeartbeats 2000000 in
theorem cond_any (c : TCond) (w : World) : Calls Tryz.prog 92 #[.agg #[.int .i64 c.f, .int .i64 c.op, .int .i64 c.v]] w fun e w' => e = .returned (.int .i64 (condE c)) ∧ Below w.heap.size w w' := by
  obtain ⟨f, op, v⟩ := c
  dsimp only
  by_cases h1 : f < 0 ∨ 5 ≤ f
  · have he : condE ⟨f, op, v⟩ = 5 := by unfold condE; rw [if_pos h1]
    rw [he]; clear he
    rcases h1 with h1 | h1
    · go_enter Tryz.func92, Tryz.ntmps92
      go_wp2
      go_ret
      exact ⟨rfl, bel_alloc (Below.refl _ _) _⟩
    · have h0 : ¬ f < 0 := by omega
      go_enter Tryz.func92, Tryz.ntmps92
      go_wp2
      go_ret
      exact ⟨rfl, bel_alloc (Below.refl _ _) _⟩
  · by_cases h2 : op < 1 ∨ 4 < op
    · have he : condE ⟨f, op, v⟩ = 4 := by unfold condE; rw [if_neg h1, if_pos h2]
      rw [he]; clear he
      have g0 : ¬ f < 0 := by omega
      have g1 : ¬ 5 ≤ f := by omega
      clear h1
      rcases h2 with h2 | h2
      · go_enter Tryz.func92, Tryz.ntmps92
        go_wp2
        go_ret
        exact ⟨rfl, bel_alloc (Below.refl _ _) _⟩
      · have h0 : ¬ op < 1 := by omega
        go_enter Tryz.func92, Tryz.ntmps92
        go_wp2
        go_ret
        exact ⟨rfl, bel_alloc (Below.refl _ _) _⟩
    · have g0 : ¬ f < 0 := by omega
      have g1 : ¬ 5 ≤ f := by omega
      have g2 : ¬ op < 1 := by omega
      have g3 : ¬ 4 < op := by omega
      have hc : ∀ W, Cls (w.heap.size + 1) (w.alloc (.cells #[.int .i64 f, .int .i64 op, .int .i64 v] 89)) W → ∀ j : Nat, W.cell? ⟨w.heap.size, j, none⟩ = (#[Value.int .i64 f, .int .i64 op, .int .i64 v] : Array Value)[j]? := fun W hW j => box_cells hW.2 j
      have Hc := Lib.hid hc
      have He : Hid (condE ⟨f, op, v⟩ = if v < 0 ∨ mostOf f < v then 3 else 0) := by show condE _ = _; unfold condE; rw [if_neg h1, if_neg h2]
      clear hc h1 h2
      by_cases h3 : v < 0
      · have hv : decide (v < 0) = true := decide_eq_true h3
        rw [He.out, if_pos (.inl h3)]
        go_enter Tryz.func92, Tryz.ntmps92
        go_wp2_with fail
        refine wp_region_exact (w.heap.size + 1) (by simp) (by kernel_rfl) (by kernel_rfl) ?_
        repeat (refine monoE_step (fun K hK => ?_); apply Exists.intro; refine ⟨fun W hC R hR => ?_, ?_⟩; (have hcell := Hc.out W hC; go_simp; exact hR _ _ (Below.refl _ _) rfl); (go_simp; refine hK _ ?_; clear hK K))
        intro w2 hC2
        go_wp2
        go_ret
        exact ⟨rfl, bel_box hC2.2⟩
      · have hv : decide (v < 0) = false := decide_eq_false h3
        by_cases h4 : mostOf f < v
        · have hv4 : decide (mostOf f < v) = true := decide_eq_true h4
          rw [He.out, if_pos (.inr h4)]
          go_enter Tryz.func92, Tryz.ntmps92
          go_wp2_with fail
          refine wp_region_exact (w.heap.size + 1) (by simp) (by kernel_rfl) (by kernel_rfl) ?_
          repeat (refine monoE_step (fun K hK => ?_); apply Exists.intro; refine ⟨fun W hC R hR => ?_, ?_⟩; (first
            | (have hcell := Hc.out W hC; go_simp; refine hR _ _ (Below.refl _ _) rfl)
            | (go_simp; go_at_call 79; refine (most_any _ _).mono ?_; rintro e w1 ⟨rfl, rfl⟩; exact ⟨_, rfl, hR _ _ (Below.refl _ _) rfl⟩)); (go_simp; refine hK _ ?_; clear hK K))
          intro w2 hC2
          go_wp2
          go_ret
          exact ⟨rfl, bel_box hC2.2⟩
        · have hv4 : decide (mostOf f < v) = false := decide_eq_false h4
          rw [He.out, if_neg (by omega)]
          go_enter Tryz.func92, Tryz.ntmps92
          go_wp2_with fail
          refine wp_region_exact (w.heap.size + 1) (by simp) (by kernel_rfl) (by kernel_rfl) ?_
          repeat (refine monoE_step (fun K hK => ?_); apply Exists.intro; refine ⟨fun W hC R hR => ?_, ?_⟩; (first
            | (have hcell := Hc.out W hC; go_simp; refine hR _ _ (Below.refl _ _) rfl)
            | (go_simp; go_at_call 79; refine (most_any _ _).mono ?_; rintro e w1 ⟨rfl, rfl⟩; exact ⟨_, rfl, hR _ _ (Below.refl _ _) rfl⟩)); (go_simp; refine hK _ ?_; clear hK K))
          intro w2 hC2
          go_wp2
          go_ret
          exact ⟨rfl, bel_box hC2.2⟩
end Go.Proofs.YtkiipnbjckdlbaaGreatDoor
namespace Go.Proofs.YtkiipnbjckdlbaaGreatDoor
open Go.RowKit

set_option maxHeartbeats 4000000 in
theorem polcheck_any (v : Value) (p : TPol) (D : Nat → Prop) (w : World) (h : RdRules w D v p.rules) : Calls Tryz.prog 64 #[polV v p.dflt] w fun e w' => e = .returned (.int .i64 (polE p)) ∧ Below w.heap.size w w' := by
  obtain ⟨rs, d⟩ := p
  dsimp only at h ⊢
  obtain ⟨a, c, rfl, hlc, hcm, hat⟩ := Sl.form h
  have H := Lib.hid h
  clear h
  by_cases h1 : 120 < rs.length
  · have he : polE ⟨rs, d⟩ = 2 := by unfold polE; rw [if_pos h1]
    have hz : 120 < (rs.length : Int) := by omega
    rw [he]; clear he h1 hat H
    go_enter Tryz.func64, Tryz.ntmps64
    go_wp2
    go_ret
    exact ⟨rfl, bel_alloc (Below.refl _ _) _⟩
  · have hz : ¬ 120 < (rs.length : Int) := by omega
    by_cases h2 : d < 0 ∨ 4 < d
    · have he : polE ⟨rs, d⟩ = 3 := by unfold polE; rw [if_neg h1, if_pos h2]
      rw [he]; clear he hat H h1
      rcases h2 with h2 | h2
      · go_enter Tryz.func64, Tryz.ntmps64
        go_wp2
        go_ret
        exact ⟨rfl, bel_alloc (Below.refl _ _) _⟩
      · have h0 : ¬ d < 0 := by omega
        go_enter Tryz.func64, Tryz.ntmps64
        go_wp2
        go_ret
        exact ⟨rfl, bel_alloc (Below.refl _ _) _⟩
    · have g0 : ¬ d < 0 := by omega
      have g1 : ¬ 4 < d := by omega
      have He := Lib.hid (show polE ⟨rs, d⟩ = rulesGo rs by unfold polE; rw [if_neg h1, if_neg h2])
      clear h1 h2
      go_enter Tryz.func64, Tryz.ntmps64
      go_wp2_with fail
      go_loopw [23] (fun i wr => ∃ k : Nat, k ≤ rs.length ∧ i = .int .i64 k ∧ rulesGo rs = rulesGo (rs.drop k) ∧ Below w.heap.size w wr) (fun i _ => rs.length - (intOf i).toNat)
      case atStart => exact ⟨0, by omega, rfl, rfl, bel_alloc (Below.refl _ _) _⟩
      case round =>
        obtain ⟨k, hk, rfl, hgo, hbw⟩ := hrel
        have Hgo := Lib.hid hgo
        have hsz := hbw.size
        clear hgo
        by_cases hlt : k < rs.length
        · obtain ⟨b, o, rfl, hDb, hb⟩ := hat (by omega)
          obtain ⟨a', c', k0, k1, hr, hlc', hcm', hat'⟩ := RdRules.cells (RdRules.below H.out hbw) hlt
          have Hr := Lib.hid hr
          have bad : ∀ e : Int, ruleE rs[k] = e → e ≠ 0 → ∀ wz, Below w.heap.size w wz → Ending.returned (.int .i64 e) = .returned (.int .i64 (polE ⟨rs, d⟩)) ∧ Below w.heap.size w wz := fun e he h0 wz hz => by
            refine ⟨ret_int ?_, hz⟩
            rw [He.out, Hgo.out, rulesGo_drop rs k hlt, he, if_neg h0]
          have good : ruleE rs[k] = 0 → rulesGo rs = rulesGo (rs.drop (k + 1)) := fun he => by rw [Hgo.out, rulesGo_drop rs k hlt, if_pos he]
          have Hbad := Lib.hid bad
          have Hgood := Lib.hid good
          clear bad good hr
          generalize hX : rs[k] = X at *
          clear hX
          obtain ⟨cs, vd⟩ := X
          dsimp only at k0 k1 hlc' hat'
          have Hr' : Hid (RdConds wr D (.slice a' cs.length c') cs) := Hr
          clear Hr
          by_cases h3 : 10 < cs.length
          · have Hb := Lib.hid (Hbad.out 2 (by unfold ruleE; rw [if_pos h3]) (by decide))
            have hz3 : 10 < (cs.length : Int) := by omega
            clear Hbad Hgood hat' h3
            go_wp2
            go_ret
            exact Hb.out _ (bel_alloc hbw _)
          · have hz3 : ¬ 10 < (cs.length : Int) := by omega
            by_cases h4 : vd < 0 ∨ 4 < vd
            · have Hb := Lib.hid (Hbad.out 3 (by unfold ruleE; rw [if_neg h3, if_pos h4]) (by decide))
              clear Hbad Hgood hat' h3
              rcases h4 with h4 | h4
              · go_wp2
                go_ret
                exact Hb.out _ (bel_alloc hbw _)
              · have h40 : ¬ vd < 0 := by omega
                go_wp2
                go_ret
                exact Hb.out _ (bel_alloc hbw _)
            · have g3 : ¬ vd < 0 := by omega
              have g4 : ¬ 4 < vd := by omega
              have Hre := Lib.hid (show ruleE ⟨cs, vd⟩ = condsGo cs by unfold ruleE; rw [if_neg h3, if_neg h4])
              clear h3 h4
              go_wp2_with fail
              go_loopw [42] (fun i wi => ∃ j : Nat, j ≤ cs.length ∧ i = .int .i64 j ∧ condsGo cs = condsGo (cs.drop j) ∧ Below w.heap.size w wi ∧ Below wr.heap.size wr wi) (fun i _ => cs.length - (intOf i).toNat)
              case atStart => exact ⟨0, by omega, rfl, rfl, bel_alloc hbw _, bel_alloc (Below.refl _ _) _⟩
              case round =>
                obtain ⟨j, hj, rfl, hgo, hbi, hbi'⟩ := hrel
                have Hgi := Lib.hid hgo
                have hszi := hbi.size
                clear hgo
                by_cases hlj : j < cs.length
                · obtain ⟨b', o', rfl, hDb', hb'⟩ := hat' (by omega)
                  obtain ⟨c0, c1, c2⟩ := RdConds.cells (RdConds.below Hr'.out hbi') hlj
                  have Hd := Lib.hid (condsGo_drop cs j hlj)
                  go_wp2_with (go_at_call 92; refine (cond_any cs[j] _).mono ?_; rintro e w1 ⟨rfl, hb1⟩)
                  · rename_i ht
                    have ht' := bne_iff_ne.1 ht
                    go_ret
                    exact Hbad.out _ (by rw [Hre.out, Hgi.out, Hd.out, if_neg ht']) ht' _ (bel_alloc_call hbi hb1)
                  · rename_i ht
                    have ht' := bne_eq_false_iff_eq.1 ht
                    go_roundw
                    case rel => exact ⟨j + 1, by omega, by go_num, by rw [Hgi.out, Hd.out, if_pos ht'], bel_alloc_call hbi hb1, bel_alloc_call hbi' hb1⟩
                    case measure => simp [intOf]; omega
                · obtain rfl : j = cs.length := by omega
                  have Hg := Lib.hid (Hgood.out (by rw [Hre.out, Hgi.out, List.drop_length]; rfl))
                  go_wp2
                  go_roundw
                  case rel => exact ⟨k + 1, by omega, by go_num, Hg.out, hbi⟩
                  case measure => simp [intOf]; omega
        · obtain rfl : k = rs.length := by omega
          go_wp2
          go_ret
          exact ⟨ret_int (by rw [He.out, Hgo.out, List.drop_length]; rfl), hbw⟩
end Go.Proofs.YtkiipnbjckdlbaaGreatDoor
namespace Go.Proofs.YtkiipnbjckdlbaaGreatDoor
open Go.RowKit
attribute [local go_sem] gives givesUpon

theorem ruleT_ne : 80 ≠ 89 := by decide
/-- what the region of pair makes: both conds, joined; a rule of them. -/
def pairG (w0 : World) (ca cb : Value) (cs : List TCond) (vd : Int) (k : Nat) (vf : Nat → Value) (W : World) : Prop :=
  if k = 6 then NewRow w0.heap.size 78 2 #[ca, cb] (vf 6) W else if k = 7 then OwnSl W w0.heap.size 89 3 condR (vf 7) cs else if k = 14 then OwnSl W w0.heap.size 89 3 condR (vf 7) cs else if k = 15 then NewRow w0.heap.size 80 1 #[vf 7, .int .i64 vd] (vf 15) W ∧ OwnSl W w0.heap.size 89 3 condR (vf 7) cs else True
theorem pairG_keep {w0 w w' : World} {ca cb : Value} {cs : List TCond} {vd : Int} {k : Nat} {vf : Nat → Value} (hb : ∀ b, w0.heap.size ≤ b → b < w.heap.size → w'.heap[b]? = w.heap[b]?) (h : pairG w0 ca cb cs vd k vf w) : pairG w0 ca cb cs vd k vf w' := by
  unfold pairG at h ⊢
  split
  · rename_i e; rw [if_pos e] at h; exact h.keep hb
  · rename_i e
    rw [if_neg e] at h
    split
    · rename_i e2; rw [if_pos e2] at h; exact h.keepFrom hb
    · rename_i e2
      rw [if_neg e2] at h
      split
      · rename_i e3; rw [if_pos e3] at h; exact h.keepFrom hb
      · rename_i e3
        rw [if_neg e3] at h
        split
        · rename_i e4; rw [if_pos e4] at h; exact ⟨h.1.keep hb, h.2.keepFrom hb⟩
        · trivial
/-- two slices of conds, side by side in a block. -/
theorem two_conds {W : World} {b : Nat} {T : TypeId} {u v : Value} {p q : List TCond} (hb : W.heap[b]? = some (.cells #[u, v] T)) (hp : RdConds W (fun _ => True) u p) (hq : RdConds W (fun _ => True) v q) : Sl W (fun _ => True) 1 (rowsRCond W (fun _ => True)) (.slice (some ⟨b, 0, none⟩) 2 2) [p, q] :=
  sl_block (xs := [p, q]) (rows := [[u], [v]]) (RowsOf.cons (RowsOf.cons RowsOf.nil ⟨_, rfl, hq⟩ rfl) ⟨_, rfl, hp⟩ rfl) hb rfl trivial (by simp [maxLen])
theorem lenTo_two {α : Type} (p q : List α) : lenTo [p, q] [p, q].length = p.length + q.length := by simp [lenTo]
theorem nil_rules (w : World) (D : Nat → Prop) : RdRules w D (.slice none 0 0) [] := ⟨none, 0, rfl, Nat.le_refl _, by unfold maxLen; simp, fun _ => rfl, fun h => by cases h⟩
theorem pairs_take {of : Int → Int → Int} {l m : List TRule} {k : Nat} (h : k < l.length) : pairs of (l.take (k + 1)) m = pairs of (l.take k) m ++ m.map (pairRule of l[k]) := by
  unfold pairs
  rw [List.take_succ_eq_append_getElem h, List.flatMap_append]
  simp
theorem polsE_two (p q : TPol) : polsE [p, q] = if polE p = 0 then polE q else polE p := by
  simp only [polsE]
  split
  · rename_i h
    split
    · rename_i h2; exact h2.symm
    · rfl
  · rfl
theorem pairs_size {of : Int → Int → Int} {p q : TPol} (hp : OkPol p) (hq : OkPol q) (k : Nat) : (pairs of ((wholeOf p).take k) (wholeOf q)).length + (wholeOf q).length ≤ 20000 := by
  rw [pairs_len, List.length_take, wholeOf_len, wholeOf_len]
  have h1 := hp.len
  have h2 := hq.len
  have h3 : min k (p.rules.length + 1) * (q.rules.length + 1) ≤ 121 * 121 := Nat.mul_le_mul (by omega) (by omega)
  omega
theorem wholeOf_conds {p : TPol} (h : OkPol p) {r : TRule} (hr : r ∈ wholeOf p) : r.conds.length ≤ 10 := by
  unfold wholeOf at hr
  rcases List.mem_append.1 hr with hr | hr
  · exact (h.rules r hr).len
  · simp at hr; subst hr; simp

set_option maxRecDepth 100000 in
set_option maxHeartbeats 16000000 in
theorem pair_any (of : Int → Int → Int) (fn : FuncId) (hcf : ∀ (args : Array Value) (W : World), Sem.run Tryz.prog (callFunc fn args) W = .ok (.enter fn args) W) (hof : ∀ (a b : Int) (w : World), Calls Tryz.prog fn #[.int .i64 a, .int .i64 b] w fun e w' => e = .returned (.int .i64 (of a b)) ∧ w = w') (u v : Value) (p q : TPol) (w : World)
    (hp : RdRules w (fun _ => True) u p.rules) (hq : RdRules w (fun _ => True) v q.rules) :
    Calls Tryz.prog 81 #[polV u p.dflt, polV v q.dflt, .func (.func fn) #[] #[]] w fun e w' => ∃ r, e = .returned (.tuple #[polV r (pairE of p q).1.dflt, .int .i64 (pairE of p q).2]) ∧ RdRules w' (fun b => w.heap.size ≤ b ∧ NotPol w' b) r (pairE of p q).1.rules ∧ Below w.heap.size w w' := by
  have Hof := Lib.hid hof
  have Hcf := Lib.hid hcf
  have Hp := Lib.hid hp
  have Hq := Lib.hid hq
  obtain ⟨ap, cp, rfl, _⟩ := Sl.form hp
  obtain ⟨aq, cq, rfl, _⟩ := Sl.form hq
  clear hp hq hof hcf
  have hx0 : ∀ W : World, (Instr.index 140 (.agg #[.slice ap p.rules.length cp, .int .i64 p.dflt, .slice aq q.rules.length cq, .int .i64 q.dflt]) (.int .i64 0)).run Tryz.prog W = .ok (.agg #[.slice ap p.rules.length cp, .int .i64 p.dflt]) W := fun W => by kernel_rfl
  have hx1 : ∀ W : World, (Instr.index 140 (.agg #[.slice ap p.rules.length cp, .int .i64 p.dflt, .slice aq q.rules.length cq, .int .i64 q.dflt]) (.int .i64 1)).run Tryz.prog W = .ok (.agg #[.slice aq q.rules.length cq, .int .i64 q.dflt]) W := fun W => by kernel_rfl
  go_enter Tryz.func81, Tryz.ntmps81
  go_wp2_with fail
  go_loopw [21] (fun iv wr => ∃ i : Nat, iv = .int .i64 i ∧ i ≤ 2 ∧ (0 < i → polE p = 0) ∧ (1 < i → polE q = 0) ∧ Bx w [.cells #[.slice ap p.rules.length cp, .int .i64 p.dflt] 37, .cells #[.slice aq q.rules.length cq, .int .i64 q.dflt] 37, .cells #[.slice none 0 0, .int .i64 0] 37] wr) (fun iv _ => 2 - (intOf iv).toNat)
  case atStart => exact ⟨0, rfl, by omega, fun h => absurd h (by omega), fun h => absurd h (by omega), Bx.three⟩
  case round =>
    obtain ⟨i, rfl, hi, hpe, hqe, hB⟩ := hrel
    have HB := Lib.hid hB
    have Hpe := Lib.hid hpe
    have Hqe := Lib.hid hqe
    clear hB hpe hqe
    by_cases hlt : i < 2
    · rcases (by omega : i = 0 ∨ i = 1) with rfl | rfl
      · go_wp2_with fail
        refine (polcheck_any _ p (fun _ => True) _ (Hp.out.below (HB.out.alloc _).bel)).mono ?_
        rintro e w1 ⟨rfl, hb1⟩
        have HB1 := Lib.hid ((HB.out.alloc _).below hb1)
        clear hb1
        by_cases h0 : polE p = 0
        · have H0 := Lib.hid h0
          rw [h0]
          clear h0
          go_wp2
          go_roundw
          case rel => exact ⟨1, rfl, by omega, fun _ => H0.out, fun h => absurd h (by omega), HB1.out⟩
          case measure => simp [intOf]
        · have hb0 : (polE p != 0) = true := bne_iff_ne.2 h0
          have HE : Hid (pairE of p q = (zeroPol, polE p)) := by show pairE of p q = _; unfold pairE; rw [polsE_two, if_neg h0, if_pos h0]
          have hc2 := HB1.out.cells2
          have hf2 := HB1.out.free2
          have HB2 := Lib.hid (HB1.out.set (i := 2) rfl 0 (.slice none 0 0))
          have HB3 := Lib.hid (HB2.out.set (i := 2) rfl 1 (.int .i64 0))
          have hc3 := HB3.out.cells2
          clear h0
          go_wp2
          refine bodyPost_ret (v := .tuple #[polV (.slice none 0 0) 0, .int .i64 (polE p)]) ?_ rfl (by rw [HE.out]; exact ⟨_, rfl, nil_rules _ _, HB3.out.bel⟩)
          rw [results_cell_tmp rfl]
          go_simp
      · have H0 := Hpe.out (by omega)
        have H0 := Lib.hid H0
        go_wp2_with fail
        refine (polcheck_any _ q (fun _ => True) _ (Hq.out.below (HB.out.alloc _).bel)).mono ?_
        rintro e w1 ⟨rfl, hb1⟩
        have HB1 := Lib.hid ((HB.out.alloc _).below hb1)
        clear hb1
        by_cases h0 : polE q = 0
        · have H1 := Lib.hid h0
          rw [h0]
          clear h0
          go_wp2
          go_roundw
          case rel => exact ⟨2, rfl, by omega, fun _ => H0.out, fun _ => H1.out, HB1.out⟩
          case measure => simp [intOf]
        · have hb0 : (polE q != 0) = true := bne_iff_ne.2 h0
          have HE : Hid (pairE of p q = (zeroPol, polE q)) := by show pairE of p q = _; unfold pairE; rw [polsE_two, if_pos H0.out, if_pos h0]
          have hc2 := HB1.out.cells2
          have hf2 := HB1.out.free2
          have HB2 := Lib.hid (HB1.out.set (i := 2) rfl 0 (.slice none 0 0))
          have HB3 := Lib.hid (HB2.out.set (i := 2) rfl 1 (.int .i64 0))
          have hc3 := HB3.out.cells2
          clear h0
          go_wp2
          refine bodyPost_ret (v := .tuple #[polV (.slice none 0 0) 0, .int .i64 (polE q)]) ?_ rfl (by rw [HE.out]; exact ⟨_, rfl, nil_rules _ _, HB3.out.bel⟩)
          rw [results_cell_tmp rfl]
          go_simp
    · obtain rfl : i = 2 := by omega
      obtain ⟨wo, rfl⟩ : ∃ wo : World, wo = wr := ⟨_, rfl⟩
      have hokp := (okPol_iff p).1 (Hpe.out (by omega))
      have hokq := (okPol_iff q).1 (Hqe.out (by omega))
      have Hokp := Lib.hid hokp
      have Hokq := Lib.hid hokq
      have hlp := hokp.len
      have hlq := hokq.len
      have HBa := Lib.hid (HB.out.alloc (.cells #[.slice none 0 0, .int .i64 0] 37))
      have hbox := Lib.hid (heap_last wo (.cells #[.slice none 0 0, .int .i64 0] 37))
      have hc0 := HBa.out.cells0
      have htop := HB.out.top
      have htop' : w.heap.size + 3 ≤ wo.heap.size := htop
      clear hokp hokq htop
      go_wp2_with fail
      clear hc0
      refine (mwhole_any _ p (fun b => b < w.heap.size) _ ((rules_lt Hp.out).below HBa.out.bel) hlp).mono ?_
      rintro e wA ⟨vA, rfl, hoA, hbA⟩
      have HBA := Lib.hid (HBa.out.below hbA)
      have HboxA := Lib.hid (blk_below hbox.out hbA)
      have HA : Hid (RdRules wA (fun b => b ≠ wo.heap.size ∧ b < wA.heap.size) vA (wholeOf p)) := (rules_ne (B := wo.heap.size + 1) (β := wo.heap.size) (by have := hoA; simpa using this) hbA (by omega) (fun b hb => by omega)).keep (fun _ h hl => ⟨h, hl⟩) (fun _ _ _ => rfl) (Nat.le_refl _)
      have hszA : wo.heap.size + 1 ≤ wA.heap.size := by have := hbA.size; simpa using this
      obtain ⟨aA, cA, rfl⟩ := hoA.slice
      obtain ⟨i0, hi, hz0, hz1, hz2⟩ := info_parts infocRule
      have Hi := Lib.hid hi
      have hlA : (wholeOf p).length = p.rules.length + 1 := wholeOf_len p
      have hlB : (wholeOf q).length = q.rules.length + 1 := wholeOf_len q
      clear hoA hbA hi
      go_wp2_with fail
      go_loopw [34] (fun kv wk => ∃ (k : Nat) (pk : Value), kv = .int .i64 k ∧ k ≤ (wholeOf p).length ∧ GatherI wA.heap.size wo.heap.size (.int .i64 0) wA (.slice none 0 0) wk pk (pairs of ((wholeOf p).take k) (wholeOf q))) (fun kv _ => (wholeOf p).length - (intOf kv).toNat)
      case atStart => exact ⟨0, _, rfl, by omega, GatherI.start HboxA.out OwnSl.nil⟩
      case round =>
        obtain ⟨k, pk, rfl, hk, hG⟩ := hrel
        obtain ⟨wk, rfl⟩ : ∃ wk : World, wk = wr := ⟨_, rfl⟩
        have HG := Lib.hid hG
        clear hG
        have HAk : Hid (RdRules wk (fun b => b ≠ wo.heap.size ∧ b < wA.heap.size) (.slice aA (wholeOf p).length cA) (wholeOf p)) := HA.out.keep (fun _ h _ => h) (fun b hb hl => HG.out.blk b hl hb.1 (by simp [Value.ownBlock])) HG.out.size
        have HBk : Hid (Bx w [.cells #[.slice ap p.rules.length cp, .int .i64 p.dflt] 37, .cells #[.slice aq q.rules.length cq, .int .i64 q.dflt] 37, .cells #[.slice none 0 0, .int .i64 0] 37] wk) := HBA.out.lift (B := w.heap.size + 3) (HG.out.belowB (Below.refl _ _) (by omega) (by omega) (fun g hg => by simp [Value.ownBlock] at hg)) (by simp)
        have hszk := HG.out.size
        by_cases hlt : k < (wholeOf p).length
        · obtain ⟨ba, oa, rfl, hDa, hba⟩ := Sl.at_ HAk.out (by omega)
          obtain ⟨ca, cca, hca0, hca1, hra, hla, hma, _⟩ := RdRules.cells HAk.out hlt
          have Hmem := Lib.hid (List.getElem_mem hlt)
          have Htk := Lib.hid (pairs_take (of := of) (m := wholeOf q) hlt)
          obtain ⟨ra, hrae⟩ : ∃ ra, (wholeOf p)[k] = ra := ⟨_, rfl⟩
          rw [hrae] at hca0 hca1 hra hla Hmem Htk
          have Hra := Lib.hid hra
          have hcl := wholeOf_conds Hokp.out Hmem.out
          have HBx := Lib.hid (HBk.out.alloc (.cells #[.slice ca ra.conds.length cca, .int .i64 ra.verdict] 80))
          have hc1 := HBx.out.cells1
          clear hra hrae
          go_wp2_with fail
          clear hc1 hca0 hca1
          refine (mwhole_any _ q (fun b => b < w.heap.size) _ ((rules_lt Hq.out).below HBx.out.bel) hlq).mono ?_
          rintro e wB ⟨vB, rfl, hoB, hbB⟩
          have HGB := Lib.hid ((HG.out.below (bel_alloc (Below.refl _ _) (.cells #[.slice ca ra.conds.length cca, .int .i64 ra.verdict] 80))).below hbB)
          have H13B : Hid (wB.heap[wk.heap.size]? = some (.cells #[.slice ca ra.conds.length cca, .int .i64 ra.verdict] 80)) := blk_below (heap_last _ _) hbB
          have HraB : Hid (RdConds wB (fun b => b ≠ wo.heap.size ∧ b < wA.heap.size) (.slice ca ra.conds.length cca) ra.conds) := Hra.out.below (bel_call (bel_alloc (Below.refl _ _) _) hbB)
          have HBv : Hid (RdRules wB (fun b => b ≠ wo.heap.size ∧ (b < w.heap.size ∨ wk.heap.size + 1 ≤ b)) vB (wholeOf q)) := by
            have h1 := hoB
            simp only [World.size_alloc] at h1
            exact (h1.monoR fun _ _ _ ⟨u, e1, e2⟩ => ⟨u, e1, e2.keep (fun b hd _ => ⟨by omega, .inl hd⟩) (fun b _ hl => hbB.block b hl) hbB.size⟩).sl fun b hb' => ⟨by omega, .inr hb'⟩
          have hszB : wk.heap.size + 1 ≤ wB.heap.size := by have := hbB.size; simpa using this
          obtain ⟨aB, cB, rfl⟩ := hoB.slice
          have Hpk : Hid (∀ g, pk.ownBlock = some g → g < wk.heap.size ∧ wA.heap.size ≤ g) := fun g hg => by
            obtain ⟨rows, _, ho⟩ := HG.out.own
            exact ⟨(ho.lt g hg).2, (ho.lt g hg).1⟩
          clear hoB hbB
          go_wp2_with fail
          go_loopw [41] (fun jv wj => ∃ (j : Nat) (pj : Value), jv = .int .i64 j ∧ j ≤ (wholeOf q).length ∧ GatherI wA.heap.size wo.heap.size (.int .i64 0) wB pk wj pj (pairs of ((wholeOf p).take k) (wholeOf q) ++ ((wholeOf q).take j).map (pairRule of ra))) (fun jv _ => (wholeOf q).length - (intOf jv).toNat)
          case atStart => exact ⟨0, _, rfl, by omega, by simpa using GatherI.start HGB.out.box HGB.out.own⟩
          case round =>
            obtain ⟨j, pv, rfl, hj, hJ⟩ := hrel
            obtain ⟨wj, rfl⟩ : ∃ wj : World, wj = wr := ⟨_, rfl⟩
            have HJ := Lib.hid hJ
            clear hJ
            have hszj := HJ.out.size
            by_cases hjt : j < (wholeOf q).length
            · have HBj : Hid (RdRules wj (fun b => b ≠ wo.heap.size ∧ (b < w.heap.size ∨ wk.heap.size + 1 ≤ b)) (.slice aB (wholeOf q).length cB) (wholeOf q)) := HBv.out.keep (fun _ h _ => h) (fun b hb hl => HJ.out.blk b hl hb.1 (fun e => by have := Hpk.out b e.symm; omega)) HJ.out.size
              obtain ⟨bb, ob, rfl, hDb, hbb⟩ := Sl.at_ HBj.out (by omega)
              obtain ⟨cb, ccb, hcb0, hcb1, hrb, hlb, hmb, _⟩ := RdRules.cells HBj.out hjt
              have Hmemb := Lib.hid (List.getElem_mem hjt)
              have Htj := Lib.hid (List.take_succ_eq_append_getElem hjt)
              obtain ⟨rb, hrbe⟩ : ∃ rb, (wholeOf q)[j] = rb := ⟨_, rfl⟩
              rw [hrbe] at hcb0 hcb1 hrb hlb Hmemb Htj
              have hcm := wholeOf_conds Hokq.out Hmemb.out
              have Hlen := Lib.hid (pairs_size (of := of) Hokp.out Hokq.out k)
              obtain ⟨rs, hrs⟩ : ∃ rs, pairs of ((wholeOf p).take k) (wholeOf q) ++ ((wholeOf q).take j).map (pairRule of ra) = rs := ⟨_, rfl⟩
              have hrl : rs.length ≤ 20000 := by rw [← hrs, List.length_append, List.length_map, List.length_take]; have := Hlen.out; omega
              have Hrs := Lib.hid hrs
              rw [hrs] at HJ
              have H15 : Hid ((wj.alloc (.cells #[.slice cb rb.conds.length ccb, .int .i64 rb.verdict] 80)).heap[wj.heap.size]? = some (.cells #[.slice cb rb.conds.length ccb, .int .i64 rb.verdict] 80)) := heap_last _ _
              have H13 : Hid ((wj.alloc (.cells #[.slice cb rb.conds.length ccb, .int .i64 rb.verdict] 80)).heap[wk.heap.size]? = some (.cells #[.slice ca ra.conds.length cca, .int .i64 ra.verdict] 80)) := blk_old ((HJ.out.blk wk.heap.size (by omega) (by omega) (fun e => by have := Hpk.out _ e.symm; omega)).trans H13B.out)
              have Hra0 : Hid (RdConds (wj.alloc (.cells #[.slice cb rb.conds.length ccb, .int .i64 rb.verdict] 80)) (fun b => b ≠ wo.heap.size) (.slice ca ra.conds.length cca) ra.conds) := (HraB.out.keep (D' := fun b => b ≠ wo.heap.size) (fun _ h _ => h.1) (fun b hb hl => HJ.out.blk b hl hb.1 (fun e => by have := Hpk.out b e.symm; omega)) HJ.out.size).below (bel_alloc (Below.refl _ _) _)
              have Hrb0 : Hid (RdConds (wj.alloc (.cells #[.slice cb rb.conds.length ccb, .int .i64 rb.verdict] 80)) (fun b => b ≠ wo.heap.size) (.slice cb rb.conds.length ccb) rb.conds) := (hrb.keep (D' := fun b => b ≠ wo.heap.size) (fun _ h _ => h.1) (fun _ _ _ => rfl) (Nat.le_refl _)).below (bel_alloc (Below.refl _ _) _)
              have Hbox0 : Hid ((wj.alloc (.cells #[.slice cb rb.conds.length ccb, .int .i64 rb.verdict] 80)).heap[wo.heap.size]? = some (.cells #[pv, .int .i64 0] 37)) := blk_old HJ.out.box
              obtain ⟨rows, hro, hrow⟩ := HJ.out.own
              have Hcv : Hid (∀ g, pv.ownBlock = some g → g ≠ wo.heap.size) := fun g hg => by have := (hrow.lt g hg).1; omega
              have Hro := Lib.hid hro
              have Hrow : Hid ((wj.alloc (.cells #[.slice cb rb.conds.length ccb, .int .i64 rb.verdict] 80)).ownsRow wA.heap.size 80 2 pv rs.length rows.flatten) := ownsRow_keep1 hrow fun b _ hl _ => (bel_alloc (Below.refl wj.heap.size wj) _).block b hl
              have Hβ0 : Hid (wo.heap.size < (wj.alloc (.cells #[.slice cb rb.conds.length ccb, .int .i64 rb.verdict] 80)).heap.size) := by show _ < _; simp; omega
              have H13lt : Hid (wk.heap.size < (wj.alloc (.cells #[.slice cb rb.conds.length ccb, .int .i64 rb.verdict] 80)).heap.size) := by show _ < _; simp; omega
              have H13ne : Hid (wk.heap.size ≠ wo.heap.size) := by show _ ≠ _; omega
              have H15lt : Hid (wj.heap.size < (wj.alloc (.cells #[.slice cb rb.conds.length ccb, .int .i64 rb.verdict] 80)).heap.size) := by show _ < _; simp
              have H15ne : Hid (wj.heap.size ≠ wo.heap.size) := by show _ ≠ _; omega
              have HwA : Hid (wA.heap.size ≤ (wj.alloc (.cells #[.slice cb rb.conds.length ccb, .int .i64 rb.verdict] 80)).heap.size) := by show _ ≤ _; simp; omega
              obtain ⟨vd, hvd⟩ : ∃ vd, of ra.verdict rb.verdict = vd := ⟨_, rfl⟩
              have Hvd := Lib.hid hvd
              clear hrs hrbe hro hrow hvd hrb
              go_wp2_with fail
              clear hcb0 hcb1
              revert H15 H13 Hra0 Hrb0 Hbox0 Hrow Hβ0 H13lt H15lt HwA
              obtain ⟨w0, hw0⟩ : ∃ w0, wj.alloc (.cells #[.slice cb rb.conds.length ccb, .int .i64 rb.verdict] 80) = w0 := ⟨_, rfl⟩
              have HbJ : Hid (Below wj.heap.size wj w0) := by show Below _ _ _; rw [← hw0]; exact bel_alloc (Below.refl _ _) _
              rw [hw0]
              clear hw0
              intro H15 H13 Hra0 Hrb0 Hbox0 Hrow Hβ0 H13lt H15lt HwA
              refine wp_region_apr wo.heap.size 37 #[pv, .int .i64 0] 0 wA.heap.size 80 2 pv rs.length rows.flatten 1 (fun vf => [vf 7, .int .i64 vd]) 16 18 (pairG w0 (.slice ca ra.conds.length cca) (.slice cb rb.conds.length ccb) (ra.conds ++ rb.conds) vd) (by kernel_rfl) (by kernel_rfl) _ rfl Hbox0.out Hrow.out (by omega) Hcv.out (by decide) (by decide) (fun k vf w1 w2 hb _ h => pairG_keep hb h)
                (fun k f g w1 hfg hk h => by
                  unfold pairG at h ⊢
                  split
                  · rename_i e; subst e; rw [if_pos rfl, hk] at h; exact h
                  · rename_i e
                    rw [if_neg e] at h
                    split
                    · rename_i e2; subst e2; rw [if_pos rfl, hk] at h; exact h
                    · rename_i e2
                      rw [if_neg e2] at h
                      split
                      · rename_i e3; subst e3; rw [if_pos rfl, hfg 7 (by decide)] at h; exact h
                      · rename_i e3
                        rw [if_neg e3] at h
                        split
                        · rename_i e4; subst e4; rw [if_pos rfl, hk, hfg 7 (by decide)] at h; exact h
                        · trivial) (fun f g h => by show [f 7, _] = [g 7, _]; rw [h 7 (by decide)]) ?_
              (refine rel_ex (fun K hK => ?_); apply Exists.intro; refine ⟨fun done vf W hI h0 hd hn hf R hR => ?_, ?_, ?_⟩; (clear h0 hd hn hf; go_simp; exact hR _ _ (hI.step (Below.refl _ _) (by decide) (by decide) Hβ0.out) (ApT.of_below (Below.refl _ _)) rfl trivial); exact (fun _ _ _ => rfl); (go_simp; refine hK _ ?_; clear hK K))
              (refine rel_ex (fun K hK => ?_); apply Exists.intro; refine ⟨fun done vf W hI h0 hd hn hf R hR => ?_, ?_, ?_⟩; (have hcell := cells_of (hI.before (hn 18 (by decide))); clear h0 hd hn hf; go_simp; exact hR _ _ (hI.step (Below.refl _ _) (by decide) (by decide) Hβ0.out) (ApT.of_below (Below.refl _ _)) rfl trivial); exact (fun _ _ _ => rfl); (go_simp; refine hK _ ?_; clear hK K))
              (refine rel_ex (fun K hK => ?_); apply Exists.intro; refine ⟨fun done vf W hI h0 hd hn hf R hR => ?_, ?_, ?_⟩; (clear h0 hd hn hf; go_simp; exact hR _ _ (hI.step (Below.refl _ _) (by decide) (by decide) Hβ0.out) (ApT.of_below (Below.refl _ _)) rfl trivial); exact (fun _ _ _ => rfl); (go_simp; refine hK _ ?_; clear hK K))
              (refine rel_ex (fun K hK => ?_); apply Exists.intro; refine ⟨fun done vf W hI h0 hd hn hf R hR => ?_, ?_, ?_⟩; (have hcell := cells_of ((hI.old (hn 16 (by decide)) _ H13lt.out H13ne.out).trans H13.out); clear h0 hd hn hf; go_simp; exact hR _ _ (hI.step (Below.refl _ _) (by decide) (by decide) Hβ0.out) (ApT.of_below (Below.refl _ _)) rfl trivial); exact (fun _ _ _ => rfl); (go_simp; refine hK _ ?_; clear hK K))
              (refine rel_ex (fun K hK => ?_); apply Exists.intro; refine ⟨fun done vf W hI h0 hd hn hf R hR => ?_, ?_, ?_⟩; (clear h0 hd hn hf; go_simp; exact hR _ _ (hI.step (Below.refl _ _) (by decide) (by decide) Hβ0.out) (ApT.of_below (Below.refl _ _)) rfl trivial); exact (fun _ _ _ => rfl); (go_simp; refine hK _ ?_; clear hK K))
              (refine rel_ex (fun K hK => ?_); apply Exists.intro; refine ⟨fun done vf W hI h0 hd hn hf R hR => ?_, ?_, ?_⟩; (have hcell := cells_of ((hI.old (hn 16 (by decide)) _ H15lt.out H15ne.out).trans H15.out); clear h0 hd hn hf; go_simp; exact hR _ _ (hI.step (Below.refl _ _) (by decide) (by decide) Hβ0.out) (ApT.of_below (Below.refl _ _)) rfl trivial); exact (fun _ _ _ => rfl); (go_simp; refine hK _ ?_; clear hK K))
              (refine rel_pr (fun K hK => ?_); refine ⟨fun done vf W hI h0 hd hn hf R hR => ?_, ?_⟩; (clear h0 hd hn hf; go_simp; exact hR _ _ (hI.step (bel_alloc (Below.refl _ _) _) (by decide) (by decide) Hβ0.out) (ApT.of_below (bel_alloc (Below.refl _ _) _)) trivial ⟨_, rfl, hI.size, heap_last _ _⟩); (go_simp; refine hK _ ?_; clear hK K))
              (refine rel_pr (fun K hK => ?_); refine ⟨fun done vf W hI h0 hd hn hf R hR => ?_, ?_⟩; (have h6 : NewRow w0.heap.size 78 2 #[.slice ca ra.conds.length cca, .slice cb rb.conds.length ccb] (vf 6) W := hf 6 (hd 6 (by decide)); obtain ⟨b6, h6, hb6, hc6⟩ := h6; have Hc6 := Lib.hid hc6; have HW := Lib.hid (hI.old (hn 16 (by decide))); have Hsz := Lib.hid hI.size; clear h0 hd hn hf hc6; go_simp; go_at_call 90; refine (concatCond_any (.slice (some ⟨b6, 0, none⟩) 2 2) [ra.conds, rb.conds] (fun _ => True) W (two_conds Hc6.out (Hra0.out.keep (fun _ _ _ => trivial) (fun b hb hl => HW.out b hl hb) Hsz.out) (Hrb0.out.keep (fun _ _ _ => trivial) (fun b hb hl => HW.out b hl hb) Hsz.out)) (by rw [lenTo_two]; omega)).mono ?_; (rintro e w5 ⟨v5, rfl, ho5, hb5⟩; exact ⟨_, rfl, hR _ _ (hI.step hb5 (by decide) (by decide) Hβ0.out) (ApT.of_below hb5) trivial (show OwnSl w5 w0.heap.size 89 3 condR v5 (ra.conds ++ rb.conds) by have := ho5.base Hsz.out; simpa using this)⟩)); (go_simp; refine hK _ ?_; clear hK K))
              (refine rel_ex (fun K hK => ?_); apply Exists.intro; refine ⟨fun done vf W hI h0 hd hn hf R hR => ?_, ?_, ?_⟩; (clear h0 hd hn hf; go_simp; exact hR _ _ (hI.step (Below.refl _ _) (by decide) (by decide) Hβ0.out) (ApT.of_below (Below.refl _ _)) rfl trivial); exact (fun _ _ _ => rfl); (go_simp; refine hK _ ?_; clear hK K))
              (refine rel_ex (fun K hK => ?_); apply Exists.intro; refine ⟨fun done vf W hI h0 hd hn hf R hR => ?_, ?_, ?_⟩; (clear h0 hd hn hf; go_simp; exact hR _ _ (hI.step (Below.refl _ _) (by decide) (by decide) Hβ0.out) (ApT.of_below (Below.refl _ _)) rfl trivial); exact (fun _ _ _ => rfl); (go_simp; refine hK _ ?_; clear hK K))
              (refine rel_ex (fun K hK => ?_); apply Exists.intro; refine ⟨fun done vf W hI h0 hd hn hf R hR => ?_, ?_, ?_⟩; (have hcell := cells_of ((hI.old (hn 16 (by decide)) _ H13lt.out H13ne.out).trans H13.out); clear h0 hd hn hf; go_simp; exact hR _ _ (hI.step (Below.refl _ _) (by decide) (by decide) Hβ0.out) (ApT.of_below (Below.refl _ _)) rfl trivial); exact (fun _ _ _ => rfl); (go_simp; refine hK _ ?_; clear hK K))
              (refine rel_ex (fun K hK => ?_); apply Exists.intro; refine ⟨fun done vf W hI h0 hd hn hf R hR => ?_, ?_, ?_⟩; (clear h0 hd hn hf; go_simp; exact hR _ _ (hI.step (Below.refl _ _) (by decide) (by decide) Hβ0.out) (ApT.of_below (Below.refl _ _)) rfl trivial); exact (fun _ _ _ => rfl); (go_simp; refine hK _ ?_; clear hK K))
              (refine rel_ex (fun K hK => ?_); apply Exists.intro; refine ⟨fun done vf W hI h0 hd hn hf R hR => ?_, ?_, ?_⟩; (have hcell := cells_of ((hI.old (hn 16 (by decide)) _ H15lt.out H15ne.out).trans H15.out); clear h0 hd hn hf; go_simp; exact hR _ _ (hI.step (Below.refl _ _) (by decide) (by decide) Hβ0.out) (ApT.of_below (Below.refl _ _)) rfl trivial); exact (fun _ _ _ => rfl); (go_simp; refine hK _ ?_; clear hK K))
              (refine rel_ex (fun K hK => ?_); apply Exists.intro; refine ⟨fun done vf W hI h0 hd hn hf R hR => ?_, ?_, ?_⟩; (have hcf := Hcf.out; clear h0 hd hn hf; go_simp; refine (Hof.out _ _ _).mono ?_; rintro e w5 ⟨rfl, rfl⟩; exact ⟨_, rfl, hR _ _ (hI.step (Below.refl _ _) (by decide) (by decide) Hβ0.out) (ApT.of_below (Below.refl _ _)) rfl trivial⟩); exact (fun _ _ _ => rfl); (go_simp; refine hK _ ?_; clear hK K))
              (refine rel_ex (fun K hK => ?_); refine ⟨fun vf => .agg #[vf 7, .int .i64 vd], fun done vf W hI h0 hd hn hf R hR => ?_, ?_, ?_⟩; (have h7 : OwnSl W w0.heap.size 89 3 condR (vf 7) (ra.conds ++ rb.conds) := hf 7 (hd 7 (by decide)); have h7k := h7; obtain ⟨a7, c7, h7⟩ := h7.slice; generalize (ra.conds ++ rb.conds).length = n7 at h7; clear h0 hd hn hf; go_simp; exact hR _ _ (hI.step (Below.refl _ _) (by decide) (by decide) Hβ0.out) (ApT.of_below (Below.refl _ _)) (by show _ = Value.agg #[vf 7, .int .i64 vd]; rw [h7, ← Hvd.out]) h7k); exact (fun f g h => by show Value.agg #[f 7, _] = Value.agg #[g 7, _]; rw [h 7 (by decide)]); (go_simp; refine hK _ ?_; clear hK K))
              (refine rel_pr (fun K hK => ?_); refine ⟨fun done vf W hI h0 hd hn hf R hR => ?_, ?_⟩; (have h7 : OwnSl W w0.heap.size 89 3 condR (vf 7) (ra.conds ++ rb.conds) := hf 14 (hd 14 (by decide)); have H7k := Lib.hid h7; obtain ⟨a7, c7, h7⟩ := h7.slice; generalize (ra.conds ++ rb.conds).length = n7 at h7; have H7 := Lib.hid h7; clear h0 hd hn hf; go_simp; exact hR _ _ (hI.step (bel_alloc (Below.refl _ _) _) (by decide) (by decide) Hβ0.out) (ApT.of_below (bel_alloc (Below.refl _ _) _)) trivial ⟨⟨_, rfl, hI.size, by rw [heap_last]; show some (Obj.cells #[.slice a7 n7 c7, .int .i64 vd] _) = some (Obj.cells #[vf 7, .int .i64 vd] _); rw [H7.out]⟩, H7k.out.below (bel_alloc (Below.refl _ _) _)⟩); (go_simp; refine hK _ ?_; clear hK K))
              (refine rel_pr (fun K hK => ?_); refine ⟨fun done vf W hI h0 hd hn hf R hR => ?_, ?_⟩; (have h15 : NewRow w0.heap.size 80 1 #[vf 7, .int .i64 vd] (vf 15) W ∧ OwnSl W w0.heap.size 89 3 condR (vf 7) (ra.conds ++ rb.conds) := hf 15 (hd 15 (by decide)); obtain ⟨⟨bn, hbv, hbn, hcn⟩, h7⟩ := h15; obtain ⟨a7, c7, h7⟩ := h7.slice; refine ob_plain rfl ?_; refine gives_append_at (.tmp 46) (.tmp 60) 35 rfl wA.heap.size 80 i0 _ 2 32 Tryz.underlying35 Hi.out hz0 hz1 hz2 rfl (by omega) pv rs.length rows.flatten (by rfl) (hI.own h0) ⟨bn, 0, none⟩ 1 1 [vf 7, .int .i64 vd] (by exact hbv) (by rfl) (World.news_of_block hcn) (by rw [h7]; simp [Value.oneCell']) (by omega) (by unfold maxLen; omega) (by omega) (by have := hI.size; have := HwA.out; omega) (fun v' w' h1 h2 h3 => hR _ _ (hI.appended (hn 18 (by decide)) Hcv.out h2 Hβ0.out) (ApT.of_grown h2) trivial ⟨by exact h1, by rcases h3 with h3 | h3; exact .inl h3; exact .inr (fun g hg => by have h9 : v'.ownBlock = some g := hg; rw [h3] at h9; injection h9 with h9; have := hI.size; omega)⟩)); (go_simp; refine hK _ ?_; clear hK K))
              (refine rel_ex (fun K hK => ?_); apply Exists.intro; refine ⟨fun done vf W hI h0 hd hn hf R hR => ?_, ?_, ?_⟩; (clear h0 hd hn hf; go_simp; exact hR _ _ (hI.step (Below.refl _ _) (by decide) (by decide) Hβ0.out) (ApT.of_below (Below.refl _ _)) rfl trivial); exact (fun _ _ _ => rfl); (go_simp; refine hK _ ?_; clear hK K))
              (refine rel_ex (fun K hK => ?_); apply Exists.intro; refine ⟨fun done vf W hI h0 hd hn hf R hR => ?_, ?_, ?_⟩; (have h16 : W.ownsRow wA.heap.size 80 2 (vf 16) (rs.length + 1) (rows.flatten ++ [vf 7, .int .i64 vd]) ∧ _ := hf 16 (hd 16 (by decide)); obtain ⟨gv, cpv, hv16, _, _⟩ := World.ownsRow.form h16.1 (by omega); have hst := hI.stored (off := 0) (v := vf 16) (hd 16 (by decide)) (by decide); have hbf := hI.before h0; have hcb := cells_of hbf; have hfb := not_frozen hbf; have Hst := Lib.hid hst; have Hset := Lib.hid (set_at (o := 0) (v := vf 16) hbf); have H16 := Lib.hid hv16; clear hd hn hf h16 hst hbf; go_simp; rw [← H16.out]; exact hR _ _ Hst.out ApT.of_store rfl Hset.out); exact (fun _ _ _ => rfl); (go_simp; refine hK _ ?_; clear hK K))
              intro done vf W hd hI hF
              have h7 : OwnSl W w0.heap.size 89 3 condR (vf 7) (ra.conds ++ rb.conds) := hF 7 (by decide)
              have h16 : W.ownsRow wA.heap.size 80 2 (vf 16) (rs.length + 1) (rows.flatten ++ [vf 7, .int .i64 vd]) ∧ ((vf 16).ownBlock = pv.ownBlock ∨ ∀ g, (vf 16).ownBlock = some g → w0.heap.size ≤ g) := hF 16 (by decide)
              have h18 : W.heap[wo.heap.size]? = some (.cells (#[pv, .int .i64 0].setIfInBounds 0 (vf 16)) 37) := hF 18 (by decide)
              have HN := Lib.hid (GatherI.step HJ.out HbJ.out (by omega) HwA.out hI Hro.out h16.1 h16.2 h18 h7 ruleT_ne)
              clear hd hI hF h7 h16 h18
              go_wp2
              go_roundw
              case rel => exact ⟨j + 1, vf 16, by go_num, by omega, by rw [Htj.out, List.map_append, ← List.append_assoc, Hrs.out]; have := HN.out; rw [← Hvd.out] at this; exact this⟩
              case measure => simp [intOf]; omega
            · obtain rfl : j = (wholeOf q).length := by omega
              have HN := Lib.hid (HGB.out.trans HJ.out)
              go_wp2
              go_roundw
              case rel => exact ⟨k + 1, pv, by go_num, by omega, by rw [Htk.out]; have := HN.out; rw [List.take_length] at this; exact this⟩
              case measure => simp [intOf]; omega
        · obtain rfl : k = (wholeOf p).length := by omega
          obtain ⟨P, hP⟩ : ∃ P, pairPol of p q = P := ⟨_, rfl⟩
          obtain ⟨vD, hvD⟩ : ∃ vD, of p.dflt q.dflt = vD := ⟨_, rfl⟩
          have hPd : P.dflt = vD := by rw [← hP, ← hvD]; rfl
          have HL : Hid (RdRules wk (fun b => wA.heap.size ≤ b ∧ NotPol wk b) pk (P.rules ++ [⟨[], vD⟩])) := by
            have := HG.out.rules
            rw [List.take_length, pairs_last, hP, hvD] at this
            exact this
          have HPl := Lib.hid (pairPol_len of p q)
          rw [hP] at HPl
          have HPE : Hid (pairE of p q = if polE P = 0 then (P, 0) else (zeroPol, polE P)) := by
            show pairE of p q = _
            unfold pairE
            rw [polsE_two, if_pos (Hpe.out (by omega)), Hqe.out (by omega), if_neg (by simp), hP]
            by_cases h : polE P = 0
            · rw [if_neg (by simp [h]), if_pos h]
            · rw [if_pos h, if_neg h]
          obtain ⟨n, hn⟩ : ∃ n, P.rules.length = n := ⟨_, rfl⟩
          have hlen : (P.rules ++ [(⟨[], vD⟩ : TRule)]).length = n + 1 := by simp [hn]
          obtain ⟨aP, cP, hpk, hcP, hcM, _⟩ := Sl.form HL.out
          rw [hlen] at hpk hcP
          subst hpk
          obtain ⟨bP, oP, rfl, hDP, hbP⟩ := Sl.at_ HL.out (by rw [hlen]; omega)
          obtain ⟨cx, ccx, _, hv1, _⟩ := RdRules.cells HL.out (i := n) (by rw [hlen]; omega)
          have hget : (P.rules ++ [(⟨[], vD⟩ : TRule)])[n]'(by rw [hlen]; omega) = ⟨[], vD⟩ := by
            rw [List.getElem_append_right (by omega)]
            simp
          rw [hget] at hv1
          have hcb := cells_of HG.out.box
          have hfb := not_frozen HG.out.box
          have hs1 := cells_of (set_at (o := 1) (v := .int .i64 vD) HG.out.box)
          have hfb1 := not_frozen (set_at (o := 1) (v := .int .i64 vD) HG.out.box)
          have Hst : Hid (((wk.setCell ⟨wo.heap.size, 1, none⟩ (.int .i64 vD)).setCell ⟨wo.heap.size, 0, none⟩ (.slice (some ⟨bP, oP, none⟩) n cP)).heap[wo.heap.size]? = some (.cells #[.slice (some ⟨bP, oP, none⟩) n cP, .int .i64 vD] 37)) := set_at (set_at HG.out.box)
          have hs2 := cells_of Hst.out
          have Hbs : Hid (Below wo.heap.size wk ((wk.setCell ⟨wo.heap.size, 1, none⟩ (.int .i64 vD)).setCell ⟨wo.heap.size, 0, none⟩ (.slice (some ⟨bP, oP, none⟩) n cP))) := set_below (set_below (Below.refl _ _) (Nat.le_refl _)) (Nat.le_refl _)
          have HR2 : Hid (RdRules ((wk.setCell ⟨wo.heap.size, 1, none⟩ (.int .i64 vD)).setCell ⟨wo.heap.size, 0, none⟩ (.slice (some ⟨bP, oP, none⟩) n cP)) (fun b => wA.heap.size ≤ b ∧ NotPol ((wk.setCell ⟨wo.heap.size, 1, none⟩ (.int .i64 vD)).setCell ⟨wo.heap.size, 0, none⟩ (.slice (some ⟨bP, oP, none⟩) n cP)) b) (.slice (some ⟨bP, oP, none⟩) n cP) P.rules) := by
            have h1 : RdRules wk (fun b => wA.heap.size ≤ b ∧ NotPol wk b) (.slice (some ⟨bP, oP, none⟩) n cP) ((P.rules ++ [(⟨[], vD⟩ : TRule)]).take n) := Sl.take HL.out (by omega)
            rw [← hn, List.take_left' rfl, hn] at h1
            have hsame : ∀ b, wA.heap.size ≤ b → ((wk.setCell ⟨wo.heap.size, 1, none⟩ (.int .i64 vD)).setCell ⟨wo.heap.size, 0, none⟩ (.slice (some ⟨bP, oP, none⟩) n cP)).heap[b]? = wk.heap[b]? := fun b hb => by rw [set_other (by show b ≠ wo.heap.size; omega), set_other (by show b ≠ wo.heap.size; omega)]
            exact h1.keep (fun b h _ => ⟨h.1, h.2.keep (hsame b h.1)⟩) (fun b hb _ => hsame b hb.1) (by rw [set_size, set_size]; exact Nat.le_refl _)
          have HB2 := Lib.hid (HBk.out.lift (B := w.heap.size + 3) (Hbs.out.mono (by omega)) (by simp))
          have Hn := Lib.hid hn
          have Hpd := Lib.hid hPd
          have Hsz2 : Hid (wo.heap.size < ((wk.setCell ⟨wo.heap.size, 1, none⟩ (.int .i64 vD)).setCell ⟨wo.heap.size, 0, none⟩ (.slice (some ⟨bP, oP, none⟩) n cP)).heap.size) := by show _ < _; rw [set_size, set_size]; omega
          clear hget hP hvD hPd
          go_wp2_with fail
          clear hcb hfb hs1 hfb1 hs2 hv1
          revert Hst Hbs HR2 HB2 Hsz2
          generalize ((wk.setCell ⟨wo.heap.size, 1, none⟩ (.int .i64 vD)).setCell ⟨wo.heap.size, 0, none⟩ (.slice (some ⟨bP, oP, none⟩) n cP)) = wz
          intro Hst Hbs HR2 HB2 Hsz2
          have HC : Hid (Calls Tryz.prog 64 #[polV (.slice (some ⟨bP, oP, none⟩) n cP) vD] wz fun e w' => e = .returned (.int .i64 (polE P)) ∧ Below wz.heap.size wz w') := by
            have := polcheck_any (.slice (some ⟨bP, oP, none⟩) n cP) P _ wz HR2.out
            rw [Hpd.out] at this
            exact this
          refine HC.out.mono ?_
          rintro e w6 ⟨rfl, hb6⟩
          have HB6 := Lib.hid (HB2.out.below hb6)
          have Hst6 := Lib.hid (blk_below Hst.out hb6)
          have HR6 : Hid (RdRules w6 (fun b => wA.heap.size ≤ b ∧ NotPol w6 b) (.slice (some ⟨bP, oP, none⟩) n cP) P.rules) := HR2.out.keep (fun b h hl => ⟨h.1, h.2.keep (hb6.block b hl)⟩) (fun b _ hl => hb6.block b hl) hb6.size
          clear hb6
          have hc2 := HB6.out.cells2
          have hf2 := HB6.out.free2
          by_cases h0 : polE P = 0
          · have HE : Hid (pairE of p q = (P, 0)) := by show pairE of p q = _; rw [HPE.out, if_pos h0]
            rw [h0]
            have hcb := cells_of Hst6.out
            have HB7 := Lib.hid (HB6.out.set (i := 2) rfl 0 (.slice (some ⟨bP, oP, none⟩) n cP))
            have HB8 := Lib.hid (HB7.out.set (i := 2) rfl 1 (.int .i64 vD))
            have hc3 := HB8.out.cells2
            have HR8 : Hid (RdRules ((w6.setCell ⟨w.heap.size + 2, 0, none⟩ (.slice (some ⟨bP, oP, none⟩) n cP)).setCell ⟨w.heap.size + 2, 1, none⟩ (.int .i64 vD)) (fun b => w.heap.size ≤ b ∧ NotPol ((w6.setCell ⟨w.heap.size + 2, 0, none⟩ (.slice (some ⟨bP, oP, none⟩) n cP)).setCell ⟨w.heap.size + 2, 1, none⟩ (.int .i64 vD)) b) (.slice (some ⟨bP, oP, none⟩) n cP) P.rules) := by
              have hsame : ∀ b, wA.heap.size ≤ b → ((w6.setCell ⟨w.heap.size + 2, 0, none⟩ (.slice (some ⟨bP, oP, none⟩) n cP)).setCell ⟨w.heap.size + 2, 1, none⟩ (.int .i64 vD)).heap[b]? = w6.heap[b]? := fun b hb => by rw [set_other (by show b ≠ w.heap.size + 2; omega), set_other (by show b ≠ w.heap.size + 2; omega)]
              exact HR6.out.keep (fun b h _ => ⟨by have := h.1; omega, h.2.keep (hsame b h.1)⟩) (fun b hb _ => hsame b hb.1) (by rw [set_size, set_size]; exact Nat.le_refl _)
            clear h0
            go_wp2
            refine bodyPost_ret (v := .tuple #[polV (.slice (some ⟨bP, oP, none⟩) n cP) vD, .int .i64 0]) ?_ rfl (by rw [HE.out]; exact ⟨_, by rw [Hpd.out], HR8.out, HB8.out.bel⟩)
            rw [results_cell_tmp rfl]
            go_simp
          · have hb0 : (polE P != 0) = true := bne_iff_ne.2 h0
            have HE : Hid (pairE of p q = (zeroPol, polE P)) := by show pairE of p q = _; rw [HPE.out, if_neg h0]
            have HB7 := Lib.hid (HB6.out.set (i := 2) rfl 0 (.slice none 0 0))
            have HB8 := Lib.hid (HB7.out.set (i := 2) rfl 1 (.int .i64 0))
            have hc3 := HB8.out.cells2
            clear h0
            go_wp2
            refine bodyPost_ret (v := .tuple #[polV (.slice none 0 0) 0, .int .i64 (polE P)]) ?_ rfl (by rw [HE.out]; exact ⟨_, rfl, nil_rules _ _, HB8.out.bel⟩)
            rw [results_cell_tmp rfl]
            go_simp
end Go.Proofs.YtkiipnbjckdlbaaGreatDoor
