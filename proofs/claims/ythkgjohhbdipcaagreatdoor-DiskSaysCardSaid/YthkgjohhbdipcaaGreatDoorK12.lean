/- Texts laid one behind the other: ByteRows, DPut, DSync, DRecover, ConcatRec. No condition beyond theirs. -/
import Derived.Test.YthkgjohhbdipcaaGreatDoorK10
import Derived.Test.YthkgjohhbdipcaaGreatDoorK8
import Derived.Test.YthkgjohhbdipcaaGreatDoorK11
import Derived.Test.YthkgjohhbdipcaaGreatDoorK9
import Derived.Lib.AppendStr
import Derived.Test.YthkgjohhbdipcaaGreatDoorK7
import Derived.Test.YthkgjohhbdipcaaGreatDoorProg
import Derived.Test.YthkgjohhbdipcaaGreatDoorK2
import Derived.KernelRfl
import Derived.Deep.LoopGhost
set_option linter.all false
namespace Go.Proofs.YthkgjohhbdipcaaGreatDoor
open Go.RowKit

abbrev OwnB (W : World) (B : Nat) (v : Value) (l : List UInt8) : Prop := OwnSl W B 5 1 byteR v l
theorem OwnB.read {W : World} {B : Nat} {v : Value} {l : List UInt8} (h : OwnB W B v l) : RdBytes W (fun b => B ≤ b) v l := OwnSl.sl h (fun _ hb => hb)
theorem OwnB.lt {W : World} {B : Nat} {v : Value} {l : List UInt8} (h : OwnB W B v l) : ∀ g, v.ownBlock = some g → g < W.heap.size := fun g hg => by
  obtain ⟨o, h1, _⟩ := OwnSl.typed h g hg
  exact (Array.getElem?_eq_some_iff.1 h1).1
theorem OwnB.base {W : World} {B B' : Nat} {v : Value} {l : List UInt8} (h : OwnB W B v l) (hB : B' ≤ B) : OwnB W B' v l := by
  obtain ⟨rows, hr, h1, h2⟩ := h
  refine ⟨rows, hr, h1, ?_⟩
  rcases h2 with h2 | ⟨g, cap, cur, hv, hg, r⟩
  · exact .inl h2
  · exact .inr ⟨g, cap, cur, hv, Nat.le_trans hB hg, r⟩
def Apart (v v' : Value) : Prop := ∀ g, v.ownBlock = some g → v'.ownBlock = some g → False
/-- rows of one's own, each in its own block. -/
structure BRows (W : World) (B : Nat) (ps : List (Value × List UInt8)) : Prop where
  own : ∀ p ∈ ps, OwnB W B p.1 p.2
  apart : ps.Pairwise (fun p q => Apart p.1 q.1)
section
variable {W W' : World} {B : Nat} {ps : List (Value × List UInt8)} {v v' : Value} {l l' : List UInt8}
theorem BRows.nil : BRows W B [] := ⟨fun _ h => by simp at h, List.Pairwise.nil⟩
theorem BRows.below (h : BRows W B ps) (hb : Below W.heap.size W W') : BRows W' B ps := ⟨fun p hp => OwnSl.below (h.own p hp) hb, h.apart⟩
theorem BRows.cons (h : BRows W B ps) (hb : Below W.heap.size W W') (hB : B ≤ W.heap.size) (ho : OwnB W' W.heap.size v l) : BRows W' B ((v, l) :: ps) := by
  refine ⟨fun p hp => ?_, List.Pairwise.cons (fun q hq g h1 h2 => ?_) h.apart⟩
  · rcases List.mem_cons.1 hp with rfl | hp
    · exact ho.base hB
    · exact OwnSl.below (h.own p hp) hb
  · have h3 := OwnSl.block ho g h1
    have h4 := (h.own q hq).lt g h2
    omega
theorem BRows.snoc (h : BRows W B ps) (hb : Below W.heap.size W W') (hB : B ≤ W.heap.size) (ho : OwnB W' W.heap.size v l) : BRows W' B (ps ++ [(v, l)]) := by
  refine ⟨fun p hp => ?_, List.pairwise_append.2 ⟨h.apart, by simp, fun q hq p hp g h1 h2 => ?_⟩⟩
  · rcases List.mem_append.1 hp with hp | hp
    · exact OwnSl.below (h.own p hp) hb
    · simp at hp; subst hp; exact ho.base hB
  · simp at hp; subst hp
    have h3 := OwnSl.block ho g h2
    have h4 := (h.own q hq).lt g h1
    omega
/-- the last one is grown. -/
theorem BRows.grow (h : BRows W B (ps ++ [(v, l)])) (hg : W.grownBy W' v.ownBlock) (ho : OwnB W' B v' l') (hat : v'.ownBlock = v.ownBlock ∨ v'.ownBlock = some W.heap.size) : BRows W' B (ps ++ [(v', l')]) := by
  obtain ⟨h1, _, h3⟩ := List.pairwise_append.1 h.apart
  have hap : ∀ q ∈ ps, Apart q.1 v := fun q hq => h3 q hq (v, l) (by simp)
  refine ⟨fun p hp => ?_, List.pairwise_append.2 ⟨h1, by simp, fun q hq p hp g e1 e2 => ?_⟩⟩
  · rcases List.mem_append.1 hp with hp | hp
    · have ho := h.own p (List.mem_append_left _ hp)
      obtain ⟨rows, hr, hw⟩ := ho
      refine ⟨rows, hr, ownsRow_keep1 hw fun b _ hl hb => hg.block b hl (fun e => hap p hp b hb e.symm)⟩
    · simp at hp; subst hp; exact ho
  · simp at hp; subst hp
    rcases hat with h9 | h9
    · exact hap q hq g e1 (h9.symm.trans e2)
    · have e3 : some W.heap.size = some g := h9.symm.trans e2
      injection e3 with e3
      have := (h.own q (List.mem_append_left _ hq)).lt g e1
      omega
theorem BRows.drop1 {p : Value × List UInt8} (h : BRows W B (p :: ps)) : BRows W B ps := ⟨fun q hq => h.own q (List.mem_cons_of_mem _ hq), (List.pairwise_cons.1 h.apart).2⟩
end
/-- append(b, s...) onto a row of one's own, and where the new one lies. -/
theorem append_string_at {P : Program} (w : World) (base : Nat) (t u ty e : TypeId) (i : TypeInfo) (ht : P.underlying t = some (.slice e)) (hu : P.underlying u = some .string) (hi : P.info? e = some i) (hz : i.zero = some (.int .u8 0))
    (hsize : i.size = 1) (hby : i.bytes = 1) (v : Value) (n : Nat) (xs : List Value) (hown : w.ownsRow base e 1 v n xs) (s : ByteArray) (h63 : n + s.size ≤ maxLen) (hbytes : n + s.size ≤ 140737488355328) (hbase : base ≤ w.heap.size) :
    ∃ v' w', (Builtin.append_ #[t, u] ty #[v, .string s]).run P w = .ok v' w' ∧ w'.ownsRow base e 1 v' (n + s.size) (xs ++ Lib.strCells s) ∧ w.grownBy w' v.ownBlock ∧ (v'.ownBlock = v.ownBlock ∨ v'.ownBlock = some w.heap.size) := by
  obtain ⟨v', w', hr, h2, h3, h4⟩ := Lib.run_append_own_string (P := P) w base t u ty e i ht hu hi hz hsize hby v n xs hown s h63 hbytes hbase
  refine ⟨v', w', hr, h2, h3, ?_⟩
  have hsmall : n + s.size ≤ 9223372036854775807 := by simp only [maxLen] at h63; omega
  have hxl : xs.length = n := by simpa using hown.1
  rcases hown.2 with ⟨rfl, rfl⟩ | ⟨g, cap, cur, rfl, hbg, hg, hnc, hcm, hcs, htake⟩
  · by_cases hm : s.size = 0
    · left
      rw [h4.2 ⟨rfl, hm⟩]
    · right
      have hr2 := run_append_nil_string (P := P) w t u ty e i (.int .u8 0) ht hu hi hz s (by omega) (by omega) (by rw [hby]; omega)
      rw [hr] at hr2
      injection hr2 with h5 _
      rw [h5]; rfl
  · by_cases hroom : n + s.size ≤ cap
    · left
      have hcs' : cur.size = cap := by simpa using hcs
      have hr2 := Lib.run_append_room_string (P := P) w t u ty e i ht hu hi hsize g n cap cur hg s hroom (by omega)
      rw [hr] at hr2
      injection hr2 with h5 _
      rw [h5]; rfl
    · right
      have holds : ∀ j u, xs[j]? = some u → w.cell? ((⟨g, 0, none⟩ : Addr).add j) = some u := World.ownsRow.cells hown (g := g) rfl
      have hr2 := Lib.run_append_grow_string (P := P) w t u ty e i (.int .u8 0) ht hu hi hz ⟨g, 0, none⟩ n cap xs (by rw [hsize]; simpa using hxl) holds s (by omega) (by omega) (by rw [hby]; exact growslice_fits (by omega) (by omega))
      rw [hr] at hr2
      injection hr2 with h5 _
      rw [h5]; rfl
theorem rows_bytes (l : List UInt8) : RowsOf 1 byteR l (l.map fun b => [Value.int .u8 b.toNat]) := by
  refine ⟨by simp, fun r hr => ?_, fun i x r hx hr => ?_⟩
  · obtain ⟨b, _, rfl⟩ := List.mem_map.1 hr; rfl
  · rw [List.getElem?_map, hx] at hr
    simp at hr
    exact hr.symm
theorem flat_bytes : ∀ (l : List UInt8), (l.map fun b => [Value.int .u8 b.toNat]).flatten = l.map fun b => Value.int .u8 b.toNat
  | [] => rfl
  | b :: l => by rw [List.map_cons, List.flatten_cons, flat_bytes l]; rfl
/-- the operation append(b, s...) of a region. -/
theorem gives_append_string {P : Program} {w : World} {o : Oper} {a : Act} {R : Value → World → Prop} (sl x : Operand) (t u : TypeId)
    (ho : o.op = .call { callee := .builtin .append, args := #[sl, x], argTypes := #[t, u] }) (base : Nat) (e : TypeId) (i : TypeInfo) (ht : P.underlying t = some (.slice e)) (hu : P.underlying u = some .string) (hi : P.info? e = some i) (hz : i.zero = some (.int .u8 0))
    (hsize : i.size = 1) (hby : i.bytes = 1) (v : Value) (l : List UInt8) (hs : a.eval sl = v) (hown : OwnSl w base e 1 byteR v l) (s : ByteArray) (hx : a.eval x = .string s)
    (hbytes : l.length + s.size ≤ 140737488355328) (hbase : base ≤ w.heap.size)
    (h : ∀ v' w', OwnSl w' base e 1 byteR v' (l ++ s.data.toList) → w.grownBy w' v.ownBlock → (v'.ownBlock = v.ownBlock ∨ v'.ownBlock = some w.heap.size) → R v' w') : gives P o a w R := by
  obtain ⟨rows, hr0, ho0⟩ := hown
  obtain ⟨v', w', hr, h2, h3, h4⟩ := append_string_at (P := P) w base t u o.type e i ht hu hi hz hsize hby v l.length rows.flatten ho0 s (by unfold maxLen; omega) hbytes hbase
  unfold gives execOp
  simp only [ho, resolve, invoke, builtin, Sem.run_bind, Sem.run_pure, Result.andThen_ok, List.map_toArray, List.map_cons, List.map_nil, hs, hx, hr]
  refine h _ _ ⟨rows ++ (s.data.toList.map fun b => [Value.int .u8 b.toNat]), hr0.app (rows_bytes _), ?_⟩ h3 h4
  rw [List.flatten_append, flat_bytes, List.length_append]
  exact h2
/-- the operation append(b, c...) of a region, both rows of bytes. -/
theorem gives_append_bytes {P : Program} {w : World} {o : Oper} {a : Act} {R : Value → World → Prop} (sl x : Operand) (t : TypeId)
    (ho : o.op = .call { callee := .builtin .append, args := #[sl, x], argTypes := #[t, t] }) (base : Nat) (e : TypeId) (i : TypeInfo) (ht : P.underlying t = some (.slice e)) (hi : P.info? e = some i) (hz : i.zero = some (.int .u8 0))
    (hsize : i.size = 1) (hby : i.bytes = 1) (v : Value) (l : List UInt8) (hs : a.eval sl = v) (hown : OwnSl w base e 1 byteR v l) (u : Value) (m : List UInt8) (D : Nat → Prop) (hx : a.eval x = u) (hu : RdBytes w D u m) (hm0 : 0 < m.length)
    (hbytes : l.length + m.length ≤ 140737488355328) (hbase : base ≤ w.heap.size)
    (h : ∀ v' w', OwnSl w' base e 1 byteR v' (l ++ m) → w.grownBy w' v.ownBlock → (v'.ownBlock = v.ownBlock ∨ v'.ownBlock = some w.heap.size) → R v' w') : gives P o a w R := by
  obtain ⟨rows, hr0, ho0⟩ := hown
  obtain ⟨au, cu, rowsu, hv, hru, hcm, hnone, hcell⟩ := hu.rows
  cases au with
  | none => exact absurd (hnone rfl).2 (by intro e; rw [e] at hm0; simp at hm0)
  | some ad =>
    refine gives_append_at sl x t ho base e i (.int .u8 0) 1 1 ht hi hz hsize hby rfl (by decide) v l.length rows.flatten hs ho0 ad m.length cu rowsu.flatten (by rw [hx, hv]) (by rw [flat_len rowsu hru.size, hru.len]) (hcell ad rfl) (fun c hc => ?_) hm0 (by unfold maxLen; omega) (by omega) hbase fun v' w' h1 h2 h3 => h v' w' ⟨rows ++ rowsu, hr0.app hru, by rw [List.flatten_append, List.length_append]; exact h1⟩ h2 h3
    obtain ⟨r, hrm, hcr⟩ := List.mem_flatten.1 hc
    obtain ⟨k, hk⟩ := List.getElem?_of_mem hrm
    have hkl : k < m.length := by rw [← hru.len]; exact (List.getElem?_eq_some_iff.1 hk).1
    have := hru.rel k _ r (List.getElem?_eq_getElem hkl) hk
    unfold byteR at this
    subst this
    simp at hcr
    subst hcr
    rfl
end Go.Proofs.YthkgjohhbdipcaaGreatDoor
namespace Go.Proofs.YthkgjohhbdipcaaGreatDoor
open Go.RowKit
attribute [local go_sem] gives givesUpon

theorem oneByteP (y : UInt8) (cs : List Value) (h : byteR y cs) : ∀ c ∈ cs, c.oneCell' = true := by
  unfold byteR at h; subst h; simp [Value.oneCell']
def putL (S Wt t : List UInt8) (done : Nat → Bool) (vf : Nat → Value) : List (Value × List UInt8) :=
  (if done 8 && !done 9 then [(vf 8, [10])] else []) ++ ((if done 2 then [(vf 2, S)] else []) ++ ((if done 5 && !done 7 then [(vf 5, Wt)] else []) ++ ((if done 7 && !done 9 then [(vf 7, Wt ++ t)] else []) ++ (if done 9 then [(vf 9, (Wt ++ t) ++ [10])] else []))))
structure PutFin (w0 : World) (β : Nat) (S L : List UInt8) (W : World) : Prop where
  gr : w0.grownBy W (some β)
  box : ∃ v2 v9, W.heap[β]? = some (.cells #[v2, v9] 25) ∧ RdBytes W (fun b => w0.heap.size ≤ b) v2 S ∧ RdBytes W (fun b => w0.heap.size ≤ b) v9 L
structure PutI (w0 : World) (β : Nat) (S Wt t : List UInt8) (done : Nat → Bool) (vf : Nat → Value) (W : World) : Prop where
  fr : done 11 = false → Below w0.heap.size w0 W
  o1 : done 5 = true → done 2 = true
  o2 : done 7 = true → done 5 = true
  o3 : done 9 = true → done 7 = true
  rows : done 11 = false → BRows W w0.heap.size (putL S Wt t done vf)
  fin : done 11 = true → PutFin w0 β S ((Wt ++ t) ++ [10]) W
section
variable {w0 W W' : World} {β : Nat} {S Wt t : List UInt8} {done : Nat → Bool} {vf : Nat → Value} {v : Value} {i : Nat}
theorem PutI.start : PutI w0 β S Wt t (fun _ => false) (fun _ => undef) w0.drew := ⟨fun _ => (Below.refl _ _).drew, (fun h => by cases h), (fun h => by cases h), (fun h => by cases h), fun _ => BRows.nil, (fun h => by cases h)⟩
theorem PutI.same (h : PutI w0 β S Wt t done vf W) (h2 : 2 ≠ i) (h5 : 5 ≠ i) (h7 : 7 ≠ i) (h8 : 8 ≠ i) (h9 : 9 ≠ i) (h11 : 11 ≠ i) : PutI w0 β S Wt t (updDone done i) (updVal vf i v) W := by
  have e2 : updDone done i 2 = done 2 := if_neg h2
  have e5 : updDone done i 5 = done 5 := if_neg h5
  have e7 : updDone done i 7 = done 7 := if_neg h7
  have e8 : updDone done i 8 = done 8 := if_neg h8
  have e9 : updDone done i 9 = done 9 := if_neg h9
  have e11 : updDone done i 11 = done 11 := if_neg h11
  have f2 : updVal vf i v 2 = vf 2 := if_neg h2
  have f5 : updVal vf i v 5 = vf 5 := if_neg h5
  have f7 : updVal vf i v 7 = vf 7 := if_neg h7
  have f8 : updVal vf i v 8 = vf 8 := if_neg h8
  have f9 : updVal vf i v 9 = vf 9 := if_neg h9
  refine ⟨?_, ?_, ?_, ?_, ?_, ?_⟩ <;> simp only [putL, e2, e5, e7, e8, e9, e11, f2, f5, f7, f8, f9]
  · exact h.fr
  · exact h.o1
  · exact h.o2
  · exact h.o3
  · exact h.rows
  · exact h.fin
theorem PutI.clone2 (h : PutI w0 β S Wt t done vf W) (n2 : done 2 = false) (n5 : done 5 = false) (n7 : done 7 = false) (n9 : done 9 = false) (n11 : done 11 = false) (hb : Below W.heap.size W W') (ho : OwnB W' W.heap.size v S) : PutI w0 β S Wt t (updDone done 2) (updVal vf 2 v) W' := by
  have hr := (h.rows n11).snoc hb (h.fr n11).size ho
  refine ⟨fun _ => bel_call (h.fr n11) hb, fun e => by simp [updDone, n5] at e, fun e => by simp [updDone, n7] at e, fun e => by simp [updDone, n9] at e, fun _ => ?_, fun e => by simp [updDone, n11] at e⟩
  have e : putL S Wt t (updDone done 2) (updVal vf 2 v) = putL S Wt t done vf ++ [(v, S)] := by simp [putL, updDone, updVal, n2, n5, n7, n9]
  rw [e]; exact hr
theorem PutI.clone5 (h : PutI w0 β S Wt t done vf W) (n5 : done 5 = false) (d2 : done 2 = true) (n7 : done 7 = false) (n9 : done 9 = false) (n11 : done 11 = false) (hb : Below W.heap.size W W') (ho : OwnB W' W.heap.size v Wt) : PutI w0 β S Wt t (updDone done 5) (updVal vf 5 v) W' := by
  have hr := (h.rows n11).snoc hb (h.fr n11).size ho
  refine ⟨fun _ => bel_call (h.fr n11) hb, fun _ => by simp [updDone, d2], fun e => by simp [updDone, n7] at e, fun e => by simp [updDone, n9] at e, fun _ => ?_, fun e => by simp [updDone, n11] at e⟩
  have e : putL S Wt t (updDone done 5) (updVal vf 5 v) = putL S Wt t done vf ++ [(v, Wt)] := by simp [putL, updDone, updVal, d2, n5, n7, n9]
  rw [e]; exact hr
theorem PutI.own5 (h : PutI w0 β S Wt t done vf W) (d5 : done 5 = true) (n7 : done 7 = false) (n11 : done 11 = false) : OwnB W w0.heap.size (vf 5) Wt := (h.rows n11).own (vf 5, Wt) (by simp [putL, d5, n7])
theorem PutI.own7 (h : PutI w0 β S Wt t done vf W) (d7 : done 7 = true) (n9 : done 9 = false) (n11 : done 11 = false) : OwnB W w0.heap.size (vf 7) (Wt ++ t) := (h.rows n11).own (vf 7, Wt ++ t) (by simp [putL, d7, n9])
theorem PutI.own8 (h : PutI w0 β S Wt t done vf W) (d8 : done 8 = true) (n9 : done 9 = false) (n11 : done 11 = false) : OwnB W w0.heap.size (vf 8) [10] := (h.rows n11).own (vf 8, [10]) (by simp [putL, d8, n9])
theorem PutI.own2 (h : PutI w0 β S Wt t done vf W) (d9 : done 9 = true) (n11 : done 11 = false) : OwnB W w0.heap.size (vf 2) S := (h.rows n11).own (vf 2, S) (by simp [putL, h.o1 (h.o2 (h.o3 d9))])
theorem PutI.own9 (h : PutI w0 β S Wt t done vf W) (d9 : done 9 = true) (n11 : done 11 = false) : OwnB W w0.heap.size (vf 9) ((Wt ++ t) ++ [10]) := (h.rows n11).own (vf 9, (Wt ++ t) ++ [10]) (by simp [putL, d9])
theorem PutI.app7 (h : PutI w0 β S Wt t done vf W) (d2 : done 2 = true) (d5 : done 5 = true) (n7 : done 7 = false) (n9 : done 9 = false) (n11 : done 11 = false) (ho : OwnB W' w0.heap.size v (Wt ++ t)) (hg : W.grownBy W' (vf 5).ownBlock) (hat : v.ownBlock = (vf 5).ownBlock ∨ v.ownBlock = some W.heap.size) : PutI w0 β S Wt t (updDone done 7) (updVal vf 7 v) W' := by
  have h5 := h.own5 d5 n7 n11
  have e0 : putL S Wt t done vf = ((if done 8 then [(vf 8, [10])] else []) ++ [(vf 2, S)]) ++ [(vf 5, Wt)] := by cases h8 : done 8 <;> simp [putL, d2, d5, n7, n9, h8]
  have hr := h.rows n11
  rw [e0] at hr
  have hr' := hr.grow hg ho hat
  refine ⟨fun _ => OwnSl.grown h5 (h.fr n11) hg (h.fr n11).size (Nat.le_refl _), fun _ => by simp [updDone, d2], fun _ => by simp [updDone, d5], fun e => by simp [updDone, n9] at e, fun _ => ?_, fun e => by simp [updDone, n11] at e⟩
  have e : putL S Wt t (updDone done 7) (updVal vf 7 v) = ((if done 8 then [(vf 8, [10])] else []) ++ [(vf 2, S)]) ++ [(v, Wt ++ t)] := by cases h8 : done 8 <;> simp [putL, updDone, updVal, d2, d5, n9, h8]
  rw [e]; exact hr'
theorem PutI.new8 (h : PutI w0 β S Wt t done vf W) (n8 : done 8 = false) (n9 : done 9 = false) (n11 : done 11 = false) : PutI w0 β S Wt t (updDone done 8) (updVal vf 8 (.slice (some ⟨W.heap.size, 0, none⟩) 1 1)) (W.alloc (.cells #[.int .u8 10] 5)) := by
  have hb : Below W.heap.size W (W.alloc (.cells #[.int .u8 10] 5)) := bel_alloc (Below.refl _ _) _
  have ho : OwnB (W.alloc (.cells #[.int .u8 10] 5)) W.heap.size (.slice (some ⟨W.heap.size, 0, none⟩) 1 1) [10] :=
    ⟨[[.int .u8 10]], RowsOf.cons RowsOf.nil rfl rfl, by simp, .inr ⟨W.heap.size, 1, #[.int .u8 10], rfl, Nat.le_refl _, heap_last _ _, Nat.le_refl _, by decide, rfl, rfl⟩⟩
  have hr := (h.rows n11).cons hb (h.fr n11).size ho
  refine ⟨fun _ => bel_call (h.fr n11) hb, ?_, ?_, ?_, fun _ => ?_, fun e => by simp [updDone, n11] at e⟩
  · exact fun e => by simpa [updDone] using h.o1 (by simpa [updDone] using e)
  · exact fun e => by simpa [updDone] using h.o2 (by simpa [updDone] using e)
  · exact fun e => by simp [updDone, n9] at e
  have e : putL S Wt t (updDone done 8) (updVal vf 8 (.slice (some ⟨W.heap.size, 0, none⟩) 1 1)) = (.slice (some ⟨W.heap.size, 0, none⟩) 1 1, [10]) :: putL S Wt t done vf := by simp [putL, updDone, updVal, n8, n9]
  rw [e]; exact hr
theorem PutI.app9 (h : PutI w0 β S Wt t done vf W) (d2 : done 2 = true) (d5 : done 5 = true) (d7 : done 7 = true) (d8 : done 8 = true) (n9 : done 9 = false) (n11 : done 11 = false) (ho : OwnB W' w0.heap.size v ((Wt ++ t) ++ [10])) (hg : W.grownBy W' (vf 7).ownBlock) (hat : v.ownBlock = (vf 7).ownBlock ∨ v.ownBlock = some W.heap.size) : PutI w0 β S Wt t (updDone done 9) (updVal vf 9 v) W' := by
  have h7 := h.own7 d7 n9 n11
  have e0 : putL S Wt t done vf = [(vf 8, [10]), (vf 2, S)] ++ [(vf 7, Wt ++ t)] := by simp [putL, d2, d5, d7, d8, n9]
  have hr := h.rows n11
  rw [e0] at hr
  have hr' := hr.grow hg ho hat
  refine ⟨fun _ => OwnSl.grown h7 (h.fr n11) hg (h.fr n11).size (Nat.le_refl _), fun _ => by simp [updDone, d2], fun _ => by simp [updDone, d5], fun _ => by simp [updDone, d7], fun _ => ?_, fun e => by simp [updDone, n11] at e⟩
  have e : putL S Wt t (updDone done 9) (updVal vf 9 v) = [(vf 2, S), (v, (Wt ++ t) ++ [10])] := by simp [putL, updDone, updVal, d2, d5, d7, d8]
  rw [e]; exact hr'.drop1
theorem PutI.fin11 (h : PutI w0 β S Wt t done vf W) (d9 : done 9 = true) (n11 : done 11 = false) {c0 c1 : Value} (hβ : w0.heap[β]? = some (.cells #[c0, c1] 25)) : PutI w0 β S Wt t (updDone done 11) (updVal vf 11 v) ((W.setCell ⟨β, 0, none⟩ (vf 2)).setCell ⟨β, 1, none⟩ (vf 9)) := by
  have d7 := h.o3 d9
  have d5 := h.o2 d7
  have d2 := h.o1 d5
  have hr := h.rows n11
  have h2 := hr.own (vf 2, S) (by simp [putL, d2])
  have h9 := hr.own (vf 9, (Wt ++ t) ++ [10]) (by simp [putL, d9])
  have hb := h.fr n11
  have hβl := (Array.getElem?_eq_some_iff.1 hβ).1
  have hg : W.grownBy ((W.setCell ⟨β, 0, none⟩ (vf 2)).setCell ⟨β, 1, none⟩ (vf 9)) (some β) := grow_trans (grow_set _ _ _ _) (grow_set _ _ _ _)
  have kp : ∀ {u : Value} {l : List UInt8}, OwnB W w0.heap.size u l → RdBytes ((W.setCell ⟨β, 0, none⟩ (vf 2)).setCell ⟨β, 1, none⟩ (vf 9)) (fun b => w0.heap.size ≤ b) u l := fun ho => RdBytes.keep (OwnB.read ho) (fun _ hx _ => hx) (fun x hx hl => hg.block x hl (fun e => by injection e with e; have h1 : w0.heap.size ≤ x := hx; omega)) hg.size
  refine ⟨fun e => by simp [updDone] at e, fun _ => by simp [updDone, d2], fun _ => by simp [updDone, d5], fun _ => by simp [updDone, d7], fun e => by simp [updDone] at e, fun _ => ⟨?_, _, _, set_at (set_at (blk_below hβ hb)), kp h2, kp h9⟩⟩
  exact ⟨hg.os.trans hb.os, hg.tape.trans hb.tape, hg.output.trans hb.output, Nat.le_trans hb.size hg.size, fun k hk hn => (hg.block k (Nat.lt_of_lt_of_le hk hb.size) hn).trans (hb.block k hk)⟩
end
set_option maxRecDepth 100000 in
set_option maxHeartbeats 16000000 in
theorem dput_any (u v ur : Value) (d : TDisk) (r : TRec) (D : Nat → Prop) (D' : Nat → Prop) (w : World) (h : RdDisk w D u v d) (hr : RdRules w D' ur r.p.rules) (hL : Laid w) :
    Calls Tryz.prog 33 #[diskV u v, recV r ur] w fun e w' => ∃ u' v', e = .returned (.tuple #[diskV u' v', .int .i64 (putE d r).2]) ∧ RdDisk w' (fun b => w.heap.size ≤ b) u' v' (putE d r).1 ∧ Below w.heap.size w w' := by
  have HL := Lib.hid hL
  have Hd := Lib.hid (RdDisk.lt h)
  have Hr := Lib.hid hr
  obtain ⟨a1, c1, rfl, hc1⟩ := Sl.form h.1
  obtain ⟨a2, c2, rfl, hc2⟩ := Sl.form h.2
  obtain ⟨a3, c3, rfl, hc3⟩ := Sl.form hr
  clear h hL hr hc1 hc2 hc3
  go_enter Tryz.func33, Tryz.ntmps33
  go_wp2_with fail
  have HB := Lib.hid (Bx.three (w := w) (o := .cells #[.slice a1 d.safe.length c1, .slice a2 d.wait.length c2] 25) (o' := .cells #[.int .i64 r.kind, .int .i64 r.cell, .int .i64 r.from_, .slice a3 r.p.rules.length c3, .int .i64 r.p.dflt] 56) (o2 := .cells #[.slice none 0 0, .slice none 0 0] 25))
  refine (dcheck_any _ _ d _ _ (RdDisk.below Hd.out HB.out.bel) (HL.out.below HB.out.bel)).mono ?_
  rintro e w1 ⟨rfl, hb1⟩
  have HB1 := Lib.hid (HB.out.below hb1)
  clear hb1 HB
  by_cases h0 : diskE d = 0
  · have H0 := Lib.hid h0
    have Hsum : Hid (d.safe.length + d.wait.length ≤ 60000) := (diskE_ok h0).1
    rw [h0]
    clear h0
    have hq1 := HB1.out.cells1
    go_wp2_with fail
    clear hq1
    refine (nprint_any _ r _ _ (RdRules.below Hr.out HB1.out.bel) (HL.out.below HB1.out.bel)).mono ?_
    rintro e w2 ⟨rfl, hb2⟩
    have HB2 := Lib.hid (HB1.out.below hb2)
    clear hb2 HB1
    by_cases h1 : recE r = 0
    · have HN : Hid (nprintE r = (recW r, 0)) := if_pos h1
      have H1 := Lib.hid h1
      obtain ⟨t, ht⟩ : ∃ t, recW r = t := ⟨_, rfl⟩
      have Ht := Lib.hid ht
      have Htl : Hid (t.length ≤ 34100) := by show _ ≤ _; rw [← ht]; exact recW_len h1
      have hts : (bsL t).size = t.length := by simp [bsL, ByteArray.size]
      rw [HN.out]
      dsimp only
      rw [ht]
      clear h1 ht
      have htl := Htl.out
      have hsum := Hsum.out
      have w1' : IntKind.i64.wrap ((t.length : Int) + 1) = (t.length : Int) + 1 := IntWalk.i64_in _ (by omega)
      have w2' : IntKind.i64.wrap (60000 - (d.safe.length : Int)) = 60000 - (d.safe.length : Int) := IntWalk.i64_in _ (by omega)
      have w3' : IntKind.i64.wrap (60000 - (d.safe.length : Int) - (d.wait.length : Int)) = 60000 - (d.safe.length : Int) - (d.wait.length : Int) := IntWalk.i64_in _ (by omega)
      have hb1 : (d.safe.length : Int) ≤ 60000 := by omega
      have hb2 : (d.wait.length : Int) ≤ 60000 := by omega
      have hb3 : (t.length : Int) ≤ 60000 := by omega
      have hq0 := HB2.out.cells0
      by_cases h2 : 60000 < d.safe.length + d.wait.length + t.length + 1
      · have HE : Hid (putE d r = (zeroDisk, 2)) := by show _ = _; unfold putE; rw [if_neg (by rw [H0.out]; simp), if_neg (by rw [H1.out]; simp), Ht.out, if_pos h2]
        have h2' : 60000 - (d.safe.length : Int) - (d.wait.length : Int) < (t.length : Int) + 1 := by omega
        have hq2 := HB2.out.cells2
        have hf2 := HB2.out.free2
        have HS := Lib.hid ((HB2.out.set (i := 2) rfl 0 (.slice none 0 0)).set (i := 2) rfl 1 (.slice none 0 0))
        have hqs := HS.out.cells2
        have HBL := Lib.hid HS.out.bel
        clear HS h2 hsum htl
        go_wp2
        refine bodyPost_ret (v := .tuple #[diskV (.slice none 0 0) (.slice none 0 0), .int .i64 2]) ?_ rfl (by rw [HE.out]; exact ⟨_, _, rfl, nil_disk _ _, HBL.out⟩)
        rw [results_cell_tmp rfl]
        go_simp
      · have HE : Hid (putE d r = (⟨d.safe, d.wait ++ lineW r⟩, 0)) := by show _ = _; unfold putE; rw [if_neg (by rw [H0.out]; simp), if_neg (by rw [H1.out]; simp), Ht.out, if_neg h2]
        have h2' : ¬ 60000 - (d.safe.length : Int) - (d.wait.length : Int) < (t.length : Int) + 1 := by omega
        clear h2 hsum htl
        go_wp2_with fail
        clear hq0 w1' w2' w3' hts hb1 hb2 hb3
        have Hlens : Hid (d.safe.length + d.wait.length + t.length ≤ 100000) := by show _ ≤ _; have := Hsum.out; have := Htl.out; omega
        clear h2'
        obtain ⟨w0, hw0⟩ : ∃ w0 : World, w0 = w2 := ⟨_, rfl⟩
        subst hw0
        have HR2 : Hid (∀ W, Below w0.heap.size w0 W → RdBytes W (fun b => b < w.heap.size) (.slice a1 d.safe.length c1) d.safe) := fun W hW => RdBytes.below (RdBytes.below Hd.out.1 HB2.out.bel) hW
        have HR5 : Hid (∀ W, Below w0.heap.size w0 W → RdBytes W (fun b => b < w.heap.size) (.slice a2 d.wait.length c2) d.wait) := fun W hW => RdBytes.below (RdBytes.below Hd.out.2 HB2.out.bel) hW
        have HBr : Hid (∀ W, Below w0.heap.size w0 W → ∀ i, W.cell? ⟨w.heap.size, i, none⟩ = (#[.slice a1 d.safe.length c1, .slice a2 d.wait.length c2] : Array Value)[i]?) := fun W hW => (HB2.out.below hW).cells0
        have HBt : Hid (w0.heap[w.heap.size + 1 + 1]? = some (.cells #[.slice none 0 0, .slice none 0 0] 25)) := HB2.out.at_ 2 _ rfl
        have HBt0 : Hid (∀ W, Below w0.heap.size w0 W → ∀ i, W.cell? ⟨w.heap.size + 1 + 1, i, none⟩ = (#[.slice none 0 0, .slice none 0 0] : Array Value)[i]?) := fun W hW => (HB2.out.below hW).cells2
        have HBt1 : Hid (∀ W, Below w0.heap.size w0 W → ∀ i, W.frozen? ⟨w.heap.size + 1 + 1, i, none⟩ = false) := fun W hW => (HB2.out.below hW).free2
        have HBw : Hid (Below w.heap.size w w0) := HB2.out.bel
        have Hsz : Hid (w.heap.size + 3 ≤ w0.heap.size) := HB2.out.top
        obtain ⟨i0, hi, hz0, hz1, hz2⟩ := info_parts infoByte
        have Hi := Lib.hid hi
        clear hi HB2
        refine RV.wp_region_rel (PutI w0 (w.heap.size + 1 + 1) d.safe d.wait t) (fun _ _ _ _ => True) (fun _ _ _ _ => True) (by kernel_rfl) (by kernel_rfl) _ rfl (fun _ _ _ _ _ _ _ _ _ _ _ _ => trivial) (fun _ _ _ _ _ _ _ _ => trivial) PutI.start ?_
        (refine RV.rel_ex (fun K hK => ?_); apply Exists.intro; refine ⟨fun done vf W hI hd0 hd hn hf R hR => ?_, ?_, ?_⟩; (clear hd0 hd hn hf; go_simp; exact hR _ _ (hI.same (by decide) (by decide) (by decide) (by decide) (by decide) (by decide)) trivial rfl trivial); exact (fun _ _ _ => rfl); (go_simp; refine hK _ ?_; clear hK K))
        (refine RV.rel_ex (fun K hK => ?_); apply Exists.intro; refine ⟨fun done vf W hI hd0 hd hn hf R hR => ?_, ?_, ?_⟩; (have n11 : done 11 = false := hn 11 (by decide); have hqb := (HBr.out W (hI.fr n11)); clear hd0 hd hn hf; go_simp; exact hR _ _ (hI.same (by decide) (by decide) (by decide) (by decide) (by decide) (by decide)) trivial rfl trivial); exact (fun _ _ _ => rfl); (go_simp; refine hK _ ?_; clear hK K))
        (refine RV.rel_pr (fun K hK => ?_); refine ⟨fun done vf W hI hd0 hd hn hf R hR => ?_, ?_⟩; (have n5 : done 5 = false := hn 5 (by decide); have n7 : done 7 = false := hn 7 (by decide); have n9 : done 9 = false := hn 9 (by decide); have n11 : done 11 = false := hn 11 (by decide); have HRW := Lib.hid (HR2.out W (hI.fr n11)); clear hd hn hf; go_simp; go_at_call 80; refine (cloneByte_any byteR oneByteP _ d.safe _ W HRW.out (by have := Hlens.out; omega)).mono ?_; rintro e w9 ⟨v9, rfl, ho9, hb9⟩; exact ⟨_, rfl, hR _ _ (hI.clone2 hd0 n5 n7 n9 n11 hb9 ho9) trivial trivial trivial⟩); (go_simp; refine hK _ ?_; clear hK K))
        (refine RV.rel_ex (fun K hK => ?_); apply Exists.intro; refine ⟨fun done vf W hI hd0 hd hn hf R hR => ?_, ?_, ?_⟩; (clear hd0 hd hn hf; go_simp; exact hR _ _ (hI.same (by decide) (by decide) (by decide) (by decide) (by decide) (by decide)) trivial rfl trivial); exact (fun _ _ _ => rfl); (go_simp; refine hK _ ?_; clear hK K))
        (refine RV.rel_ex (fun K hK => ?_); apply Exists.intro; refine ⟨fun done vf W hI hd0 hd hn hf R hR => ?_, ?_, ?_⟩; (have n11 : done 11 = false := hn 11 (by decide); have hqb := (HBr.out W (hI.fr n11)); clear hd0 hd hn hf; go_simp; exact hR _ _ (hI.same (by decide) (by decide) (by decide) (by decide) (by decide) (by decide)) trivial rfl trivial); exact (fun _ _ _ => rfl); (go_simp; refine hK _ ?_; clear hK K))
        (refine RV.rel_pr (fun K hK => ?_); refine ⟨fun done vf W hI hd0 hd hn hf R hR => ?_, ?_⟩; (have d2 : done 2 = true := hd 2 (by decide); have n7 : done 7 = false := hn 7 (by decide); have n9 : done 9 = false := hn 9 (by decide); have n11 : done 11 = false := hn 11 (by decide); have HRW := Lib.hid (HR5.out W (hI.fr n11)); clear hd hn hf; go_simp; go_at_call 80; refine (cloneByte_any byteR oneByteP _ d.wait _ W HRW.out (by have := Hlens.out; omega)).mono ?_; rintro e w9 ⟨v9, rfl, ho9, hb9⟩; exact ⟨_, rfl, hR _ _ (hI.clone5 hd0 d2 n7 n9 n11 hb9 ho9) trivial trivial trivial⟩); (go_simp; refine hK _ ?_; clear hK K))
        (refine RV.rel_ex (fun K hK => ?_); apply Exists.intro; refine ⟨fun done vf W hI hd0 hd hn hf R hR => ?_, ?_, ?_⟩; (clear hd0 hd hn hf; go_simp; exact hR _ _ (hI.same (by decide) (by decide) (by decide) (by decide) (by decide) (by decide)) trivial rfl trivial); exact (fun _ _ _ => rfl); (go_simp; refine hK _ ?_; clear hK K))
        (refine RV.rel_pr (fun K hK => ?_); refine ⟨fun done vf W hI hd0 hd hn hf R hR => ?_, ?_⟩; (have d5 : done 5 = true := hd 5 (by decide); have n9 : done 9 = false := hn 9 (by decide); have n11 : done 11 = false := hn 11 (by decide); have d2 := hI.o1 d5; have hO := hI.own5 d5 hd0 n11; have hsz := (hI.fr n11).size; refine ob_plain rfl ?_; refine gives_append_string (.tmp 42) (.tmp 43) 23 9 rfl w0.heap.size 5 i0 Tryz.underlying23 Tryz.underlying9 Hi.out hz0 hz1 hz2 (vf 5) d.wait (by rfl) hO (bsL t) (by rfl) (by have := Hlens.out; show _ + t.toArray.size ≤ _; simp; omega) hsz (fun v' w' h1 h2 h3 => hR _ _ (hI.app7 d2 d5 hd0 n9 n11 h1 h2 h3) trivial trivial trivial)); (go_simp; refine hK _ ?_; clear hK K))
        (refine RV.rel_pr (fun K hK => ?_); refine ⟨fun done vf W hI hd0 hd hn hf R hR => ?_, ?_⟩; (have n9 : done 9 = false := hn 9 (by decide); have n11 : done 11 = false := hn 11 (by decide); clear hd hn hf; go_simp; exact hR _ _ (hI.new8 hd0 n9 n11) trivial trivial trivial); (go_simp; refine hK _ ?_; clear hK K))
        (refine RV.rel_pr (fun K hK => ?_); refine ⟨fun done vf W hI hd0 hd hn hf R hR => ?_, ?_⟩; (have d7 : done 7 = true := hd 7 (by decide); have d8 : done 8 = true := hd 8 (by decide); have n11 : done 11 = false := hn 11 (by decide); have d5 := hI.o2 d7; have d2 := hI.o1 d5; have hO := hI.own7 d7 hd0 n11; have hN := hI.own8 d8 hd0 n11; have hsz := (hI.fr n11).size; refine ob_plain rfl ?_; refine gives_append_bytes (.tmp 44) (.tmp 45) 23 rfl w0.heap.size 5 i0 Tryz.underlying23 Hi.out hz0 hz1 hz2 (vf 7) (d.wait ++ t) (by rfl) hO (vf 8) [10] _ (by rfl) (OwnB.read hN) (by decide) (by have := Hlens.out; simp; omega) hsz (fun v' w' h1 h2 h3 => hR _ _ (hI.app9 d2 d5 d7 d8 hd0 n11 h1 h2 h3) trivial trivial trivial)); (go_simp; refine hK _ ?_; clear hK K))
        (refine RV.rel_ex (fun K hK => ?_); refine ⟨fun vf => Value.agg #[vf 2, vf 9], ?_⟩; refine ⟨fun done vf W hI hd0 hd hn hf R hR => ?_, ?_, ?_⟩; (have d9 : done 9 = true := hd 9 (by decide); have n11 : done 11 = false := hn 11 (by decide); obtain ⟨x1, y1, h2⟩ := OwnSl.slice (hI.own2 d9 n11); obtain ⟨x2, y2, h9⟩ := OwnSl.slice (hI.own9 d9 n11); obtain ⟨N, hN⟩ : ∃ N, ((d.wait ++ t) ++ [10]).length = N := ⟨_, rfl⟩; rw [hN] at h9; clear hN; have HI := Lib.hid hI; clear hI; clear hd0 hd hn hf; go_simp; exact hR _ _ (HI.out.same (by decide) (by decide) (by decide) (by decide) (by decide) (by decide)) trivial (by show _ = Value.agg #[vf 2, vf 9]; rw [h2, h9]) trivial); exact (fun f g h => by show Value.agg #[f 2, f 9] = Value.agg #[g 2, g 9]; rw [h 2 (by decide), h 9 (by decide)]); (go_simp; refine hK _ ?_; clear hK K))
        (refine RV.rel_pr (fun K hK => ?_); refine ⟨fun done vf W hI hd0 hd hn hf R hR => ?_, ?_⟩; (have d9 : done 9 = true := hd 9 (by decide); have hF := hI.fin11 (v := undef) d9 hd0 HBt.out; have hqt := HBt0.out W (hI.fr hd0); have hft := HBt1.out W (hI.fr hd0); obtain ⟨x1, y1, h2⟩ := OwnSl.slice (hI.own2 d9 hd0); obtain ⟨x2, y2, h9⟩ := OwnSl.slice (hI.own9 d9 hd0); obtain ⟨N, hN⟩ : ∃ N, ((d.wait ++ t) ++ [10]).length = N := ⟨_, rfl⟩; rw [hN] at h9; clear hN; rw [h2, h9] at hF; have HF := Lib.hid hF; clear hd hn hf hF hI; go_simp; exact hR _ _ HF.out trivial trivial trivial); (go_simp; refine hK _ ?_; clear hK K))
        (refine RV.rel_ex (fun K hK => ?_); apply Exists.intro; refine ⟨fun done vf W hI hd0 hd hn hf R hR => ?_, ?_, ?_⟩; (clear hd0 hd hn hf; go_simp; exact hR _ _ (hI.same (by decide) (by decide) (by decide) (by decide) (by decide) (by decide)) trivial rfl trivial); exact (fun _ _ _ => rfl); (go_simp; refine hK _ ?_; clear hK K))
        intro done vf w5 hdone hI _
        have hFin := hI.fin (hdone 11 (by decide))
        clear hdone hI
        obtain ⟨v2, v9, hbx, hr2, hr9⟩ := hFin.box
        have Hg := Lib.hid hFin.gr
        have Hr2 := Lib.hid hr2
        have Hr9 := Lib.hid hr9
        obtain ⟨x1, y1, rfl, _⟩ := Sl.form hr2
        obtain ⟨x2, y2, rfl, _⟩ := Sl.form hr9
        have hqb := cells_of hbx
        have HBL : Hid (Below w.heap.size w w5) := Below.grown HBw.out Hg.out HBw.out.size (fun g e => by injection e with e; omega)
        have HRD : Hid (RdDisk w5 (fun b => w.heap.size ≤ b) (.slice x1 d.safe.length y1) (.slice x2 ((d.wait ++ t) ++ [10]).length y2) ⟨d.safe, d.wait ++ lineW r⟩) := ⟨Hr2.out.keep (fun b hb _ => by have h1 : w0.heap.size ≤ b := hb; have := Hsz.out; show _ ≤ _; omega) (fun _ _ _ => rfl) (Nat.le_refl _), by
          have e : d.wait ++ lineW r = (d.wait ++ t) ++ [10] := by unfold lineW; rw [Ht.out, List.append_assoc]
          rw [e]
          exact Hr9.out.keep (fun b hb _ => by have h1 : w0.heap.size ≤ b := hb; have := Hsz.out; show _ ≤ _; omega) (fun _ _ _ => rfl) (Nat.le_refl _)⟩
        clear hr2 hr9 hbx hFin
        go_wp2
        refine bodyPost_ret (v := .tuple #[diskV (.slice x1 d.safe.length y1) (.slice x2 ((d.wait ++ t) ++ [10]).length y2), .int .i64 0]) ?_ rfl (by rw [HE.out]; exact ⟨_, _, rfl, HRD.out, HBL.out⟩)
        rw [results_cell_tmp rfl]
        go_simp
    · have HN : Hid (nprintE r = ([], recE r)) := if_neg h1
      have HE : Hid (putE d r = (zeroDisk, recE r)) := by show _ = _; unfold putE; rw [if_neg (by rw [H0.out]; simp), if_pos h1]
      have hne : (recE r != 0) = true := bne_iff_ne.2 h1
      rw [HN.out]
      dsimp only
      generalize recE r = E at *
      clear h1 HN
      have hq2 := HB2.out.cells2
      have hf2 := HB2.out.free2
      have HS := Lib.hid ((HB2.out.set (i := 2) rfl 0 (.slice none 0 0)).set (i := 2) rfl 1 (.slice none 0 0))
      have hqs := HS.out.cells2
      have HBL := Lib.hid HS.out.bel
      clear HS
      go_wp2
      refine bodyPost_ret (v := .tuple #[diskV (.slice none 0 0) (.slice none 0 0), .int .i64 E]) ?_ rfl (by rw [HE.out]; exact ⟨_, _, rfl, nil_disk _ _, HBL.out⟩)
      rw [results_cell_tmp rfl]
      go_simp
  · have HE : Hid (putE d r = (zeroDisk, diskE d)) := by show _ = _; unfold putE; rw [if_pos h0]
    have hne : (diskE d != 0) = true := bne_iff_ne.2 h0
    generalize diskE d = E at *
    clear h0
    have hq2 := HB1.out.cells2
    have hf2 := HB1.out.free2
    have HS := Lib.hid ((HB1.out.set (i := 2) rfl 0 (.slice none 0 0)).set (i := 2) rfl 1 (.slice none 0 0))
    have hqs := HS.out.cells2
    have HBL := Lib.hid HS.out.bel
    clear HS
    go_wp2
    refine bodyPost_ret (v := .tuple #[diskV (.slice none 0 0) (.slice none 0 0), .int .i64 E]) ?_ rfl (by rw [HE.out]; exact ⟨_, _, rfl, nil_disk _ _, HBL.out⟩)
    rw [results_cell_tmp rfl]
    go_simp
end Go.Proofs.YthkgjohhbdipcaaGreatDoor
namespace Go.Proofs.YthkgjohhbdipcaaGreatDoor
open Go.RowKit
attribute [local go_sem] gives givesUpon

theorem two_rows {W : World} {D : Nat → Prop} {u v : Value} {l m : List UInt8} {b : Nat} {T : TypeId} {fr : Nat × Nat} (h1 : RdBytes W D u l) (h2 : RdBytes W D v m) (hb : W.heap[b]? = some (.cells #[u, v] T fr)) : Sl W (fun _ => True) 1 (rowsRByte W (fun _ => True)) (.slice (some ⟨b, 0, none⟩) 2 2) [l, m] :=
  sl_block (sz := 1) (xs := [l, m]) (rows := [[u], [v]]) (RowsOf.cons (RowsOf.cons RowsOf.nil ⟨_, rfl, RdBytes.true h2⟩ rfl) ⟨_, rfl, RdBytes.true h1⟩ rfl) hb rfl trivial (by simp [maxLen])
theorem disk_off {b B : Nat} {W W' : World} {u v : Value} {d : TDisk} (h : RdDisk W (fun x => b + 1 ≤ x) u v d) (hg : W.grownBy W' (some b)) (hB : B ≤ b + 1) : RdDisk W' (fun x => B ≤ x) u v d :=
  h.keep (fun x hx _ => by have h1 : b + 1 ≤ x := hx; show B ≤ x; omega) (fun x hx hl => grow_keep hg hl (by have h1 : b + 1 ≤ x := hx; omega)) hg.size
theorem LastI.past {n k : Nat} {w0 W : World} {Fin : World → Prop} {done : Nat → Bool} (h : LastI n w0 Fin done W) (hd : done n = true) (hk : n ≠ k) : LastI n w0 Fin (updDone done k) W := by
  have h1 := h.after hd
  unfold LastI updDone
  rw [if_neg hk, hd, if_pos rfl]
  exact h1
/-- a row of bytes, from block B on; two of them in a value. -/
def PBy (B : Nat) (l : List UInt8) (v : Value) (W : World) : Prop := RdBytes W (fun b => B ≤ b) v l
def PDk (B : Nat) (l m : List UInt8) (v : Value) (W : World) : Prop := ∃ x y, v = .agg #[x, y] ∧ PBy B l x W ∧ PBy B m y W
theorem PBy_stable {B : Nat} {l : List UInt8} : stableK B (PBy B l) := fun _ _ _ hk h => RdBytes.keep h (fun _ hx _ => hx) (fun x hx hl => hk.2 x hx hl) hk.1
theorem PDk_stable {B : Nat} {l m : List UInt8} : stableK B (PDk B l m) := fun _ _ _ hk ⟨x, y, h1, h2, h3⟩ => ⟨x, y, h1, PBy_stable _ _ _ hk h2, PBy_stable _ _ _ hk h3⟩
def PFin (w0 : World) (β : Nat) (l m : List UInt8) (W : World) : Prop := ∃ x y, W.heap[β]? = some (.cells #[x, y] 25) ∧ RdDisk W (fun b => w0.heap.size ≤ b) x y ⟨l, m⟩ ∧ w0.grownBy W (some β)
theorem keep_puts2 {B β : Nat} {W : World} {x y : Value} (hβ : β < B) : KeepFrom B W ((W.setCell ⟨β, 0, none⟩ x).setCell ⟨β, 1, none⟩ y) :=
  ⟨(puts2_grow (W := W) (b := β) x y).size, fun k hk hl => grow_keep (puts2_grow x y) hl (by omega)⟩
theorem grown_trans_below {w0 W W' : World} {β : Nat} (hb : Below w0.heap.size w0 W) (hg : W.grownBy W' (some β)) : w0.grownBy W' (some β) :=
  ⟨hg.os.trans hb.os, hg.tape.trans hb.tape, hg.output.trans hb.output, Nat.le_trans hb.size hg.size, fun k hk hn => (hg.block k (Nat.lt_of_lt_of_le hk hb.size) hn).trans (hb.block k hk)⟩
theorem put_fin {w0 W : World} {β : Nat} {l m : List UInt8} {x y c0 c1 : Value} (hb : Below w0.heap.size w0 W) (_hs : w0.heap.size ≤ W.heap.size) (hβ : W.heap[β]? = some (.cells #[c0, c1] 25)) (hlt : β < w0.heap.size) (hx : PBy w0.heap.size l x W) (hy : PBy w0.heap.size m y W) :
    PFin w0 β l m ((W.setCell ⟨β, 0, none⟩ x).setCell ⟨β, 1, none⟩ y) :=
  ⟨x, y, puts2_at x y hβ, ⟨PBy_stable _ _ _ (keep_puts2 hlt) hx, PBy_stable _ _ _ (keep_puts2 hlt) hy⟩, grown_trans_below hb (puts2_grow x y)⟩
set_option maxRecDepth 100000 in
set_option maxHeartbeats 16000000 in
theorem dsync_any (u v : Value) (d : TDisk) (D : Nat → Prop) (w : World) (h : RdDisk w D u v d) (hL : Laid w) :
    Calls Tryz.prog 34 #[diskV u v] w fun e w' => ∃ u' v', e = .returned (.tuple #[diskV u' v', .int .i64 (syncE d).2]) ∧ RdDisk w' (fun b => w.heap.size ≤ b) u' v' (syncE d).1 ∧ Below w.heap.size w w' := by
  have HL := Lib.hid hL
  have Hd := Lib.hid (RdDisk.true h)
  obtain ⟨a1, c1, rfl, hc1⟩ := Sl.form h.1
  obtain ⟨a2, c2, rfl, hc2⟩ := Sl.form h.2
  clear h hL hc1 hc2
  go_enter Tryz.func34, Tryz.ntmps34
  go_wp2_with fail
  have HB := Lib.hid (Bx.two (w := w) (o := .cells #[.slice a1 d.safe.length c1, .slice a2 d.wait.length c2] 25) (o' := .cells #[.slice none 0 0, .slice none 0 0] 25))
  refine (dcheck_any _ _ d _ _ (RdDisk.below Hd.out HB.out.bel) (HL.out.below HB.out.bel)).mono ?_
  rintro e w1 ⟨rfl, hb1⟩
  have HB1 := Lib.hid (HB.out.below hb1)
  clear hb1 HB
  by_cases h0 : diskE d = 0
  · have H0 := Lib.hid h0
    have Hsum : Hid (d.safe.length + d.wait.length ≤ 60000) := (diskE_ok h0).1
    rw [h0]
    clear h0
    have hq0 := HB1.out.cells0
    go_wp2_with fail
    clear hq0
    have HA := Lib.hid (bel_alloc (Below.refl w1.heap.size w1) (.cells #[.slice a1 d.safe.length c1, .slice a2 d.wait.length c2] 23))
    have HB2 := Lib.hid (HB1.out.below HA.out)
    have Hd2 := Lib.hid (RdDisk.below Hd.out HB2.out.bel)
    have HSL := Lib.hid (two_rows Hd2.out.1 Hd2.out.2 (heap_last w1 (.cells #[.slice a1 d.safe.length c1, .slice a2 d.wait.length c2] 23)))
    refine (concatByte_any _ [d.safe, d.wait] _ _ HSL.out (by have := Hsum.out; simp [lenTo]; omega)).mono ?_
    rintro e w3 ⟨v3, rfl, ho3, hb3⟩
    rw [show [d.safe, d.wait].flatten = d.safe ++ d.wait by simp] at ho3
    obtain ⟨J, hJ⟩ : ∃ J, d.safe ++ d.wait = J := ⟨_, rfl⟩
    have HJ := Lib.hid hJ
    rw [hJ] at ho3
    have HB3 := Lib.hid (HB2.out.below hb3)
    have Hsz : Hid (w.heap.size + 2 ≤ (w1.alloc (.cells #[.slice a1 d.safe.length c1, .slice a2 d.wait.length c2] 23)).heap.size) := HB2.out.top
    obtain ⟨a3, c3, rfl⟩ := OwnSl.slice ho3
    have HR3 : Hid (RdBytes w3 (fun b => w.heap.size + 2 ≤ b) (.slice a3 J.length c3) J) := (OwnB.read ho3).keep (fun b hb _ => by have h1 : _ ≤ b := hb; have := Hsz.out; show _ ≤ _; omega) (fun _ _ _ => rfl) (Nat.le_refl _)
    clear ho3 hb3 hJ HSL HA HB2 Hd2
    have HA3 := Lib.hid (bel_alloc (Below.refl w3.heap.size w3) (.cells #[.slice a3 J.length c3, .slice none 0 0] 25))
    have HX3 := Lib.hid (heap_last w3 (.cells #[.slice a3 J.length c3, .slice none 0 0] 25))
    have HB4 := Lib.hid (HB3.out.below HA3.out)
    have HR4 := Lib.hid (RdBytes.below HR3.out HA3.out)
    have hqx := cells_of HX3.out
    go_wp2_with fail
    clear hqx
    refine (dcheck_any _ _ ⟨J, []⟩ _ _ ⟨HR4.out, nil_bytes _ _⟩ (HL.out.below HB4.out.bel)).mono ?_
    rintro e w5 ⟨rfl, hb5⟩
    have HB5 := Lib.hid (HB4.out.below hb5)
    have HR5 := Lib.hid (RdBytes.below HR4.out hb5)
    have hqx := cells_of (blk_below HX3.out hb5)
    clear hb5 HB4 HR4
    by_cases h1 : diskE ⟨J, []⟩ = 0
    · have HE : Hid (syncE d = (⟨J, []⟩, 0)) := by show _ = _; unfold syncE; rw [if_neg (by rw [H0.out]; simp), HJ.out, if_neg (by rw [h1]; simp)]
      rw [h1]
      clear h1
      have hq1 := HB5.out.cells1
      have hf1 := HB5.out.free1
      have HS := Lib.hid ((HB5.out.set (i := 1) rfl 0 (.slice a3 J.length c3)).set (i := 1) rfl 1 (.slice none 0 0))
      have hqs := HS.out.cells1
      have HBL := Lib.hid HS.out.bel
      have HRD := Lib.hid (disk_off (b := w.heap.size + 1) (B := w.heap.size) (d := ⟨J, []⟩) ⟨HR5.out, nil_bytes _ _⟩ (puts2_grow (.slice a3 J.length c3) (.slice none 0 0)) (by omega))
      clear HS
      go_wp2
      refine bodyPost_ret (v := .tuple #[diskV (.slice a3 J.length c3) (.slice none 0 0), .int .i64 0]) ?_ rfl (by rw [HE.out]; exact ⟨_, _, rfl, HRD.out, HBL.out⟩)
      rw [results_cell_tmp rfl]
      go_simp
    · have HE : Hid (syncE d = (zeroDisk, diskE ⟨J, []⟩)) := by show _ = _; unfold syncE; rw [if_neg (by rw [H0.out]; simp), HJ.out, if_pos h1]
      have hne : (diskE ⟨J, []⟩ != 0) = true := bne_iff_ne.2 h1
      generalize diskE ⟨J, []⟩ = E at *
      clear h1
      have hq1 := HB5.out.cells1
      have hf1 := HB5.out.free1
      have HS := Lib.hid ((HB5.out.set (i := 1) rfl 0 (.slice none 0 0)).set (i := 1) rfl 1 (.slice none 0 0))
      have hqs := HS.out.cells1
      have HBL := Lib.hid HS.out.bel
      clear HS
      go_wp2
      refine bodyPost_ret (v := .tuple #[diskV (.slice none 0 0) (.slice none 0 0), .int .i64 E]) ?_ rfl (by rw [HE.out]; exact ⟨_, _, rfl, nil_disk _ _, HBL.out⟩)
      rw [results_cell_tmp rfl]
      go_simp
  · have HE : Hid (syncE d = (zeroDisk, diskE d)) := by show _ = _; unfold syncE; rw [if_pos h0]
    have hne : (diskE d != 0) = true := bne_iff_ne.2 h0
    generalize diskE d = E at *
    clear h0
    have hq1 := HB1.out.cells1
    have hf1 := HB1.out.free1
    have HS := Lib.hid ((HB1.out.set (i := 1) rfl 0 (.slice none 0 0)).set (i := 1) rfl 1 (.slice none 0 0))
    have hqs := HS.out.cells1
    have HBL := Lib.hid HS.out.bel
    clear HS
    go_wp2
    refine bodyPost_ret (v := .tuple #[diskV (.slice none 0 0) (.slice none 0 0), .int .i64 E]) ?_ rfl (by rw [HE.out]; exact ⟨_, _, rfl, nil_disk _ _, HBL.out⟩)
    rw [results_cell_tmp rfl]
    go_simp
set_option maxRecDepth 100000 in
set_option maxHeartbeats 16000000 in
theorem dcrash_any (u v : Value) (d : TDisk) (n : Int) (D : Nat → Prop) (w : World) (h : RdDisk w D u v d) (hL : Laid w) :
    Calls Tryz.prog 35 #[diskV u v, .int .i64 n] w fun e w' => ∃ u' v', e = .returned (.tuple #[diskV u' v', .int .i64 (crashE d n).2]) ∧ RdDisk w' (fun b => w.heap.size ≤ b) u' v' (crashE d n).1 ∧ Below w.heap.size w w' := by
  have HL := Lib.hid hL
  have Hd := Lib.hid (RdDisk.true h)
  obtain ⟨a1, c1, rfl, hc1⟩ := Sl.form h.1
  obtain ⟨a2, c2, rfl, hc2, hc3, hc4⟩ := Sl.form h.2
  clear h hL hc1 hc4
  go_enter Tryz.func35, Tryz.ntmps35
  go_wp2_with fail
  have HB := Lib.hid (Bx.two (w := w) (o := .cells #[.slice a1 d.safe.length c1, .slice a2 d.wait.length c2] 25) (o' := .cells #[.slice none 0 0, .slice none 0 0] 25))
  refine (dcheck_any _ _ d _ _ (RdDisk.below Hd.out HB.out.bel) (HL.out.below HB.out.bel)).mono ?_
  rintro e w1 ⟨rfl, hb1⟩
  have HB1 := Lib.hid (HB.out.below hb1)
  clear hb1 HB
  by_cases h0 : diskE d = 0
  · have H0 := Lib.hid h0
    have Hsum : Hid (d.safe.length + d.wait.length ≤ 60000) := (diskE_ok h0).1
    rw [h0]
    clear h0
    by_cases hn0 : n < 0
    · have HE : Hid (crashE d n = (zeroDisk, 3)) := by show _ = _; unfold crashE; rw [if_neg (by rw [H0.out]; simp), if_pos (.inl hn0)]
      have hq1 := HB1.out.cells1
      have hf1 := HB1.out.free1
      have HS := Lib.hid ((HB1.out.set (i := 1) rfl 0 (.slice none 0 0)).set (i := 1) rfl 1 (.slice none 0 0))
      have hqs := HS.out.cells1
      have HBL := Lib.hid HS.out.bel
      clear HS
      go_wp2
      refine bodyPost_ret (v := .tuple #[diskV (.slice none 0 0) (.slice none 0 0), .int .i64 3]) ?_ rfl (by rw [HE.out]; exact ⟨_, _, rfl, nil_disk _ _, HBL.out⟩)
      rw [results_cell_tmp rfl]
      go_simp
    · by_cases hn1 : (d.wait.length : Int) < n
      · have HE : Hid (crashE d n = (zeroDisk, 3)) := by show _ = _; unfold crashE; rw [if_neg (by rw [H0.out]; simp), if_pos (.inr hn1)]
        have hq0 := HB1.out.cells0
        have hq1 := HB1.out.cells1
        have hf1 := HB1.out.free1
        have HS := Lib.hid ((HB1.out.set (i := 1) rfl 0 (.slice none 0 0)).set (i := 1) rfl 1 (.slice none 0 0))
        have hqs := HS.out.cells1
        have HBL := Lib.hid HS.out.bel
        clear HS
        go_wp2
        refine bodyPost_ret (v := .tuple #[diskV (.slice none 0 0) (.slice none 0 0), .int .i64 3]) ?_ rfl (by rw [HE.out]; exact ⟨_, _, rfl, nil_disk _ _, HBL.out⟩)
        rw [results_cell_tmp rfl]
        go_simp
      · have HE : Hid (crashE d n = (⟨d.safe, d.wait.take n.toNat⟩, 0)) := by show _ = _; unfold crashE; rw [if_neg (by rw [H0.out]; simp), if_neg (by omega)]
        obtain ⟨k, rfl⟩ : ∃ k : Nat, n = k := ⟨n.toNat, by omega⟩
        rw [Int.toNat_natCast] at HE
        have Hk : Hid (k ≤ d.wait.length) := by show _ ≤ _; omega
        have hk0 : (0 : Int) ≤ (k : Int) := by omega
        have hkc : (k : Int) ≤ (c2 : Int) := by omega
        have hq0 := HB1.out.cells0
        go_wp2_with fail
        clear hq0
        obtain ⟨w0, rfl⟩ : ∃ w0 : World, w0 = w1 := ⟨_, rfl⟩
        have HB2 := Lib.hid HB1.out
        have Hd2 := Lib.hid (RdDisk.below Hd.out HB2.out.bel)
        have Hsz : Hid (w.heap.size + 1 < w0.heap.size) := HB2.out.top
        refine wp_region_lastop 9 w0.heap.size [ex (.pointer (some ⟨w.heap.size, 0, none⟩)), ex (.slice a1 d.safe.length c1), pr (PBy w0.heap.size d.safe), ex (.pointer (some ⟨w.heap.size, 1, none⟩)), ex (.slice a2 d.wait.length c2), ex (.int .i64 (k : Int)), ex (.slice a2 k c2), pr (PBy w0.heap.size (d.wait.take k)), pr (PDk w0.heap.size d.safe (d.wait.take k)), ex (undef), ex (.int .i64 0)] (PFin w0 (w.heap.size + 1) d.safe (d.wait.take k)) (by kernel_rfl) (by kernel_rfl) ⟨.inl ⟨_, rfl⟩, .inl ⟨_, rfl⟩, .inr ⟨_, rfl, PBy_stable⟩, .inl ⟨_, rfl⟩, .inl ⟨_, rfl⟩, .inl ⟨_, rfl⟩, .inl ⟨_, rfl⟩, .inr ⟨_, rfl, PBy_stable⟩, .inr ⟨_, rfl, PDk_stable⟩, .inl ⟨_, rfl⟩, .inl ⟨_, rfl⟩, trivial⟩ _ rfl ?_
        (refine walkP_ex (fun K hK => ?_); refine ⟨fun done W hI h0 hd hn hf R hR => ?_, ?_⟩; (have hno : done 9 = false := hn 9 (by decide); have hC := hI.before hno; clear h0 hd hn hf; go_simp; exact hR _ _ (hI.step hno (by decide) (Below.refl _ _)) (KeepFrom.of_below (Below.refl _ _)) rfl); (go_simp; refine hK _ ?_; clear hK K))
        (refine walkP_ex (fun K hK => ?_); refine ⟨fun done W hI h0 hd hn hf R hR => ?_, ?_⟩; (have hno : done 9 = false := hn 9 (by decide); have hC := hI.before hno; have hqb := (HB2.out.below hC.2).cells0; clear h0 hd hn hf; go_simp; exact hR _ _ (hI.step hno (by decide) (Below.refl _ _)) (KeepFrom.of_below (Below.refl _ _)) rfl); (go_simp; refine hK _ ?_; clear hK K))
        (refine walkP_pr (fun K hK => ?_); refine ⟨fun done W hI h0 hd hn hf R hR => ?_, fun v2 => ?_⟩; (have hno : done 9 = false := hn 9 (by decide); have hC := hI.before hno; have hsz0 : w0.heap.size ≤ W.heap.size := hC.1; have HSZ := Lib.hid hsz0; clear hsz0; have HRW := Lib.hid (RdBytes.below Hd2.out.1 hC.2); clear h0 hd hn hf; go_simp; go_at_call 80; refine (cloneByte_any byteR oneByteP _ d.safe _ W HRW.out (by have := Hsum.out; omega)).mono ?_; rintro e w9 ⟨v9, rfl, ho9, hb9⟩; have hro := OwnB.read ho9; have HRO := Lib.hid hro; clear hro ho9; exact ⟨_, rfl, hR _ _ (hI.step hno (by decide) hb9) (KeepFrom.of_below hb9) (HRO.out.keep (fun b hb _ => by have h1 : _ ≤ b := hb; have := HSZ.out; show _ ≤ _; omega) (fun _ _ _ => rfl) (Nat.le_refl _))⟩); (go_simp; refine hK _ _ ?_; clear hK K))
        (refine walkP_ex (fun K hK => ?_); refine ⟨fun done W hI h0 hd hn hf R hR => ?_, ?_⟩; (have hno : done 9 = false := hn 9 (by decide); have hC := hI.before hno; clear h0 hd hn hf; go_simp; exact hR _ _ (hI.step hno (by decide) (Below.refl _ _)) (KeepFrom.of_below (Below.refl _ _)) rfl); (go_simp; refine hK _ ?_; clear hK K))
        (refine walkP_ex (fun K hK => ?_); refine ⟨fun done W hI h0 hd hn hf R hR => ?_, ?_⟩; (have hno : done 9 = false := hn 9 (by decide); have hC := hI.before hno; have hqb := (HB2.out.below hC.2).cells0; clear h0 hd hn hf; go_simp; exact hR _ _ (hI.step hno (by decide) (Below.refl _ _)) (KeepFrom.of_below (Below.refl _ _)) rfl); (go_simp; refine hK _ ?_; clear hK K))
        (refine walkP_ex (fun K hK => ?_); refine ⟨fun done W hI h0 hd hn hf R hR => ?_, ?_⟩; (have hno : done 9 = false := hn 9 (by decide); have hC := hI.before hno; clear h0 hd hn hf; go_simp; exact hR _ _ (hI.step hno (by decide) (Below.refl _ _)) (KeepFrom.of_below (Below.refl _ _)) rfl); (go_simp; refine hK _ ?_; clear hK K))
        (refine walkP_ex (fun K hK => ?_); refine ⟨fun done W hI h0 hd hn hf R hR => ?_, ?_⟩; (have hno : done 9 = false := hn 9 (by decide); have hC := hI.before hno; clear h0 hd hn hf; go_simp; exact hR _ _ (hI.step hno (by decide) (Below.refl _ _)) (KeepFrom.of_below (Below.refl _ _)) rfl); (go_simp; refine hK _ ?_; clear hK K))
        (refine walkP_pr (fun K hK => ?_); refine ⟨fun done W hI h0 hd hn hf R hR => ?_, fun v7 => ?_⟩; (have hno : done 9 = false := hn 9 (by decide); have hC := hI.before hno; have hsz0 : w0.heap.size ≤ W.heap.size := hC.1; have HSZ := Lib.hid hsz0; clear hsz0; have HRW := Lib.hid (Sl.take (RdBytes.below Hd2.out.2 hC.2) Hk.out); clear h0 hd hn hf; go_simp; go_at_call 80; refine (cloneByte_any byteR oneByteP _ (d.wait.take k) _ W HRW.out (by have := Hsum.out; have := Hk.out; rw [List.length_take]; omega)).mono ?_; rintro e w9 ⟨v9, rfl, ho9, hb9⟩; have hro := OwnB.read ho9; have HRO := Lib.hid hro; clear hro ho9; exact ⟨_, rfl, hR _ _ (hI.step hno (by decide) hb9) (KeepFrom.of_below hb9) (HRO.out.keep (fun b hb _ => by have h1 : _ ≤ b := hb; have := HSZ.out; show _ ≤ _; omega) (fun _ _ _ => rfl) (Nat.le_refl _))⟩); (go_simp; refine hK _ _ ?_; clear hK K))
        (refine walkP_pr (fun K hK => ?_); refine ⟨fun done W hI h0 hd hn hf R hR => ?_, fun v8 => ?_⟩; (have hno : done 9 = false := hn 9 (by decide); have hC := hI.before hno; have h2 : PBy w0.heap.size d.safe v2 W := hf 2 (by decide); have h7 : PBy w0.heap.size (d.wait.take k) v7 W := hf 7 (by decide); obtain ⟨x1, y1, rfl, _⟩ := Sl.form h2; obtain ⟨x2, y2, rfl, _⟩ := Sl.form h7; have H2 := Lib.hid h2; have H7 := Lib.hid h7; obtain ⟨N, hN⟩ : ∃ N, (d.wait.take k).length = N := ⟨_, rfl⟩; rw [hN] at H7 ⊢; clear h2 h7 hC hN; clear h0 hd hn hf; go_simp; exact hR _ _ (hI.step hno (by decide) (Below.refl _ _)) (KeepFrom.of_below (Below.refl _ _)) ⟨_, _, rfl, H2.out, H7.out⟩); (go_simp; refine hK _ _ ?_; clear hK K))
        (refine walkP_ex (fun K hK => ?_); refine ⟨fun done W hI h0 hd hn hf R hR => ?_, ?_⟩; (have hno : done 9 = false := h0; have hC := hI.before hno; have h8 : PDk w0.heap.size d.safe (d.wait.take k) v8 W := hf 8 (by decide); obtain ⟨x, y, rfl, hx, hy⟩ := h8; have HX := Lib.hid hx; have HY := Lib.hid hy; obtain ⟨x1, y1, rfl, _⟩ := Sl.form hx; obtain ⟨x2, y2, rfl, _⟩ := Sl.form hy; obtain ⟨N, hN⟩ : ∃ N, (d.wait.take k).length = N := ⟨_, rfl⟩; rw [hN] at HY ⊢; have hBW := HB2.out.below hC.2; have hq1 := hBW.cells1; have hf1 := hBW.free1; have HFn := Lib.hid (put_fin (β := w.heap.size + 1) hC.2 hC.1 (hBW.at_ 1 _ rfl) Hsz.out HX.out HY.out); have HKF : Hid (KeepFrom w0.heap.size W ((W.setCell ⟨w.heap.size + 1, 0, none⟩ (.slice x1 d.safe.length y1)).setCell ⟨w.heap.size + 1, 1, none⟩ (.slice x2 N y2))) := keep_puts2 Hsz.out; clear hx hy hBW hC hN; clear h0 hd hn hf; go_simp; exact hR _ _ (LastI.at_ HFn.out) HKF.out rfl); (go_simp; refine hK _ ?_; clear hK K))
        (refine walkP_ex (fun K hK => ?_); refine ⟨fun done W hI h0 hd hn hf R hR => ?_, ?_⟩; (have hyes : done 9 = true := hd 9 (by decide); clear h0 hd hn hf; go_simp; exact hR _ _ (hI.past hyes (by decide)) (KeepFrom.of_below (Below.refl _ _)) rfl); (go_simp; refine hK _ ?_; clear hK K))
        intro done w5 hdone hI _
        have hFin := hI.after (hdone 9 (by decide))
        clear hdone hI
        obtain ⟨x, y, hbx, hrd, hg⟩ := hFin
        have Hrd := Lib.hid hrd
        obtain ⟨x1, y1, rfl, _⟩ := Sl.form hrd.1
        obtain ⟨x2, y2, rfl, _⟩ := Sl.form hrd.2
        have hqb := cells_of hbx
        have HBL : Hid (Below w.heap.size w w5) := Below.grown HB2.out.bel hg HB2.out.bel.size (fun g e => by injection e with e; omega)
        have HRD : Hid (RdDisk w5 (fun b => w.heap.size ≤ b) (.slice x1 d.safe.length y1) (.slice x2 (d.wait.take k).length y2) ⟨d.safe, d.wait.take k⟩) := Hrd.out.keep (fun b hb _ => by have h1 : w0.heap.size ≤ b := hb; have := Hsz.out; show _ ≤ _; omega) (fun _ _ _ => rfl) (Nat.le_refl _)
        clear hrd hbx hg
        dsimp only at hqb
        go_wp2
        refine bodyPost_ret (v := .tuple #[diskV (.slice x1 d.safe.length y1) (.slice x2 (d.wait.take k).length y2), .int .i64 0]) ?_ rfl (by rw [HE.out]; exact ⟨_, _, rfl, HRD.out, HBL.out⟩)
        rw [results_cell_tmp rfl]
        go_simp
  · have HE : Hid (crashE d n = (zeroDisk, diskE d)) := by show _ = _; unfold crashE; rw [if_pos h0]
    have hne : (diskE d != 0) = true := bne_iff_ne.2 h0
    generalize diskE d = E at *
    clear h0
    have hq1 := HB1.out.cells1
    have hf1 := HB1.out.free1
    have HS := Lib.hid ((HB1.out.set (i := 1) rfl 0 (.slice none 0 0)).set (i := 1) rfl 1 (.slice none 0 0))
    have hqs := HS.out.cells1
    have HBL := Lib.hid HS.out.bel
    clear HS
    go_wp2
    refine bodyPost_ret (v := .tuple #[diskV (.slice none 0 0) (.slice none 0 0), .int .i64 E]) ?_ rfl (by rw [HE.out]; exact ⟨_, _, rfl, nil_disk _ _, HBL.out⟩)
    rw [results_cell_tmp rfl]
    go_simp
end Go.Proofs.YthkgjohhbdipcaaGreatDoor
namespace Go.Proofs.YthkgjohhbdipcaaGreatDoor
open Go.RowKit
attribute [local go_sem] gives givesUpon

theorem nil_recs (w : World) (D : Nat → Prop) : RdRecs w D (.slice none 0 0) [] := ⟨none, 0, rfl, Nat.le_refl _, by decide, fun _ => rfl, fun h => by cases h⟩
/-- append onto an own row, from whatever slice reads, in a region. -/
theorem gives_append_sl {α : Type} {P : Program} {w : World} {o : Oper} {a : Act} {R' : Value → World → Prop} {R : α → List Value → Prop} {D : Nat → Prop} (s x : Operand) (t : TypeId)
    (ho : o.op = .call { callee := .builtin .append, args := #[s, x], argTypes := #[t, t] }) (base : Nat) (e : TypeId) (i : TypeInfo) (z : Value) (size bytes : Nat) (ht : P.underlying t = some (.slice e)) (hi : P.info? e = some i) (hz : i.zero = some z)
    (hsize : i.size = size) (hby : i.bytes = bytes) (hzs : z.cells.size = size) (hsz : 0 < size)
    (v : Value) (xs : List α) (hs : a.eval s = v) (hown : OwnSl w base e size R v xs)
    (u : Value) (ys : List α) (hx : a.eval x = u) (hu : Sl w D size R u ys) (h1 : ∀ y ∈ ys, ∀ cs, R y cs → ∀ c ∈ cs, c.oneCell' = true)
    (h63 : xs.length + ys.length ≤ maxLen) (hbytes : (xs.length + ys.length) * bytes ≤ 140737488355328) (hbase : base ≤ w.heap.size)
    (h : ∀ v' w', OwnSl w' base e size R v' (xs ++ ys) → w.grownBy w' v.ownBlock → (v'.ownBlock = v.ownBlock ∨ v'.ownBlock = some w.heap.size) → R' v' w') : gives P o a w R' := by
  obtain ⟨au, cu, rows, hv, hr, hcm, hnone, hcell⟩ := hu.rows
  obtain ⟨rows0, hr0, ho0⟩ := hown
  cases au with
  | none =>
    obtain ⟨hc0, hy⟩ := hnone rfl
    subst hc0 hy
    have hrun := run_append_owned_none (P := P) (w := w) base t o.type e i size ht hi v xs.length rows0.flatten ho0
    unfold gives execOp
    simp only [ho, resolve, invoke, builtin, Sem.run_bind, Sem.run_pure, Result.andThen_ok, List.map_toArray, List.map_cons, List.map_nil, hs, hx, hv, List.length_nil, hrun]
    exact h v w ⟨rows0, by simpa using hr0, by simpa using ho0⟩ ⟨rfl, rfl, rfl, Nat.le_refl _, fun _ _ _ => rfl⟩ (.inl rfl)
  | some ad =>
    obtain ⟨v', w', hrun, h2, h3, _, h5⟩ := run_append_own_at (P := P) w base t o.type e i z size bytes ht hi hz hsize hby hzs hsz v xs.length rows0.flatten ho0 ad ys.length cu rows.flatten (by rw [flat_len rows hr.size, hr.len]) (hcell ad rfl) (fun c hc => by
      obtain ⟨r, hrm, hcr⟩ := List.mem_flatten.1 hc
      obtain ⟨k, hk⟩ := List.getElem?_of_mem hrm
      have hkl : k < ys.length := by rw [← hr.len]; exact (List.getElem?_eq_some_iff.1 hk).1
      exact h1 ys[k] (List.getElem_mem hkl) r (hr.rel k _ r (List.getElem?_eq_getElem hkl) hk) c hcr) h63 hbytes hbase
    unfold gives execOp
    simp only [ho, resolve, invoke, builtin, Sem.run_bind, Sem.run_pure, Result.andThen_ok, List.map_toArray, List.map_cons, List.map_nil, hs, hx, hv, hrun]
    exact h v' w' ⟨rows0 ++ rows, hr0.app hr, by simpa using h2⟩ h3 h5
structure RcFin (w0 : World) (β : Nat) (lv : Value) (B : Nat) (L : List UInt8) (rs : List TRec) (v7 v11 : Value) (W : World) : Prop where
  os : W.os = w0.os
  tape : W.tape = w0.tape
  output : W.output = w0.output
  size : w0.heap.size ≤ W.heap.size
  blk : ∀ k, k < w0.heap.size → k ≠ β → some k ≠ lv.ownBlock → W.heap[k]? = w0.heap[k]?
  box : W.heap[β]? = some (.cells #[v7, .slice none 0 0] 25)
  bytes : RdBytes W (fun b => w0.heap.size ≤ b) v7 L
  recs : OwnRecs W B v11 rs
structure RcI (w0 : World) (β : Nat) (lv : Value) (B : Nat) (S Wn : List UInt8) (l m : List TRec) (done : Nat → Bool) (vf : Nat → Value) (W : World) : Prop where
  fr : done 11 = false → done 12 = false → Below w0.heap.size w0 W
  o1 : done 11 = true → done 7 = true
  o2 : done 12 = true → done 11 = true
  c6 : done 6 = true → done 7 = false → Sl W (fun _ => True) 1 (rowsRByte W (fun _ => True)) (vf 6) [S, Wn]
  c7 : done 7 = true → RdBytes W (fun b => w0.heap.size ≤ b) (vf 7) (S ++ Wn)
  mid : done 11 = true → done 12 = false → w0.grownBy W lv.ownBlock ∧ OwnRecs W B (vf 11) (l ++ m)
  fin : done 12 = true → RcFin w0 β lv B (S ++ Wn) (l ++ m) (vf 7) (vf 11) W
section
variable {w0 W W' : World} {β B : Nat} {lv : Value} {S Wn : List UInt8} {l m : List TRec} {done : Nat → Bool} {vf : Nat → Value} {v : Value} {i : Nat}
theorem RcI.start : RcI w0 β lv B S Wn l m (fun _ => false) (fun _ => undef) w0.drew := ⟨fun _ _ => (Below.refl _ _).drew, (fun h => by cases h), (fun h => by cases h), (fun h => by cases h), (fun h => by cases h), (fun h => by cases h), (fun h => by cases h)⟩
theorem RcI.same (h : RcI w0 β lv B S Wn l m done vf W) (h6 : 6 ≠ i) (h7 : 7 ≠ i) (h11 : 11 ≠ i) (h12 : 12 ≠ i) : RcI w0 β lv B S Wn l m (updDone done i) (updVal vf i v) W := by
  have e6 : updDone done i 6 = done 6 := if_neg h6
  have e7 : updDone done i 7 = done 7 := if_neg h7
  have e11 : updDone done i 11 = done 11 := if_neg h11
  have e12 : updDone done i 12 = done 12 := if_neg h12
  have f6 : updVal vf i v 6 = vf 6 := if_neg h6
  have f7 : updVal vf i v 7 = vf 7 := if_neg h7
  have f11 : updVal vf i v 11 = vf 11 := if_neg h11
  refine ⟨?_, ?_, ?_, ?_, ?_, ?_, ?_⟩ <;> simp only [e6, e7, e11, e12, f6, f7, f11]
  · exact h.fr
  · exact h.o1
  · exact h.o2
  · exact h.c6
  · exact h.c7
  · exact h.mid
  · exact h.fin
theorem two_rows_below {W W' : World} {v : Value} {S Wn : List UInt8} (h : Sl W (fun _ => True) 1 (rowsRByte W (fun _ => True)) v [S, Wn]) (hb : Below W.heap.size W W') : Sl W' (fun _ => True) 1 (rowsRByte W' (fun _ => True)) v [S, Wn] :=
  Sl.belowR h hb fun _ _ _ ⟨u, h1, h2⟩ => ⟨u, h1, RdBytes.below h2 hb⟩
theorem RcI.new6 {x y : Value} (h : RcI w0 β lv B S Wn l m done vf W) (n7 : done 7 = false) (n11 : done 11 = false) (n12 : done 12 = false) (hx : RdBytes W (fun _ => True) x S) (hy : RdBytes W (fun _ => True) y Wn) : RcI w0 β lv B S Wn l m (updDone done 6) (updVal vf 6 (.slice (some ⟨W.heap.size, 0, none⟩) 2 2)) (W.alloc (.cells #[x, y] 23)) := by
  have hb : Below W.heap.size W (W.alloc (.cells #[x, y] 23)) := bel_alloc (Below.refl _ _) _
  refine ⟨fun _ _ => bel_call (h.fr n11 n12) hb, ?_, ?_, fun _ _ => ?_, ?_, ?_, ?_⟩
  · exact fun e => by simp [updDone, n11] at e
  · exact fun e => by simp [updDone, n12] at e
  · have e : updVal vf 6 (.slice (some ⟨W.heap.size, 0, none⟩) 2 2) 6 = .slice (some ⟨W.heap.size, 0, none⟩) 2 2 := if_pos rfl
    rw [e]
    exact two_rows (RdBytes.below hx hb) (RdBytes.below hy hb) (heap_last _ _)
  · exact fun e => by simp [updDone, n7] at e
  · exact fun e => by simp [updDone, n11] at e
  · exact fun e => by simp [updDone, n12] at e
theorem RcI.conc7 (h : RcI w0 β lv B S Wn l m done vf W) (n7 : done 7 = false) (n11 : done 11 = false) (n12 : done 12 = false) (hb : Below W.heap.size W W') (ho : OwnB W' W.heap.size v (S ++ Wn)) : RcI w0 β lv B S Wn l m (updDone done 7) (updVal vf 7 v) W' := by
  refine ⟨fun _ _ => bel_call (h.fr n11 n12) hb, ?_, ?_, ?_, fun _ => ?_, ?_, ?_⟩
  · exact fun _ => by simp [updDone]
  · exact fun e => by simp [updDone, n12] at e
  · exact fun _ e => by simp [updDone] at e
  · have e : updVal vf 7 v 7 = v := if_pos rfl
    rw [e]
    exact (OwnB.read ho).keep (fun b hb' _ => by have h1 : W.heap.size ≤ b := hb'; have := (h.fr n11 n12).size; show _ ≤ _; omega) (fun _ _ _ => rfl) (Nat.le_refl _)
  · exact fun e => by simp [updDone, n11] at e
  · exact fun e => by simp [updDone, n12] at e
theorem RcI.app11 (h : RcI w0 β lv B S Wn l m done vf W) (d7 : done 7 = true) (n11 : done 11 = false) (n12 : done 12 = false) (hlv : (∀ g, lv.ownBlock = some g → g < w0.heap.size) ∧ ∀ g, lv.ownBlock = some g → g ≠ β) (ho : OwnSl W' B 56 5 (recR W (fun b => B ≤ b ∧ lv.ownBlock ≠ some b)) v (l ++ m)) (hg : W.grownBy W' lv.ownBlock) (hat : v.ownBlock = lv.ownBlock ∨ v.ownBlock = some W.heap.size) :
    RcI w0 β lv B S Wn l m (updDone done 11) (updVal vf 11 v) W' := by
  have hb := h.fr n11 n12
  refine ⟨?_, ?_, ?_, ?_, fun _ => ?_, fun _ _ => ⟨?_, ?_⟩, ?_⟩
  · exact fun e => by simp [updDone] at e
  · exact fun _ => by simp [updDone, d7]
  · exact fun e => by simp [updDone, n12] at e
  · exact fun _ e => by simp [updDone, d7] at e
  · have e : updVal vf 11 v 7 = vf 7 := if_neg (by decide)
    rw [e]
    exact (h.c7 d7).keep (fun _ hx _ => hx) (fun x hx hl => hg.block x hl (fun e => by have h1 : w0.heap.size ≤ x := hx; have := hlv.1 x e.symm; omega)) hg.size
  · exact ⟨hg.os.trans hb.os, hg.tape.trans hb.tape, hg.output.trans hb.output, Nat.le_trans hb.size hg.size, fun k hk hn => (hg.block k (Nat.lt_of_lt_of_le hk hb.size) hn).trans (hb.block k hk)⟩
  · have e : updVal vf 11 v 11 = v := if_pos rfl
    rw [e]
    exact OwnRecs.app ho hg hat
  · exact fun e => by simp [updDone, n12] at e
theorem RcI.box (h : RcI w0 β lv B S Wn l m done vf W) (d11 : done 11 = true) (n12 : done 12 = false) {o : Obj} (hβ : w0.heap[β]? = some o) (hlv : ∀ g, lv.ownBlock = some g → g ≠ β) : W.heap[β]? = some o := by
  obtain ⟨hg, _⟩ := h.mid d11 n12
  rw [hg.block β (Array.getElem?_eq_some_iff.1 hβ).1 (fun e => hlv β e.symm rfl)]
  exact hβ
theorem RcI.fin12 (h : RcI w0 β lv B S Wn l m done vf W) (d11 : done 11 = true) (n12 : done 12 = false) {c0 c1 : Value} (hβ : w0.heap[β]? = some (.cells #[c0, c1] 25)) (hlv : (∀ g, lv.ownBlock = some g → g < w0.heap.size) ∧ ∀ g, lv.ownBlock = some g → g ≠ β) (hB : β < B) : RcI w0 β lv B S Wn l m (updDone done 12) (updVal vf 12 v) ((W.setCell ⟨β, 0, none⟩ (vf 7)).setCell ⟨β, 1, none⟩ (.slice none 0 0)) := by
  obtain ⟨hg, ho⟩ := h.mid d11 n12
  have d7 := h.o1 d11
  have hbx := h.box d11 n12 hβ hlv.2
  have hβl := (Array.getElem?_eq_some_iff.1 hβ).1
  have hp : W.grownBy ((W.setCell ⟨β, 0, none⟩ (vf 7)).setCell ⟨β, 1, none⟩ (.slice none 0 0)) (some β) := puts2_grow _ _
  have e7 : updVal vf 12 v 7 = vf 7 := if_neg (by decide)
  have e11 : updVal vf 12 v 11 = vf 11 := if_neg (by decide)
  have h7 : RdBytes ((W.setCell ⟨β, 0, none⟩ (vf 7)).setCell ⟨β, 1, none⟩ (.slice none 0 0)) (fun b => w0.heap.size ≤ b) (vf 7) (S ++ Wn) := (h.c7 d7).keep (fun _ hx _ => hx) (fun x hx hl => grow_keep hp hl (by have h1 : w0.heap.size ≤ x := hx; omega)) hp.size
  refine ⟨?_, ?_, ?_, ?_, fun _ => by rw [e7]; exact h7, ?_, fun _ => ?_⟩
  · exact fun _ e => by simp [updDone] at e
  · exact fun _ => by simp [updDone, d7]
  · exact fun _ => by simp [updDone, d11]
  · exact fun _ e => by simp [updDone, d7] at e
  · exact fun _ e => by simp [updDone] at e
  · rw [e7, e11]
    refine ⟨hp.os.trans hg.os, hp.tape.trans hg.tape, hp.output.trans hg.output, Nat.le_trans hg.size hp.size, fun k hk hn ho' => (grow_keep hp (Nat.lt_of_lt_of_le hk hg.size) hn).trans (hg.block k hk ho'), puts2_at _ _ hbx, h7, ?_⟩
    refine OwnSl.monoR (OwnSl.keepFrom ho fun b hb' hl => grow_keep hp hl (by omega)) fun _ _ _ hr => hr.keep (fun _ hx _ => hx) (fun x hx hl => grow_keep hp hl (by have h1 : B ≤ x := hx.1; omega)) hp.size
end
set_option maxRecDepth 100000 in
set_option maxHeartbeats 16000000 in
theorem drecover_any (u v : Value) (d : TDisk) (D : Nat → Prop) (w : World) (h : RdDisk w D u v d) (hL : Laid w) :
    Calls Tryz.prog 36 #[diskV u v] w fun e w' => ∃ u' v' vl, e = .returned (.tuple #[diskV u' v', vl, .int .i64 (recoverE d).2.2]) ∧ RdDisk w' (fun b => w.heap.size ≤ b) u' v' (recoverE d).1 ∧ RdRecs w' (fun b => w.heap.size ≤ b) vl (recoverE d).2.1 ∧ Below w.heap.size w w' := by
  have HL := Lib.hid hL
  have Hd := Lib.hid (RdDisk.true h)
  obtain ⟨a1, c1, rfl, hc1⟩ := Sl.form h.1
  obtain ⟨a2, c2, rfl, hc2, hc3, hc4⟩ := Sl.form h.2
  clear h hL hc1 hc4
  go_enter Tryz.func36, Tryz.ntmps36
  go_wp2_with fail
  have HB := Lib.hid (Bx.two (w := w) (o := .cells #[.slice a1 d.safe.length c1, .slice a2 d.wait.length c2] 25) (o' := .cells #[.slice none 0 0, .slice none 0 0] 25))
  refine (dcheck_any _ _ d _ _ (RdDisk.below Hd.out HB.out.bel) (HL.out.below HB.out.bel)).mono ?_
  rintro e w1 ⟨rfl, hb1⟩
  have HB1 := Lib.hid (HB.out.below hb1)
  clear hb1 HB
  by_cases h0 : diskE d = 0
  · have H0 := Lib.hid h0
    have Hsum : Hid (d.safe.length + d.wait.length ≤ 60000) := (diskE_ok h0).1
    rw [h0]
    clear h0
    have hq0 := HB1.out.cells0
    have hcv := bytes_string (RdBytes.below Hd.out.1 HB1.out.bel)
    go_wp2_with fail
    clear hq0 hcv
    refine (lines_any d.safe 40 _ (HL.out.below HB1.out.bel) (by have := Hsum.out; omega) (by decide)).mono ?_
    obtain ⟨⟨l, nl, el⟩, hl⟩ : ∃ E, linesOf d.safe 40 = E := ⟨_, rfl⟩
    have Hl := Lib.hid hl
    have hl40 : l.length ≤ 40 := by have := (linesOf_spec d.safe 40).2.1; rw [hl] at this; exact this
    rw [hl]
    rintro e w2 ⟨vl, rfl, hol, hb2⟩
    dsimp only at hol
    have HB2 := Lib.hid (HB1.out.below hb2)
    have Hol := Lib.hid hol
    have Hlt := Lib.hid (OwnRecs.lt hol)
    have Hb2s : Hid (w1.heap.size ≤ w2.heap.size) := hb2.size
    obtain ⟨al, cl, rfl⟩ := OwnSl.slice hol
    have hsub : IntKind.i64.wrap (40 - (l.length : Int)) = ((40 - l.length : Nat) : Int) := by rw [show ((40 - l.length : Nat) : Int) = 40 - (l.length : Int) by omega]; exact IntWalk.i64_in _ (by omega)
    have hsub2 : 40 - (l.length : Int) = ((40 - l.length : Nat) : Int) := by omega
    have Hw1 : Hid (w.heap.size + 2 ≤ w1.heap.size) := HB1.out.top
    have Hl40 := Lib.hid hl40
    have hq0 := HB2.out.cells0
    have hcv := bytes_string (RdBytes.below Hd.out.2 HB2.out.bel)
    clear hl hol hb2
    dsimp only
    go_wp2_with fail
    clear hq0 hcv
    refine (lines_any d.wait (40 - l.length) _ (HL.out.below HB2.out.bel) (by have := Hsum.out; omega) (by omega)).mono ?_
    obtain ⟨⟨m, nw, em⟩, hm⟩ : ∃ E, linesOf d.wait (40 - l.length) = E := ⟨_, rfl⟩
    have Hm := Lib.hid hm
    have hnw : nw ≤ d.wait.length := by
      obtain ⟨_, _, t, h3, h4, _⟩ := linesOf_spec d.wait (40 - l.length)
      rw [hm] at h3 h4
      dsimp only at h3 h4
      have := congrArg List.length h3
      rw [List.length_append] at this
      omega
    have hm40 : m.length ≤ 40 - l.length := by have := (linesOf_spec d.wait (40 - l.length)).2.1; rw [hm] at this; exact this
    rw [hm]
    rintro e w0 ⟨vm, rfl, hom, hb3⟩
    dsimp only at hom
    have HB3 := Lib.hid (HB2.out.below hb3)
    obtain ⟨am, cm, rfl⟩ := OwnSl.slice hom
    have HE : Hid (recoverE d = (⟨d.safe ++ d.wait.take nw, []⟩, l ++ m, 0)) := by
      show _ = _
      unfold recoverE restOf
      rw [if_neg (by rw [H0.out]; simp), Hl.out]
      dsimp only
      rw [Hm.out]
    have HO : Hid (OwnRecs w0 w1.heap.size (.slice al l.length cl) l) := OwnRecs.below Hol.out hb3
    have HBB : Hid (w.heap.size + 1 < w1.heap.size) := by show _ < _; have := Hw1.out; omega
    have HM : Hid (∀ W, Below w0.heap.size w0 W → Sl W (fun b => w1.heap.size ≤ b) 5 (recR W (fun b => w1.heap.size ≤ b ∧ (Value.slice al l.length cl).ownBlock ≠ some b)) (.slice am m.length cm) m) := fun W hW => by
      have h1 := OwnRecs.below hom hW
      refine Sl.mono (OwnSl.sl (D := fun b => w2.heap.size ≤ b) h1 (fun _ hb => hb)) (fun b hb _ => by have h2 : w2.heap.size ≤ b := hb; have := Hb2s.out; show _ ≤ _; omega) (fun _ _ _ => rfl) (Nat.le_refl _) fun _ _ _ hr => hr.keep (fun b hb _ => ⟨by have := hb.1; have := Hb2s.out; omega, fun e => by have h2 := Hlt.out b e; have := hb.1; omega⟩) (fun _ _ _ => rfl) (Nat.le_refl _)
    have HOb : Hid ((∀ g, (Value.slice al l.length cl).ownBlock = some g → g < w0.heap.size) ∧ ∀ g, (Value.slice al l.length cl).ownBlock = some g → g ≠ w.heap.size + 1) := ⟨fun g hg => by have := Hlt.out g hg; have := hb3.size; omega, fun g hg => by have := OwnSl.block Hol.out g hg; have := Hw1.out; omega⟩
    have Hlm : Hid (l.length + m.length ≤ 40) := by show _ ≤ _; omega
    have HBr : Hid (∀ W, Below w0.heap.size w0 W → ∀ i, W.cell? ⟨w.heap.size, i, none⟩ = (#[.slice a1 d.safe.length c1, .slice a2 d.wait.length c2] : Array Value)[i]?) := fun W hW => (HB3.out.below hW).cells0
    have HBt : Hid (w0.heap[w.heap.size + 1]? = some (.cells #[.slice none 0 0, .slice none 0 0] 25)) := HB3.out.at_ 1 _ rfl
    have HSB : Hid (∀ W, Below w0.heap.size w0 W → RdBytes W (fun _ => True) (.slice a1 d.safe.length c1) d.safe ∧ RdBytes W (fun _ => True) (.slice a2 nw c2) (d.wait.take nw)) := fun W hW => ⟨RdBytes.below (RdBytes.below Hd.out.1 HB3.out.bel) hW, Sl.take (RdBytes.below (RdBytes.below Hd.out.2 HB3.out.bel) hW) hnw⟩
    have hn0 : (0 : Int) ≤ (nw : Int) := by omega
    have hnc : (nw : Int) ≤ (c2 : Int) := by omega
    have Hsz : Hid (w.heap.size + 2 ≤ w0.heap.size) := HB3.out.top
    have Hs10 : Hid (w1.heap.size ≤ w0.heap.size) := by show _ ≤ _; have := hb3.size; have := Hb2s.out; omega
    have HBw : Hid (Below w.heap.size w w0) := HB3.out.bel
    obtain ⟨i0, hi, hz0, hz1, hz2⟩ := info_parts infoRecL
    have Hi := Lib.hid hi
    clear hi hm hom hb3 hnw hm40 hl40 hsub hsub2
    dsimp only
    go_wp2_with fail
    refine RV.wp_region_rel (RcI w0 (w.heap.size + 1) (.slice al l.length cl) w1.heap.size d.safe (d.wait.take nw) l m) (fun _ _ _ _ => True) (fun _ _ _ _ => True) (by kernel_rfl) (by kernel_rfl) _ rfl (fun _ _ _ _ _ _ _ _ _ _ _ _ => trivial) (fun _ _ _ _ _ _ _ _ => trivial) RcI.start ?_
    (refine RV.rel_ex (fun K hK => ?_); apply Exists.intro; refine ⟨fun done vf W hI hd0 hd hn hf R hR => ?_, ?_, ?_⟩; (clear hd0 hd hn hf; go_simp; exact hR _ _ (hI.same (by decide) (by decide) (by decide) (by decide)) trivial rfl trivial); exact (fun _ _ _ => rfl); (go_simp; refine hK _ ?_; clear hK K))
    (refine RV.rel_ex (fun K hK => ?_); apply Exists.intro; refine ⟨fun done vf W hI hd0 hd hn hf R hR => ?_, ?_, ?_⟩; (have n11 : done 11 = false := hn 11 (by decide); have n12 : done 12 = false := hn 12 (by decide); have hqb := HBr.out W (hI.fr n11 n12); clear hd0 hd hn hf; go_simp; exact hR _ _ (hI.same (by decide) (by decide) (by decide) (by decide)) trivial rfl trivial); exact (fun _ _ _ => rfl); (go_simp; refine hK _ ?_; clear hK K))
    (refine RV.rel_ex (fun K hK => ?_); apply Exists.intro; refine ⟨fun done vf W hI hd0 hd hn hf R hR => ?_, ?_, ?_⟩; (clear hd0 hd hn hf; go_simp; exact hR _ _ (hI.same (by decide) (by decide) (by decide) (by decide)) trivial rfl trivial); exact (fun _ _ _ => rfl); (go_simp; refine hK _ ?_; clear hK K))
    (refine RV.rel_ex (fun K hK => ?_); apply Exists.intro; refine ⟨fun done vf W hI hd0 hd hn hf R hR => ?_, ?_, ?_⟩; (have n11 : done 11 = false := hn 11 (by decide); have n12 : done 12 = false := hn 12 (by decide); have hqb := HBr.out W (hI.fr n11 n12); clear hd0 hd hn hf; go_simp; exact hR _ _ (hI.same (by decide) (by decide) (by decide) (by decide)) trivial rfl trivial); exact (fun _ _ _ => rfl); (go_simp; refine hK _ ?_; clear hK K))
    (refine RV.rel_ex (fun K hK => ?_); apply Exists.intro; refine ⟨fun done vf W hI hd0 hd hn hf R hR => ?_, ?_, ?_⟩; (clear hd0 hd hn hf; go_simp; exact hR _ _ (hI.same (by decide) (by decide) (by decide) (by decide)) trivial rfl trivial); exact (fun _ _ _ => rfl); (go_simp; refine hK _ ?_; clear hK K))
    (refine RV.rel_ex (fun K hK => ?_); apply Exists.intro; refine ⟨fun done vf W hI hd0 hd hn hf R hR => ?_, ?_, ?_⟩; (clear hd0 hd hn hf; go_simp; exact hR _ _ (hI.same (by decide) (by decide) (by decide) (by decide)) trivial rfl trivial); exact (fun _ _ _ => rfl); (go_simp; refine hK _ ?_; clear hK K))
    (refine RV.rel_pr (fun K hK => ?_); refine ⟨fun done vf W hI hd0 hd hn hf R hR => ?_, ?_⟩; (have n11 : done 11 = false := hn 11 (by decide); have n12 : done 12 = false := hn 12 (by decide); have n7 : done 7 = false := hn 7 (by decide); have HNW := Lib.hid (hI.new6 n7 n11 n12 (HSB.out W (hI.fr n11 n12)).1 (HSB.out W (hI.fr n11 n12)).2); clear hd0 hd hn hf hI; go_simp; exact hR _ _ HNW.out trivial trivial trivial); (go_simp; refine hK _ ?_; clear hK K))
    (refine RV.rel_pr (fun K hK => ?_); refine ⟨fun done vf W hI hd0 hd hn hf R hR => ?_, ?_⟩; (have n11 : done 11 = false := hn 11 (by decide); have n12 : done 12 = false := hn 12 (by decide); have d6 : done 6 = true := hd 6 (by decide); have h6 := hI.c6 d6 hd0; obtain ⟨x6, y6, hv6, _⟩ := Sl.form h6; have hv6' : vf 6 = .slice x6 2 y6 := hv6; have H6 := Lib.hid h6; have HI := Lib.hid hI; rw [hv6'] at H6; clear h6 hv6 hI hd hn hf; go_simp; go_at_call 81; refine (concatByte_any _ [d.safe, d.wait.take nw] _ W H6.out (by have := Hsum.out; simp [lenTo]; omega)).mono ?_; rintro e w9 ⟨v9, rfl, ho9, hb9⟩; rw [show [d.safe, d.wait.take nw].flatten = d.safe ++ d.wait.take nw by simp] at ho9; exact ⟨_, rfl, hR _ _ (HI.out.conc7 hd0 n11 n12 hb9 ho9) trivial trivial trivial⟩); (go_simp; refine hK _ ?_; clear hK K))
    (refine RV.rel_ex (fun K hK => ?_); refine ⟨fun vf => Value.agg #[vf 7, .slice none 0 0], ?_⟩; refine ⟨fun done vf W hI hd0 hd hn hf R hR => ?_, ?_, ?_⟩; (have d7 : done 7 = true := hd 7 (by decide); have h7 := hI.c7 d7; obtain ⟨x7, y7, hv7, _⟩ := Sl.form h7; obtain ⟨N, hN⟩ : ∃ N, (d.safe ++ d.wait.take nw).length = N := ⟨_, rfl⟩; rw [hN] at hv7; clear hN; have HI := Lib.hid hI; clear hI h7; clear hd0 hd hn hf; go_simp; exact hR _ _ (HI.out.same (by decide) (by decide) (by decide) (by decide)) trivial (by show _ = Value.agg #[vf 7, .slice none 0 0]; rw [hv7]) trivial); exact (fun f g h => by show Value.agg #[f 7, .slice none 0 0] = Value.agg #[g 7, .slice none 0 0]; rw [h 7 (by decide)]); (go_simp; refine hK _ ?_; clear hK K))
    (refine RV.rel_ex (fun K hK => ?_); apply Exists.intro; refine ⟨fun done vf W hI hd0 hd hn hf R hR => ?_, ?_, ?_⟩; (clear hd0 hd hn hf; go_simp; exact hR _ _ (hI.same (by decide) (by decide) (by decide) (by decide)) trivial rfl trivial); exact (fun _ _ _ => rfl); (go_simp; refine hK _ ?_; clear hK K))
    (refine RV.rel_ex (fun K hK => ?_); apply Exists.intro; refine ⟨fun done vf W hI hd0 hd hn hf R hR => ?_, ?_, ?_⟩; (clear hd0 hd hn hf; go_simp; exact hR _ _ (hI.same (by decide) (by decide) (by decide) (by decide)) trivial rfl trivial); exact (fun _ _ _ => rfl); (go_simp; refine hK _ ?_; clear hK K))
    (refine RV.rel_pr (fun K hK => ?_); refine ⟨fun done vf W hI hd0 hd hn hf R hR => ?_, ?_⟩; (have d7 : done 7 = true := hd 7 (by decide); have n12 : done 12 = false := hn 12 (by decide); have hfr := hI.fr hd0 n12; have hO := OwnRecs.below HO.out hfr; have hM : Sl W (fun b => w1.heap.size ≤ b) 5 (recR W (fun b => w1.heap.size ≤ b ∧ (Value.slice al l.length cl).ownBlock ≠ some b)) (.slice am m.length cm) m := (HM.out W hfr); refine ob_plain rfl ?_; refine gives_append_sl (.tmp 46) (.tmp 47) 68 rfl w1.heap.size 56 i0 _ 5 56 Tryz.underlying68 Hi.out hz0 hz1 hz2 rfl (by decide) (.slice al l.length cl) l (by rfl) hO (.slice am m.length cm) m (by rfl) hM (fun y _ cs h => recR_one y cs h) (by have := Hlm.out; unfold maxLen; omega) (by have := Hlm.out; omega) (by have := hfr.size; have := Hs10.out; omega) (fun v' w' h1 h2 h3 => hR _ _ (hI.app11 d7 hd0 n12 HOb.out h1 h2 h3) trivial trivial trivial)); (go_simp; refine hK _ ?_; clear hK K))
    (refine RV.rel_pr (fun K hK => ?_); refine ⟨fun done vf W hI hd0 hd hn hf R hR => ?_, ?_⟩; (have d11 : done 11 = true := hd 11 (by decide); have d7 := hI.o1 d11; have h7 := hI.c7 d7; obtain ⟨x7, y7, hv7, _⟩ := Sl.form h7; obtain ⟨N, hN⟩ : ∃ N, (d.safe ++ d.wait.take nw).length = N := ⟨_, rfl⟩; rw [hN] at hv7; clear hN h7; have hbt := hI.box d11 hd0 HBt.out HOb.out.2; have hqt := cells_of hbt; have hft := not_frozen hbt; have hF := hI.fin12 (v := undef) d11 hd0 HBt.out HOb.out HBB.out; rw [hv7] at hF; have HF := Lib.hid hF; clear hd0 hd hn hf hF hI hbt; go_simp; exact hR _ _ HF.out trivial trivial trivial); (go_simp; refine hK _ ?_; clear hK K))
    (refine RV.rel_ex (fun K hK => ?_); apply Exists.intro; refine ⟨fun done vf W hI hd0 hd hn hf R hR => ?_, ?_, ?_⟩; (have HI := Lib.hid hI; clear hI; clear hd0 hd hn hf; go_simp; exact hR _ _ (HI.out.same (by decide) (by decide) (by decide) (by decide)) trivial rfl trivial); exact (fun f g h => h 11 (by decide)); (go_simp; refine hK _ ?_; clear hK K))
    (refine RV.rel_ex (fun K hK => ?_); apply Exists.intro; refine ⟨fun done vf W hI hd0 hd hn hf R hR => ?_, ?_, ?_⟩; (clear hd0 hd hn hf; go_simp; exact hR _ _ (hI.same (by decide) (by decide) (by decide) (by decide)) trivial rfl trivial); exact (fun _ _ _ => rfl); (go_simp; refine hK _ ?_; clear hK K))
    intro done vf w5 hdone hI _
    have hF := hI.fin (hdone 12 (by decide))
    clear hdone hI
    obtain ⟨v7, h7⟩ : ∃ v, vf 7 = v := ⟨_, rfl⟩
    obtain ⟨v11, h11⟩ : ∃ v, vf 11 = v := ⟨_, rfl⟩
    rw [h7, h11] at hF
    obtain ⟨x7, y7, rfl, _⟩ := Sl.form hF.bytes
    obtain ⟨x11, y11, rfl⟩ := OwnSl.slice hF.recs
    have hqb := cells_of hF.box
    have HF := Lib.hid hF
    have HBL : Hid (Below w.heap.size w w5) := ⟨hF.os.trans HBw.out.os, hF.tape.trans HBw.out.tape, hF.output.trans HBw.out.output, Nat.le_trans HBw.out.size hF.size, fun k hk => by
      rw [hF.blk k (Nat.lt_of_lt_of_le hk HBw.out.size) (by omega) (fun e => by have h1 := OwnSl.block HO.out k e.symm; have := Hw1.out; omega)]
      exact HBw.out.block k hk⟩
    have HRD : Hid (RdDisk w5 (fun b => w.heap.size ≤ b) (.slice x7 (d.safe ++ d.wait.take nw).length y7) (.slice none 0 0) ⟨d.safe ++ d.wait.take nw, []⟩) := ⟨hF.bytes.keep (fun b hb _ => by have h1 : w0.heap.size ≤ b := hb; have := Hsz.out; show _ ≤ _; omega) (fun _ _ _ => rfl) (Nat.le_refl _), nil_bytes _ _⟩
    have HRC : Hid (RdRecs w5 (fun b => w.heap.size ≤ b) (.slice x11 (l ++ m).length y11) (l ++ m)) := (OwnRecs.read hF.recs).keep (fun b hb _ => by have h1 : w1.heap.size ≤ b := hb; have := Hw1.out; show _ ≤ _; omega) (fun _ _ _ => rfl) (Nat.le_refl _)
    obtain ⟨N7, hN7⟩ : ∃ N, (d.safe ++ d.wait.take nw).length = N := ⟨_, rfl⟩
    obtain ⟨N11, hN11⟩ : ∃ N, (l ++ m).length = N := ⟨_, rfl⟩
    rw [hN7] at HRD hqb h7
    rw [hN11] at HRC h11
    clear hF hN7 hN11 HF
    dsimp only
    go_wp2
    refine bodyPost_ret (v := .tuple #[diskV (.slice x7 N7 y7) (.slice none 0 0), .slice x11 N11 y11, .int .i64 0]) ?_ rfl (by rw [HE.out]; exact ⟨_, _, _, rfl, HRD.out, HRC.out, HBL.out⟩)
    simp [results, Tryz.results36, go_sem, hqb, h11]
  · have HE : Hid (recoverE d = (zeroDisk, [], diskE d)) := by show _ = _; unfold recoverE; rw [if_pos h0]
    have hne : (diskE d != 0) = true := bne_iff_ne.2 h0
    generalize diskE d = E at *
    clear h0
    have hq1 := HB1.out.cells1
    have hf1 := HB1.out.free1
    have HS := Lib.hid ((HB1.out.set (i := 1) rfl 0 (.slice none 0 0)).set (i := 1) rfl 1 (.slice none 0 0))
    have hqs := HS.out.cells1
    have HBL := Lib.hid HS.out.bel
    clear HS
    go_wp2
    refine bodyPost_ret (v := .tuple #[diskV (.slice none 0 0) (.slice none 0 0), .slice none 0 0, .int .i64 E]) ?_ rfl (by rw [HE.out]; exact ⟨_, _, _, rfl, nil_disk _ _, nil_recs _ _, HBL.out⟩)
    simp [results, Tryz.results36, go_sem, hqs]
end Go.Proofs.YthkgjohhbdipcaaGreatDoor
namespace Go.Proofs.YthkgjohhbdipcaaGreatDoor
open Go.RowKit

theorem infocRec : (Tryz.prog.info? 56).map (fun i => (i.zero, i.size, i.bytes)) = some (some (.agg #[.int .i64 0, .int .i64 0, .int .i64 0, .slice none 0 0, .int .i64 0]), 5, 56) := by kernel_rfl

set_option maxHeartbeats 1000000 in
theorem growRec_nil {α : Type} (R : α → List Value → Prop) (n : Nat) (w : World) (hn : n * 56 ≤ 140737488355328) : Calls Tryz.prog 125 #[.slice none 0 0, .int .i64 n] w fun e w' => ∃ v, e = .returned v ∧ OwnSl w' w.heap.size 56 5 R v ([] : List α) ∧ Below w.heap.size w w' := by
  by_cases h0 : n = 0
  · subst h0
    go_enter Tryz.func125, Tryz.ntmps125
    go_wp2
    go_ret
    exact ⟨_, rfl, OwnSl.nil, Below.refl _ _⟩
  · obtain ⟨i0, hi, hz0, hz1, hz2⟩ := info_parts infocRec
    have hrun := fun (W : World) (ty : TypeId) => Lib.run_append_nil_zeros (P := Tryz.prog) W 68 3 ty 56 i0 (.agg #[.int .i64 0, .int .i64 0, .int .i64 0, .slice none 0 0, .int .i64 0]) .i64 .i64 Tryz.underlying68 Tryz.underlying3 hi hz0 n (by omega) (by rw [hz1]; omega) (by omega) (by rw [hz2]; omega)
    have hgc : ∀ W : World, grownCap W n 0 56 ≤ maxLen := fun W => grownCap_le_maxLen W n 0 56 (by unfold maxLen; omega)
    have h1 : 0 < (n : Int) := by omega
    have h2 : (n : Int) ≤ 9223372036854775807 := by omega
    have Hrun := Lib.hid hrun
    have Hz := Lib.hid hz1
    clear hrun hi hz0 hz1 hz2 h0 hn
    go_enter Tryz.func125, Tryz.ntmps125
    go_wp2_with (at_builtin; refine Lib.wpList_append_run _ rfl _ _ _ _ rfl _ _ rfl rfl _ _ (Hrun.out _ _) ?_)
    go_ret
    refine ⟨_, rfl, ⟨[], RowsOf.nil, by simp, .inr ⟨w.heap.size, grownCap w n 0 56, _, rfl, Nat.le_refl _, blk_at rfl, by simp, hgc w, ?_, by simp⟩⟩, (bel_alloc (Below.refl _ _) _).drew⟩
    have hge := grownCap_ge w n 0 56
    simp [size_zeroCells]
    omega

/-- a slice of slices. -/
def rowsRRec {α : Type} (R : α → List Value → Prop) (w : World) (D : Nat → Prop) (l : List α) (cs : List Value) : Prop := ∃ u, cs = [u] ∧ Sl w D 5 R u l
set_option maxRecDepth 100000 in
set_option maxHeartbeats 2000000 in
theorem concatRec_any {α : Type} (R : α → List Value → Prop) (h1R : ∀ (y : α) (cs : List Value), R y cs → ∀ c ∈ cs, c.oneCell' = true) (v : Value) (ls : List (List α)) (D : Nat → Prop) (w : World) (h : Sl w D 1 (rowsRRec R w D) v ls) (hn : lenTo ls ls.length * 56 ≤ 140737488355328) :
    Calls Tryz.prog 85 #[v] w fun e w' => ∃ v', e = .returned v' ∧ OwnSl w' w.heap.size 56 5 R v' ls.flatten ∧ Below w.heap.size w w' := by
  obtain ⟨a, c, rfl, hlc, hcm, hat⟩ := Sl.form h
  obtain ⟨i0, hi, hz0, hz1, hz2⟩ := info_parts infocRec
  have H := Lib.hid h
  clear h
  have hrow : ∀ k (hk : k < ls.length) b o, a = some ⟨b, o, none⟩ → ∃ (u : Value) (cu : Option Addr × Nat), u = Value.slice cu.1 ls[k].length cu.2 ∧ Sl w D 5 R u ls[k] ∧ ∀ wr, Below w.heap.size w wr → wr.cell? ⟨b, o + k, none⟩ = some u := fun k hk b o e => by
    subst e
    obtain ⟨cs, hcs, ⟨u, hu, hs⟩, hcell⟩ := Sl.get H.out hk
    obtain ⟨a', c', hv, _⟩ := Sl.form hs
    refine ⟨u, (a', c'), hv, hs, fun wr hb => ?_⟩
    subst hu
    have hc := hcell 0 u rfl
    rw [Nat.mul_one] at hc
    exact (hb.cell (p := ⟨b, o + k, none⟩) (World.block_lt_of_cell? _ _ hc)).trans hc
  have Hrow := Lib.hid hrow
  have Hn := Lib.hid hn
  have hn' : lenTo ls ls.length ≤ 140737488355328 := by omega
  clear hrow hn
  go_enter Tryz.func85, Tryz.ntmps85
  go_wp2_with fail
  go_loop [3, 11] (fun s i => ∃ k : Nat, k ≤ ls.length ∧ i = .int .i64 k ∧ s = .int .i64 (lenTo ls k)) (fun _ i => ls.length - (intOf i).toNat)
  case atStart => exact ⟨0, by omega, rfl, rfl⟩
  case round =>
    obtain ⟨k, hk, rfl, rfl⟩ := hrel
    by_cases hlt : k < ls.length
    · obtain ⟨b, o, rfl, hDb, hb⟩ := hat (by omega)
      obtain ⟨u, ⟨a', c'⟩, rfl, hs, hc⟩ := Hrow.out k hlt b o rfl
      have hcw := hc w (Below.refl _ _)
      have hle := lenTo_le ls (k + 1) (by omega)
      have Hs := Lib.hid (lenTo_succ ls k hlt)
      have hle' : lenTo ls k + ls[k].length ≤ 140737488355328 := by have := Hs.out; omega
      clear hs hc
      go_wp2
      go_round
      case rel => exact ⟨k + 1, by omega, by go_num, by rw [Hs.out]; go_num⟩
      case measure => simp [intOf]; omega
    · obtain rfl : k = ls.length := by omega
      go_wp2_with fail
      refine (growRec_nil R (lenTo ls ls.length) _ Hn.out).mono ?_
      rintro e w1 ⟨vg, rfl, hown, hb1⟩
      go_wp2_with fail
      go_loopw [6, 27] (fun s i wr => ∃ (k : Nat) (vs : Value), k ≤ ls.length ∧ i = .int .i64 k ∧ vs = s ∧ OwnSl wr w.heap.size 56 5 R vs (ls.take k).flatten ∧ Below w.heap.size w wr) (fun _ i _ => ls.length - (intOf i).toNat)
      case atStart => exact ⟨0, vg, by omega, rfl, rfl, by simpa using hown, hb1⟩
      case round =>
        obtain ⟨k, vs, hk, rfl, rfl, hown, hbw⟩ := hrel
        have Hown := Lib.hid hown
        have hsz := hbw.size
        clear hown
        by_cases hlt : k < ls.length
        · obtain ⟨b, o, rfl, hDb, hb⟩ := hat (by omega)
          obtain ⟨u, ⟨a', c'⟩, rfl, hs, hc⟩ := Hrow.out k hlt b o rfl
          have hcw := hc wr hbw
          have hle := lenTo_le ls (k + 1) (by omega)
          have Hl := Lib.hid (lenTo_succ ls k hlt)
          have hs' : Sl wr D 5 R (.slice a' ls[k].length c') ls[k] := Sl.mono hs (fun _ h _ => h) (fun b _ hlt => hbw.block b hlt) hbw.size (fun _ _ _ h => h)
          have Hs' := Lib.hid hs'
          have Hs := Lib.hid (flat_take_succ ls k hlt)
          clear hs hc hs'
          go_wp2_with (at_builtin; refine wpList_app rfl _ _ 68 rfl w.heap.size 56 i0 _ 5 56 Tryz.underlying68 hi hz0 hz1 hz2 rfl (by decide) _ _ rfl Hown.out _ _ rfl Hs'.out (fun y _ cs h => h1R y cs h) (by have := Hl.out; unfold lenTo at *; unfold maxLen; omega) (by have := Hn.out; have := Hl.out; unfold lenTo at *; omega) hsz ?_; intro v' w2 hown' hg)
          go_roundw
          case rel => exact ⟨k + 1, v', by omega, by go_num, rfl, by rw [← flat_take_succ ls k hlt]; exact hown', Hown.out.grown hbw hg hsz (Nat.le_refl _)⟩
          case measure => simp [intOf]; omega
        · obtain rfl : k = ls.length := by omega
          have Hf : Hid (OwnSl wr w.heap.size 56 5 R vs ls.flatten) := by have := Hown.out; rwa [List.take_length] at this
          go_wp2
          go_ret
          exact ⟨_, rfl, Hf.out, hbw⟩
end Go.Proofs.YthkgjohhbdipcaaGreatDoor
