/- Walks: policy.holds, which$1, slices.IndexFunc and ContainsFunc at it, which, Judge. Conditions: of right policies and calls, Judge of any. -/
import Derived.Test.YtmokmmpomgjemaaDoorPolCheck
namespace Go.Proofs.YtmokmmpomgjemaaDoor
open Go.RowKit

@[reducible] def callCells (x : TCall) : Array Value := #[.int .i64 x.a0, .int .i64 x.a1, .int .i64 x.a2, .int .i64 x.a3, .int .i64 x.a4]
@[reducible] def condV (c : TCond) : Value := .agg #[.int .i64 c.f, .int .i64 c.op, .int .i64 c.v]

set_option maxHeartbeats 2000000 in
theorem holds_any (c : TCond) (x : TCall) (w : World) (hf0 : 0 ≤ c.f) (hf1 : c.f < 5) (ho0 : 1 ≤ c.op) (ho1 : c.op ≤ 4) : Calls Tryd.prog 24 #[condV c, callV x] w fun e w' => e = .returned (.bool (holdsB c x)) ∧ Below w.heap.size w w' := by
  obtain ⟨f, op, v⟩ := c
  dsimp only at hf0 hf1 ho0 ho1
  obtain ⟨m, rfl⟩ := Int.eq_ofNat_of_zero_le hf0
  have hm : m < 5 := by omega
  have hc : ∀ o, ((w.alloc o).alloc (.cells (callCells x) 26)).cell? ⟨w.heap.size + 1, m, none⟩ = some (.int .i64 (x.get m)) := fun o => by
    rw [World.cell?_alloc_at _ _ _ _ (by simp)]; exact cell5 x m hm
  have Hx : Hid (holdsB ⟨m, op, v⟩ x = if op = 1 then x.get m == v else if op = 2 then x.get m != v else if op = 3 then decide (x.get m < v) else decide (v ≤ x.get m)) := rfl
  have hop : op = 1 ∨ op = 2 ∨ op = 3 ∨ op = 4 := by omega
  rcases hop with rfl | rfl | rfl | rfl
  · rw [Hx.out]; simp only [if_true]
    clear Hx ho0 ho1
    go_enter Tryd.func24, Tryd.ntmps24
    go_wp2
    go_ret
    exact ⟨rfl, bel_alloc (bel_alloc (Below.refl _ _) _) _⟩
  · rw [Hx.out]; simp only [if_true, show ¬ ((2 : Int) = 1) by decide, if_false]
    clear Hx ho0 ho1
    go_enter Tryd.func24, Tryd.ntmps24
    go_wp2
    go_ret
    exact ⟨rfl, bel_alloc (bel_alloc (Below.refl _ _) _) _⟩
  · rw [Hx.out]; simp only [if_true, show ¬ ((3 : Int) = 1) by decide, show ¬ ((3 : Int) = 2) by decide, if_false]
    clear Hx ho0 ho1
    go_enter Tryd.func24, Tryd.ntmps24
    go_wp2
    go_ret
    exact ⟨rfl, bel_alloc (bel_alloc (Below.refl _ _) _) _⟩
  · rw [Hx.out]; simp only [show ¬ ((4 : Int) = 1) by decide, show ¬ ((4 : Int) = 2) by decide, show ¬ ((4 : Int) = 3) by decide, if_false]
    clear Hx ho0 ho1
    go_enter Tryd.func24, Tryd.ntmps24
    go_wp2
    go_ret
    exact ⟨rfl, bel_alloc (bel_alloc (Below.refl _ _) _) _⟩

theorem which1_any (c : TCond) (x : TCall) (bx : Nat) (w : World) (hok : OkCond c) (hx : ∀ j, w.cell? ⟨bx, j, none⟩ = (callCells x)[j]?) (hbx : bx < w.heap.size) :
    Calls Tryd.prog 23 #[condV c, .pointer (some ⟨bx, 0, none⟩)] w fun e w' => e = .returned (.bool (!holdsB c x)) ∧ Below w.heap.size w w' := by
  have hx' : ∀ o j, (w.alloc o).cell? ⟨bx, j, none⟩ = (callCells x)[j]? := fun o j => (World.cell?_alloc_lt w o ⟨bx, j, none⟩ hbx).trans (hx j)
  have Hok := Lib.hid hok
  clear hok hx
  go_enter Tryd.func23, Tryd.ntmps23
  go_wp2_with fail
  refine (holds_any c x _ Hok.out.f0 Hok.out.f1 Hok.out.o0 Hok.out.o1).mono ?_
  rintro e w1 ⟨rfl, hb1⟩
  go_wp2
  go_ret
  exact ⟨rfl, bel_alloc_call (Below.refl _ _) hb1⟩

theorem allHold_take {x : TCall} {l : List TCond} {k : Nat} (hk : k < l.length) (h : allHold x (l.take k) = true) (hh : holdsB l[k] x = true) : allHold x (l.take (k + 1)) = true := by
  rw [List.take_succ_eq_append_getElem hk]
  unfold allHold at *
  rw [List.all_append, h]
  simp [hh]
theorem allHold_not {x : TCall} {l : List TCond} {k : Nat} (hk : k < l.length) (hh : holdsB l[k] x = false) : allHold x l = false := by
  unfold allHold
  rw [List.all_eq_false]
  exact ⟨l[k], List.getElem_mem hk, by simp [hh]⟩

set_option maxHeartbeats 2000000 in
theorem indexFunc_any (v : Value) (l : List TCond) (x : TCall) (bx : Nat) (D : Nat → Prop) (w : World) (h : RdConds w D v l) (hok : ∀ c ∈ l, OkCond c) (hx : ∀ j, w.cell? ⟨bx, j, none⟩ = (callCells x)[j]?) (hbx : bx < w.heap.size) :
    Calls Tryd.prog 31 #[v, .func (.func 23) #[] #[.pointer (some ⟨bx, 0, none⟩)]] w fun e w' =>
      ∃ n : Int, e = .returned (.int .i64 n) ∧ decide (0 ≤ n) = (!allHold x l) ∧ Below w.heap.size w w' := by
  obtain ⟨a, c, rfl, hlc, hcm, hat⟩ := Sl.form h
  have H := Lib.hid h
  have Hok := Lib.hid hok
  have Hx := Lib.hid hx
  clear h hok hx
  go_enter Tryd.func31, Tryd.ntmps31
  go_wp2_with fail
  go_loopw [8] (fun i wr => ∃ k : Nat, k ≤ l.length ∧ i = .int .i64 k ∧ allHold x (l.take k) = true ∧ Below w.heap.size w wr) (fun i _ => l.length - (intOf i).toNat)
  case atStart => exact ⟨0, by omega, rfl, rfl, Below.refl _ _⟩
  case round =>
    obtain ⟨k, hk, rfl, hall, hbw⟩ := hrel
    have Hall := Lib.hid hall
    have hsz := hbw.size
    clear hall
    by_cases hlt : k < l.length
    · obtain ⟨b, o, rfl, hDb, hb⟩ := hat (by omega)
      obtain ⟨c0, c1, c2⟩ := RdConds.cells (RdConds.below H.out hbw) hlt
      go_wp2_with fail
      refine (which1_any l[k] x bx _ (Hok.out _ (List.getElem_mem hlt)) (fun j => (hbw.cell (p := ⟨bx, j, none⟩) hbx).trans (Hx.out j)) (by omega)).mono ?_
      rintro e w1 ⟨rfl, hb1⟩
      cases hh : holdsB l[k] x with
      | true =>
        have Hn := Lib.hid (allHold_take hlt Hall.out hh)
        clear hh
        go_wp2
        go_roundw
        case rel => exact ⟨k + 1, by omega, by go_num, Hn.out, bel_call hbw hb1⟩
        case measure => simp [intOf]; omega
      | false =>
        have Hn := Lib.hid (allHold_not hlt hh)
        clear hh
        go_wp2
        go_ret
        exact ⟨_, rfl, by rw [Hn.out]; simp, bel_call hbw hb1⟩
    · obtain rfl : k = l.length := by omega
      have Hn : Hid (allHold x l = true) := by have := Hall.out; rwa [List.take_length] at this
      go_wp2
      go_ret
      exact ⟨_, rfl, by rw [Hn.out]; simp, hbw⟩

theorem containsFunc_any (v : Value) (l : List TCond) (x : TCall) (bx : Nat) (D : Nat → Prop) (w : World) (h : RdConds w D v l) (hok : ∀ c ∈ l, OkCond c) (hx : ∀ j, w.cell? ⟨bx, j, none⟩ = (callCells x)[j]?) (hbx : bx < w.heap.size) :
    Calls Tryd.prog 22 #[v, .func (.func 23) #[] #[.pointer (some ⟨bx, 0, none⟩)]] w fun e w' => e = .returned (.bool (!allHold x l)) ∧ Below w.heap.size w w' := by
  have H := Lib.hid h
  have Hok := Lib.hid hok
  have Hx := Lib.hid hx
  clear h hok hx
  go_enter Tryd.func22, Tryd.ntmps22
  go_wp2_with fail
  refine (indexFunc_any v l x bx D _ H.out Hok.out Hx.out hbx).mono ?_
  rintro e w1 ⟨n, rfl, hn, hb1⟩
  have Hn := Lib.hid hn
  clear hn
  go_wp2
  go_ret
  exact ⟨ret_bool (by rw [← Hn.out]), hb1⟩
end Go.Proofs.YtmokmmpomgjemaaDoor
