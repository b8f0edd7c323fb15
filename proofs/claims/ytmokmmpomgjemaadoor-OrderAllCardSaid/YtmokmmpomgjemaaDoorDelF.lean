/- Walks: slices.IndexFunc and slices.DeleteFunc at int, with the closure of point.cuts: what is too great for a field is left out. Condition: the list rises, in a row of the call's own. -/
import Derived.Test.YtmokmmpomgjemaaDoorCuts0
import Derived.Test.YtmokmmpomgjemaaDoorCall
import Derived.Lib.SliceRun
import Derived.Deep.MidRow
namespace Go.Proofs.YtmokmmpomgjemaaDoor
open Go.RowKit

theorem cuts1_any (n f : Int) (bf : Nat) (w : World) (hx : w.cell? ⟨bf, 0, none⟩ = some (.int .i64 f)) :
    Calls Tryd.prog 35 #[.int .i64 n, .pointer (some ⟨bf, 0, none⟩)] w fun e w' => e = .returned (.bool (decide (mostOf f < n))) ∧ w = w' := by
  go_enter Tryd.func35, Tryd.ntmps35
  go_wp2_with (go_at_call 21; refine (most_any _ _).mono ?_; rintro e w1 ⟨rfl, rfl⟩)
  go_ret
  exact ⟨rfl, rfl⟩
@[reducible] def cutFn (bf : Nat) : Value := .func (.func 35) #[] #[.pointer (some ⟨bf, 0, none⟩)]

set_option maxHeartbeats 1000000 in
theorem indexFuncI_any (v : Value) (l : List Int) (f : Int) (bf : Nat) (D : Nat → Prop) (w : World) (h : RdInts w D v l) (hx : w.cell? ⟨bf, 0, none⟩ = some (.int .i64 f)) :
    Calls Tryd.prog 43 #[v, cutFn bf] w fun e w' =>
      ∃ n : Int, e = .returned (.int .i64 n) ∧ ((n = -1 ∧ ∀ x ∈ l, x ≤ mostOf f) ∨ ∃ (i : Nat) (h : i < l.length), n = i ∧ mostOf f < l[i] ∧ ∀ x ∈ l.take i, x ≤ mostOf f) ∧ w = w' := by
  obtain ⟨a, c, rfl, hlc, hcm, hat⟩ := Sl.form h
  have H := Lib.hid h
  clear h
  go_enter Tryd.func43, Tryd.ntmps43
  go_wp2_with fail
  go_loop [8] (fun i => ∃ k : Nat, k ≤ l.length ∧ i = .int .i64 k ∧ ∀ x ∈ l.take k, x ≤ mostOf f) (fun i => l.length - (intOf i).toNat)
  case atStart => exact ⟨0, by omega, rfl, by simp⟩
  case round =>
    obtain ⟨k, hk, rfl, hall⟩ := hrel
    have Hall := Lib.hid hall
    clear hall
    by_cases hlt : k < l.length
    · obtain ⟨b, o, rfl, hDb, hb⟩ := hat (by omega)
      have c0 := RdInts.cell H.out hlt
      have Hta := Lib.hid (List.take_succ_eq_append_getElem hlt)
      obtain ⟨x, hx'⟩ : ∃ x, l[k] = x := ⟨_, rfl⟩
      rw [hx'] at c0 Hta
      have Hxk := Lib.hid hx'
      clear hx'
      by_cases hgt : mostOf f < x
      · have hd : decide (mostOf f < x) = true := decide_eq_true hgt
        have Hgt := Lib.hid hgt
        clear hgt
        go_wp2_with fail
        refine (cuts1_any x f bf _ hx).mono ?_
        rintro e w1 ⟨rfl, rfl⟩
        go_wp2
        go_ret
        exact ⟨_, rfl, .inr ⟨k, hlt, rfl, by rw [Hxk.out]; exact Hgt.out, Hall.out⟩, rfl⟩
      · have hd : decide (mostOf f < x) = false := decide_eq_false hgt
        have Hgt := Lib.hid hgt
        clear hgt
        go_wp2_with fail
        refine (cuts1_any x f bf _ hx).mono ?_
        rintro e w1 ⟨rfl, rfl⟩
        go_wp2
        go_round
        case rel => exact ⟨k + 1, by omega, by go_num, fun y hy => by
          rw [Hta.out] at hy
          rcases List.mem_append.1 hy with hy | hy
          · exact Hall.out y hy
          · simp at hy; rw [hy]; have := Hgt.out; omega⟩
        case measure => simp [intOf]; omega
    · obtain rfl : k = l.length := by omega
      go_wp2
      go_ret
      exact ⟨_, rfl, .inl ⟨rfl, by have := Hall.out; rwa [List.take_length] at this⟩, rfl⟩

theorem rising_get {l : List Int} (h : Rising l) {i j : Nat} (hi : i < l.length) (hj : j < l.length) (hij : i ≤ j) : l[i] ≤ l[j] := by
  rcases Nat.lt_or_ge i j with hlt | hge
  · have := List.pairwise_iff_getElem.1 h i j hi hj hlt; omega
  · obtain rfl : i = j := by omega
    exact Int.le_refl _
theorem filter_take {l : List Int} (hr : Rising l) {m : Int} {i : Nat} (hi : i < l.length) (hgt : m < l[i]) (hle : ∀ x ∈ l.take i, x ≤ m) : l.filter (fun n => decide (n ≤ m)) = l.take i := by
  have e : l = l.take i ++ l.drop i := (List.take_append_drop i l).symm
  have h1 : (l.take i).filter (fun n => decide (n ≤ m)) = l.take i := List.filter_eq_self.2 fun x hx => by simpa using hle x hx
  have h2 : (l.drop i).filter (fun n => decide (n ≤ m)) = [] := List.filter_eq_nil_iff.2 fun x hx => by
    obtain ⟨k, hk⟩ := List.getElem?_of_mem hx
    rw [List.getElem?_drop] at hk
    obtain ⟨hlt, he⟩ := List.getElem?_eq_some_iff.1 hk
    have := rising_get hr hi hlt (by omega)
    simp; omega
  conv => lhs; rw [e]
  rw [List.filter_append, h1, h2, List.append_nil]

set_option maxRecDepth 100000 in
set_option maxHeartbeats 2000000 in
theorem deleteFuncI_any (v : Value) (l : List Int) (f : Int) (bf base : Nat) (w : World) (hown : OwnSl w base 3 1 intR v l) (hr : Rising l) (hx : w.cell? ⟨bf, 0, none⟩ = some (.int .i64 f)) (hbf : v.ownBlock ≠ some bf) :
    Calls Tryd.prog 34 #[v, cutFn bf] w fun e w' => ∃ v', e = .returned v' ∧ OwnSl w' base 3 1 intR v' (l.filter fun n => decide (n ≤ mostOf f)) ∧ w.grownBy w' v.ownBlock ∧ v'.ownBlock = v.ownBlock := by
  have H : Hid (RdInts w (fun _ => True) v l) := hown.sl (fun _ _ => trivial)
  have Hown := Lib.hid hown
  obtain ⟨a, c, rfl, hlc, hcm, hat⟩ := Sl.form H.out
  have Hr := Lib.hid hr
  clear hown hr
  go_enter Tryd.func34, Tryd.ntmps34
  go_wp2_with fail
  refine (indexFuncI_any _ l f bf _ _ H.out hx).mono ?_
  rintro e w1 ⟨n, rfl, hn, rfl⟩
  rcases hn with ⟨rfl, hall⟩ | ⟨i, hi, rfl, hgt, hle⟩
  · have hf : Hid (l.filter (fun n => decide (n ≤ mostOf f)) = l) := List.filter_eq_self.2 fun x hx => by simpa using hall x hx
    clear hall
    go_wp2
    go_ret
    rw [hf.out]
    exact ⟨_, rfl, Hown.out, ⟨rfl, rfl, rfl, Nat.le_refl _, fun _ _ _ => rfl⟩, rfl⟩
  · have hf : Hid (l.filter (fun n => decide (n ≤ mostOf f)) = l.take i) := filter_take Hr.out hi hgt hle
    have Hgt : Hid (∀ j (h : j < l.length), i ≤ j → mostOf f < l[j]) := fun j h hij => by have := rising_get Hr.out hi h hij; omega
    have hb0 : ((i : Int) == -1) = false := beq_eq_false_iff_ne.2 (by omega)
    obtain ⟨rows, hrr, h1, h2⟩ := Hown.out
    rcases h2 with ⟨_, h0⟩ | ⟨g, cap, cur, hv, hg, hh, hnc, hcm', hcs, htk⟩
    · omega
    injection hv with ha _ hc
    subst ha hc
    have hw1 : IntKind.i64.wrap ((i : Int) + 1) = (i : Int) + 1 := by rw [IntKind.wrap_i64]; omega
    clear hgt hle
    go_wp2_with fail
    go_loop [5, 6] (fun iv jv => ∃ j : Nat, iv = .int .i64 i ∧ jv = .int .i64 j ∧ i < j ∧ j ≤ l.length) (fun _ jv => l.length - (intOf jv).toNat)
    case atStart => exact ⟨i + 1, rfl, by go_num, by omega, by omega⟩
    case round =>
      obtain ⟨j, rfl, rfl, hij, hj⟩ := hrel
      by_cases hlt : j < l.length
      · have c0 := RdInts.cell H.out hlt
        rw [Nat.zero_add] at c0
        have Hgj := Lib.hid (Hgt.out j hlt (by omega))
        obtain ⟨x, hx'⟩ : ∃ x, l[j] = x := ⟨_, rfl⟩
        rw [hx'] at c0 Hgj
        have hd : decide (mostOf f < x) = true := decide_eq_true Hgj.out
        clear hx'
        go_wp2_with fail
        refine (cuts1_any x f bf _ hx).mono ?_
        rintro e w1 ⟨rfl, rfl⟩
        go_wp2
        go_round
        case rel => exact ⟨j + 1, rfl, by go_num, by omega, by omega⟩
        case measure => simp [intOf]; omega
      · obtain rfl : j = l.length := by omega
        have hne : ¬ (c = i) := by omega
        have hcl := fun ty => Lib.run_clear_slice (P := Tryd.prog) w 54 3 ty (.int .i64 0) Tryd.underlying54 (fun w => by kernel_rfl) rfl rfl g i (l.length - i) (c - i) (by omega) (fun j hj => by rw [cells_of hh, Array.getElem?_eq_getElem (by omega)]; rfl) (fun j hj => not_frozen hh _)
        have Hh := Lib.hid hh
        have Htk := Lib.hid htk
        have Hrr := Lib.hid hrr
        have H1 := Lib.hid h1
        clear hh htk hrr h1
        go_wp2
        go_ret
        rw [hf.out]
        obtain ⟨c2, hs2, hb2⟩ := blk_setCells (List.replicate (l.length - i) (.int .i64 0)) i w cur Hh.out
        obtain ⟨k1, k2, k3, k4, k5⟩ := heap_setCells g (List.replicate (l.length - i) (.int .i64 0)) i w
        have hli : (l.take i).length = i := by simp; omega
        have hri : (rows.take i).flatten.length = i := by rw [flat_len _ (fun r hr => Hrr.out.size r (List.mem_of_mem_take hr)), List.length_take, Hrr.out.len]; omega
        refine ⟨.slice (some ⟨g, 0, none⟩) i c, rfl, ⟨rows.take i, ⟨by simp [Hrr.out.len], fun r hr => Hrr.out.size r (List.mem_of_mem_take hr), fun k x r hx hr => ?_⟩, by rw [hli, hri, Nat.mul_one], .inr ⟨g, c, c2, by rw [hli], hg, hb2, by rw [hli]; omega, hcm', by rw [hs2, hcs], ?_⟩⟩, ⟨k1, k2, k3, by rw [k4]; exact Nat.le_refl _, fun k _ hk => k5 k (fun e => hk (by rw [e]; rfl))⟩, rfl⟩
        · have hk : k < i := by have := (List.getElem?_eq_some_iff.1 hx).1; omega
          rw [List.getElem?_take_of_lt hk] at hx hr
          exact Hrr.out.rel k x r hx hr
        · rw [hli, Nat.mul_one]
          have hsp : rows.flatten = (rows.take i).flatten ++ (rows.drop i).flatten := by rw [← List.flatten_append, List.take_append_drop]
          apply List.ext_getElem?
          intro t
          by_cases ht : t < i
          · have e1 : (w.setCells g i (List.replicate (l.length - i) (.int .i64 0))).cell? ⟨g, t, none⟩ = w.cell? ⟨g, t, none⟩ := World.cell?_setCells_out g _ _ _ _ (fun _ _ => .inl ht)
            rw [cells_of hb2, cells_of Hh.out] at e1
            have e2 : rows.flatten[t]? = (rows.take i).flatten[t]? := by rw [hsp, List.getElem?_append_left (by omega)]
            rw [List.getElem?_take_of_lt ht, Array.getElem?_toList, e1, ← e2, ← Htk.out, List.getElem?_take_of_lt (by omega), Array.getElem?_toList]
          · rw [List.getElem?_eq_none (by rw [List.length_take]; omega), List.getElem?_eq_none (by omega)]
end Go.Proofs.YtmokmmpomgjemaaDoor
