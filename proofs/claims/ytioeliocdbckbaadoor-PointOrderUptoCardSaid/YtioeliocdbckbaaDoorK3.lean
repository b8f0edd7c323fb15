/- Texts laid one behind the other: Call, DelF, ShelfSort, SortI, Cuts, Policy, PolCheck, CutsE, Points, CallEq, RiseSpec, CallRow. No condition beyond theirs. -/
import Derived.Test.YtioeliocdbckbaaDoorProg
import Derived.Test.YtioeliocdbckbaaDoorK1
import Derived.KernelRfl
import Derived.Test.YtioeliocdbckbaaDoorK2
import Derived.Lib.SliceRun
import Derived.Deep.MidRow
import Derived.Shelf.Small.Bits
import Derived.Shelf.Small.Wraps
import Derived.Shelf.Utf8.RuneCount
import Derived.Shelf.Strconv.Itoa0
import Derived.Shelf.Strconv.Itoa1
import Derived.Shelf.LaysM
import Derived.Shelf.Strconv.Itoa2
import Derived.Shelf.Strconv.Itoa3
import Derived.Shelf.Strconv.Itoa4
import Derived.Shelf.Strconv.ParseIntEmpty
import Derived.Shelf.Strconv.Clone
import Derived.Shelf.Strconv.SyntaxError
import Derived.Shelf.LaysC
import Derived.Shelf.Strconv.ToError
import Derived.Shelf.Strconv.Lower
import Derived.Shelf.Strconv.ParseUint10
import Derived.Shelf.Strconv.ParseUint10Empty
import Derived.Shelf.Strconv.ParseUint10Any
import Derived.Shelf.Strconv.ParseInt10
import Derived.Shelf.Strconv.RangeError
import Derived.Shelf.Strconv.ToErrorRange
import Derived.Shelf.Strconv.ParseUintEmpty
import Derived.Shelf.Strconv.ParseUint10b64
import Derived.Shelf.Strconv.ParseUint10b32
import Derived.Shelf.Strconv.ParseUint10b16
import Derived.Shelf.Strconv.ParseUint10b8
import Derived.Shelf.Strconv.ParseUint10At
import Derived.Shelf.Strconv.ParseInt10At64
import Derived.Shelf.Strconv.ParseInt10At32
import Derived.Shelf.Strconv.ParseInt10At16
import Derived.Shelf.Strconv.ParseInt10At8
import Derived.Shelf.Strconv.ParseInt10All
import Derived.Shelf.Strconv.ParseIntPublic10
import Derived.Shelf.Strconv.ErrVarParseInt
import Derived.Shelf.Strings.Search1
import Derived.Shelf.Strings.Search2
import Derived.Shelf.Strings.Search3
import Derived.Shelf.Strings.Cut
import Derived.Shelf.Strings.Count
import Derived.Shelf.Strings.Shaped
import Derived.Shelf.Sort.Plain
import Derived.Shelf.Strings.Split
import Derived.Shelf.Strings.SplitShaped
import Derived.Shelf.Unicode.Decode
import Derived.Shelf.Strings.RuneCount
import Derived.Shelf.Strings.Explode
import Derived.Shelf.Unicode.DecodeSlow
import Derived.Shelf.Unicode.DecodeAny
import Derived.Shelf.Slices.Equal
import Derived.Ground.Names2Prog
import Derived.Shelf.Slices.Clone
import Derived.Shelf.Slices.CompactI
import Derived.Shelf.Slices.SearchI
import Derived.Shelf.Slices.Cells
import Derived.Shelf.Slices.In.SortNone
import Derived.Ground.SlgnProg
import Derived.Shelf.SlicesE.Clone
import Derived.Lib.SlicesCompact
import Derived.Sort.OwnSortedInts
import Derived.ChangeKeysEq
namespace Go.Proofs.YtioeliocdbckbaaDoor
open Go.RowKit

theorem index5 (x : TCall) (k : Nat) (h : k < 5) (w : World) : (Instr.index 24 (callV x) (.int .i64 (k : Int))).run Tryd.prog w = .ok (.int .i64 (x.get k)) w := by
  have hk : k = 0 ∨ k = 1 ∨ k = 2 ∨ k = 3 ∨ k = 4 := by omega
  rcases hk with rfl | rfl | rfl | rfl | rfl <;> (change _ = _; kernel_rfl)
theorem cell5 (x : TCall) (k : Nat) (h : k < 5) : (#[Value.int .i64 x.a0, .int .i64 x.a1, .int .i64 x.a2, .int .i64 x.a3, .int .i64 x.a4] : Array Value)[k]? = some (.int .i64 (x.get k)) := by
  match k, h with
  | 0, _ => rfl
  | 1, _ => rfl
  | 2, _ => rfl
  | 3, _ => rfl
  | 4, _ => rfl

theorem most_any (k : Int) (w : World) : Calls Tryd.prog 37 #[.int .i64 k] w fun e w' => e = .returned (.int .i64 (mostOf k)) ∧ w = w' := by
  by_cases h0 : k = 0
  · have b0 : (k == 0) = true := by simpa using h0
    have e : mostOf k = 63 := by simp [mostOf, h0]
    rw [e]; clear h0 e
    go_enter Tryd.func37, Tryd.ntmps37
    go_wp2
    go_ret
    exact ⟨rfl, rfl⟩
  · have b0 : (k == 0) = false := by simpa using h0
    by_cases h1 : k = 1
    · have b1 : (k == 1) = true := by simpa using h1
      have e : mostOf k = 3 := by simp [mostOf, h1]
      rw [e]; clear h0 h1 e
      go_enter Tryd.func37, Tryd.ntmps37
      go_wp2
      go_ret
      exact ⟨rfl, rfl⟩
    · have b1 : (k == 1) = false := by simpa using h1
      have e : mostOf k = 65535 := by simp [mostOf, h0, h1]
      rw [e]; clear h0 h1 e
      go_enter Tryd.func37, Tryd.ntmps37
      go_wp2
      go_ret
      exact ⟨rfl, rfl⟩

/-- how many of the first k fields are right, as a loop's word. -/
def okTo (x : TCall) (k : Nat) : Prop := ∀ j : Nat, j < k → 0 ≤ x.get j ∧ x.get j ≤ mostOf j
theorem okTo_all {x : TCall} (h : okTo x 5) : callE x = 0 := if_pos (TCall.ok_of h)
theorem okTo_not {x : TCall} {k : Nat} (hk : k < 5) (h : ¬ (0 ≤ x.get k ∧ x.get k ≤ mostOf k)) : callE x = 3 := if_neg fun hx => h (TCall.ok_get hx hk)

set_option maxHeartbeats 1000000 in
theorem callcheck_any (x : TCall) (w : World) : Calls Tryd.prog 22 #[callV x] w fun e w' => e = .returned (.int .i64 (callE x)) ∧ Below w.heap.size w w' := by
  go_enter Tryd.func22, Tryd.ntmps22
  go_wp2_with fail
  go_loop [6] (fun i => ∃ k : Nat, k ≤ 5 ∧ i = .int .i64 k ∧ Hid (okTo x k)) (fun i => 5 - (intOf i).toNat)
  case atStart => exact ⟨0, by omega, rfl, fun j hj => absurd hj (by omega)⟩
  case round =>
    obtain ⟨k, hk, rfl, hok⟩ := hrel
    by_cases hlt : k < 5
    · have hi := fun W => index5 x k hlt W
      by_cases h1 : x.get k < 0
      · have he := Lib.hid (okTo_not hlt (x := x) (by omega))
        go_wp2_with (go_at_call 37; refine (most_any _ _).mono ?_; rintro e w1 ⟨rfl, rfl⟩)
        go_ret
        exact ⟨ret_int he.out.symm, bel_alloc (Below.refl _ _) _⟩
      · by_cases h2 : mostOf k < x.get k
        · have he := Lib.hid (okTo_not hlt (x := x) (by omega))
          go_wp2_with (go_at_call 37; refine (most_any _ _).mono ?_; rintro e w1 ⟨rfl, rfl⟩)
          go_ret
          exact ⟨ret_int he.out.symm, bel_alloc (Below.refl _ _) _⟩
        · go_wp2_with (go_at_call 37; refine (most_any _ _).mono ?_; rintro e w1 ⟨rfl, rfl⟩)
          go_round
          case rel =>
            refine ⟨k + 1, by omega, by go_num, fun j hj => ?_⟩
            by_cases e : j = k
            · subst e; omega
            · exact hok.out j (by omega)
          case measure => simp [intOf]; omega
    · obtain rfl : k = 5 := by omega
      go_wp2
      go_ret
      exact ⟨ret_int (okTo_all hok.out).symm, bel_alloc (Below.refl _ _) _⟩

def inB (n a b : Int) : Bool := decide (a ≤ n ∧ n ≤ b)
theorem inB_yes {n a b : Int} (h : a ≤ n) (h' : n ≤ b) : inB n a b = true := by simp [inB, h, h']
theorem inB_no {n a b : Int} (h : ¬ (a ≤ n ∧ n ≤ b)) : inB n a b = false := by unfold inB; exact decide_eq_false h
theorem in_any (n a b : Int) (w : World) : Calls Tryd.prog 31 #[.int .i64 n, .int .i64 a, .int .i64 b] w fun e w' => e = .returned (.bool (inB n a b)) ∧ w = w' := by
  go_enter Tryd.func31, Tryd.ntmps31
  go_wp2
  all_goals go_ret
  all_goals refine ⟨ret_bool ?_, rfl⟩
  · rename_i h1; simp [inB, h1]
  · rename_i h1; have h2 : ¬ a ≤ n := by omega
    simp [inB, h2]
def mostMap : Array MapEntry := #[⟨.int .i64 0, .int .i64 63, 0⟩, ⟨.int .i64 1, .int .i64 3, 1⟩]
theorem most_find0 : Instr.findNow (.int .i64) (.int .i64 0) mostMap.toList 0 = some (some (0, .int .i64 63)) := rfl
theorem most_find1 : Instr.findNow (.int .i64) (.int .i64 1) mostMap.toList 0 = some (some (1, .int .i64 3)) := rfl
theorem most_find2 {k : Int} (h0 : k ≠ 0) (h1 : k ≠ 1) : Instr.findNow (.int .i64) (.int .i64 k) mostMap.toList 0 = some none := by
  have b0 : (k == 0) = false := beq_eq_false_iff_ne.2 h0
  have b1 : (k == 1) = false := beq_eq_false_iff_ne.2 h1
  simp [mostMap, Instr.findNow, Instr.sameNow, b0, b1]
theorem mostof_find (k : Int) : ∃ f, Instr.findNow (.int .i64) (.int .i64 k) mostMap.toList 0 = some f ∧ ((f = none ∧ mostOf k = 65535) ∨ ∃ j, f = some (j, .int .i64 (mostOf k))) := by
  by_cases h0 : k = 0
  · subst h0; exact ⟨_, most_find0, .inr ⟨_, rfl⟩⟩
  · by_cases h1 : k = 1
    · subst h1; exact ⟨_, most_find1, .inr ⟨_, rfl⟩⟩
    · exact ⟨_, most_find2 h0 h1, .inl ⟨rfl, by simp [mostOf, h0, h1]⟩⟩

theorem mostof_any (k : Int) (w : World) : Calls Tryd.prog 32 #[.int .i64 k] w fun e w' => e = .returned (.int .i64 (mostOf k)) ∧ Below w.heap.size w w' := by
  have hmm := @run_makeMap Tryd.prog
  have h1 := run_insert_new (P := Tryd.prog) (w := w) (t := 80) (es := #[]) (c := 0) (key := .int .i64 0) (v := .int .i64 63) Tryd.underlying80 Tryd.underlying3 rfl rfl
  have h2 := run_insert_new (P := Tryd.prog) (w := w) (t := 80) (es := #[⟨.int .i64 0, .int .i64 63, 0⟩]) (c := 1) (key := .int .i64 1) (v := .int .i64 3) Tryd.underlying80 Tryd.underlying3 rfl rfl
  have hz : (zeroValue 3).run Tryd.prog (w.alloc (.map mostMap 2)) = .ok (.int .i64 0) (w.alloc (.map mostMap 2)) := by kernel_rfl
  simp only [List.push_toArray, List.nil_append, List.cons_append, Nat.reduceAdd] at h1 h2
  obtain ⟨f, hf, hv⟩ := mostof_find k
  have h3 := run_lookup_ok (key := .int .i64 k) (t := 80) Tryd.underlying80 Tryd.underlying3 (heap_last w (.map mostMap 2)) hz rfl hf
  unfold mostMap at h3
  clear hz hf
  rcases hv with ⟨rfl, hv⟩ | ⟨j, rfl⟩
  · rw [hv]; clear hv
    simp only [Option.map_none, Option.getD_none, Option.isSome_none] at h3
    go_enter Tryd.func32, Tryd.ntmps32
    go_wp2
    go_ret
    exact ⟨rfl, bel_alloc (Below.refl _ _) _⟩
  · simp only [Option.map_some, Option.getD_some, Option.isSome_some] at h3
    go_enter Tryd.func32, Tryd.ntmps32
    go_wp2
    go_ret
    exact ⟨rfl, bel_alloc (Below.refl _ _) _⟩
end Go.Proofs.YtioeliocdbckbaaDoor
namespace Go.Proofs.YtioeliocdbckbaaDoor
open Go.RowKit

theorem cuts1_any (n f : Int) (bf : Nat) (w : World) (hx : w.cell? ⟨bf, 0, none⟩ = some (.int .i64 f)) :
    Calls Tryd.prog 43 #[.int .i64 n, .pointer (some ⟨bf, 0, none⟩)] w fun e w' => e = .returned (.bool (decide (mostOf f < n))) ∧ w = w' := by
  go_enter Tryd.func43, Tryd.ntmps43
  go_wp2_with (go_at_call 37; refine (most_any _ _).mono ?_; rintro e w1 ⟨rfl, rfl⟩)
  go_ret
  exact ⟨rfl, rfl⟩
@[reducible] def cutFn (bf : Nat) : Value := .func (.func 43) #[] #[.pointer (some ⟨bf, 0, none⟩)]

set_option maxHeartbeats 1000000 in
theorem indexFuncI_any (v : Value) (l : List Int) (f : Int) (bf : Nat) (D : Nat → Prop) (w : World) (h : RdInts w D v l) (hx : w.cell? ⟨bf, 0, none⟩ = some (.int .i64 f)) :
    Calls Tryd.prog 51 #[v, cutFn bf] w fun e w' =>
      ∃ n : Int, e = .returned (.int .i64 n) ∧ ((n = -1 ∧ ∀ x ∈ l, x ≤ mostOf f) ∨ ∃ (i : Nat) (h : i < l.length), n = i ∧ mostOf f < l[i] ∧ ∀ x ∈ l.take i, x ≤ mostOf f) ∧ w = w' := by
  obtain ⟨a, c, rfl, hlc, hcm, hat⟩ := Sl.form h
  have H := Lib.hid h
  clear h
  go_enter Tryd.func51, Tryd.ntmps51
  go_wp2_with fail
  go_loop [8] (fun i => ∃ k : Nat, k ≤ l.length ∧ i = .int .i64 k ∧ ∀ x ∈ l.take k, x ≤ mostOf f) (fun i => l.length - (intOf i).toNat)
  case atStart => exact ⟨0, by omega, rfl, by simp⟩
  case round =>
    obtain ⟨k, hk, rfl, hall⟩ := hrel
    have Hall := Lib.hid hall
    clear hall
    by_cases hlt : k < l.length
    · obtain ⟨b, o, rfl, hDb, hb⟩ := hat (by omega)
      have c0 := RdInts.cell H.out hlt
      have Hta := Lib.hid (List.take_succ_eq_append_getElem hlt)
      obtain ⟨x, hx'⟩ : ∃ x, l[k] = x := ⟨_, rfl⟩
      rw [hx'] at c0 Hta
      have Hxk := Lib.hid hx'
      clear hx'
      by_cases hgt : mostOf f < x
      · have hd : decide (mostOf f < x) = true := decide_eq_true hgt
        have Hgt := Lib.hid hgt
        clear hgt
        go_wp2_with fail
        refine (cuts1_any x f bf _ hx).mono ?_
        rintro e w1 ⟨rfl, rfl⟩
        go_wp2
        go_ret
        exact ⟨_, rfl, .inr ⟨k, hlt, rfl, by rw [Hxk.out]; exact Hgt.out, Hall.out⟩, rfl⟩
      · have hd : decide (mostOf f < x) = false := decide_eq_false hgt
        have Hgt := Lib.hid hgt
        clear hgt
        go_wp2_with fail
        refine (cuts1_any x f bf _ hx).mono ?_
        rintro e w1 ⟨rfl, rfl⟩
        go_wp2
        go_round
        case rel => exact ⟨k + 1, by omega, by go_num, fun y hy => by
          rw [Hta.out] at hy
          rcases List.mem_append.1 hy with hy | hy
          · exact Hall.out y hy
          · simp at hy; rw [hy]; have := Hgt.out; omega⟩
        case measure => simp [intOf]; omega
    · obtain rfl : k = l.length := by omega
      go_wp2
      go_ret
      exact ⟨_, rfl, .inl ⟨rfl, by have := Hall.out; rwa [List.take_length] at this⟩, rfl⟩

theorem rising_get {l : List Int} (h : Rising l) {i j : Nat} (hi : i < l.length) (hj : j < l.length) (hij : i ≤ j) : l[i] ≤ l[j] := by
  rcases Nat.lt_or_ge i j with hlt | hge
  · have := List.pairwise_iff_getElem.1 h i j hi hj hlt; omega
  · obtain rfl : i = j := by omega
    exact Int.le_refl _
theorem filter_take {l : List Int} (hr : Rising l) {m : Int} {i : Nat} (hi : i < l.length) (hgt : m < l[i]) (hle : ∀ x ∈ l.take i, x ≤ m) : l.filter (fun n => decide (n ≤ m)) = l.take i := by
  have e : l = l.take i ++ l.drop i := (List.take_append_drop i l).symm
  have h1 : (l.take i).filter (fun n => decide (n ≤ m)) = l.take i := List.filter_eq_self.2 fun x hx => by simpa using hle x hx
  have h2 : (l.drop i).filter (fun n => decide (n ≤ m)) = [] := List.filter_eq_nil_iff.2 fun x hx => by
    obtain ⟨k, hk⟩ := List.getElem?_of_mem hx
    rw [List.getElem?_drop] at hk
    obtain ⟨hlt, he⟩ := List.getElem?_eq_some_iff.1 hk
    have := rising_get hr hi hlt (by omega)
    simp; omega
  conv => lhs; rw [e]
  rw [List.filter_append, h1, h2, List.append_nil]

set_option maxRecDepth 100000 in
set_option maxHeartbeats 2000000 in
theorem deleteFuncI_any (v : Value) (l : List Int) (f : Int) (bf base : Nat) (w : World) (hown : OwnSl w base 3 1 intR v l) (hr : Rising l) (hx : w.cell? ⟨bf, 0, none⟩ = some (.int .i64 f)) (hbf : v.ownBlock ≠ some bf) :
    Calls Tryd.prog 42 #[v, cutFn bf] w fun e w' => ∃ v', e = .returned v' ∧ OwnSl w' base 3 1 intR v' (l.filter fun n => decide (n ≤ mostOf f)) ∧ w.grownBy w' v.ownBlock ∧ v'.ownBlock = v.ownBlock := by
  have H : Hid (RdInts w (fun _ => True) v l) := hown.sl (fun _ _ => trivial)
  have Hown := Lib.hid hown
  obtain ⟨a, c, rfl, hlc, hcm, hat⟩ := Sl.form H.out
  have Hr := Lib.hid hr
  clear hown hr
  go_enter Tryd.func42, Tryd.ntmps42
  go_wp2_with fail
  refine (indexFuncI_any _ l f bf _ _ H.out hx).mono ?_
  rintro e w1 ⟨n, rfl, hn, rfl⟩
  rcases hn with ⟨rfl, hall⟩ | ⟨i, hi, rfl, hgt, hle⟩
  · have hf : Hid (l.filter (fun n => decide (n ≤ mostOf f)) = l) := List.filter_eq_self.2 fun x hx => by simpa using hall x hx
    clear hall
    go_wp2
    go_ret
    rw [hf.out]
    exact ⟨_, rfl, Hown.out, ⟨rfl, rfl, rfl, Nat.le_refl _, fun _ _ _ => rfl⟩, rfl⟩
  · have hf : Hid (l.filter (fun n => decide (n ≤ mostOf f)) = l.take i) := filter_take Hr.out hi hgt hle
    have Hgt : Hid (∀ j (h : j < l.length), i ≤ j → mostOf f < l[j]) := fun j h hij => by have := rising_get Hr.out hi h hij; omega
    have hb0 : ((i : Int) == -1) = false := beq_eq_false_iff_ne.2 (by omega)
    obtain ⟨rows, hrr, h1, h2⟩ := Hown.out
    rcases h2 with ⟨_, h0⟩ | ⟨g, cap, cur, hv, hg, hh, hnc, hcm', hcs, htk⟩
    · omega
    injection hv with ha _ hc
    subst ha hc
    have hw1 : IntKind.i64.wrap ((i : Int) + 1) = (i : Int) + 1 := by rw [IntKind.wrap_i64]; omega
    clear hgt hle
    go_wp2_with fail
    go_loop [5, 6] (fun iv jv => ∃ j : Nat, iv = .int .i64 i ∧ jv = .int .i64 j ∧ i < j ∧ j ≤ l.length) (fun _ jv => l.length - (intOf jv).toNat)
    case atStart => exact ⟨i + 1, rfl, by go_num, by omega, by omega⟩
    case round =>
      obtain ⟨j, rfl, rfl, hij, hj⟩ := hrel
      by_cases hlt : j < l.length
      · have c0 := RdInts.cell H.out hlt
        rw [Nat.zero_add] at c0
        have Hgj := Lib.hid (Hgt.out j hlt (by omega))
        obtain ⟨x, hx'⟩ : ∃ x, l[j] = x := ⟨_, rfl⟩
        rw [hx'] at c0 Hgj
        have hd : decide (mostOf f < x) = true := decide_eq_true Hgj.out
        clear hx'
        go_wp2_with fail
        refine (cuts1_any x f bf _ hx).mono ?_
        rintro e w1 ⟨rfl, rfl⟩
        go_wp2
        go_round
        case rel => exact ⟨j + 1, rfl, by go_num, by omega, by omega⟩
        case measure => simp [intOf]; omega
      · obtain rfl : j = l.length := by omega
        have hne : ¬ (c = i) := by omega
        have hcl := fun ty => Lib.run_clear_slice (P := Tryd.prog) w 25 3 ty (.int .i64 0) Tryd.underlying25 (fun w => by kernel_rfl) rfl rfl g i (l.length - i) (c - i) (by omega) (fun j hj => by rw [cells_of hh, Array.getElem?_eq_getElem (by omega)]; rfl) (fun j hj => not_frozen hh _)
        have Hh := Lib.hid hh
        have Htk := Lib.hid htk
        have Hrr := Lib.hid hrr
        have H1 := Lib.hid h1
        clear hh htk hrr h1
        go_wp2
        go_ret
        rw [hf.out]
        obtain ⟨c2, hs2, hb2⟩ := blk_setCells (List.replicate (l.length - i) (.int .i64 0)) i w cur Hh.out
        obtain ⟨k1, k2, k3, k4, k5⟩ := heap_setCells g (List.replicate (l.length - i) (.int .i64 0)) i w
        have hli : (l.take i).length = i := by simp; omega
        have hri : (rows.take i).flatten.length = i := by rw [flat_len _ (fun r hr => Hrr.out.size r (List.mem_of_mem_take hr)), List.length_take, Hrr.out.len]; omega
        refine ⟨.slice (some ⟨g, 0, none⟩) i c, rfl, ⟨rows.take i, ⟨by simp [Hrr.out.len], fun r hr => Hrr.out.size r (List.mem_of_mem_take hr), fun k x r hx hr => ?_⟩, by rw [hli, hri, Nat.mul_one], .inr ⟨g, c, c2, by rw [hli], hg, hb2, by rw [hli]; omega, hcm', by rw [hs2, hcs], ?_⟩⟩, ⟨k1, k2, k3, by rw [k4]; exact Nat.le_refl _, fun k _ hk => k5 k (fun e => hk (by rw [e]; rfl))⟩, rfl⟩
        · have hk : k < i := by have := (List.getElem?_eq_some_iff.1 hx).1; omega
          rw [List.getElem?_take_of_lt hk] at hx hr
          exact Hrr.out.rel k x r hx hr
        · rw [hli, Nat.mul_one]
          have hsp : rows.flatten = (rows.take i).flatten ++ (rows.drop i).flatten := by rw [← List.flatten_append, List.take_append_drop]
          apply List.ext_getElem?
          intro t
          by_cases ht : t < i
          · have e1 : (w.setCells g i (List.replicate (l.length - i) (.int .i64 0))).cell? ⟨g, t, none⟩ = w.cell? ⟨g, t, none⟩ := World.cell?_setCells_out g _ _ _ _ (fun _ _ => .inl ht)
            rw [cells_of hb2, cells_of Hh.out] at e1
            have e2 : rows.flatten[t]? = (rows.take i).flatten[t]? := by rw [hsp, List.getElem?_append_left (by omega)]
            rw [List.getElem?_take_of_lt ht, Array.getElem?_toList, e1, ← e2, ← Htk.out, List.getElem?_take_of_lt (by omega), Array.getElem?_toList]
          · rw [List.getElem?_eq_none (by rw [List.length_take]; omega), List.getElem?_eq_none (by omega)]
end Go.Proofs.YtioeliocdbckbaaDoor
namespace Go.Proofs
open Go.Shelf
def Tryd.lays189_ren : Go.Shelf.Ren := ⟨fun | 189 => 33 | 125 => 46 | 257 => 45 | 128 => 65 | 129 => 66 | 294 => 56 | 295 => 57 | 296 => 58 | 297 => 59 | 298 => 60 | 299 => 61 | 216 => 62 | 300 => 63 | 301 => 64 | 328 => 72 | 329 => 73 | 330 => 74 | 331 => 75 | 332 => 76 | 215 => 50 | 343 => 84 | n => n, fun | 28 => 25 | 3 => 3 | 46 => 83 | 0 => 0 | 51 => 105 | 53 => 107 | 4 => 4 | 183 => 98 | 182 => 97 | 131 => 79 | 5 => 5 | 9 => 9 | 218 => 115 | 222 => 119 | 228 => 124 | 229 => 125 | n => n, fun | n => n⟩
theorem Tryd.lays189 : Go.Proofs.Lays.n189 Tryd.prog Tryd.lays189_ren := {
  mixed := by kernel_rfl
  f125 := Tryd.func46.trans (congrArg some (by kernel_rfl))
  f128 := Tryd.func65.trans (congrArg some (by kernel_rfl))
  f129 := Tryd.func66.trans (congrArg some (by kernel_rfl))
  f189 := Tryd.func33.trans (congrArg some (by kernel_rfl))
  f215 := Tryd.func50.trans (congrArg some (by kernel_rfl))
  f216 := Tryd.func62.trans (congrArg some (by kernel_rfl))
  f257 := Tryd.func45.trans (congrArg some (by kernel_rfl))
  f294 := Tryd.func56.trans (congrArg some (by kernel_rfl))
  f295 := Tryd.func57.trans (congrArg some (by kernel_rfl))
  f296 := Tryd.func58.trans (congrArg some (by kernel_rfl))
  f297 := Tryd.func59.trans (congrArg some (by kernel_rfl))
  f298 := Tryd.func60.trans (congrArg some (by kernel_rfl))
  f299 := Tryd.func61.trans (congrArg some (by kernel_rfl))
  f300 := Tryd.func63.trans (congrArg some (by kernel_rfl))
  f301 := Tryd.func64.trans (congrArg some (by kernel_rfl))
  f328 := Tryd.func72.trans (congrArg some (by kernel_rfl))
  f329 := Tryd.func73.trans (congrArg some (by kernel_rfl))
  f330 := Tryd.func74.trans (congrArg some (by kernel_rfl))
  f331 := Tryd.func75.trans (congrArg some (by kernel_rfl))
  f332 := Tryd.func76.trans (congrArg some (by kernel_rfl))
  f343 := Tryd.func84.trans (congrArg some (by kernel_rfl))
  t0 := Tryd.underlying0
  a0 := Tryd.isAgg0
  z0 := Tryd.sizeOf0
  v0 := Tryd.zeroValue0
  t3 := Tryd.underlying3
  a3 := Tryd.isAgg3
  z3 := Tryd.sizeOf3
  v3 := Tryd.zeroValue3
  t4 := Tryd.underlying4
  a4 := Tryd.isAgg4
  z4 := Tryd.sizeOf4
  v4 := Tryd.zeroValue4
  t5 := Tryd.underlying5
  a5 := Tryd.isAgg5
  z5 := Tryd.sizeOf5
  v5 := Tryd.zeroValue5
  t9 := Tryd.underlying9
  a9 := Tryd.isAgg9
  z9 := Tryd.sizeOf9
  v9 := Tryd.zeroValue9
  t28 := Tryd.underlying25
  a28 := Tryd.isAgg25
  z28 := Tryd.sizeOf25
  v28 := Tryd.zeroValue25
  t46 := Tryd.underlying83
  a46 := Tryd.isAgg83
  z46 := Tryd.sizeOf83
  v46 := Tryd.zeroValue83
  t51 := Tryd.underlying105
  a51 := Tryd.isAgg105
  z51 := Tryd.sizeOf105
  v51 := Tryd.zeroValue105
  t53 := Tryd.underlying107
  a53 := Tryd.isAgg107
  z53 := Tryd.sizeOf107
  v53 := Tryd.zeroValue107
  t131 := Tryd.underlying79
  a131 := Tryd.isAgg79
  z131 := Tryd.sizeOf79
  v131 := Tryd.zeroValue79
  t182 := Tryd.underlying97
  a182 := Tryd.isAgg97
  z182 := Tryd.sizeOf97
  v182 := Tryd.zeroValue97
  t183 := Tryd.underlying98
  a183 := Tryd.isAgg98
  z183 := Tryd.sizeOf98
  v183 := Tryd.zeroValue98
  t218 := Tryd.underlying115
  a218 := Tryd.isAgg115
  z218 := Tryd.sizeOf115
  v218 := Tryd.zeroValue115
  t222 := Tryd.underlying119
  a222 := Tryd.isAgg119
  z222 := Tryd.sizeOf119
  v222 := Tryd.zeroValue119
  t228 := Tryd.underlying124
  a228 := Tryd.isAgg124
  z228 := Tryd.sizeOf124
  v228 := Tryd.zeroValue124
  t229 := Tryd.underlying125
  a229 := Tryd.isAgg125
  z229 := Tryd.sizeOf125
  v229 := Tryd.zeroValue125 }
open Go.Sort Go.RowKit in
theorem Tryd.slices_Sort_int (blk off cap : Nat) (zs : List Int) (w : World) (hH : Holds (Value.int .i64) w blk off zs.toArray) (hblk : blk < w.heap.size) (hsz : zs.length < 4611686018427387904) :
    Calls Tryd.prog 33 #[.slice (some ⟨blk, off, none⟩) zs.length cap] w fun e w' =>
      e = .returned (.tuple #[]) ∧ ∃ n os, w' = grow (putRow (Value.int .i64) (Sort.ahead w n) blk off (zs.mergeSort fun x y => decide (x ≤ y)).toArray) os := Any.slices_Sort_int Tryd.lays189 blk off cap zs w hH hblk hsz
def Tryd.laysNm215_ren : Go.Shelf.Ren := ⟨fun | 15 => 28 | n => n, fun | 22 => 25 | 3 => 3 | 4 => 4 | n => n, fun | n => n⟩
theorem Tryd.laysNm215 : Go.Proofs.Lays2.n15 Tryd.prog Tryd.laysNm215_ren := {
  mixed := by kernel_rfl
  f15 := Tryd.func28.trans (congrArg some (by kernel_rfl))
  t3 := Tryd.underlying3
  a3 := Tryd.isAgg3
  z3 := Tryd.sizeOf3
  v3 := Tryd.zeroValue3
  t4 := Tryd.underlying4
  a4 := Tryd.isAgg4
  z4 := Tryd.sizeOf4
  v4 := Tryd.zeroValue4
  t22 := Tryd.underlying25
  a22 := Tryd.isAgg25
  z22 := Tryd.sizeOf25
  v22 := Tryd.zeroValue25
  i3 := by kernel_rfl }
open Go.RowKit Go.Lib in
theorem Tryd.slices_Clone_int (b off n c : Nat) (zs : List Int) (w : World) (hz : n ≤ zs.length) (hbig : n * 8 ≤ 140737488355328) (hc : ∀ j, j < zs.length → w.cell? ⟨b, off + j, none⟩ = some (.int .i64 (zs.getD j 0))) :
    Calls Tryd.prog 28 #[.slice (some ⟨b, off, none⟩) n c] w fun e w' => ∃ v', e = .returned v' ∧ w'.ownsRow w.heap.size 3 1 v' n ((zs.take n).map (Value.int .i64)) ∧ v' ≠ .slice none 0 0 ∧ Below w.heap.size w w' := Any.slices_Clone_int Tryd.laysNm215 b off n c zs w hz hbig hc
def Tryd.laysNm220_ren : Go.Shelf.Ren := ⟨fun | 20 => 41 | n => n, fun | 22 => 25 | 3 => 3 | 4 => 4 | 0 => 0 | n => n, fun | n => n⟩
theorem Tryd.laysNm220 : Go.Proofs.Lays2.n20 Tryd.prog Tryd.laysNm220_ren := {
  mixed := by kernel_rfl
  f20 := Tryd.func41.trans (congrArg some (by kernel_rfl))
  t0 := Tryd.underlying0
  a0 := Tryd.isAgg0
  z0 := Tryd.sizeOf0
  v0 := Tryd.zeroValue0
  t3 := Tryd.underlying3
  a3 := Tryd.isAgg3
  z3 := Tryd.sizeOf3
  v3 := Tryd.zeroValue3
  t4 := Tryd.underlying4
  a4 := Tryd.isAgg4
  z4 := Tryd.sizeOf4
  v4 := Tryd.zeroValue4
  t22 := Tryd.underlying25
  a22 := Tryd.isAgg25
  z22 := Tryd.sizeOf25
  v22 := Tryd.zeroValue25
  i3 := by kernel_rfl }
open Go.RowKit Go.Lib Go.Sort in
theorem Tryd.slices_Compact_int (blk off cap : Nat) (zs : List Int) (w : World) (hH : Holds (Value.int .i64) w blk off zs.toArray) (hsz : zs.length ≤ 9223372036854775807) (hcap : zs.length ≤ cap) :
    Calls Tryd.prog 41 #[.slice (some ⟨blk, off, none⟩) zs.length cap] w fun e w' => e = .returned (.slice (some ⟨blk, off, none⟩) (Lib.compact zs).length cap) ∧ ∃ q, w' = putRow (Value.int .i64) (Sort.ahead w q) blk off (Lib.compact zs ++ List.replicate (zs.length - (Lib.compact zs).length) 0).toArray := Any.slices_Compact_int Tryd.laysNm220 blk off cap zs w hH hsz hcap
end Go.Proofs
namespace Go.Proofs.YtioeliocdbckbaaDoor
open Go.RowKit Go.Sort

theorem rows_ints : ∀ (l : List Int) (rows : List (List Value)), RowsOf 1 intR l rows → rows = l.map fun x => [Value.int .i64 x] := by
  intro l rows h
  apply List.ext_getElem?
  intro i
  rw [List.getElem?_map]
  rcases Nat.lt_or_ge i l.length with hi | hi
  · have hr : i < rows.length := by rw [h.len]; exact hi
    have := h.rel i l[i] rows[i] (List.getElem?_eq_getElem hi) (List.getElem?_eq_getElem hr)
    rw [List.getElem?_eq_getElem hi, List.getElem?_eq_getElem hr]
    exact congrArg some this
  · rw [List.getElem?_eq_none (by rw [h.len]; exact hi), List.getElem?_eq_none hi]; rfl
theorem flat_ints : ∀ l : List Int, (l.map fun x => [Value.int .i64 x]).flatten = l.map (Value.int .i64)
  | [] => rfl
  | x :: l => by simp [flat_ints l]
theorem OwnSl.ints {w : World} {base : Nat} {e : TypeId} {v : Value} {l : List Int} (h : OwnSl w base e 1 intR v l) : w.ownsRow base e 1 v l.length (l.map (Value.int .i64)) := by
  obtain ⟨rows, hr, ho⟩ := h
  rw [rows_ints l rows hr, flat_ints] at ho
  exact ho
theorem OwnSl.of_ints {w : World} {base : Nat} {e : TypeId} {v : Value} {l : List Int} (h : w.ownsRow base e 1 v l.length (l.map (Value.int .i64))) : OwnSl w base e 1 intR v l := by
  refine ⟨l.map fun x => [.int .i64 x], ⟨by simp, fun r hr => ?_, fun i x r hx hr => ?_⟩, by rw [flat_ints]; exact h⟩
  · obtain ⟨x, _, rfl⟩ := List.mem_map.1 hr; rfl
  · rw [List.getElem?_map, hx] at hr; simp at hr; exact hr.symm
/-- a row whose cells are put anew, its head read. -/
theorem put_ints {w : World} {base g cap q : Nat} {e : TypeId} {os : Array Obj} {cur : Array Value} {l ts : List Int} (hl : ts.length = l.length) (hbase : base ≤ g) (hb : w.heap[g]? = some (.cells cur e (0, 0))) (h1 : l.length ≤ cap) (h2 : cap ≤ maxLen) (h3 : cur.size = cap * 1) {m : Nat} (hm : m ≤ ts.length) :
    OwnSl (grow (putRow (Value.int .i64) (Sort.ahead w q) g 0 ts.toArray) os) base e 1 intR (.slice (some ⟨g, 0, none⟩) m cap) (ts.take m) := by
  have hlm : (ts.take m).length = m := by rw [List.length_take]; omega
  refine OwnSl.of_ints ⟨by simp, .inr ⟨g, cap, _, by rw [hlm], hbase, heap_sortedI _ hb, by omega, h2, by simp [putCells, h3], ?_⟩⟩
  rw [hlm, Nat.mul_one, List.map_take, ← take_putCellsI cur ts (by omega), List.take_take, Nat.min_eq_left hm]

theorem getElem!_int (zs : List Int) (j : Nat) (h : j < zs.length) : (zs.toArray)[j]! = zs[j] := by
  rw [getElem!_pos _ j (by simpa using h)]; simp
theorem compact_mem (zs : List Int) (x : Int) : x ∈ Lib.compact zs ↔ x ∈ zs := by
  unfold Lib.compact Lib.compactUpTo
  rw [List.mem_map]
  constructor
  · rintro ⟨j, hj, rfl⟩
    have hlt := List.mem_range.1 (List.mem_filter.1 hj).1
    rw [getElem!_int zs j hlt]; exact List.getElem_mem hlt
  · intro hx
    obtain ⟨j, hj, rfl⟩ := List.getElem_of_mem hx
    have key : ∀ (n j : Nat) (hj : j < zs.length), j ≤ n → ∃ a, a ∈ (List.range zs.length).filter (Lib.keeps zs.toArray) ∧ zs.toArray[a]! = zs[j] := by
      intro n
      induction n with
      | zero =>
        intro j hj hn
        obtain rfl : j = 0 := by omega
        exact ⟨0, List.mem_filter.2 ⟨List.mem_range.2 hj, Lib.keeps_lt_one _ 0 (by omega)⟩, getElem!_int zs 0 hj⟩
      | succ n ih =>
        intro j hj hn
        by_cases hk : Lib.keeps zs.toArray j = true
        · exact ⟨j, List.mem_filter.2 ⟨List.mem_range.2 hj, hk⟩, getElem!_int zs j hj⟩
        · have h0 : j ≠ 0 ∧ zs.toArray[j]! = zs.toArray[j - 1]! := by
            simp only [Lib.keeps, decide_eq_true_eq, not_or, Decidable.not_not] at hk
            exact hk
          obtain ⟨a, h1, h2⟩ := ih (j - 1) (by omega) (by omega)
          refine ⟨a, h1, ?_⟩
          rw [h2, ← getElem!_int zs (j - 1) (by omega), ← h0.2, getElem!_int zs j hj]
    exact key j j hj (Nat.le_refl _)
theorem compact_rising (zs : List Int) (hs : zs.Pairwise (· ≤ ·)) : Rising (Lib.compact zs) := by
  unfold Rising Lib.compact Lib.compactUpTo
  rw [List.pairwise_map]
  have h0 : (List.range zs.length).Pairwise (· < ·) := List.pairwise_lt_range
  have h1 : ((List.range zs.length).filter (Lib.keeps zs.toArray)).Pairwise (· < ·) := List.Pairwise.sublist List.filter_sublist h0
  refine List.Pairwise.imp_of_mem (fun {i j} hi hj hij => ?_) h1
  have hil := List.mem_range.1 (List.mem_filter.1 hi).1
  have hjl := List.mem_range.1 (List.mem_filter.1 hj).1
  have hk := (List.mem_filter.1 hj).2
  simp only [Lib.keeps, decide_eq_true_eq] at hk
  have hne : zs.toArray[j]! ≠ zs.toArray[j - 1]! := by rcases hk with h | h; omega; exact h
  rw [getElem!_int zs j hjl, getElem!_int zs (j - 1) (by omega)] at hne
  rw [getElem!_int zs i hil, getElem!_int zs j hjl]
  have a1 : zs[i] ≤ zs[j - 1] := by
    rcases Nat.lt_or_ge i (j - 1) with h | h
    · exact List.pairwise_iff_getElem.1 hs i (j - 1) hil (by omega) h
    · obtain rfl : i = j - 1 := by omega
      exact Int.le_refl _
  have a2 := List.pairwise_iff_getElem.1 hs (j - 1) j (by omega) hjl (by omega)
  omega
theorem sort_compact (vals : List Int) : Lib.compact (vals.mergeSort fun x y => decide (x ≤ y)) = setOf vals := by
  have hs : (vals.mergeSort fun x y => decide (x ≤ y)).Pairwise (· ≤ ·) := by
    have := List.pairwise_mergeSort (le := fun x y : Int => decide (x ≤ y)) (fun a b c h1 h2 => by simp at h1 h2 ⊢; omega) (fun a b => by simp; omega) vals
    exact this.imp (by intro a b h; simpa using h)
  refine rising_unique _ _ (compact_rising _ hs) (rising_setOf _) fun z => ?_
  rw [compact_mem, mem_setOf, List.mem_mergeSort]

set_option maxHeartbeats 1000000 in
theorem sortI_any (v : Value) (l : List Int) (base : Nat) (w : World) (hown : OwnSl w base 3 1 intR v l) (hl : l ≠ []) (hsz : l.length < 4611686018427387904) :
    Calls Tryd.prog 33 #[v] w fun e w' => e = .returned (.tuple #[]) ∧ OwnSl w' base 3 1 intR v (l.mergeSort fun x y => decide (x ≤ y)) ∧ w.grownBy w' v.ownBlock := by
  obtain ⟨h1, h2⟩ := hown.ints
  rcases h2 with ⟨_, h0⟩ | ⟨g, cap, cur, rfl, hg, hh, hnc, hcm, hcs, htk⟩
  · exact absurd (List.length_eq_zero_iff.1 h0) hl
  rw [Nat.mul_one] at htk
  refine (Tryd.slices_Sort_int g 0 cap l w (holds_of_blockI hh htk) (Array.getElem?_eq_some_iff.1 hh).1 hsz).mono ?_
  rintro e w' ⟨rfl, n, os, rfl⟩
  refine ⟨rfl, ?_, grownBy_sortedI _⟩
  have hml : (l.mergeSort fun x y => decide (x ≤ y)).length = l.length := List.length_mergeSort ..
  have := put_ints (q := n) (os := os) (base := base) (e := 3) hml hg hh hnc hcm hcs (m := l.length) (by omega)
  rwa [List.take_of_length_le (by omega)] at this
set_option maxHeartbeats 1000000 in
theorem compactI_any (v : Value) (l : List Int) (base : Nat) (w : World) (hown : OwnSl w base 3 1 intR v l) (hl : l ≠ []) (hsz : l.length ≤ 9223372036854775807) :
    Calls Tryd.prog 41 #[v] w fun e w' => ∃ v', e = .returned v' ∧ OwnSl w' base 3 1 intR v' (Lib.compact l) ∧ w.grownBy w' v.ownBlock ∧ v'.ownBlock = v.ownBlock := by
  obtain ⟨h1, h2⟩ := hown.ints
  rcases h2 with ⟨_, h0⟩ | ⟨g, cap, cur, rfl, hg, hh, hnc, hcm, hcs, htk⟩
  · exact absurd (List.length_eq_zero_iff.1 h0) hl
  rw [Nat.mul_one] at htk
  refine (Tryd.slices_Compact_int g 0 cap l w (holds_of_blockI hh htk) hsz hnc).mono ?_
  rintro e w' ⟨rfl, q, rfl⟩
  have hc : (Lib.compact l).length ≤ l.length := by
    unfold Lib.compact Lib.compactUpTo
    rw [List.length_map]
    exact Nat.le_trans (List.length_filter_le _ _) (by simp)
  obtain ⟨ts, hts⟩ : ∃ ts, ts = Lib.compact l ++ List.replicate (l.length - (Lib.compact l).length) 0 := ⟨_, rfl⟩
  have htl : ts.length = l.length := by rw [hts, List.length_append, List.length_replicate]; omega
  have := put_ints (q := q) (os := #[]) (base := base) (e := 3) htl hg hh hnc hcm hcs (m := (Lib.compact l).length) (by omega)
  have e1 : ts.take (Lib.compact l).length = Lib.compact l := by rw [hts]; exact List.take_left' rfl
  rw [e1, grow_empty] at this
  have e2 : (Lib.compact l ++ List.replicate (l.length - (Lib.compact l).length) 0).toArray = ts.toArray := by rw [hts]
  refine ⟨_, rfl, ?_, ?_, rfl⟩
  · rw [e2]; exact this
  · have := grownBy_sortedI (w := w) (g := g) (n := q) (os := #[]) (Lib.compact l ++ List.replicate (l.length - (Lib.compact l).length) 0).toArray
    rw [grow_empty] at this
    exact this
end Go.Proofs.YtioeliocdbckbaaDoor
namespace Go.Proofs.YtioeliocdbckbaaDoor
open Go.RowKit

set_option maxRecDepth 100000 in
set_option maxHeartbeats 8000000 in
theorem cuts_any (v : Value) (l : List TPol) (f : Int) (D : Nat → Prop) (w : World) (h : RdPols w D v l) (hok : ∀ p ∈ l, OkPol p) (hn : (cutVals l f).length * 8 ≤ 140737488355328) :
    Calls Tryd.prog 27 #[v, .int .i64 f] w fun e w' => ∃ v', e = .returned v' ∧ OwnSl w' w.heap.size 3 1 intR v' (cutsOf l f) ∧ Below w.heap.size w w' := by
  have H := Lib.hid h
  obtain ⟨a, c, rfl, hlc, hcm, hat⟩ := Sl.form h
  obtain ⟨i0, hi, hz0, hz1, hz2⟩ := info_parts infoInt
  have Hi := Lib.hid hi
  have Hok := Lib.hid hok
  have Hn := Lib.hid hn
  clear h hi hok hn
  go_enter Tryd.func27, Tryd.ntmps27
  go_wp2_with fail
  go_loopw [5, 15] (fun ov kv wr => ∃ (k : Nat) (vs : Value), kv = .int .i64 k ∧ vs = ov ∧ k ≤ l.length ∧ OwnSl wr (w.heap.size + 1) 3 1 intR vs (0 :: (l.take k).flatMap (polCuts f)) ∧ Below (w.heap.size + 1) (w.alloc (.cells #[.int .i64 f] 3)) wr) (fun _ kv _ => l.length - (intOf kv).toNat)
  case atStart =>
    refine ⟨0, _, rfl, rfl, by omega, ?_, (Below.refl _ _).alloc (by simp) _⟩
    exact ⟨[[.int .i64 0]], RowsOf.cons RowsOf.nil rfl rfl, by simp, .inr ⟨w.heap.size + 1, 1, _, rfl, Nat.le_refl _, blk_at (by simp), by simp, by simp [maxLen], by simp, by simp⟩⟩
  case round =>
    obtain ⟨k, vs, rfl, rfl, hk, hown, hb⟩ := hrel
    have hbc := box_cells hb
    have hbw := bel_box hb
    have hsz := size_box hb
    have Hown := Lib.hid hown
    have Hb := Lib.hid hb
    have Hbw := Lib.hid hbw
    clear hown hb hbw
    by_cases hlt : k < l.length
    · obtain ⟨b, o, rfl, hDb, hblt⟩ := hat (by omega)
      obtain ⟨ca, cc, hc0w, hc1w, hrd, hcl, hcmx, hcat⟩ := RdPols.cells H.out hlt
      have Hs := Lib.hid (flatMap_take (polCuts f) l k hlt)
      have Hle := Lib.hid (flatMap_take_le (polCuts f) l (k + 1))
      obtain ⟨p, hp⟩ : ∃ p, l[k] = p := ⟨_, rfl⟩
      have Hkp := Lib.hid (Hok.out l[k] (List.getElem_mem hlt))
      rw [hp] at hc0w hc1w hrd hcl hcat Hkp Hs
      have Hrd := Lib.hid hrd
      have hc0 := (Hbw.out.cell (p := ⟨b, o + k * 2, none⟩) hblt).trans hc0w
      have hc1 := (Hbw.out.cell (p := ⟨b, o + k * 2 + 1, none⟩) hblt).trans hc1w
      have Hll : Hid ((0 :: (l.take k).flatMap (polCuts f)).length + (p.rules.flatMap (ruleCuts f)).length ≤ (cutVals l f).length) := by
        show _ ≤ _
        have h1 := Hle.out
        rw [Hs.out, List.length_append] at h1
        unfold cutVals
        simp only [List.length_cons]
        unfold polCuts at h1 ⊢
        omega
      obtain ⟨wo, rfl⟩ : ∃ wo : World, wo = wr := ⟨_, rfl⟩
      obtain ⟨L, hL⟩ : ∃ L, L = 0 :: (l.take k).flatMap (polCuts f) := ⟨_, rfl⟩
      rw [← hL] at Hown Hll
      have HL := Lib.hid hL
      clear hrd hp hc0w hc1w hL
      go_wp2_with fail
      clear hc0 hc1 hbc
      go_loopw [5, 22] (fun ov kv wr => ∃ (j : Nat) (vs : Value), kv = .int .i64 j ∧ vs = ov ∧ j ≤ p.rules.length ∧ OwnSl wr (w.heap.size + 1) 3 1 intR vs (L ++ (p.rules.take j).flatMap (ruleCuts f)) ∧ Below (w.heap.size + 1) (w.alloc (.cells #[.int .i64 f] 3)) wr) (fun _ kv _ => p.rules.length - (intOf kv).toNat)
      case atStart => exact ⟨0, vs, rfl, rfl, by omega, by simpa using Hown.out.below (bel_alloc (Below.refl _ _) _), Hb.out.trans ((bel_alloc (Below.refl _ wo) _).mono hsz)⟩
      case round =>
        obtain ⟨j, vj, rfl, rfl, hj, hown, hb⟩ := hrel
        have hbw := bel_box hb
        have hszj := size_box hb
        have Hownj := Lib.hid hown
        have Hbj := Lib.hid hb
        have Hbwj := Lib.hid hbw
        clear hown hb hbw Hown Hb Hbw
        by_cases hjl : j < p.rules.length
        · obtain ⟨b2, o2, rfl, hDb2, hblt2⟩ := hcat (by omega)
          obtain ⟨da, dc, hd0w, hd1w, hrd2, hdl, hdmx, hdat⟩ := RdRules.cells Hrd.out hjl
          have Hs2 := Lib.hid (flatMap_take (ruleCuts f) p.rules j hjl)
          have Hle2 := Lib.hid (flatMap_take_le (ruleCuts f) p.rules (j + 1))
          obtain ⟨r, hr⟩ : ∃ r, p.rules[j] = r := ⟨_, rfl⟩
          have Hkr := Lib.hid (Hkp.out.rules p.rules[j] (List.getElem_mem hjl))
          rw [hr] at hd0w hd1w hrd2 hdl hdat Hkr Hs2
          have Hrd2 := Lib.hid hrd2
          have hd0 := (Hbwj.out.cell (p := ⟨b2, o2 + j * 2, none⟩) hblt2).trans hd0w
          have hd1 := (Hbwj.out.cell (p := ⟨b2, o2 + j * 2 + 1, none⟩) hblt2).trans hd1w
          have Hll2 : Hid ((L ++ (p.rules.take j).flatMap (ruleCuts f)).length + (r.conds.flatMap (condCuts f)).length ≤ (cutVals l f).length) := by
            show _ ≤ _
            have h1 := Hle2.out
            have h2 := Hll.out
            rw [Hs2.out, List.length_append] at h1
            rw [List.length_append]
            have e : (ruleCuts f r).length = (r.conds.flatMap (condCuts f)).length := rfl
            omega
          obtain ⟨wp, rfl⟩ : ∃ wp : World, wp = wr := ⟨_, rfl⟩
          obtain ⟨M, hM⟩ : ∃ M, M = L ++ (p.rules.take j).flatMap (ruleCuts f) := ⟨_, rfl⟩
          rw [← hM] at Hownj Hll2
          have HM := Lib.hid hM
          clear hrd2 hr hd0w hd1w hM
          go_wp2_with fail
          clear hd0 hd1
          go_loopw [5, 29] (fun ov kv wr => ∃ (i : Nat) (vs : Value), kv = .int .i64 i ∧ vs = ov ∧ i ≤ r.conds.length ∧ OwnSl wr (w.heap.size + 1) 3 1 intR vs (M ++ (r.conds.take i).flatMap (condCuts f)) ∧ Below (w.heap.size + 1) (w.alloc (.cells #[.int .i64 f] 3)) wr) (fun _ kv _ => r.conds.length - (intOf kv).toNat)
          case atStart => exact ⟨0, vj, rfl, rfl, by omega, by simpa using Hownj.out.below (bel_alloc (Below.refl _ _) _), Hbj.out.trans ((bel_alloc (Below.refl _ wp) _).mono hszj)⟩
          case round =>
            obtain ⟨i, vi, rfl, rfl, hi, hown, hb⟩ := hrel
            have hbci := box_cells hb
            have hbw := bel_box hb
            have hszi := size_box hb
            have Howni := Lib.hid hown
            have Hbi := Lib.hid hb
            have Hbwi := Lib.hid hbw
            clear hown hb hbw Hownj Hbj Hbwj
            by_cases hil : i < r.conds.length
            · obtain ⟨b3, o3, rfl, hDb3, hblt3⟩ := hdat (by omega)
              obtain ⟨he0, he1, he2⟩ := RdConds.cells (Hrd2.out.below Hbwi.out) hil
              have Hs3 := Lib.hid (flatMap_take (condCuts f) r.conds i hil)
              have Hle3 := Lib.hid (flatMap_take_le (condCuts f) r.conds (i + 1))
              have Hoc := Lib.hid (Hkr.out.conds r.conds[i] (List.getElem_mem hil))
              obtain ⟨⟨cf, cop, cv⟩, hcj⟩ : ∃ y : TCond, r.conds[i] = y := ⟨_, rfl⟩
              rw [hcj] at he0 he1 he2 Hs3 Hoc
              have hv0 : 0 ≤ cv := Hoc.out.v0
              have hv1 : cv ≤ 65535 := Int.le_trans Hoc.out.v1 (by show mostOf cf ≤ 65535; unfold mostOf; split <;> (try split) <;> omega)
              have ho0 : 1 ≤ cop := Hoc.out.o0
              have ho1 : cop ≤ 4 := Hoc.out.o1
              dsimp only at he0 he1 he2
              clear hcj
              have Hll3 : Hid ((M ++ (r.conds.take i).flatMap (condCuts f)).length + (condCuts f ⟨cf, cop, cv⟩).length ≤ (cutVals l f).length) := by
                show _ ≤ _
                have h1 := Hle3.out
                have h2 := Hll2.out
                rw [Hs3.out, List.length_append] at h1
                rw [List.length_append]
                omega
              obtain ⟨wi, rfl⟩ : ∃ wi : World, wi = wr := ⟨_, rfl⟩
              have Hobn : Hid (∀ g, vi.ownBlock = some g → g < wi.heap.size) := fun g hg => by obtain ⟨rows, _, hrw⟩ := Howni.out; exact (hrw.lt _ hg).2
              by_cases hcf : cf = f
              · subst hcf
                have hb2 := Hbi.out.trans ((bel_alloc (Below.refl _ wi) (.cells #[.int .i64 cf, .int .i64 cop, .int .i64 cv] 67)).mono hszi)
                have hbc2 := box_cells hb2
                clear hbci hb2
                have hlen3 : (M ++ (r.conds.take i).flatMap (condCuts cf)).length + 2 ≤ 17592186044416 + 1 := by
                  have h1 := Hll3.out
                  have h2 := Hn.out
                  have h3 : 1 ≤ (condCuts cf ⟨cf, cop, cv⟩).length := by unfold condCuts; rw [if_pos rfl]; split <;> simp
                  omega
                have Hown3 := Lib.hid (Howni.out.below (bel_alloc (bel_alloc (Below.refl _ wi) (.cells #[.int .i64 cf, .int .i64 cop, .int .i64 cv] 67)) (.cells #[.int .i64 cv] 3)))
                have Hbox3 := Lib.hid (blk_old (o := (.cells #[.int .i64 cv] 3)) (heap_last wi (.cells #[.int .i64 cf, .int .i64 cop, .int .i64 cv] 67)))
                have Hbi3 := Lib.hid (Hbi.out.trans ((bel_alloc (bel_alloc (Below.refl _ wi) (.cells #[.int .i64 cf, .int .i64 cop, .int .i64 cv] 67)) (.cells #[.int .i64 cv] 3)).mono hszi))
                rcases (by omega : (cop = 1 ∨ cop = 2) ∨ (cop = 3 ∨ cop = 4)) with ho | ho
                · have Hcc : Hid (condCuts cf ⟨cf, cop, cv⟩ = [cv] ++ [cv + 1]) := by show _ = _; unfold condCuts; rw [if_pos rfl, if_pos ho]; rfl
                  have hlen4 : (M ++ (r.conds.take i).flatMap (condCuts cf)).length + 2 ≤ 17592186044416 := by
                    have h1 := Hll3.out
                    have h2 := Hn.out
                    rw [Hcc.out] at h1
                    simp only [List.length_append, List.length_singleton] at h1 ⊢
                    omega
                  have hw1 : IntKind.i64.wrap (cv + 1) = cv + 1 := by rw [IntKind.wrap_i64]; omega
                  rcases ho with rfl | rfl
                  all_goals
                    go_wp2_with (at_builtin; first | (refine wpList_app2 rfl _ _ 25 rfl (w.heap.size + 1) 3 i0 _ 1 8 Tryd.underlying25 Hi.out hz0 hz1 hz2 rfl (by decide) _ _ rfl Hown3.out _ _ rfl (one_int (by simp)) (fun y _ cs h => intR_one y cs h) (by show _ + 1 ≤ maxLen; unfold maxLen; omega) (by show (_ + 1) * 8 ≤ _; omega) (by simp; omega) ?_; intro v' w3 hown' hg hat'; have Hown' := Lib.hid hown'; have Hb3 := Lib.hid (Hown3.out.grown Hbi3.out hg (by simp; omega) (Nat.le_refl _)); have Hx3 := Lib.hid ((hg.block wi.heap.size (by simp; omega) (fun e => by have := Hobn.out _ e.symm; omega)).trans Hbox3.out); have hx3 := cells_of Hx3.out; have hs3 : wi.heap.size < w3.heap.size := (by have := hg.size; simp at this; omega); have hs4 : w.heap.size + 1 ≤ w3.heap.size := (by omega); have Hown4 := Lib.hid (Hown'.out.below (bel_alloc (Below.refl _ w3) (.cells #[.int .i64 (cv + 1)] 3))); have Hbi4 := Lib.hid (Hb3.out.trans ((bel_alloc (Below.refl _ w3) (.cells #[.int .i64 (cv + 1)] 3)).mono hs4)); clear hown' hg hat' hbc2) | (refine wpList_app2 rfl _ _ 25 rfl (w.heap.size + 1) 3 i0 _ 1 8 Tryd.underlying25 Hi.out hz0 hz1 hz2 rfl (by decide) _ _ rfl Hown4.out _ _ rfl (one_int (by simp)) (fun y _ cs h => intR_one y cs h) (by show _ + 1 ≤ maxLen; unfold maxLen; rw [List.length_append]; show _ + 1 + 1 ≤ _; omega) (by rw [List.length_append]; show (_ + 1 + 1) * 8 ≤ _; omega) (by simp; omega) ?_; intro v'' w4 hown'' hg' hat''; have Hown5 := Lib.hid hown''; have Hb5 := Lib.hid (Hown4.out.grown Hbi4.out hg' (by simp; omega) (Nat.le_refl _)); clear hown'' hg' hat'' hx3))
                    go_roundw
                    case rel => exact ⟨i + 1, v'', by go_num, rfl, by omega, by rw [Hs3.out, Hcc.out, ← List.append_assoc, ← List.append_assoc]; exact Hown5.out, Hb5.out⟩
                    case measure => simp [intOf]; omega
                · have Hcc : Hid (condCuts cf ⟨cf, cop, cv⟩ = [cv]) := by show _ = _; unfold condCuts; rw [if_pos rfl, if_neg (by show ¬ (cop = 1 ∨ cop = 2); omega)]
                  rcases ho with rfl | rfl
                  all_goals
                    go_wp2_with (at_builtin; refine wpList_app2 rfl _ _ 25 rfl (w.heap.size + 1) 3 i0 _ 1 8 Tryd.underlying25 Hi.out hz0 hz1 hz2 rfl (by decide) _ _ rfl Hown3.out _ _ rfl (one_int (by simp)) (fun y _ cs h => intR_one y cs h) (by show _ + 1 ≤ maxLen; unfold maxLen; omega) (by show (_ + 1) * 8 ≤ _; omega) (by simp; omega) ?_; intro v' w3 hown' hg hat'; have Hown' := Lib.hid hown'; have Hb3 := Lib.hid (Hown3.out.grown Hbi3.out hg (by simp; omega) (Nat.le_refl _)); have Hx3 := Lib.hid ((hg.block wi.heap.size (by simp; omega) (fun e => by have := Hobn.out _ e.symm; omega)).trans Hbox3.out); have hx3 := cells_of Hx3.out; have hs3 : wi.heap.size < w3.heap.size := (by have := hg.size; simp at this; omega); have hs4 : w.heap.size + 1 ≤ w3.heap.size := (by omega); have hbc3 := box_cells Hb3.out; clear hown' hg hat' hbc2)
                    go_roundw
                    case rel => exact ⟨i + 1, v', by go_num, rfl, by omega, by rw [Hs3.out, Hcc.out, ← List.append_assoc]; exact Hown'.out, Hb3.out⟩
                    case measure => simp [intOf]; omega
              · have hb0 : (cf != f) = true := bne_iff_ne.2 hcf
                have Hcc : Hid (condCuts f ⟨cf, cop, cv⟩ = []) := if_neg hcf
                have hb2 := Hbi.out.trans ((bel_alloc (Below.refl _ wi) (.cells #[.int .i64 cf, .int .i64 cop, .int .i64 cv] 67)).mono hszi)
                have hbc2 := box_cells hb2
                have Hb2 := Lib.hid hb2
                clear hbci hcf hb2
                go_wp2_with fail
                go_roundw
                case rel => exact ⟨i + 1, vi, by go_num, rfl, by omega, by rw [Hs3.out, Hcc.out, List.append_nil]; exact Howni.out.below (bel_alloc (Below.refl _ _) _), Hb2.out⟩
                case measure => simp [intOf]; omega
            · obtain rfl : i = r.conds.length := by omega
              go_wp2
              go_roundw
              case rel => exact ⟨j + 1, vi, by go_num, rfl, by omega, by have := Howni.out; rw [List.take_length, HM.out, List.append_assoc] at this; rw [Hs2.out]; exact this, Hbi.out⟩
              case measure => simp [intOf]; omega
        · obtain rfl : j = p.rules.length := by omega
          go_wp2
          go_roundw
          case rel => exact ⟨k + 1, vj, by go_num, rfl, by omega, by have := Hownj.out; rw [List.take_length, HL.out] at this; rw [Hs.out]; exact this, Hbj.out⟩
          case measure => simp [intOf]; omega
    · obtain rfl : k = l.length := by omega
      have HV : Hid (OwnSl wr (w.heap.size + 1) 3 1 intR vs (cutVals l f)) := by have := Hown.out; rw [List.take_length] at this; exact this
      have hbn : (cutVals l f).length ≤ 17592186044416 := by have := Hn.out; omega
      have hlen : 0 < (cutVals l f).length := by simp [cutVals]
      clear hbc
      go_wp2_with fail
      refine (sortI_any vs (cutVals l f) (w.heap.size + 1) wr HV.out (by simp [cutVals]) (by omega)).mono ?_
      rintro e w1 ⟨rfl, ho1, hg1⟩
      have Ho1 := Lib.hid ho1
      have Hb1 := Lib.hid (Hown.out.grown Hb.out hg1 hsz (Nat.le_refl _))
      have hz1 : w.heap.size + 1 ≤ w1.heap.size := Nat.le_trans hsz hg1.size
      clear ho1 hg1
      go_wp2_with fail
      refine (compactI_any vs _ (w.heap.size + 1) w1 Ho1.out (fun e => by have := congrArg List.length e; rw [List.length_mergeSort] at this; simp [cutVals] at this) (by rw [List.length_mergeSort]; omega)).mono ?_
      rw [sort_compact]
      rintro e w2 ⟨v2, rfl, ho2, hg2, hk2⟩
      have Ho2 := Lib.hid ho2
      have Hb2 := Lib.hid (Ho1.out.grown Hb1.out hg2 hz1 (Nat.le_refl _))
      have hz2 : w.heap.size + 1 ≤ w2.heap.size := Nat.le_trans hz1 hg2.size
      have hbc2 := box_cells Hb2.out 0
      have Hne : Hid (v2.ownBlock ≠ some w.heap.size) := fun e => by have := Ho2.out.block _ e; omega
      clear ho2 hg2 hk2
      go_wp2_with fail
      refine (deleteFuncI_any v2 _ f w.heap.size (w.heap.size + 1) w2 Ho2.out (rising_setOf _) hbc2 Hne.out).mono ?_
      rintro e w3 ⟨v3, rfl, ho3, hg3, hk3⟩
      have Ho3 := Lib.hid ho3
      have Hb3 := Lib.hid (Ho2.out.grown Hb2.out hg3 hz2 (Nat.le_refl _))
      clear ho3 hg3 hk3
      go_wp2
      go_ret
      exact ⟨_, rfl, Ho3.out.base (by omega), bel_box Hb3.out⟩
end Go.Proofs.YtioeliocdbckbaaDoor
namespace Go.Proofs.YtioeliocdbckbaaDoor
open Go.RowKit
attribute [local go_sem] gives givesUpon

set_option maxHeartbeats 2000000 in
theorem cond_any (c : TCond) (w : World) : Calls Tryd.prog 40 #[.agg #[.int .i64 c.f, .int .i64 c.op, .int .i64 c.v]] w fun e w' => e = .returned (.int .i64 (condE c)) ∧ Below w.heap.size w w' := by
  obtain ⟨f, op, v⟩ := c
  dsimp only
  by_cases h1 : f < 0 ∨ 5 ≤ f
  · have he : condE ⟨f, op, v⟩ = 5 := by unfold condE; rw [if_pos h1]
    rw [he]; clear he
    rcases h1 with h1 | h1
    · go_enter Tryd.func40, Tryd.ntmps40
      go_wp2
      go_ret
      exact ⟨rfl, bel_alloc (Below.refl _ _) _⟩
    · have h0 : ¬ f < 0 := by omega
      go_enter Tryd.func40, Tryd.ntmps40
      go_wp2
      go_ret
      exact ⟨rfl, bel_alloc (Below.refl _ _) _⟩
  · by_cases h2 : op < 1 ∨ 4 < op
    · have he : condE ⟨f, op, v⟩ = 4 := by unfold condE; rw [if_neg h1, if_pos h2]
      rw [he]; clear he
      have g0 : ¬ f < 0 := by omega
      have g1 : ¬ 5 ≤ f := by omega
      clear h1
      rcases h2 with h2 | h2
      · go_enter Tryd.func40, Tryd.ntmps40
        go_wp2
        go_ret
        exact ⟨rfl, bel_alloc (Below.refl _ _) _⟩
      · have h0 : ¬ op < 1 := by omega
        go_enter Tryd.func40, Tryd.ntmps40
        go_wp2
        go_ret
        exact ⟨rfl, bel_alloc (Below.refl _ _) _⟩
    · have g0 : ¬ f < 0 := by omega
      have g1 : ¬ 5 ≤ f := by omega
      have g2 : ¬ op < 1 := by omega
      have g3 : ¬ 4 < op := by omega
      have hc : ∀ W, Cls (w.heap.size + 1) (w.alloc (.cells #[.int .i64 f, .int .i64 op, .int .i64 v] 67)) W → ∀ j : Nat, W.cell? ⟨w.heap.size, j, none⟩ = (#[Value.int .i64 f, .int .i64 op, .int .i64 v] : Array Value)[j]? := fun W hW j => box_cells hW.2 j
      have Hc := Lib.hid hc
      have He : Hid (condE ⟨f, op, v⟩ = if v < 0 ∨ mostOf f < v then 3 else 0) := by show condE _ = _; unfold condE; rw [if_neg h1, if_neg h2]
      clear hc h1 h2
      by_cases h3 : v < 0
      · have hv : decide (v < 0) = true := decide_eq_true h3
        rw [He.out, if_pos (.inl h3)]
        go_enter Tryd.func40, Tryd.ntmps40
        go_wp2_with fail
        refine wp_region_exact (w.heap.size + 1) (by simp) (by kernel_rfl) (by kernel_rfl) ?_
        repeat (refine monoE_step (fun K hK => ?_); apply Exists.intro; refine ⟨fun W hC R hR => ?_, ?_⟩; (have hcell := Hc.out W hC; go_simp; exact hR _ _ (Below.refl _ _) rfl); (go_simp; refine hK _ ?_; clear hK K))
        intro w2 hC2
        go_wp2
        go_ret
        exact ⟨rfl, bel_box hC2.2⟩
      · have hv : decide (v < 0) = false := decide_eq_false h3
        by_cases h4 : mostOf f < v
        · have hv4 : decide (mostOf f < v) = true := decide_eq_true h4
          rw [He.out, if_pos (.inr h4)]
          go_enter Tryd.func40, Tryd.ntmps40
          go_wp2_with fail
          refine wp_region_exact (w.heap.size + 1) (by simp) (by kernel_rfl) (by kernel_rfl) ?_
          repeat (refine monoE_step (fun K hK => ?_); apply Exists.intro; refine ⟨fun W hC R hR => ?_, ?_⟩; (first
            | (have hcell := Hc.out W hC; go_simp; refine hR _ _ (Below.refl _ _) rfl)
            | (go_simp; go_at_call 37; refine (most_any _ _).mono ?_; rintro e w1 ⟨rfl, rfl⟩; exact ⟨_, rfl, hR _ _ (Below.refl _ _) rfl⟩)); (go_simp; refine hK _ ?_; clear hK K))
          intro w2 hC2
          go_wp2
          go_ret
          exact ⟨rfl, bel_box hC2.2⟩
        · have hv4 : decide (mostOf f < v) = false := decide_eq_false h4
          rw [He.out, if_neg (by omega)]
          go_enter Tryd.func40, Tryd.ntmps40
          go_wp2_with fail
          refine wp_region_exact (w.heap.size + 1) (by simp) (by kernel_rfl) (by kernel_rfl) ?_
          repeat (refine monoE_step (fun K hK => ?_); apply Exists.intro; refine ⟨fun W hC R hR => ?_, ?_⟩; (first
            | (have hcell := Hc.out W hC; go_simp; refine hR _ _ (Below.refl _ _) rfl)
            | (go_simp; go_at_call 37; refine (most_any _ _).mono ?_; rintro e w1 ⟨rfl, rfl⟩; exact ⟨_, rfl, hR _ _ (Below.refl _ _) rfl⟩)); (go_simp; refine hK _ ?_; clear hK K))
          intro w2 hC2
          go_wp2
          go_ret
          exact ⟨rfl, bel_box hC2.2⟩
end Go.Proofs.YtioeliocdbckbaaDoor
namespace Go.Proofs.YtioeliocdbckbaaDoor
open Go.RowKit

set_option maxHeartbeats 4000000 in
theorem polcheck_any (v : Value) (p : TPol) (D : Nat → Prop) (w : World) (h : RdRules w D v p.rules) : Calls Tryd.prog 26 #[polV v p.dflt] w fun e w' => e = .returned (.int .i64 (polE p)) ∧ Below w.heap.size w w' := by
  obtain ⟨rs, d⟩ := p
  dsimp only at h ⊢
  obtain ⟨a, c, rfl, hlc, hcm, hat⟩ := Sl.form h
  have H := Lib.hid h
  clear h
  by_cases h1 : 120 < rs.length
  · have he : polE ⟨rs, d⟩ = 2 := by unfold polE; rw [if_pos h1]
    have hz : 120 < (rs.length : Int) := by omega
    rw [he]; clear he h1 hat H
    go_enter Tryd.func26, Tryd.ntmps26
    go_wp2
    go_ret
    exact ⟨rfl, bel_alloc (Below.refl _ _) _⟩
  · have hz : ¬ 120 < (rs.length : Int) := by omega
    by_cases h2 : d < 0 ∨ 4 < d
    · have he : polE ⟨rs, d⟩ = 3 := by unfold polE; rw [if_neg h1, if_pos h2]
      rw [he]; clear he hat H h1
      rcases h2 with h2 | h2
      · go_enter Tryd.func26, Tryd.ntmps26
        go_wp2
        go_ret
        exact ⟨rfl, bel_alloc (Below.refl _ _) _⟩
      · have h0 : ¬ d < 0 := by omega
        go_enter Tryd.func26, Tryd.ntmps26
        go_wp2
        go_ret
        exact ⟨rfl, bel_alloc (Below.refl _ _) _⟩
    · have g0 : ¬ d < 0 := by omega
      have g1 : ¬ 4 < d := by omega
      have He := Lib.hid (show polE ⟨rs, d⟩ = rulesGo rs by unfold polE; rw [if_neg h1, if_neg h2])
      clear h1 h2
      go_enter Tryd.func26, Tryd.ntmps26
      go_wp2_with fail
      go_loopw [23] (fun i wr => ∃ k : Nat, k ≤ rs.length ∧ i = .int .i64 k ∧ rulesGo rs = rulesGo (rs.drop k) ∧ Below w.heap.size w wr) (fun i _ => rs.length - (intOf i).toNat)
      case atStart => exact ⟨0, by omega, rfl, rfl, bel_alloc (Below.refl _ _) _⟩
      case round =>
        obtain ⟨k, hk, rfl, hgo, hbw⟩ := hrel
        have Hgo := Lib.hid hgo
        have hsz := hbw.size
        clear hgo
        by_cases hlt : k < rs.length
        · obtain ⟨b, o, rfl, hDb, hb⟩ := hat (by omega)
          obtain ⟨a', c', k0, k1, hr, hlc', hcm', hat'⟩ := RdRules.cells (RdRules.below H.out hbw) hlt
          have Hr := Lib.hid hr
          have bad : ∀ e : Int, ruleE rs[k] = e → e ≠ 0 → ∀ wz, Below w.heap.size w wz → Ending.returned (.int .i64 e) = .returned (.int .i64 (polE ⟨rs, d⟩)) ∧ Below w.heap.size w wz := fun e he h0 wz hz => by
            refine ⟨ret_int ?_, hz⟩
            rw [He.out, Hgo.out, rulesGo_drop rs k hlt, he, if_neg h0]
          have good : ruleE rs[k] = 0 → rulesGo rs = rulesGo (rs.drop (k + 1)) := fun he => by rw [Hgo.out, rulesGo_drop rs k hlt, if_pos he]
          have Hbad := Lib.hid bad
          have Hgood := Lib.hid good
          clear bad good hr
          generalize hX : rs[k] = X at *
          clear hX
          obtain ⟨cs, vd⟩ := X
          dsimp only at k0 k1 hlc' hat'
          have Hr' : Hid (RdConds wr D (.slice a' cs.length c') cs) := Hr
          clear Hr
          by_cases h3 : 10 < cs.length
          · have Hb := Lib.hid (Hbad.out 2 (by unfold ruleE; rw [if_pos h3]) (by decide))
            have hz3 : 10 < (cs.length : Int) := by omega
            clear Hbad Hgood hat' h3
            go_wp2
            go_ret
            exact Hb.out _ (bel_alloc hbw _)
          · have hz3 : ¬ 10 < (cs.length : Int) := by omega
            by_cases h4 : vd < 0 ∨ 4 < vd
            · have Hb := Lib.hid (Hbad.out 3 (by unfold ruleE; rw [if_neg h3, if_pos h4]) (by decide))
              clear Hbad Hgood hat' h3
              rcases h4 with h4 | h4
              · go_wp2
                go_ret
                exact Hb.out _ (bel_alloc hbw _)
              · have h40 : ¬ vd < 0 := by omega
                go_wp2
                go_ret
                exact Hb.out _ (bel_alloc hbw _)
            · have g3 : ¬ vd < 0 := by omega
              have g4 : ¬ 4 < vd := by omega
              have Hre := Lib.hid (show ruleE ⟨cs, vd⟩ = condsGo cs by unfold ruleE; rw [if_neg h3, if_neg h4])
              clear h3 h4
              go_wp2_with fail
              go_loopw [42] (fun i wi => ∃ j : Nat, j ≤ cs.length ∧ i = .int .i64 j ∧ condsGo cs = condsGo (cs.drop j) ∧ Below w.heap.size w wi ∧ Below wr.heap.size wr wi) (fun i _ => cs.length - (intOf i).toNat)
              case atStart => exact ⟨0, by omega, rfl, rfl, bel_alloc hbw _, bel_alloc (Below.refl _ _) _⟩
              case round =>
                obtain ⟨j, hj, rfl, hgo, hbi, hbi'⟩ := hrel
                have Hgi := Lib.hid hgo
                have hszi := hbi.size
                clear hgo
                by_cases hlj : j < cs.length
                · obtain ⟨b', o', rfl, hDb', hb'⟩ := hat' (by omega)
                  obtain ⟨c0, c1, c2⟩ := RdConds.cells (RdConds.below Hr'.out hbi') hlj
                  have Hd := Lib.hid (condsGo_drop cs j hlj)
                  go_wp2_with (go_at_call 40; refine (cond_any cs[j] _).mono ?_; rintro e w1 ⟨rfl, hb1⟩)
                  · rename_i ht
                    have ht' := bne_iff_ne.1 ht
                    go_ret
                    exact Hbad.out _ (by rw [Hre.out, Hgi.out, Hd.out, if_neg ht']) ht' _ (bel_alloc_call hbi hb1)
                  · rename_i ht
                    have ht' := bne_eq_false_iff_eq.1 ht
                    go_roundw
                    case rel => exact ⟨j + 1, by omega, by go_num, by rw [Hgi.out, Hd.out, if_pos ht'], bel_alloc_call hbi hb1, bel_alloc_call hbi' hb1⟩
                    case measure => simp [intOf]; omega
                · obtain rfl : j = cs.length := by omega
                  have Hg := Lib.hid (Hgood.out (by rw [Hre.out, Hgi.out, List.drop_length]; rfl))
                  go_wp2
                  go_roundw
                  case rel => exact ⟨k + 1, by omega, by go_num, Hg.out, hbi⟩
                  case measure => simp [intOf]; omega
        · obtain rfl : k = rs.length := by omega
          go_wp2
          go_ret
          exact ⟨ret_int (by rw [He.out, Hgo.out, List.drop_length]; rfl), hbw⟩
end Go.Proofs.YtioeliocdbckbaaDoor
namespace Go.Proofs.YtioeliocdbckbaaDoor
open Go.RowKit

/-- chapter 6's Cuts, errors too. -/
def cutsE (l : List TPol) (f : Int) : List Int × Int := if polsE l ≠ 0 then ([], polsE l) else if f < 0 ∨ 5 ≤ f then ([], 5) else (cutsOf l f, 0)

set_option maxRecDepth 100000 in
set_option maxHeartbeats 4000000 in
theorem cutsE_any (v : Value) (l : List TPol) (f : Int) (D : Nat → Prop) (w : World) (h : RdPols w D v l) (hn : polsE l = 0 → 0 ≤ f → f < 5 → (cutVals l f).length * 8 ≤ 140737488355328) :
    Calls Tryd.prog 7 #[v, .int .i64 f] w fun e w' => ∃ v', e = .returned (.tuple #[v', .int .i64 (cutsE l f).2]) ∧ OwnSl w' w.heap.size 3 1 intR v' (cutsE l f).1 ∧ Below w.heap.size w w' := by
  have H := Lib.hid h
  obtain ⟨a, c, rfl, hlc, hcm, hat⟩ := Sl.form h
  have Hn := Lib.hid hn
  clear h hn
  go_enter Tryd.func7, Tryd.ntmps7
  go_wp2_with fail
  go_loopw [11] (fun kv wr => ∃ k : Nat, kv = .int .i64 k ∧ k ≤ l.length ∧ polsE (l.drop k) = polsE l ∧ Below w.heap.size w wr) (fun kv _ => l.length - (intOf kv).toNat)
  case atStart => exact ⟨0, rfl, Nat.zero_le _, rfl, Below.refl _ _⟩
  case round =>
    obtain ⟨k, rfl, hk, hdr, hb⟩ := hrel
    have Hdr := Lib.hid hdr
    have Hb := Lib.hid hb
    have hsz := hb.size
    clear hdr hb
    by_cases hlt : k < l.length
    · obtain ⟨b, o, rfl, hDb, hblt⟩ := hat (by omega)
      obtain ⟨ca, cc, hc0w, hc1w, hrd, hcl, hcmx, hcat⟩ := RdPols.cells H.out hlt
      have Hs := Lib.hid (polsE_drop l k hlt)
      obtain ⟨p, hp⟩ : ∃ p, l[k] = p := ⟨_, rfl⟩
      rw [hp] at hc0w hc1w hrd hcl hcat Hs
      have Hrd := Lib.hid hrd
      have hc0 := (Hb.out.cell (p := ⟨b, o + k * 2, none⟩) hblt).trans hc0w
      have hc1 := (Hb.out.cell (p := ⟨b, o + k * 2 + 1, none⟩) hblt).trans hc1w
      clear hrd hp hc0w hc1w
      go_wp2_with fail
      refine (polcheck_any _ p D _ (RdRules.below Hrd.out (bel_alloc Hb.out _))).mono ?_
      rintro e w1 ⟨rfl, hb1⟩
      have Hb1 := Lib.hid (bel_alloc_call Hb.out hb1)
      clear hb1 hc0 hc1
      by_cases h0 : polE p = 0
      · have H0 := Lib.hid h0
        rw [h0]
        clear h0
        go_wp2
        go_roundw
        case rel => exact ⟨k + 1, by go_num, by omega, by have := Hs.out; rw [if_pos H0.out, Hdr.out] at this; exact this.symm, Hb1.out⟩
        case measure => simp [intOf]; omega
      · have hb0 : (polE p != 0) = true := bne_iff_ne.2 h0
        have HE : Hid (cutsE l f = ([], polE p)) := by
          have e : polsE l = polE p := by have := Hs.out; rw [if_neg h0, Hdr.out] at this; exact this
          show cutsE l f = _
          unfold cutsE
          rw [e, if_pos h0]
        clear h0
        go_wp2
        go_ret2
        rw [HE.out]
        exact ⟨_, rfl, OwnSl.nil, Hb1.out⟩
    · obtain rfl : k = l.length := by omega
      have h0 : polsE l = 0 := by have := Hdr.out; rw [List.drop_length] at this; exact this.symm
      have H0 := Lib.hid h0
      clear h0
      by_cases hf : f < 0 ∨ 5 ≤ f
      · have HE : Hid (cutsE l f = ([], 5)) := by
          show cutsE l f = _
          unfold cutsE
          rw [if_neg (by rw [H0.out]; simp), if_pos hf]
        by_cases hf0 : f < 0
        · have hd : decide (f < 0) = true := decide_eq_true hf0
          clear hf
          go_wp2
          go_ret2
          rw [HE.out]
          exact ⟨_, rfl, OwnSl.nil, Hb.out⟩
        · have hd : decide (f < 0) = false := decide_eq_false hf0
          have hd2 : decide (5 ≤ f) = true := decide_eq_true (by omega)
          clear hf
          go_wp2
          go_ret2
          rw [HE.out]
          exact ⟨_, rfl, OwnSl.nil, Hb.out⟩
      · have HE : Hid (cutsE l f = (cutsOf l f, 0)) := by
          show cutsE l f = _
          unfold cutsE
          rw [if_neg (by rw [H0.out]; simp), if_neg hf]
        have hd : decide (f < 0) = false := decide_eq_false (by omega)
        have hd2 : decide (5 ≤ f) = false := decide_eq_false (by omega)
        have Hn2 := Lib.hid (Hn.out H0.out (by omega) (by omega))
        clear hf
        go_wp2_with fail
        refine (cuts_any _ l f D _ (RdPols.below H.out Hb.out) ((polsE_iff l).1 H0.out) Hn2.out).mono ?_
        rintro e w1 ⟨v1, rfl, ho1, hb1⟩
        have Ho1 := Lib.hid ho1
        have Hb1 := Lib.hid (bel_call Hb.out hb1)
        obtain ⟨a1, c1, rfl⟩ := ho1.slice
        clear ho1 hb1
        go_wp2
        go_ret2
        rw [HE.out]
        exact ⟨_, rfl, Ho1.out.base hsz, Hb1.out⟩
end Go.Proofs.YtioeliocdbckbaaDoor
namespace Go.Proofs.YtioeliocdbckbaaDoor
open Go.RowKit

theorem infoCall : (Tryd.prog.info? 24).map (fun i => (i.zero, i.size, i.bytes)) = some (some (.agg #[.int .i64 0, .int .i64 0, .int .i64 0, .int .i64 0, .int .i64 0]), 5, 40) := by kernel_rfl
def callR (x : TCall) (cs : List Value) : Prop := cs = [.int .i64 x.a0, .int .i64 x.a1, .int .i64 x.a2, .int .i64 x.a3, .int .i64 x.a4]
def RdCalls (w : World) (D : Nat → Prop) (v : Value) (l : List TCall) : Prop := Sl w D 5 callR v l
theorem RdCalls.below {w w' : World} {D : Nat → Prop} {v : Value} {l : List TCall} (h : RdCalls w D v l) (hb : Below w.heap.size w w') : RdCalls w' D v l :=
  Sl.mono h (fun _ h _ => h) (fun b _ hlt => hb.block b hlt) hb.size (fun _ _ _ h => h)
theorem RdCalls.cells {w : World} {D : Nat → Prop} {b o n c : Nat} {s : Option Nat} {l : List TCall} (h : RdCalls w D (.slice (some ⟨b, o, s⟩) n c) l) {i : Nat} (hi : i < l.length) :
    w.cell? ⟨b, o + i * 5, none⟩ = some (.int .i64 l[i].a0) ∧ w.cell? ⟨b, o + i * 5 + 1, none⟩ = some (.int .i64 l[i].a1) ∧ w.cell? ⟨b, o + i * 5 + 2, none⟩ = some (.int .i64 l[i].a2) ∧ w.cell? ⟨b, o + i * 5 + 3, none⟩ = some (.int .i64 l[i].a3) ∧ w.cell? ⟨b, o + i * 5 + 4, none⟩ = some (.int .i64 l[i].a4) := by
  obtain ⟨cs, hcs, hr, hcell⟩ := Sl.get h hi
  unfold callR at hr
  subst hr
  exact ⟨hcell 0 _ rfl, hcell 1 _ rfl, hcell 2 _ rfl, hcell 3 _ rfl, hcell 4 _ rfl⟩
theorem callR_one (y : TCall) (cs : List Value) (h : callR y cs) : ∀ c ∈ cs, c.oneCell' = true := by
  unfold callR at h; subst h; intro c hc; simp at hc; rcases hc with rfl | rfl | rfl | rfl | rfl <;> rfl
@[reducible] def callArr (x : TCall) : Array Value := #[.int .i64 x.a0, .int .i64 x.a1, .int .i64 x.a2, .int .i64 x.a3, .int .i64 x.a4]
theorem callArr_set (x : TCall) (k : Nat) (h : k < 5) (n : Int) : (callArr x).setIfInBounds k (.int .i64 n) = callArr (x.set k n) := by
  match k, h with
  | 0, _ => rfl
  | 1, _ => rfl
  | 2, _ => rfl
  | 3, _ => rfl
  | 4, _ => rfl
theorem callArr_get (x : TCall) (k : Nat) (h : k < 5) : (callArr x)[k]? = some (.int .i64 (x.get k)) := by
  match k, h with
  | 0, _ => rfl
  | 1, _ => rfl
  | 2, _ => rfl
  | 3, _ => rfl
  | 4, _ => rfl
theorem set_set (x : TCall) (k : Nat) (m n : Int) : (x.set k m).set k n = x.set k n := by
  match k with
  | 0 => rfl
  | 1 => rfl
  | 2 => rfl
  | 3 => rfl
  | k + 4 => rfl
theorem one_call {W : World} {x : TCall} {T : TypeId} {b : Nat} (hb : b = W.heap.size) : RdCalls (W.alloc (.cells (callArr x) T)) (fun _ => True) (.slice (some ⟨b, 0, none⟩) 1 1) [x] :=
  sl_block (R := callR) (sz := 5) (xs := [x]) (rows := [[.int .i64 x.a0, .int .i64 x.a1, .int .i64 x.a2, .int .i64 x.a3, .int .i64 x.a4]]) (RowsOf.cons RowsOf.nil rfl rfl) (blk_at hb) rfl trivial (by simp [maxLen])
theorem pointsE_err2 {l : List TPol} (h0 : polsE l = 0) {k : Nat} (hk : k < 5) (h : 1000 < sizes l (k + 1)) : pointsE l = ([], 2) := by
  unfold pointsE
  rw [if_neg (by rw [h0]; simp), if_pos (Nat.lt_of_lt_of_le h (sizes_le l (by omega)))]

set_option maxRecDepth 100000 in
set_option maxHeartbeats 8000000 in
theorem points_any (v : Value) (l : List TPol) (D : Nat → Prop) (w : World) (h : RdPols w D v l) (hn : polsE l = 0 → ∀ f : Int, 0 ≤ f → f < 5 → (cutVals l f).length * 8 ≤ 140737488355328) :
    Calls Tryd.prog 8 #[v] w fun e w' => ∃ v', e = .returned (.tuple #[v', .int .i64 (pointsE l).2]) ∧ OwnSl w' w.heap.size 24 5 callR v' (pointsE l).1 ∧ Below w.heap.size w w' := by
  have H := Lib.hid h
  have Hn := Lib.hid hn
  obtain ⟨i0, hi, hz0, hz1, hz2⟩ := info_parts infoCall
  have Hi := Lib.hid hi
  clear h hn hi
  go_enter Tryd.func8, Tryd.ntmps8
  go_wp2_with fail
  go_loopw [4, 15] (fun ov kv wr => ∃ (k : Nat) (vs : Value), kv = .int .i64 k ∧ vs = ov ∧ k ≤ 5 ∧ (k ≠ 0 → polsE l = 0) ∧ sizes l k ≤ 1000 ∧ OwnSl wr w.heap.size 24 5 callR vs (stage l k) ∧ Below w.heap.size w wr) (fun _ kv _ => 5 - (intOf kv).toNat)
  case atStart =>
    refine ⟨0, _, rfl, rfl, by omega, fun h => absurd rfl h, by simp [sizes], ?_, (Below.refl _ _).alloc (Nat.le_refl _) _⟩
    exact ⟨[[.int .i64 0, .int .i64 0, .int .i64 0, .int .i64 0, .int .i64 0]], RowsOf.cons RowsOf.nil rfl rfl, by simp [stage], .inr ⟨w.heap.size, 1, _, rfl, Nat.le_refl _, heap_last _ _, by simp [stage], by simp [maxLen], by simp, by simp [stage]⟩⟩
  case round =>
    obtain ⟨k, vs, rfl, rfl, hk, hp0, hs, hown, hb⟩ := hrel
    have Hp0 := Lib.hid hp0
    have Hown := Lib.hid hown
    have Hb := Lib.hid hb
    have hsz := hb.size
    have Hs := Lib.hid hs
    obtain ⟨a, c, rfl⟩ := hown.slice
    clear hp0 hown hb hs
    by_cases hlt : k < 5
    · go_wp2_with fail
      refine (cutsE_any v l k D _ (H.out.belowR Hb.out (fun _ _ _ ⟨u, h1, h2⟩ => ⟨u, h1, h2.below Hb.out⟩)) (fun h0 h1 h2 => Hn.out h0 _ h1 h2)).mono ?_
      rintro e w1 ⟨v1, rfl, ho1, hb1⟩
      have Hb1 := Lib.hid (bel_call Hb.out hb1)
      have Hbr := Lib.hid hb1
      have Ho1 := Lib.hid ho1
      have hsz1 := hb1.size
      obtain ⟨a1, c1, rfl⟩ := ho1.slice
      clear ho1 hb1
      by_cases h0 : polsE l = 0
      · have H0 := Lib.hid h0
        have HE : Hid (cutsE l k = (cutsOf l k, 0)) := by
          show cutsE l k = _
          unfold cutsE
          rw [if_neg (by rw [h0]; simp), if_neg (by omega)]
        have Ho2 : Hid (RdInts w1 (fun _ => True) (.slice a1 (cutsOf l k).length c1) (cutsOf l k)) := by
          have := Ho1.out.sl (D := fun _ => True) (fun _ _ => trivial)
          rw [HE.out] at this
          exact this
        have hlen : (cutsOf l k).length ≤ 17592186044416 := by
          have h1 := Hn.out h0 k (by omega) (by omega)
          have h2 : (cutsOf l k).length ≤ (cutVals l k).length := by
            unfold cutsOf
            refine Nat.le_trans (List.length_filter_le _ _) ?_
            have h3 : ∀ m : List Int, (setOf m).length ≤ m.length := fun m => by
              have h4 : ∀ (x : Int) (m : List Int), (insU x m).length ≤ m.length + 1 := fun x m => by
                induction m with
                | nil => simp [insU]
                | cons y m ih => unfold insU; split <;> (try split) <;> simp <;> omega
              induction m with
              | nil => simp [setOf]
              | cons x m ih => have := h4 x (setOf m); simp [setOf]; omega
            exact h3 _
          omega
        have Hss : Hid (sizes l (k + 1) = sizes l k * (cutsOf l k).length) := rfl
        have Hst : Hid ((stage l k).length = sizes l k) := stage_length l k
        rw [HE.out]
        obtain ⟨C, hC⟩ : ∃ C, C = cutsOf l k := ⟨_, rfl⟩
        rw [← hC] at Ho2 hlen Hss ⊢
        have HC := Lib.hid hC
        have hmul : (((stage l k).length : Int) * (C.length : Int)) = (((stage l k).length * C.length : Nat) : Int) := by rw [Int.natCast_mul]
        have hmb : (stage l k).length * C.length ≤ 1000 * 17592186044416 := Nat.mul_le_mul (by rw [Hst.out]; exact Hs.out) hlen
        have hwr : IntKind.i64.wrap (((stage l k).length : Int) * (C.length : Int)) = ((stage l k).length : Int) * (C.length : Int) := by rw [hmul, IntKind.wrap_i64]; omega
        clear h0 hC hmul
        by_cases hbig : 1000 < sizes l (k + 1)
        · have hd : decide ((1000 : Int) < ((stage l k).length : Int) * (C.length : Int)) = true := decide_eq_true (by rw [← Int.natCast_mul, Hst.out, ← Hss.out]; omega)
          have HP : Hid (pointsE l = ([], 2)) := pointsE_err2 H0.out hlt hbig
          have Hhb := Lib.hid hbig
          clear hbig hmb
          go_wp2_with fail
          go_ret2
          rw [HP.out]
          exact ⟨_, rfl, OwnSl.nil, Hb1.out⟩
        · have hd : decide ((1000 : Int) < ((stage l k).length : Int) * (C.length : Int)) = false := decide_eq_false (by rw [← Int.natCast_mul, Hst.out, ← Hss.out]; omega)
          have Hhb := Lib.hid hbig
          clear hbig hmb
          have Hsl : Hid (RdCalls w1 (fun _ => True) (.slice a (stage l k).length c) (stage l k)) := (Hown.out.sl (fun _ _ => trivial)).belowR Hbr.out (fun _ _ _ h => h)
          obtain ⟨S, hS⟩ : ∃ S, S = stage l k := ⟨_, rfl⟩
          have Hnext : Hid (stage l (k + 1) = S.flatMap fun x => C.map fun n => x.set k n) := by show _ = _; rw [hS, HC.out]; rfl
          have hSl : S.length ≤ 1000 := by rw [hS, Hst.out]; exact Hs.out
          have hsl1 : S.length * C.length ≤ 1000 := by have := Hhb.out; rw [Hss.out, ← Hst.out, ← hS] at this; omega
          rw [← hS] at Hsl hd hwr ⊢
          have Hpl := Lib.hid (show ∀ j, j ≤ S.length → ((S.take j).flatMap fun x => C.map fun n => x.set k n).length = j * C.length from fun j hj => by
            rw [List.length_flatMap]
            have : ((S.take j).map fun x => (C.map fun n => x.set k n).length) = List.replicate j C.length := by
              apply List.ext_getElem
              · simp; omega
              · intro i h1 h2; simp
            rw [this, List.sum_replicate_nat])
          clear hS
          go_wp2_with fail
          clear hd hwr
          have hatS := fun h0 => Sl.at_ Hsl.out h0
          have hatC := fun h0 => Sl.at_ Ho2.out h0
          go_loopw [8, 35] (fun ov jv wr => ∃ (j : Nat) (vn : Value), jv = .int .i64 j ∧ vn = ov ∧ j ≤ S.length ∧ OwnSl wr w1.heap.size 24 5 callR vn ((S.take j).flatMap fun x => C.map fun n => x.set k n) ∧ Below w1.heap.size w1 wr) (fun _ jv _ => S.length - (intOf jv).toNat)
          case atStart => exact ⟨0, _, rfl, rfl, Nat.zero_le _, OwnSl.nil, Below.refl _ _⟩
          case round =>
            obtain ⟨j, vn, rfl, rfl, hj, hownn, hbn⟩ := hrel
            have Hownn := Lib.hid hownn
            have Hbn := Lib.hid hbn
            have hszn := hbn.size
            clear hownn hbn
            by_cases hjl : j < S.length
            · obtain ⟨b, o, hab, _, hblt⟩ := hatS (by omega)
              subst hab
              obtain ⟨h0c, h1c, h2c, h3c, h4c⟩ := RdCalls.cells (Hsl.out.below Hbn.out) hjl
              have Hs1 := Lib.hid (flatMap_take (fun x : TCall => C.map fun n => x.set k n) S j hjl)
              obtain ⟨x, hx⟩ : ∃ x, S[j] = x := ⟨_, rfl⟩
              rw [hx] at h0c h1c h2c h3c h4c Hs1
              have Hpj := Lib.hid (Hpl.out j (by omega))
              obtain ⟨L, hL⟩ : ∃ L, L = (S.take j).flatMap fun x => C.map fun n => x.set k n := ⟨_, rfl⟩
              rw [← hL] at Hownn Hs1 Hpj
              have hjc : j * C.length + C.length ≤ 1000 := by
                have : (j + 1) * C.length ≤ S.length * C.length := Nat.mul_le_mul_right _ hjl
                rw [Nat.add_mul] at this; omega
              obtain ⟨wo, rfl⟩ : ∃ wo : World, wo = wr := ⟨_, rfl⟩
              have hob : vn.ownBlock ≠ some wo.heap.size := fun e => by obtain ⟨rows, _, hrw⟩ := Hownn.out; have := (hrw.lt _ e).2; omega
              have Hob := Lib.hid hob
              clear hx hL hob
              go_wp2_with fail
              clear h0c h1c h2c h3c h4c
              go_loopw [8, 41] (fun ov iv wr => ∃ (i : Nat) (vi : Value) (y : TCall), iv = .int .i64 i ∧ vi = ov ∧ i ≤ C.length ∧ OwnSl wr w1.heap.size 24 5 callR vi (L ++ (C.take i).map fun n => x.set k n) ∧ Below w1.heap.size w1 wr ∧ wr.heap[wo.heap.size]? = some (.cells (callArr y) 24) ∧ (∀ n, y.set k n = x.set k n) ∧ vi.ownBlock ≠ some wo.heap.size ∧ wo.heap.size < wr.heap.size) (fun _ iv _ => C.length - (intOf iv).toNat)
              case atStart => exact ⟨0, vn, x, rfl, rfl, by omega, by simpa using Hownn.out.below (bel_alloc (Below.refl _ _) _), Hbn.out.trans ((bel_alloc (Below.refl _ wo) _).mono hszn), heap_last _ _, fun _ => rfl, Hob.out, by simp⟩
              case round =>
                obtain ⟨i, vi, y, rfl, rfl, hi, howni, hbi, hbox, hys, hnob, hszi⟩ := hrel
                have Howni := Lib.hid howni
                have Hbi := Lib.hid hbi
                have Hbox := Lib.hid hbox
                have Hys := Lib.hid hys
                have Hnob := Lib.hid hnob
                have hszj := hbi.size
                clear howni hbi hbox hys hnob
                by_cases hil : i < C.length
                · obtain ⟨b2, o2, hab2, _, hblt2⟩ := hatC (by omega)
                  subst hab2
                  have hc0 := RdInts.cell (Ho2.out.belowR Hbi.out (fun _ _ _ h => h)) hil
                  have Hta := Lib.hid (List.take_succ_eq_append_getElem hil)
                  obtain ⟨n, hn⟩ : ∃ n, C[i] = n := ⟨_, rfl⟩
                  rw [hn] at hc0 Hta
                  obtain ⟨z, hz⟩ : ∃ z, y.set k n = z := ⟨_, rfl⟩
                  have Hz := Lib.hid hz
                  have hbc := cells_of Hbox.out
                  have hbf := not_frozen Hbox.out
                  have hgetk : (callArr y)[k]? = some (.int .i64 (y.get k)) := callArr_get y k hlt
                  have Hset : Hid ((wr.setCell ⟨wo.heap.size, k, none⟩ (.int .i64 n)).heap[wo.heap.size]? = some (.cells (callArr z) 24)) := by
                    have := set_at (o := k) (v := .int .i64 n) Hbox.out
                    rwa [callArr_set y k hlt, hz] at this
                  have hsc := cells_of Hset.out
                  clear hn hz
                  have Hown3 := Lib.hid ((Howni.out.set (a := ⟨wo.heap.size, k, none⟩) (x := .int .i64 n) Hnob.out).below (bel_alloc (Below.refl _ _) (.cells (callArr z) 24)))
                  have Hbi3 := Lib.hid ((set_below (a := ⟨wo.heap.size, k, none⟩) (v := .int .i64 n) Hbi.out hszn).alloc (by rw [set_size]; exact hszj) (.cells (callArr z) 24))
                  have Hbox3 := Lib.hid (blk_old (o := (.cells (callArr z) 24)) Hset.out)
                  have Hll : Hid ((L ++ (C.take i).map fun n => x.set k n).length + 1 ≤ 1000) := by
                    show _ ≤ _
                    rw [List.length_append, List.length_map, List.length_take, Hpj.out]; omega
                  go_wp2_with (at_builtin; refine wpList_app2 rfl _ _ 29 rfl w1.heap.size 24 i0 _ 5 40 Tryd.underlying29 Hi.out hz0 hz1 hz2 rfl (by decide) _ _ rfl Hown3.out _ _ rfl (one_call (x := z) (by simp)) (fun y _ cs h => callR_one y cs h) (by have := Hll.out; show _ + 1 ≤ maxLen; unfold maxLen; omega) (by have := Hll.out; show (_ + 1) * 40 ≤ _; omega) (by simp; omega) ?_; intro v' w3 hown' hg hat'; have Hown' := Lib.hid hown'; have Hb3 := Lib.hid (Hown3.out.grown Hbi3.out hg (by simp; omega) (Nat.le_refl _)); have Hx3 := Lib.hid ((hg.block wo.heap.size (by simp; omega) (fun e => Hnob.out e.symm)).trans Hbox3.out); have Hn3 : Hid (v'.ownBlock ≠ some wo.heap.size) := (fun e => hat'.elim (fun e' => Hnob.out (e'.symm.trans e)) (fun e' => by have := e'.symm.trans e; simp at this; omega)); have hs3 : wo.heap.size < w3.heap.size := (by have := hg.size; simp at this; omega); clear hown' hg hat')
                  go_roundw
                  case rel => exact ⟨i + 1, v', z, by go_num, rfl, by omega, by rw [Hta.out, List.map_append, ← List.append_assoc]; have := Hown'.out; rw [← Hz.out, Hys.out] at this; exact this, Hb3.out, Hx3.out, fun m => by rw [← Hz.out, set_set]; exact Hys.out m, Hn3.out, hs3⟩
                  case measure => simp [intOf]; omega
                · obtain rfl : i = C.length := by omega
                  have Hr : Hid (OwnSl wr w1.heap.size 24 5 callR vi ((S.take (j + 1)).flatMap fun x => C.map fun n => x.set k n)) := by
                    have := Howni.out
                    rw [List.take_length] at this
                    show OwnSl _ _ _ _ _ _ _
                    rw [Hs1.out]; exact this
                  go_wp2
                  go_roundw
                  case rel => exact ⟨j + 1, vi, by go_num, rfl, by omega, Hr.out, Hbi.out⟩
                  case measure => simp [intOf]; omega
            · obtain rfl : j = S.length := by omega
              go_wp2
              go_roundw
              case rel => exact ⟨k + 1, vn, by go_num, rfl, by omega, fun _ => H0.out, by have := Hhb.out; omega, by have := Hownn.out; rw [List.take_length] at this; rw [Hnext.out]; exact this.base (by omega), Hb1.out.trans (Hbn.out.mono (by omega))⟩
              case measure => simp [intOf]; omega
      · have hk0 : k = 0 := by
          rcases Nat.eq_zero_or_pos k with h | h
          · exact h
          · exact absurd (Hp0.out (by omega)) h0
        have HE : Hid (cutsE l k = ([], polsE l)) := by show cutsE l k = _; unfold cutsE; rw [if_pos h0]
        have HP : Hid (pointsE l = ([], polsE l)) := by show pointsE l = _; unfold pointsE; rw [if_pos h0]
        have hb0 : (polsE l != 0) = true := bne_iff_ne.2 h0
        rw [HE.out]
        clear h0
        go_wp2
        go_ret2
        rw [HP.out]
        exact ⟨_, rfl, OwnSl.nil, Hb1.out⟩
    · obtain rfl : k = 5 := by omega
      have HP : Hid (pointsE l = (stage l 5, 0)) := by
        show pointsE l = _
        unfold pointsE
        rw [if_neg (by rw [Hp0.out (by omega)]; simp), if_neg (by have := Hs.out; omega)]
      go_wp2
      go_ret2
      rw [HP.out]
      exact ⟨_, rfl, Hown.out, Hb.out⟩
end Go.Proofs.YtioeliocdbckbaaDoor
namespace Go.Proofs.YtioeliocdbckbaaDoor
open Go.RowKit

theorem infoIntE : (Tryd.prog.info? 3).map (·.size) = some 1 := by kernel_rfl
theorem part5 (x : TCall) (k : Nat) (h : k < 5) (W : World) : (part 3 #[.int .i64 x.a0, .int .i64 x.a1, .int .i64 x.a2, .int .i64 x.a3, .int .i64 x.a4] (k * Tryd.prog.cellsOf 3)).run Tryd.prog W = .ok (.int .i64 (x.get k)) W := by
  rcases (by omega : k = 0 ∨ k = 1 ∨ k = 2 ∨ k = 3 ∨ k = 4) with rfl | rfl | rfl | rfl | rfl <;> (change _ = _; kernel_rfl)
theorem eqItems5 (d : Nat) (x y : TCall) (W : World) : ∀ l : List Nat, (∀ k ∈ l, k < 5) → (Op.eqItems (d + 1) 3 (Tryd.prog.cellsOf 3) #[.int .i64 x.a0, .int .i64 x.a1, .int .i64 x.a2, .int .i64 x.a3, .int .i64 x.a4] #[.int .i64 y.a0, .int .i64 y.a1, .int .i64 y.a2, .int .i64 y.a3, .int .i64 y.a4] l).run Tryd.prog W = .ok (l.all fun k : Nat => x.get k == y.get k) W
  | [], _ => rfl
  | k :: l, h => by
    have h1 := part5 x k (h k (List.mem_cons_self ..)) W
    have h2 := part5 y k (h k (List.mem_cons_self ..)) W
    have h3 := run_equalIn_int (P := Tryd.prog) W d 3 .i64 .i64 (x.get k) (y.get k) Tryd.underlying3
    have ih := eqItems5 d x y W l (fun j hj => h j (List.mem_cons_of_mem _ hj))
    simp only [Op.eqItems, Sem.run_bind, h1, h2, h3, Result.andThen_ok, List.all_cons]
    cases hb : x.get k == y.get k with
    | true => simpa using ih
    | false => simp
theorem calls_all (x y : TCall) : ((List.range 5).all fun k : Nat => x.get k == y.get k) = decide (x = y) := by
  obtain ⟨x0, x1, x2, x3, x4⟩ := x
  obtain ⟨y0, y1, y2, y3, y4⟩ := y
  rw [Bool.eq_iff_iff, decide_eq_true_iff]
  simp only [List.all_eq_true, List.mem_range, beq_iff_eq, TCall.mk.injEq]
  constructor
  · intro h
    exact ⟨h 0 (by omega), h 1 (by omega), h 2 (by omega), h 3 (by omega), h 4 (by omega)⟩
  · rintro ⟨rfl, rfl, rfl, rfl, rfl⟩ k _
    rfl
theorem calleq_run (x y : TCall) (W : World) : Sem.run Tryd.prog (Op.equalIn 10000 24 (.agg #[.int .i64 x.a0, .int .i64 x.a1, .int .i64 x.a2, .int .i64 x.a3, .int .i64 x.a4]) (.agg #[.int .i64 y.a0, .int .i64 y.a1, .int .i64 y.a2, .int .i64 y.a3, .int .i64 y.a4])) W = .ok (decide (x = y)) W := by
  obtain ⟨i, hi, _⟩ := Option.map_eq_some_iff.1 infoIntE
  rw [run_equalIn_array (P := Tryd.prog) W 9999 _ _ Tryd.underlying24 hi, eqItems5 9998 x y W _ (fun k hk => by simpa using hk), calls_all]
theorem calleq_self (x : TCall) (W : World) : Sem.run Tryd.prog (Op.equalIn 10000 24 (.agg #[.int .i64 x.a0, .int .i64 x.a1, .int .i64 x.a2, .int .i64 x.a3, .int .i64 x.a4]) (.agg #[.int .i64 x.a0, .int .i64 x.a1, .int .i64 x.a2, .int .i64 x.a3, .int .i64 x.a4])) W = .ok true W := by
  rw [calleq_run, decide_eq_true rfl]
end Go.Proofs.YtioeliocdbckbaaDoor
namespace Go.Proofs.YtioeliocdbckbaaDoor

/-- one call ahead of another one: the first field in which they differ says. -/
def callLt (x y : TCall) : Prop := x.a0 < y.a0 ∨ x.a0 = y.a0 ∧ (x.a1 < y.a1 ∨ x.a1 = y.a1 ∧ (x.a2 < y.a2 ∨ x.a2 = y.a2 ∧ (x.a3 < y.a3 ∨ x.a3 = y.a3 ∧ x.a4 < y.a4)))
/-- fields from k on are nought. -/
def noneFrom (k : Nat) (x : TCall) : Prop := (k ≤ 0 → x.a0 = 0) ∧ (k ≤ 1 → x.a1 = 0) ∧ (k ≤ 2 → x.a2 = 0) ∧ (k ≤ 3 → x.a3 = 0) ∧ (k ≤ 4 → x.a4 = 0)
theorem none_set {k : Nat} {x : TCall} {n : Int} (h : noneFrom k x) (hk : k < 5) : noneFrom (k + 1) (x.set k n) := by
  obtain ⟨h0, h1, h2, h3, h4⟩ := h
  have hk : k = 0 ∨ k = 1 ∨ k = 2 ∨ k = 3 ∨ k = 4 := by omega
  rcases hk with rfl | rfl | rfl | rfl | rfl <;> (unfold noneFrom TCall.set; simp_all)
theorem lt_same {k : Nat} {x : TCall} {n m : Int} (h : noneFrom k x) (hk : k < 5) (hn : n < m) : callLt (x.set k n) (x.set k m) := by
  have hk : k = 0 ∨ k = 1 ∨ k = 2 ∨ k = 3 ∨ k = 4 := by omega
  rcases hk with rfl | rfl | rfl | rfl | rfl <;> (unfold callLt TCall.set; simp [hn])
theorem lt_less {k : Nat} {x y : TCall} {n m : Int} (hx : noneFrom k x) (hy : noneFrom k y) (hk : k < 5) (h : callLt x y) : callLt (x.set k n) (y.set k m) := by
  obtain ⟨x0, x1, x2, x3, x4⟩ := hx
  obtain ⟨y0, y1, y2, y3, y4⟩ := hy
  have hk : k = 0 ∨ k = 1 ∨ k = 2 ∨ k = 3 ∨ k = 4 := by omega
  rcases hk with rfl | rfl | rfl | rfl | rfl <;> (unfold callLt at *; unfold TCall.set; simp at x0 x1 x2 x3 x4 y0 y1 y2 y3 y4; simp only []; omega)
theorem stage_rise (l : List TPol) : ∀ k, k ≤ 5 → (∀ x ∈ stage l k, noneFrom k x) ∧ (stage l k).Pairwise callLt
  | 0, _ => by
    refine ⟨fun x hx => ?_, ?_⟩
    · have : x = ⟨0, 0, 0, 0, 0⟩ := by simpa [stage] using hx
      subst this
      simp [noneFrom]
    · simp [stage]
  | k + 1, hk => by
    obtain ⟨i1, i2⟩ := stage_rise l k (by omega)
    refine ⟨fun y hy => ?_, ?_⟩
    · obtain ⟨x, hx, n, _, rfl⟩ := mem_stage.1 hy
      exact none_set (i1 x hx) (by omega)
    · have e : stage l (k + 1) = (stage l k).flatMap fun x => (cutsOf l k).map fun n => x.set k n := rfl
      rw [e, List.pairwise_flatMap]
      refine ⟨fun x hx => ?_, ?_⟩
      · rw [List.pairwise_map]
        exact (rising_cuts l k).imp fun h => lt_same (i1 x hx) (by omega) h
      · refine i2.imp_of_mem fun hx hy h a ha b hb => ?_
        obtain ⟨n, _, rfl⟩ := List.mem_map.1 ha
        obtain ⟨m, _, rfl⟩ := List.mem_map.1 hb
        exact lt_less (i1 _ hx) (i1 _ hy) (by omega) h
theorem points_rise (l : List TPol) {i : Nat} (h : i + 1 < (stage l 5).length) : callLt ((stage l 5)[i]'(by omega)) (stage l 5)[i + 1] := List.pairwise_iff_getElem.1 (stage_rise l 5 (by omega)).2 i (i + 1) (by omega) h (by omega)
theorem points_fewer {l m : List TPol} (h : ∀ f n, n ∈ cutVals l f → n ∈ cutVals m f) : (stage l 5).length ≤ (stage m 5).length := by
  rw [stage_length, stage_length]; exact sizes_sub h 5
theorem vals_take (l : List TPol) (k : Nat) (f n : Int) (h : n ∈ cutVals (l.take k) f) : n ∈ cutVals l f := by
  rw [mem_vals] at h ⊢
  rcases h with h | ⟨p, hp, h⟩
  · exact .inl h
  · exact .inr ⟨p, List.mem_of_mem_take hp, h⟩
end Go.Proofs.YtioeliocdbckbaaDoor
namespace Go.Proofs.YtioeliocdbckbaaDoor
open Go.RowKit
attribute [local go_sem] gives givesUpon

theorem take_eq_step5 {xs ys : List TCall} {k : Nat} (hx : k < xs.length) (hy : k < ys.length) (h : xs.take k = ys.take k) (e : xs[k] = ys[k]) : xs.take (k + 1) = ys.take (k + 1) := by
  rw [List.take_succ_eq_append_getElem hx, List.take_succ_eq_append_getElem hy, h, e]
theorem ne_of_get5 {xs ys : List TCall} {k : Nat} (hx : k < xs.length) (hy : k < ys.length) (e : xs[k] ≠ ys[k]) : xs ≠ ys := fun h => e (by subst h; rfl)
set_option maxRecDepth 100000 in
set_option maxHeartbeats 4000000 in
theorem eqcalls_any (v u : Value) (xs ys : List TCall) (w : World) (h : RdCalls w (fun _ => True) v xs) (h' : RdCalls w (fun _ => True) u ys) :
    Calls Tryd.prog 13 #[v, u] w fun e w' => e = .returned (.bool (decide (xs = ys))) ∧ Below w.heap.size w w' := by
  obtain ⟨a, c, rfl, hlc, hcm, hat⟩ := Sl.form h
  obtain ⟨a', c', rfl, hlc', hcm', hat'⟩ := Sl.form h'
  have H := Lib.hid h
  have H' := Lib.hid h'
  clear h h'
  by_cases hl : xs.length = ys.length
  · have b0 : ((xs.length : Int) != (ys.length : Int)) = false := bne_eq_false_iff_eq.2 (by omega)
    have hl' := Lib.hid hl
    have hl1 : xs.length ≤ ys.length := by omega
    have hl2 : ys.length ≤ xs.length := by omega
    clear hl
    go_enter Tryd.func13, Tryd.ntmps13
    go_wp2_with fail
    go_loopw [13] (fun i wr => ∃ k : Nat, k ≤ xs.length ∧ i = .int .i64 k ∧ xs.take k = ys.take k ∧ Below w.heap.size w wr) (fun i _ => xs.length - (intOf i).toNat)
    case atStart => exact ⟨0, by omega, rfl, rfl, Below.refl _ _⟩
    case round =>
      obtain ⟨k, hk, rfl, htk, hbw⟩ := hrel
      have Ht := Lib.hid htk
      have hsz := hbw.size
      clear htk
      by_cases hlt : k < xs.length
      · obtain ⟨b, o, rfl, hDb, hb⟩ := hat (by omega)
        obtain ⟨b', o', rfl, hDb', hb'⟩ := hat' (by omega)
        have hlt' : k < ys.length := by omega
        have hc : ∀ W, Cls w.heap.size wr W → (W.cell? ⟨b, o + k * 5, none⟩ = some (.int .i64 xs[k].a0) ∧ W.cell? ⟨b, o + k * 5 + 1, none⟩ = some (.int .i64 xs[k].a1) ∧ W.cell? ⟨b, o + k * 5 + 2, none⟩ = some (.int .i64 xs[k].a2) ∧ W.cell? ⟨b, o + k * 5 + 3, none⟩ = some (.int .i64 xs[k].a3) ∧ W.cell? ⟨b, o + k * 5 + 4, none⟩ = some (.int .i64 xs[k].a4)) ∧
            (W.cell? ⟨b', o' + k * 5, none⟩ = some (.int .i64 ys[k].a0) ∧ W.cell? ⟨b', o' + k * 5 + 1, none⟩ = some (.int .i64 ys[k].a1) ∧ W.cell? ⟨b', o' + k * 5 + 2, none⟩ = some (.int .i64 ys[k].a2) ∧ W.cell? ⟨b', o' + k * 5 + 3, none⟩ = some (.int .i64 ys[k].a3) ∧ W.cell? ⟨b', o' + k * 5 + 4, none⟩ = some (.int .i64 ys[k].a4)) := fun W hW =>
          ⟨RdCalls.cells (H.out.below (hbw.trans hW.2)) hlt, RdCalls.cells (H'.out.below (hbw.trans hW.2)) hlt'⟩
        have Hc := Lib.hid hc
        have heq := calleq_run xs[k] ys[k]
        clear hc
        go_wp2_with fail
        refine wp_region_exact3 w.heap.size hsz (by kernel_rfl) (by kernel_rfl) ?_
        repeat (refine monoE_step (fun K hK => ?_); apply Exists.intro; refine ⟨fun W hC R hR => ?_, ?_⟩; (have hcell := Hc.out W hC; go_simp; exact hR _ _ (Below.refl _ _) rfl); (go_simp; refine hK _ ?_; clear hK K))
        intro w2 hC2
        clear heq
        by_cases he : xs[k] = ys[k]
        · have Hn := Lib.hid (take_eq_step5 hlt hlt' Ht.out he)
          have d : decide (xs[k] = ys[k]) = true := decide_eq_true he
          clear he
          simp only [d, Bool.not_true]
          go_wp2
          go_roundw
          case rel => exact ⟨k + 1, by omega, by go_num, Hn.out, hbw.trans hC2.2⟩
          case measure => simp [intOf]; omega
        · have Hn := Lib.hid (ne_of_get5 hlt hlt' he)
          have d : decide (xs[k] = ys[k]) = false := decide_eq_false he
          clear he
          simp only [d, Bool.not_false]
          go_wp2
          go_ret
          exact ⟨ret_bool (decide_eq_false Hn.out).symm, hbw.trans hC2.2⟩
      · obtain rfl : k = xs.length := by omega
        have Hn : Hid (xs = ys) := by
          have := Ht.out
          rw [List.take_length, hl'.out, List.take_length] at this
          exact this
        go_wp2
        go_ret
        exact ⟨ret_bool (decide_eq_true Hn.out).symm, hbw⟩
  · have b0 : ((xs.length : Int) != (ys.length : Int)) = true := bne_iff_ne.2 (by omega)
    have hn : decide (xs = ys) = false := decide_eq_false fun e => hl (by rw [e])
    rw [hn]
    clear hn hl
    go_enter Tryd.func13, Tryd.ntmps13
    go_wp2
    go_ret
    exact ⟨rfl, Below.refl _ _⟩
set_option maxRecDepth 100000 in
set_option maxHeartbeats 4000000 in
theorem idxcalls_any (v : Value) (xs : List TCall) (x : TCall) (w : World) (h : RdCalls w (fun _ => True) v xs) :
    Calls Tryd.prog 39 #[v, callV x] w fun e w' => (∃ n : Int, e = .returned (.int .i64 n) ∧ (0 ≤ n ↔ x ∈ xs)) ∧ Below w.heap.size w w' := by
  obtain ⟨a, c, rfl, hlc, hcm, hat⟩ := Sl.form h
  have H := Lib.hid h
  clear h
  have HB := Lib.hid (Bx.one (w := w) (o := .cells #[.int .i64 x.a0, .int .i64 x.a1, .int .i64 x.a2, .int .i64 x.a3, .int .i64 x.a4] 24))
  have HBb := Lib.hid HB.out.bel
  go_enter Tryd.func39, Tryd.ntmps39
  go_wp2_with fail
  go_loopw [8] (fun i wr => ∃ k : Nat, k ≤ xs.length ∧ i = .int .i64 k ∧ (¬ x ∈ xs.take k) ∧ Bx w [.cells #[.int .i64 x.a0, .int .i64 x.a1, .int .i64 x.a2, .int .i64 x.a3, .int .i64 x.a4] 24] wr) (fun i _ => xs.length - (intOf i).toNat)
  case atStart => exact ⟨0, by omega, rfl, by simp, HB.out⟩
  case round =>
    obtain ⟨k, hk, rfl, htk, hbw⟩ := hrel
    have Ht := Lib.hid htk
    have HBw := Lib.hid hbw
    have hsz := hbw.bel.size
    clear htk hbw
    by_cases hlt : k < xs.length
    · obtain ⟨b, o, rfl, hDb, hb⟩ := hat (by omega)
      have hc : ∀ W, Cls wr.heap.size wr W → (W.cell? ⟨b, o + k * 5, none⟩ = some (.int .i64 xs[k].a0) ∧ W.cell? ⟨b, o + k * 5 + 1, none⟩ = some (.int .i64 xs[k].a1) ∧ W.cell? ⟨b, o + k * 5 + 2, none⟩ = some (.int .i64 xs[k].a2) ∧ W.cell? ⟨b, o + k * 5 + 3, none⟩ = some (.int .i64 xs[k].a3) ∧ W.cell? ⟨b, o + k * 5 + 4, none⟩ = some (.int .i64 xs[k].a4)) ∧
          (∀ i, W.cell? ⟨w.heap.size, i, none⟩ = (#[Value.int .i64 x.a0, .int .i64 x.a1, .int .i64 x.a2, .int .i64 x.a3, .int .i64 x.a4] : Array Value)[i]?) := fun W hW =>
        ⟨RdCalls.cells ((H.out.below HBw.out.bel).below hW.2) hlt, (HBw.out.below hW.2).cells0⟩
      have Hc := Lib.hid hc
      have heq := calleq_run x xs[k]
      clear hc
      go_wp2_with fail
      refine wp_region_exact3 wr.heap.size (Nat.le_refl _) (by kernel_rfl) (by kernel_rfl) ?_
      repeat (refine monoE_step (fun K hK => ?_); apply Exists.intro; refine ⟨fun W hC R hR => ?_, ?_⟩; (have hcell := Hc.out W hC; go_simp; exact hR _ _ (Below.refl _ _) rfl); (go_simp; refine hK _ ?_; clear hK K))
      intro w2 hC2
      have HB2 := Lib.hid (HBw.out.below hC2.2)
      clear heq
      by_cases he : x = xs[k]
      · have Hn : Hid (x ∈ xs) := by show x ∈ xs; rw [he]; exact List.getElem_mem hlt
        have d : decide (x = xs[k]) = true := decide_eq_true he
        clear he
        simp only [d]
        go_wp2
        go_ret
        exact ⟨⟨_, rfl, ⟨fun _ => Hn.out, fun _ => by omega⟩⟩, HB2.out.bel⟩
      · have Hn : Hid (¬ x ∈ xs.take (k + 1)) := by
          show ¬ _
          rw [List.take_succ_eq_append_getElem hlt]
          simp only [List.mem_append, List.mem_singleton, not_or]
          exact ⟨Ht.out, he⟩
        have d : decide (x = xs[k]) = false := decide_eq_false he
        clear he
        simp only [d]
        go_wp2
        go_roundw
        case rel => exact ⟨k + 1, by omega, by go_num, Hn.out, HB2.out⟩
        case measure => simp [intOf]; omega
    · obtain rfl : k = xs.length := by omega
      have Hn : Hid (¬ x ∈ xs) := by have := Ht.out; rw [List.take_length] at this; exact this
      go_wp2
      go_ret
      exact ⟨⟨_, rfl, ⟨fun h => absurd h (by omega), fun h => absurd h Hn.out⟩⟩, HBw.out.bel⟩
theorem contcalls_any (v : Value) (xs : List TCall) (x : TCall) (w : World) (h : RdCalls w (fun _ => True) v xs) :
    Calls Tryd.prog 25 #[v, callV x] w fun e w' => e = .returned (.bool (decide (x ∈ xs))) ∧ Below w.heap.size w w' := by
  have H := Lib.hid h
  obtain ⟨a, c, rfl, hlc, hcm, hat⟩ := Sl.form h
  clear h hlc hcm hat
  have HB := Lib.hid (Bx.one (w := w) (o := .cells #[.int .i64 x.a0, .int .i64 x.a1, .int .i64 x.a2, .int .i64 x.a3, .int .i64 x.a4] 24))
  go_enter Tryd.func25, Tryd.ntmps25
  go_wp2_with fail
  refine (idxcalls_any _ xs x _ (H.out.below HB.out.bel)).mono ?_
  rintro e w1 ⟨⟨n, rfl, hn⟩, hb1⟩
  have HB1 := Lib.hid (HB.out.below hb1)
  have Hn := Lib.hid hn
  clear hn hb1
  by_cases h0 : 0 ≤ n
  · have HD : Hid (decide (x ∈ xs) = true) := decide_eq_true (Hn.out.1 h0)
    go_wp2
    go_ret
    exact ⟨by rw [HD.out]; rfl, HB1.out.bel⟩
  · have HD : Hid (decide (x ∈ xs) = false) := decide_eq_false (fun h => h0 (Hn.out.2 h))
    go_wp2
    go_ret
    exact ⟨by rw [HD.out]; show Ending.returned (.bool (decide (0 ≤ n))) = _; rw [decide_eq_false (by omega)], HB1.out.bel⟩
theorem isnan_any (n : Int) (w : World) : Calls Tryd.prog 50 #[.int .i64 n] w fun e w' => e = .returned (.bool false) ∧ w' = w := by
  have h : (n != n) = false := by simp
  go_enter Tryd.func50, Tryd.ntmps50
  go_wp2
  go_ret
  exact ⟨rfl, rfl⟩
def cmpI (a b : Int) : Int := if a < b then -1 else if b < a then 1 else 0
theorem cmpint_any (a b : Int) (w : World) : Calls Tryd.prog 38 #[.int .i64 a, .int .i64 b] w fun e w' => e = .returned (.int .i64 (cmpI a b)) ∧ w' = w := by
  go_enter Tryd.func38, Tryd.ntmps38
  go_wp2_with fail
  refine (isnan_any a _).mono ?_
  rintro e w1 ⟨rfl, rfl⟩
  go_wp2_with fail
  refine (isnan_any b _).mono ?_
  rintro e w2 ⟨rfl, rfl⟩
  by_cases h1 : a < b
  · have HE : Hid (cmpI a b = -1) := by show cmpI a b = _; unfold cmpI; rw [if_pos h1]
    go_wp2
    go_ret
    exact ⟨ret_int HE.out.symm, rfl⟩
  · by_cases h2 : b < a
    · have HE : Hid (cmpI a b = 1) := by show cmpI a b = _; unfold cmpI; rw [if_neg h1, if_pos h2]
      go_wp2
      go_ret
      exact ⟨ret_int HE.out.symm, rfl⟩
    · have HE : Hid (cmpI a b = 0) := by show cmpI a b = _; unfold cmpI; rw [if_neg h1, if_neg h2]
      go_wp2
      go_ret
      exact ⟨ret_int HE.out.symm, rfl⟩
def cmpL : List Int → List Int → Int
  | [], [] => 0
  | [], _ :: _ => -1
  | _ :: _, [] => 1
  | a :: l, b :: m => if cmpI a b ≠ 0 then cmpI a b else cmpL l m
theorem cmp_lt {x y : TCall} (h : callLt x y) : cmpL [x.a0, x.a1, x.a2, x.a3, x.a4] [y.a0, y.a1, y.a2, y.a3, y.a4] = -1 := by
  obtain ⟨x0, x1, x2, x3, x4⟩ := x
  obtain ⟨y0, y1, y2, y3, y4⟩ := y
  have lt : ∀ {a b : Int}, a < b → cmpI a b = -1 := fun h => if_pos h
  have eq : ∀ a : Int, cmpI a a = 0 := fun a => by unfold cmpI; rw [if_neg (by omega), if_neg (by omega)]
  unfold callLt at h
  dsimp only at h
  rcases h with h | ⟨rfl, h | ⟨rfl, h | ⟨rfl, h | ⟨rfl, h⟩⟩⟩⟩ <;> simp [cmpL, eq, lt h]
theorem cmpL_drop (l m : List Int) (k : Nat) (hk : k < l.length) : cmpL (l.drop k) (m.drop k) = if h : k < m.length then (if cmpI l[k] m[k] ≠ 0 then cmpI l[k] m[k] else cmpL (l.drop (k + 1)) (m.drop (k + 1))) else 1 := by
  rw [List.drop_eq_getElem_cons hk]
  by_cases h : k < m.length
  · rw [List.drop_eq_getElem_cons h, dif_pos h]; rfl
  · have e : m.drop k = [] := List.drop_eq_nil_of_le (by omega)
    rw [e, dif_neg h]; rfl
set_option maxRecDepth 100000 in
set_option maxHeartbeats 4000000 in
theorem cmpints_any (v u : Value) (l m : List Int) (w : World) (h : RdInts w (fun _ => True) v l) (h' : RdInts w (fun _ => True) u m) :
    Calls Tryd.prog 23 #[v, u] w fun e w' => e = .returned (.int .i64 (cmpL l m)) ∧ Below w.heap.size w w' := by
  obtain ⟨a, c, rfl, hlc, hcm, hat⟩ := Sl.form h
  obtain ⟨a', c', rfl, hlc', hcm', hat'⟩ := Sl.form h'
  have H := Lib.hid h
  have H' := Lib.hid h'
  clear h h'
  go_enter Tryd.func23, Tryd.ntmps23
  go_wp2_with fail
  go_loopw [11] (fun i wr => ∃ k : Nat, k ≤ l.length ∧ i = .int .i64 k ∧ k ≤ m.length ∧ cmpL l m = cmpL (l.drop k) (m.drop k) ∧ Below w.heap.size w wr) (fun i _ => l.length - (intOf i).toNat)
  case atStart => exact ⟨0, by omega, rfl, Nat.zero_le _, rfl, Below.refl _ _⟩
  case round =>
    obtain ⟨k, hk, rfl, hkm, htk, hbw⟩ := hrel
    have Ht := Lib.hid htk
    have Hbw := Lib.hid hbw
    clear htk hbw
    by_cases hlt : k < l.length
    · obtain ⟨b, o, rfl, hDb, hb⟩ := hat (by omega)
      have Hd := Lib.hid (cmpL_drop l m k hlt)
      have hc1 := RdInts.cell (H.out.below Hbw.out) hlt
      by_cases hlt' : k < m.length
      · obtain ⟨b', o', rfl, hDb', hb'⟩ := hat' (by omega)
        have hc2 := RdInts.cell (H'.out.below Hbw.out) hlt'
        have Hd2 : Hid (cmpL l m = if cmpI l[k] m[k] ≠ 0 then cmpI l[k] m[k] else cmpL (l.drop (k + 1)) (m.drop (k + 1))) := by show cmpL l m = _; rw [Ht.out, Hd.out, dif_pos hlt']
        have hge : ¬ (m.length : Int) ≤ (k : Int) := by omega
        go_wp2_with fail
        refine (cmpint_any _ _ _).mono ?_
        rintro e w1 ⟨rfl, rfl⟩
        by_cases h0 : cmpI l[k] m[k] = 0
        · have Hn : Hid (cmpL l m = cmpL (l.drop (k + 1)) (m.drop (k + 1))) := by show cmpL l m = _; rw [Hd2.out, if_neg (by simp [h0])]
          rw [h0]
          clear h0
          go_wp2
          go_roundw
          case rel => exact ⟨k + 1, by omega, by go_num, by omega, Hn.out, Hbw.out⟩
          case measure => simp [intOf]; omega
        · have Hn : Hid (cmpL l m = cmpI l[k] m[k]) := by show cmpL l m = _; rw [Hd2.out, if_pos h0]
          have hne : (cmpI l[k] m[k] != 0) = true := bne_iff_ne.2 h0
          generalize cmpI l[k] m[k] = E at *
          clear h0
          go_wp2
          go_ret
          exact ⟨ret_int Hn.out.symm, Hbw.out⟩
      · have Hn : Hid (cmpL l m = 1) := by show cmpL l m = _; rw [Ht.out, Hd.out, dif_neg hlt']
        have hge : (m.length : Int) ≤ (k : Int) := by omega
        clear hlt'
        go_wp2
        go_ret
        exact ⟨ret_int Hn.out.symm, Hbw.out⟩
    · obtain rfl : k = l.length := by omega
      by_cases hlt' : l.length < m.length
      · have Hn : Hid (cmpL l m = -1) := by show cmpL l m = _; rw [Ht.out, List.drop_length, List.drop_eq_getElem_cons hlt']; rfl
        have hge : (l.length : Int) < (m.length : Int) := by omega
        go_wp2
        go_ret
        exact ⟨ret_int Hn.out.symm, Hbw.out⟩
      · have Hn : Hid (cmpL l m = 0) := by show cmpL l m = _; rw [Ht.out, List.drop_length, List.drop_eq_nil_of_le (by omega)]; rfl
        have hge : ¬ (l.length : Int) < (m.length : Int) := by omega
        go_wp2
        go_ret
        exact ⟨ret_int Hn.out.symm, Hbw.out⟩
/-- the law's at: n set to a place below m. -/
theorem at_any (n m : Int) (w : World) (hm : 0 < m) (hmm : m < 9223372036854775807) :
    Calls Tryd.prog 24 #[.int .i64 n, .int .i64 m] w fun e w' => (∃ k : Nat, (k : Int) < m ∧ e = .returned (.int .i64 k)) ∧ w' = w := by
  have hz : (m == 0) = false := beq_eq_false_iff_ne.2 (by omega)
  have hm0 : ¬ m = 0 := by omega
  obtain ⟨t, ht⟩ : ∃ t, Int.tmod n m = t := ⟨_, rfl⟩
  have h1 : t < m := by rw [← ht]; exact Int.tmod_lt_of_pos n (by omega)
  have h2 : -m < t := by
    have h := Int.natAbs_tmod n m
    rw [ht] at h
    have := Nat.mod_lt n.natAbs (show 0 < m.natAbs by omega)
    omega
  have hw1 : IntKind.i64.wrap t = t := IntWalk.i64_in _ (by omega)
  go_enter Tryd.func24, Tryd.ntmps24
  by_cases h0 : t < 0
  · have hw2 : IntKind.i64.wrap (t + m) = t + m := IntWalk.i64_in _ (by omega)
    go_wp2
    go_ret
    exact ⟨⟨(t + m).toNat, by omega, ret_int (by omega)⟩, rfl⟩
  · go_wp2
    go_ret
    exact ⟨⟨t.toNat, by omega, ret_int (by omega)⟩, rfl⟩
end Go.Proofs.YtioeliocdbckbaaDoor
