/- What the library's package-level variables hold, as the rows list it; walk: the reference's whole. Condition: Laid. -/
import Derived.Test.YtmokmmpomgjemaaDoorShelf
import Derived.Test.YtmokmmpomgjemaaDoorWhole
import Derived.Test.YtmokmmpomgjemaaDoorPrune
import Derived.Test.YtmokmmpomgjemaaDoorBase
import Derived.Lib.SmallJoins
import Derived.Lib.QuietBelow
import Derived.KernelRfl
namespace Go.Proofs.YtmokmmpomgjemaaDoor
open Go.RowKit Go.Shelf
attribute [local go_sem] gives givesUpon

structure Laid (w : World) : Prop where
  ml : ∃ m : Int, w.cell? ⟨0, 0, none⟩ = some (.int .i64 m)
  pow : Lib.TabIs Tryd.prog w "internal/strconv.uint64pow10" .u64 Lib.pow10Tab
  syn : ∃ te pe, w.cell? ⟨1, 0, none⟩ = some (.iface te pe)
  rng : ∃ te pe, w.cell? ⟨2, 0, none⟩ = some (.iface te pe)
theorem Laid.below {w w' : World} (h : Laid w) (hb : Below w.heap.size w w') : Laid w' := by
  obtain ⟨⟨m, h1⟩, h2, ⟨te, pe, h3⟩, ⟨te', pe', h4⟩⟩ := h
  have st : ∀ (p : Addr) v, w.cell? p = some v → w'.cell? p = some v := fun p v hv => (hb.cell (World.block_lt_of_cell? _ _ hv)).trans hv
  exact ⟨⟨m, st _ _ h1⟩, Go.Joins.tab_stays (g := 3) (by kernel_rfl) h2 hb (Nat.le_refl _), ⟨te, pe, st _ _ h3⟩, ⟨te', pe', st _ _ h4⟩⟩

theorem below_world {w w' : World} {k : Nat} {os : Array Obj} (h : w' = Go.Sort.grow (w.drewN k) os) : Below w.heap.size w w' := by
  subst h
  exact ⟨rfl, rfl, rfl, by simp [Go.Sort.grow], fun i hi => by
    show ((w.drewN k).heap ++ os)[i]? = _
    rw [Array.getElem?_append_left (by show i < w.heap.size; omega)]
    rfl⟩

/-- strconv.ParseInt at what is no numeral. -/
theorem parse_bad (s : ByteArray) (hlim : s.size ≤ 281474976710656) (h : ∀ v, Lib.parseIntB 64 s.data.toList ≠ .ok v) (h' : Lib.parseIntB 64 s.data.toList ≠ .range) (ev : Value) (w : World) (hv : w.cell? ⟨1, 0, none⟩ = some ev) (hev : ev = .nilIface ∨ ∃ te pe, ev = .iface te pe) :
    Calls Tryd.prog 38 #[.string s, .int .i64 10, .int .i64 64] w fun e w' => ∃ t p, e = .returned (.tuple #[.int .i64 0, .iface t p]) ∧ Below w.heap.size w w' := by
  cases hp : Lib.parseIntB 64 s.data.toList
  · exact absurd hp (h _)
  · have c : Calls Tryd.prog 38 #[.string s, .int .i64 10, .int .i64 64] w _ := Any.strconv_ParseInt_10_at64_syntax Tryd.laysC174 s hlim hp ev w hv hev
    exact c.mono fun e w' ⟨N, h1, _, _, h4⟩ => ⟨_, _, h1, h4⟩
  · exact absurd hp h'
set_option maxHeartbeats 1000000 in
theorem whole_any (s : ByteArray) (w : World) (hL : Laid w) (hs : s.size ≤ 281474976710656) :
    Calls Tryd.prog 29 #[.string s] w fun e w' => e = .returned (.tuple #[.int .i64 (wholeS s.data.toList).1, .bool (wholeS s.data.toList).2]) ∧ Below w.heap.size w w' := by
  have HL := Lib.hid hL
  clear hL
  cases hp : Lib.parseIntB 64 s.data.toList
  · rename_i v
    have he : wholeS s.data.toList = (v, Lib.itoa v == s.data.toList) := by unfold wholeS; rw [hp]
    rw [he]
    have Hp := Lib.hid hp
    obtain ⟨h0, h1⟩ := parse_in hp
    clear hp he
    go_enter Tryd.func29, Tryd.ntmps29
    go_wp2_with fail
    refine (Tryd.strconv_ParseInt_10_at64_ok s (by omega) v Hp.out _).mono ?_
    rintro e w1 ⟨rfl, hw1⟩
    have hb1 : Below w.heap.size w w1 := by
      rcases hw1 with rfl | ⟨t, rfl⟩
      · exact Below.refl _ _
      · exact Go.Joins.below_bytesWorld _ _ _ _ (Nat.le_refl _)
    clear hw1
    go_wp2_with fail
    refine (Tryd.strconv_FormatInt_10 v h0 h1 w1 (HL.out.below hb1).pow).mono ?_
    rintro e w2 ⟨rfl, k, os, hw2⟩
    have hb2 := below_world hw2
    clear hw2
    go_wp2
    go_ret2
    exact ⟨by rw [← ByteArray.toList_eq]; rfl, bel_call hb1 hb2⟩
  · have he : wholeS s.data.toList = (0, false) := by unfold wholeS; rw [hp]
    rw [he]
    have h1 : Hid (∀ v, Lib.parseIntB 64 s.data.toList ≠ .ok v) := fun v => by rw [hp]; intro e; cases e
    have h2 : Hid (Lib.parseIntB 64 s.data.toList ≠ .range) := by show _ ≠ _; rw [hp]; intro e; cases e
    clear hp he
    obtain ⟨te, pe, hv⟩ := HL.out.syn
    have Hv := Lib.hid hv
    clear hv
    go_enter Tryd.func29, Tryd.ntmps29
    go_wp2_with fail
    refine (parse_bad s hs h1.out h2.out _ _ Hv.out (.inr ⟨te, pe, rfl⟩)).mono ?_
    rintro e w1 ⟨t1, p1, rfl, hb1⟩
    go_wp2
    go_ret2
    exact ⟨rfl, hb1⟩
  · have he : wholeS s.data.toList = (Lib.intSat 64 s.data.toList, false) := by unfold wholeS; rw [hp]
    rw [he]
    have Hp := Lib.hid hp
    clear hp he
    obtain ⟨te, pe, hv⟩ := HL.out.rng
    have Hv := Lib.hid hv
    clear hv
    go_enter Tryd.func29, Tryd.ntmps29
    go_wp2_with fail
    refine (Tryd.strconv_ParseInt_10_at64_range s hs Hp.out _ _ Hv.out (.inr ⟨te, pe, rfl⟩)).mono ?_
    rintro e w1 ⟨N, rfl, _, _, hb1⟩
    go_wp2
    go_ret2
    exact ⟨rfl, hb1⟩
end Go.Proofs.YtmokmmpomgjemaaDoor
