/- Lists of integers, of policies: readings and small laws. No condition. -/
import Derived.Test.YtmokmmpomgjemaaDoorProg
import Derived.Test.YtmokmmpomgjemaaDoorApp2
import Derived.Test.YtmokmmpomgjemaaDoorInit
import Derived.Test.YtmokmmpomgjemaaDoorBx
import Derived.Test.YtmokmmpomgjemaaDoorPolRd
import Derived.Test.YtmokmmpomgjemaaDoorPointSpec
import Derived.KernelRfl
namespace Go.Proofs.YtmokmmpomgjemaaDoor
open Go.RowKit

theorem infoInt : (Tryd.prog.info? 3).map (fun i => (i.zero, i.size, i.bytes)) = some (some (.int .i64 0), 1, 8) := by kernel_rfl
theorem intR_one (y : Int) (cs : List Value) (h : intR y cs) : ∀ c ∈ cs, c.oneCell' = true := by
  unfold intR at h; subst h; intro c hc; simp at hc; subst hc; rfl
theorem RdPols.cells {w : World} {D : Nat → Prop} {b o n c : Nat} {s : Option Nat} {l : List TPol} (h : RdPols w D (.slice (some ⟨b, o, s⟩) n c) l) {i : Nat} (hi : i < l.length) :
    ∃ (a' : Option Addr) (c' : Nat), w.cell? ⟨b, o + i * 2, none⟩ = some (.slice a' l[i].rules.length c') ∧ w.cell? ⟨b, o + i * 2 + 1, none⟩ = some (.int .i64 l[i].dflt) ∧ RdRules w D (.slice a' l[i].rules.length c') l[i].rules ∧
      l[i].rules.length ≤ c' ∧ c' ≤ 9223372036854775807 ∧ (0 < l[i].rules.length → ∃ b o, a' = some ⟨b, o, none⟩ ∧ D b ∧ b < w.heap.size) := by
  obtain ⟨cs, hcs, ⟨u, hu, hr⟩, hcell⟩ := Sl.get h hi
  obtain ⟨a', c', hv, h1, h2, h3⟩ := Sl.form hr
  subst hu hv
  exact ⟨a', c', hcell 0 _ rfl, hcell 1 _ rfl, hr, h1, h2, h3⟩
theorem flatMap_take {α β : Type} (g : α → List β) (l : List α) (k : Nat) (h : k < l.length) : (l.take (k + 1)).flatMap g = (l.take k).flatMap g ++ g l[k] := by
  rw [List.take_succ_eq_append_getElem h, List.flatMap_append]; simp
theorem flatMap_take_le {α β : Type} (g : α → List β) (l : List α) (k : Nat) : ((l.take k).flatMap g).length ≤ (l.flatMap g).length := by
  have := congrArg (fun m => (m.flatMap g).length) (List.take_append_drop k l)
  simp only [List.flatMap_append, List.length_append] at this
  omega
/-- one integer, just laid. -/
theorem one_int {W : World} {x : Int} {T : TypeId} {b : Nat} (hb : b = W.heap.size) : RdInts (W.alloc (.cells #[.int .i64 x] T)) (fun _ => True) (.slice (some ⟨b, 0, none⟩) 1 1) [x] :=
  sl_block (R := intR) (sz := 1) (xs := [x]) (rows := [[.int .i64 x]]) (RowsOf.cons RowsOf.nil rfl rfl) (blk_at hb) rfl trivial (by simp [maxLen])

end Go.Proofs.YtmokmmpomgjemaaDoor
