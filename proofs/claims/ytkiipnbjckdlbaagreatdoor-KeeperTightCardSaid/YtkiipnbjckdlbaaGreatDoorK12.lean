/- Texts laid one behind the other: CellsAt. No condition beyond theirs. -/
import Derived.Test.YtkiipnbjckdlbaaGreatDoorK11
namespace Go.Proofs.YtkiipnbjckdlbaaGreatDoor
open Go.RowKit

theorem cells_at {w : World} {D : Nat → Prop} {b o n c k : Nat} {l : List TCell} {x : TCell} (h : RdCells w D (.slice (some ⟨b, o, none⟩) n c) l) (hk : l[k]? = some x) :
    ∃ (a1 a2 : Option Addr) (c1 c2 : Nat), w.cell? ⟨b, o + k * 4, none⟩ = some (.bool x.open_) ∧ w.cell? ⟨b, o + k * 4 + 1, none⟩ = some (.slice a1 x.chain.length c1) ∧ w.cell? ⟨b, o + k * 4 + 2, none⟩ = some (.slice a2 x.p.rules.length c2) ∧ w.cell? ⟨b, o + k * 4 + 3, none⟩ = some (.int .i64 x.p.dflt) ∧
      RdChain w D (.slice a1 x.chain.length c1) x.chain ∧ RdRules w D (.slice a2 x.p.rules.length c2) x.p.rules := by
  obtain ⟨hlt, rfl⟩ := List.getElem?_eq_some_iff.1 hk
  exact RdCells.cells h hlt
theorem cells_cap {w : World} {D : Nat → Prop} {a : Option Addr} {n c : Nat} {l : List TCell} (h : RdCells w D (.slice a n c) l) : l.length ≤ c ∧ c ≤ 9223372036854775807 := by
  obtain ⟨a', c', hv, h1, h2, _⟩ := Sl.form h
  injection hv with _ _ h3
  subst h3
  exact ⟨h1, h2⟩
/-- one element of a slice, as a slice. -/
theorem cells_sub {w : World} {D : Nat → Prop} {b o n c k : Nat} {l : List TCell} {x : TCell} (h : RdCells w D (.slice (some ⟨b, o, none⟩) n c) l) (hk : l[k]? = some x) : RdCells w D (.slice (some ⟨b, o + k * 4, none⟩) 1 (c - k)) [x] := by
  obtain ⟨hlt, rfl⟩ := List.getElem?_eq_some_iff.1 hk
  obtain ⟨a, c', hv, hlc, hcm, hn, hat⟩ := h
  injection hv with h1 h2 h3
  subst h1 h2 h3
  obtain ⟨b', o', e, hD, hb, hat⟩ := hat (by omega)
  injection e with e
  injection e with e1 e2
  subst e1 e2
  refine ⟨_, _, rfl, ?_, by omega, (fun e => by cases e), fun _ => ⟨_, _, rfl, hD, hb, fun i y hy => ?_⟩⟩
  · show 1 ≤ c - k
    omega
  · obtain ⟨hi, rfl⟩ := List.getElem?_eq_some_iff.1 hy
    have hi0 : i = 0 := by simpa using hi
    subst hi0
    obtain ⟨cs, hl, hr, hc⟩ := hat k l[k] (List.getElem?_eq_getElem hlt)
    exact ⟨cs, hl, hr, fun j u hu => by have := hc j u hu; simpa [Nat.add_assoc] using this⟩
end Go.Proofs.YtkiipnbjckdlbaaGreatDoor
