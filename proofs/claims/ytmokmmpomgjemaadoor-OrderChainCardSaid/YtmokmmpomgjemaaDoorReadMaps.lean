/- The three maps that PolicyRead lays: what a look-up finds. No condition. -/
import Derived.Test.YtmokmmpomgjemaaDoorReadLib
import Derived.Test.YtmokmmpomgjemaaDoorBlk
namespace Go.Proofs.YtmokmmpomgjemaaDoor
open Go.RowKit

@[reducible] def bs (l : List UInt8) : Value := .string ⟨l.toArray⟩
@[reducible] def vmap : Array MapEntry := #[⟨bs [107, 105, 108, 108], .int .i64 0, 0⟩, ⟨bs [116, 114, 97, 112], .int .i64 1, 1⟩, ⟨bs [102, 97, 105, 108], .int .i64 2, 2⟩, ⟨bs [108, 111, 103], .int .i64 3, 3⟩, ⟨bs [97, 108, 108, 111, 119], .int .i64 4, 4⟩]
@[reducible] def fmap : Array MapEntry := #[⟨bs [110, 114], .int .i64 0, 0⟩, ⟨bs [107, 105, 110, 100], .int .i64 1, 1⟩, ⟨bs [97], .int .i64 2, 2⟩, ⟨bs [98], .int .i64 3, 3⟩, ⟨bs [99], .int .i64 4, 4⟩]
@[reducible] def omap : Array MapEntry := #[⟨.int .u8 61, .int .i64 1, 0⟩, ⟨.int .u8 33, .int .i64 2, 1⟩, ⟨.int .u8 60, .int .i64 3, 2⟩, ⟨.int .u8 62, .int .i64 4, 3⟩]

theorem same_str (u : ByteArray) (l : List UInt8) : Instr.sameNow .string (.string u) (bs l) = some (decide (u.data.toList = l)) := by
  have : (u == (⟨l.toArray⟩ : ByteArray)) = decide (u.data.toList = l) := by
    rw [beq_toListBytes, ByteArray.toList_eq, ByteArray.toList_eq, Bool.eq_iff_iff]
    simp
  rw [← this]
  rfl
theorem same_u8 (n m : Int) : Instr.sameNow (.int .u8) (.int .u8 n) (.int .u8 m) = some (decide (n = m)) := by
  have : (n == m) = decide (n = m) := by rw [Bool.eq_iff_iff]; simp
  rw [← this]
  rfl
/-- a look-up among a list of keys. -/
theorem find_step {kd : TypeDesc} {k key v : Value} {born : Nat} {es : List MapEntry} {i : Nat} {b : Bool} (h : Instr.sameNow kd k key = some b) : Instr.findNow kd k (⟨key, v, born⟩ :: es) i = if b then some (some (i, v)) else Instr.findNow kd k es (i + 1) := by
  cases b <;> simp [Instr.findNow, h]
theorem find_v (u : ByteArray) : ∃ f, Instr.findNow .string (.string u) vmap.toList 0 = some f ∧ f.map (·.2) = (verdictOf u.data.toList).map fun n => Value.int .i64 n := by
  simp only [find_step (same_str _ _), verdictOf, decide_eq_true_eq]
  repeat (split; · exact ⟨_, rfl, rfl⟩)
  exact ⟨none, rfl, rfl⟩
theorem find_f (u : ByteArray) : ∃ f, Instr.findNow .string (.string u) fmap.toList 0 = some f ∧ f.map (·.2) = (fieldOf u.data.toList).map fun n => Value.int .i64 n := by
  simp only [find_step (same_str _ _), fieldOf, decide_eq_true_eq]
  repeat (split; · exact ⟨_, rfl, rfl⟩)
  exact ⟨none, rfl, rfl⟩
theorem find_o (b : UInt8) : ∃ f, Instr.findNow (.int .u8) (.int .u8 b.toNat) omap.toList 0 = some f ∧ (f.map (·.2)).getD (.int .i64 0) = Value.int .i64 (opOf b) := by
  have e : ∀ n : UInt8, ((b.toNat : Int) = (n.toNat : Int)) = (b = n) := fun n => by
    rw [eq_iff_iff]
    constructor
    · intro h; exact UInt8.toNat_inj.1 (by omega)
    · rintro rfl; rfl
  have e1 := e 61
  have e2 := e 33
  have e3 := e 60
  have e4 := e 62
  simp only [show ((61 : UInt8).toNat : Int) = 61 from rfl, show ((33 : UInt8).toNat : Int) = 33 from rfl, show ((60 : UInt8).toNat : Int) = 60 from rfl, show ((62 : UInt8).toNat : Int) = 62 from rfl] at e1 e2 e3 e4
  simp only [find_step (same_u8 _ _), opOf, decide_eq_true_eq, e1, e2, e3, e4]
  repeat (split; · exact ⟨_, rfl, rfl⟩)
  exact ⟨none, rfl, rfl⟩

/-- a slice without its first element: one form, be it empty or not. -/
theorem slice_tail (b n : Nat) : ∃ off : Nat, (0 < n → off = 1) ∧ ∀ W : World, (Instr.slice 71 (.slice (some ⟨b, 0, none⟩) (n + 1) (n + 1)) (some (.int .i64 1)) none none).run Tryd.prog W = .ok (.slice (some ⟨b, off, none⟩) n n) W := by
  by_cases h : n = 0
  · subst h
    exact ⟨0, fun h => by omega, fun W => by kernel_rfl⟩
  · refine ⟨1, fun _ => rfl, fun W => ?_⟩
    go_simp
    intro h'
    omega
end Go.Proofs.YtmokmmpomgjemaaDoor
