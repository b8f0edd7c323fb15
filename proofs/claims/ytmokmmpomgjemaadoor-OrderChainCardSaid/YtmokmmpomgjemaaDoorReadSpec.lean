/- Chapter 3's Parse, as the document reads: on lists of bytes. No condition. -/
import Derived.Test.YtmokmmpomgjemaaDoorWhole
import Derived.Test.YtmokmmpomgjemaaDoorPolSpec
import Derived.Lib.Split
namespace Go.Proofs.YtmokmmpomgjemaaDoor

def opOf (b : UInt8) : Int := if b = 61 then 1 else if b = 33 then 2 else if b = 60 then 3 else if b = 62 then 4 else 0
/-- the place of the first operation's sign; how long the word is: there is none. -/
def opAt : List UInt8 → Nat
  | [] => 0
  | b :: l => if opOf b = 0 then opAt l + 1 else 0
def verdictOf (l : List UInt8) : Option Int :=
  if l = [107, 105, 108, 108] then some 0 else if l = [116, 114, 97, 112] then some 1 else if l = [102, 97, 105, 108] then some 2 else if l = [108, 111, 103] then some 3 else if l = [97, 108, 108, 111, 119] then some 4 else none
def fieldOf (l : List UInt8) : Option Int :=
  if l = [110, 114] then some 0 else if l = [107, 105, 110, 100] then some 1 else if l = [97] then some 2 else if l = [98] then some 3 else if l = [99] then some 4 else none
def condOf (u : List UInt8) : Option TCond :=
  if opAt u = u.length then none else
  match fieldOf (u.take (opAt u)) with
  | none => none
  | some f => if (wholeS (u.drop (opAt u + 1))).2 then some ⟨f, opOf (u.getD (opAt u) 0), (wholeS (u.drop (opAt u + 1))).1⟩ else none
def condsOf : List (List UInt8) → Option (List TCond)
  | [] => some []
  | u :: r => match condOf u with
    | none => none
    | some c => (condsOf r).map (c :: ·)
def words (t : List UInt8) : List (List UInt8) := Lib.split t [32]
def pread : Nat → List UInt8 → Option TPol
  | 0, _ => none
  | n + 1, s => match verdictOf ((words (Lib.cut s [59]).1).headD []) with
    | none => none
    | some v =>
      if (Lib.cut s [59]).2.2 then
        match condsOf (words (Lib.cut s [59]).1).tail with
        | none => none
        | some cs => (pread n (Lib.cut s [59]).2.1).map fun p => ⟨⟨cs, v⟩ :: p.rules, p.dflt⟩
      else if 1 < (words (Lib.cut s [59]).1).length then none else some ⟨[], v⟩
/-- what is read, and the error. -/
def readP (s : List UInt8) : TPol × Int := match pread (s.length + 1) s with
  | none => (⟨[], 0⟩, 1)
  | some p => if polE p = 0 then (p, 0) else (⟨[], 0⟩, polE p)

def writtenL : List UInt8 := [107, 105, 108, 108, 32, 110, 114, 61, 51, 32, 97, 60, 53, 59, 108, 111, 103, 32, 107, 105, 110, 100, 33, 48, 59, 97, 108, 108, 111, 119]
def madeP : TPol := ⟨[⟨[⟨0, 1, 3⟩, ⟨2, 3, 5⟩], 0⟩, ⟨[⟨1, 2, 0⟩], 3⟩], 4⟩
theorem read_made : readP writtenL = (madeP, 0) := by decide +kernel

/-! ### laws for the loops -/
theorem opAt_le : ∀ u : List UInt8, opAt u ≤ u.length
  | [] => Nat.le_refl _
  | b :: l => by
    have := opAt_le l
    unfold opAt
    split <;> simp <;> omega
theorem opAt_spec : ∀ (u : List UInt8) (k : Nat), (∀ j, j < k → ∀ b, u[j]? = some b → opOf b = 0) → k ≤ u.length → (∀ b, u[k]? = some b → opOf b ≠ 0) → opAt u = k
  | [], k, _, hk, _ => by simp at hk; subst hk; rfl
  | b :: l, 0, _, _, h => by unfold opAt; rw [if_neg (h b rfl)]
  | b :: l, k + 1, h, hk, h' => by
    unfold opAt
    rw [if_pos (h 0 (by omega) b rfl), opAt_spec l k (fun j hj c hc => h (j + 1) (by omega) c (by simpa using hc)) (by simpa using hk) (fun c hc => h' c (by simpa using hc))]
theorem condsOf_drop {ws : List (List UInt8)} {j : Nat} (h : j < ws.length) : condsOf (ws.drop j) = match condOf ws[j] with
    | none => none
    | some c => (condsOf (ws.drop (j + 1))).map (c :: ·) := by
  rw [List.drop_eq_getElem_cons h]; rfl
theorem pread_step {n : Nat} {t : List UInt8} {u0 : List UInt8} {us : List (List UInt8)} (h : words (Lib.cut t [59]).1 = u0 :: us) : pread (n + 1) t = match verdictOf u0 with
    | none => none
    | some v =>
      if (Lib.cut t [59]).2.2 then
        match condsOf us with
        | none => none
        | some cs => (pread n (Lib.cut t [59]).2.1).map fun p => ⟨⟨cs, v⟩ :: p.rules, p.dflt⟩
      else if 1 < us.length + 1 then none else some ⟨[], v⟩ := by
  conv => lhs; unfold pread
  rw [h]; rfl
theorem readP_none {s : List UInt8} (h : pread (s.length + 1) s = none) : readP s = (⟨[], 0⟩, 1) := by unfold readP; rw [h]
theorem readP_some {s : List UInt8} {p : TPol} (h : pread (s.length + 1) s = some p) : readP s = if polE p = 0 then (p, 0) else (⟨[], 0⟩, polE p) := by unfold readP; rw [h]
end Go.Proofs.YtmokmmpomgjemaaDoor
