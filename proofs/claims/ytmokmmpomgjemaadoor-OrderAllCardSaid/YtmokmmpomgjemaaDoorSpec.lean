/- What the document says of calls and filters, as plain functions on lists and integers. No program is in sight. -/
namespace Go.Proofs.YtmokmmpomgjemaaDoor

structure TCall where
  a0 : Int
  a1 : Int
  a2 : Int
  a3 : Int
  a4 : Int
deriving DecidableEq
structure TIns where
  k : Int
  a : Int
  b : Int
  c : Int
deriving DecidableEq
structure TCond where
  f : Int
  op : Int
  v : Int
deriving DecidableEq
structure TRule where
  conds : List TCond
  verdict : Int
deriving DecidableEq
structure TPol where
  rules : List TRule
  dflt : Int
deriving DecidableEq

def TCall.get (x : TCall) (k : Int) : Int := if k = 0 then x.a0 else if k = 1 then x.a1 else if k = 2 then x.a2 else if k = 3 then x.a3 else x.a4
def mostOf (k : Int) : Int := if k = 0 then 63 else if k = 1 then 3 else 65535
def TCall.ok (x : TCall) : Prop := (0 ≤ x.a0 ∧ x.a0 ≤ 63) ∧ (0 ≤ x.a1 ∧ x.a1 ≤ 3) ∧ (0 ≤ x.a2 ∧ x.a2 ≤ 65535) ∧ (0 ≤ x.a3 ∧ x.a3 ≤ 65535) ∧ (0 ≤ x.a4 ∧ x.a4 ≤ 65535)
instance (x : TCall) : Decidable x.ok := by unfold TCall.ok; infer_instance
/-- chapter 1's Check. -/
def callE (x : TCall) : Int := if x.ok then 0 else 3
theorem TCall.ok_get {x : TCall} (h : x.ok) {k : Nat} (hk : k < 5) : 0 ≤ x.get k ∧ x.get k ≤ mostOf k := by
  unfold TCall.ok at h
  match k, hk with
  | 0, _ => exact h.1
  | 1, _ => exact h.2.1
  | 2, _ => exact h.2.2.1
  | 3, _ => exact h.2.2.2.1
  | 4, _ => exact h.2.2.2.2
theorem TCall.ok_of {x : TCall} (h : ∀ k : Nat, k < 5 → 0 ≤ x.get k ∧ x.get k ≤ mostOf k) : x.ok :=
  ⟨h 0 (by omega), h 1 (by omega), h 2 (by omega), h 3 (by omega), h 4 (by omega)⟩

/-- chapter 4's Check, of one instruction with n behind it. -/
def insE (x : TIns) (n : Int) : Int :=
  if x.k = 1 ∨ x.k = 4 then
    if x.b ≠ 0 ∨ x.c ≠ 0 then 4
    else if x.a < 0 ∨ x.a > 4 then 3 else 0
  else if x.k = 2 ∨ x.k = 3 then
    if x.a < 0 ∨ x.a > 65535 then 3
    else if x.b < 0 ∨ x.b ≥ n ∨ x.c < 0 ∨ x.c ≥ n then 5 else 0
  else 4
def codeGo : List TIns → Int
  | [] => 0
  | x :: r => if insE x r.length = 0 then codeGo r else insE x r.length
def lastK : List TIns → Int
  | [] => 0
  | [x] => x.k
  | _ :: x :: r => lastK (x :: r)
/-- chapter 4's Check. -/
def codeE (l : List TIns) : Int :=
  if l.length = 0 ∨ 1500 < l.length then 2 else if codeGo l ≠ 0 then codeGo l else if lastK l = 4 then 0 else 4
theorem codeGo_drop (l : List TIns) (k : Nat) (h : k < l.length) : codeGo (l.drop k) = if insE l[k] ((l.length : Int) - 1 - k) = 0 then codeGo (l.drop (k+1)) else insE l[k] ((l.length : Int) - 1 - k) := by
  rw [List.drop_eq_getElem_cons h]
  have e : ((l.drop (k+1)).length : Int) = (l.length : Int) - 1 - k := by simp; omega
  simp only [codeGo, e]
theorem lastK_eq : ∀ (l : List TIns) (h : 0 < l.length), lastK l = (l[l.length - 1]).k
  | [], h => absurd h (by simp)
  | [x], _ => rfl
  | x :: y :: r, _ => by
    simp only [lastK]
    rw [lastK_eq (y :: r) (by simp)]
    simp

/-- What an instruction does to what is loaded, and how many are left out behind it. -/
def insNext (x : TIns) (n : Int) : Nat := if (x.k = 2 ∧ n = x.a) ∨ (x.k = 3 ∧ n < x.a) then x.b.toNat else x.c.toNat
/-- chapter 4's Run, of a right filter: the verdict, and how many were done; fuel: how many stand. -/
def runGo (x : TCall) : (fuel : Nat) → List TIns → (n : Int) → (done : Nat) → Int × Nat
  | 0, _, _, d => (0, d)
  | _ + 1, [], _, d => (0, d)
  | f + 1, i :: r, n, d =>
    if i.k = 4 then (i.a, d + 1)
    else if i.k = 1 then runGo x f r (x.get i.a) (d + 1)
    else runGo x f (r.drop (insNext i n)) n (d + 1)
def run (l : List TIns) (x : TCall) : Int × Nat := runGo x l.length l 0 0


/-! ### right filters -/
structure Right (l : List TIns) : Prop where
  ne : l ≠ []
  go : codeGo l = 0
  last : lastK l = 4
theorem right_of {l : List TIns} (h : codeE l = 0) : Right l ∧ l.length ≤ 1500 := by
  unfold codeE at h
  split at h
  · simp at h
  · rename_i h1
    split at h
    · rename_i h2; exact absurd h h2
    · rename_i h2
      split at h
      · rename_i h3; exact ⟨⟨fun e => h1 (.inl (by simp [e])), by omega, h3⟩, by omega⟩
      · simp at h
theorem Right.tail {x : TIns} {r : List TIns} (h : Right (x :: r)) (hr : r ≠ []) : Right r := by
  obtain ⟨_, h1, h2⟩ := h
  refine ⟨hr, ?_, ?_⟩
  · unfold codeGo at h1
    split at h1
    · exact h1
    · rename_i h3; exact absurd h1 h3
  · cases r with
    | nil => exact absurd rfl hr
    | cons y r => exact h2
theorem Right.ins {x : TIns} {r : List TIns} (h : Right (x :: r)) : insE x r.length = 0 := by
  have h1 := h.go
  unfold codeGo at h1
  split at h1
  · rename_i h3; exact h3
  · exact h1
theorem Right.drop : ∀ {l : List TIns}, Right l → ∀ {k : Nat}, k < l.length → Right (l.drop k)
  | _, h, 0, _ => h
  | [], h, _ + 1, _ => absurd rfl h.ne
  | x :: r, h, k + 1, hk => by
    have hr : r ≠ [] := fun e => by subst e; simp at hk
    exact (h.tail hr).drop (by simpa using hk)
theorem insE_cases {x : TIns} {n : Int} (h : insE x n = 0) : (x.k = 4 ∧ 0 ≤ x.a ∧ x.a ≤ 4 ∧ x.b = 0 ∧ x.c = 0) ∨ (x.k = 1 ∧ 0 ≤ x.a ∧ x.a ≤ 4 ∧ x.b = 0 ∧ x.c = 0) ∨ ((x.k = 2 ∨ x.k = 3) ∧ 0 ≤ x.a ∧ x.a ≤ 65535 ∧ 0 ≤ x.b ∧ x.b < n ∧ 0 ≤ x.c ∧ x.c < n) := by
  unfold insE at h
  split at h
  · split at h
    · simp at h
    · split at h
      · simp at h
      · rename_i h1 h2 h3; omega
  · split at h
    · split at h
      · simp at h
      · split at h
        · simp at h
        · rename_i h1 h2 h3; omega
    · simp at h
/-- What stands at place k of a right filter. -/
theorem Right.at_ {l : List TIns} (h : Right l) {k : Nat} (hk : k < l.length) : insE l[k] ((l.length : Int) - 1 - k) = 0 ∧ (l[k].k ≠ 4 → k + 1 < l.length) := by
  have h1 := h.drop hk
  rw [List.drop_eq_getElem_cons hk] at h1
  have e : ((l.drop (k+1)).length : Int) = (l.length : Int) - 1 - k := by simp; omega
  refine ⟨by rw [← e]; exact h1.ins, fun h4 => ?_⟩
  rcases Nat.lt_or_ge (k + 1) l.length with hlt | hge
  · exact hlt
  · have : l.drop (k + 1) = [] := List.drop_eq_nil_of_le hge
    rw [this] at h1
    exact absurd h1.last h4
theorem runGo_step (x : TCall) (f : Nat) (l : List TIns) (n : Int) (d k : Nat) (hk : k < l.length) (hf : (l.drop k).length ≤ f) (h4 : l[k].k ≠ 4) :
    ∃ f', (l.drop (k + 1)).length ≤ f' ∧ runGo x f (l.drop k) n d = if l[k].k = 1 then runGo x f' (l.drop (k + 1)) (x.get l[k].a) (d + 1) else runGo x f' (l.drop (k + 1 + insNext l[k] n)) n (d + 1) := by
  rw [List.drop_eq_getElem_cons hk] at hf ⊢
  cases f with
  | zero => simp at hf; omega
  | succ f =>
    refine ⟨f, by simp at hf ⊢; omega, ?_⟩
    simp only [runGo, if_neg h4, List.drop_drop]
theorem runGo_ret (x : TCall) (f : Nat) (l : List TIns) (n : Int) (d k : Nat) (hk : k < l.length) (hf : (l.drop k).length ≤ f) (h4 : l[k].k = 4) : runGo x f (l.drop k) n d = (l[k].a, d + 1) := by
  rw [List.drop_eq_getElem_cons hk] at hf ⊢
  cases f with
  | zero => simp at hf; omega
  | succ f => simp only [runGo, if_pos h4]
/-- chapter 4's Run, errors too. -/
def runE (l : List TIns) (x : TCall) : Int × Int × Int := if codeE l ≠ 0 then (0, 0, codeE l) else if x.ok then ((run l x).1, (run l x).2, 0) else (0, 0, 3)

end Go.Proofs.YtmokmmpomgjemaaDoor
