/- append onto an own row, from whatever slice reads; where the new row lies. No condition. -/
import Derived.Test.YtmokmmpomgjemaaDoorBlk
import Derived.Maps.AppendAt
namespace Go.Proofs.YtmokmmpomgjemaaDoor
open Go.RowKit

theorem wpList_app2 {α : Type} {P : Program} {w : World} {ops : Array Oper} {rest : List Oper} {o : Oper} {a : Act} {Q : Exit → Act → World → Prop} {R : α → List Value → Prop} {D : Nat → Prop} (hgd : o.guard = none) (s x : Operand) (t : TypeId)
    (ho : o.op = .call { callee := .builtin .append, args := #[s, x], argTypes := #[t, t] })
    (base : Nat) (e : TypeId) (i : TypeInfo) (z : Value) (size bytes : Nat) (ht : P.underlying t = some (.slice e)) (hi : P.info? e = some i) (hz : i.zero = some z)
    (hsize : i.size = size) (hby : i.bytes = bytes) (hzs : z.cells.size = size) (hsz : 0 < size)
    (v : Value) (xs : List α) (hs : a.eval s = v) (hown : OwnSl w base e size R v xs)
    (u : Value) (ys : List α) (hx : a.eval x = u) (hu : Sl w D size R u ys) (h1 : ∀ y ∈ ys, ∀ cs, R y cs → ∀ c ∈ cs, c.oneCell' = true)
    (h63 : xs.length + ys.length ≤ maxLen) (hbytes : (xs.length + ys.length) * bytes ≤ 140737488355328) (hbase : base ≤ w.heap.size)
    (h : ∀ v' w', OwnSl w' base e size R v' (xs ++ ys) → w.grownBy w' v.ownBlock → (v'.ownBlock = v.ownBlock ∨ v'.ownBlock = some w.heap.size) → wpList P ops Q rest (a.put o.dst v') w') : wpList P ops Q (o :: rest) a w := by
  obtain ⟨au, cu, rows, hv, hr, hcm, hnone, hcell⟩ := hu.rows
  obtain ⟨rows0, hr0, ho0⟩ := hown
  cases au with
  | none =>
    obtain ⟨hc0, hy⟩ := hnone rfl
    subst hc0 hy
    refine wpList_append_own_none hgd s x t ho base e i size ht hi v xs.length rows0.flatten hs ho0 (by rw [hx, hv]; rfl) (h v w ⟨rows0, by simpa using hr0, by simpa using ho0⟩ ⟨rfl, rfl, rfl, Nat.le_refl _, fun _ _ _ => rfl⟩ (.inl rfl))
  | some ad =>
    refine wpList_append_own_at w hgd s x t ho base e i z size bytes ht hi hz hsize hby hzs hsz v xs.length rows0.flatten hs ho0 ad ys.length cu rows.flatten (by rw [hx, hv]) (by rw [flat_len rows hr.size, hr.len]) (hcell ad rfl) ?_ h63 hbytes hbase
      fun v' w' hown' hg _ hat => h v' w' ⟨rows0 ++ rows, hr0.app hr, by simpa using hown'⟩ hg hat
    intro c hc
    obtain ⟨r, hrm, hcr⟩ := List.mem_flatten.1 hc
    obtain ⟨k, hk⟩ := List.getElem?_of_mem hrm
    have hkl : k < ys.length := by rw [← hr.len]; exact (List.getElem?_eq_some_iff.1 hk).1
    exact h1 ys[k] (List.getElem_mem hkl) r (hr.rel k _ r (List.getElem?_eq_getElem hkl) hk) c hcr
end Go.Proofs.YtmokmmpomgjemaaDoor
