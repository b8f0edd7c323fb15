/- What comes in, opened: conditions, rules, policies. No condition. -/
import Derived.Test.YtmokmmpomgjemaaDoorOpen
import Derived.Test.YtmokmmpomgjemaaDoorPolRd
import Derived.Test.YtmokmmpomgjemaaDoorProg
import Derived.SizedLaws
namespace Go.Proofs.YtmokmmpomgjemaaDoor
open Go.RowKit Go.ChangeShapes Go.WideShapes Go.Deep
set_option maxRecDepth 100000

theorem field_at {fs : Array Field} {l : Array (TypeId × Nat)} (hfs : fs.map (fun f => (f.type, f.offset)) = l) {i : Nat} {ty : TypeId} {off : Nat} (h : l[i]? = some (ty, off)) : ∃ f, fs[i]? = some f ∧ f.type = ty ∧ f.offset = off := by
  subst hfs
  rw [Array.getElem?_map] at h
  cases hf : fs[i]? with
  | none => rw [hf] at h; cases h
  | some f => rw [hf] at h; simp only [Option.map_some, Option.some.injEq, Prod.mk.injEq] at h; exact ⟨f, rfl, h.1, h.2⟩
section
variable {H : Type} {enc : TypeId × Value → H} {w : World} {base : Nat} {spare : Nat → Bool} {held : Bool}
theorem trod_field {P : Program} {e : TypeId} {fs : Array Field} {l : Array (TypeId × Nat)} {fuel : Nat} {cs : List Value} {x : DataW H × List MemPlace} (he : P.underlying e = some (.struct fs)) (hfs : fs.map (fun f => (f.type, f.offset)) = l)
    (h : DataW.trod enc P w base spare held fuel e cs = some x) {i : Nat} {ty : TypeId} {off : Nat} (hi : l[i]? = some (ty, off)) : ∃ n y, DataW.trod enc P w base spare held n ty ((cs.drop off).take (P.cellsOf ty)) = some y := by
  obtain ⟨f, hf, rfl, rfl⟩ := field_at hfs hi
  obtain ⟨xs, m, _, _, _, hxl, hg⟩ := DataW.trod_struct he h
  have hlt : i < xs.length := by rw [hxl]; exact (Array.getElem?_eq_some_iff.1 hf).1
  have := hg i f hf
  rw [List.getElem?_eq_getElem hlt] at this
  exact ⟨_, _, this⟩
theorem trod_field_int {P : Program} {e ei : TypeId} {fs : Array Field} {l : Array (TypeId × Nat)} {fuel : Nat} {cs : List Value} {x : DataW H × List MemPlace} (he : P.underlying e = some (.struct fs)) (hfs : fs.map (fun f => (f.type, f.offset)) = l)
    (h : DataW.trod enc P w base spare held fuel e cs = some x) {i : Nat} {off : Nat} (hi : l[i]? = some (ei, off)) (hu : P.underlying ei = some (.int .i64)) (hc : P.cellsOf ei = 1) : ∃ n, (cs.drop off).take 1 = [.int .i64 n] := by
  obtain ⟨n, y, hy⟩ := trod_field he hfs h hi
  rw [hc] at hy
  obtain ⟨z, e, _⟩ := DataW.trod_int hu hy
  exact ⟨z, e⟩

theorem trod_cond {fuel : Nat} {cs : List Value} {x : DataW H × List MemPlace} (hl : cs.length = 3) (h : DataW.trod enc Tryd.prog w base spare held fuel 60 cs = some x) : ∃ a : TCond, condR a cs := by
  have hfs : (Tryd.prog.underlying 60).map (fun d => match d with | .struct fs => fs.map (fun f => (f.type, f.offset)) | _ => #[]) = some #[(3, 0), (3, 1), (3, 2)] := by kernel_rfl
  obtain ⟨fs, he⟩ : ∃ fs, Tryd.prog.underlying 60 = some (.struct fs) := ⟨_, Tryd.underlying60⟩
  rw [he] at hfs
  simp only [Option.map_some, Option.some.injEq] at hfs
  have hc : Tryd.prog.cellsOf 3 = 1 := by kernel_rfl
  obtain ⟨n0, e0⟩ := trod_field_int (i := 0) he hfs h rfl Tryd.underlying3 hc
  obtain ⟨n1, e1⟩ := trod_field_int (i := 1) he hfs h rfl Tryd.underlying3 hc
  obtain ⟨n2, e2⟩ := trod_field_int (i := 2) he hfs h rfl Tryd.underlying3 hc
  match cs, hl with
  | [c0, c1, c2], _ =>
    simp at e0 e1 e2
    exact ⟨⟨n0, n1, n2⟩, by simp [condR, e0, e1, e2]⟩
theorem trod_rule {fuel : Nat} {cs : List Value} {x : DataW H × List MemPlace} (hl : cs.length = 2) (h : DataW.trod enc Tryd.prog w base spare held fuel 46 cs = some x) : ∃ a : TRule, ruleR w (fun _ => True) a cs := by
  have hfs : (Tryd.prog.underlying 46).map (fun d => match d with | .struct fs => fs.map (fun f => (f.type, f.offset)) | _ => #[]) = some #[(44, 0), (3, 1)] := by kernel_rfl
  obtain ⟨fs, he⟩ : ∃ fs, Tryd.prog.underlying 46 = some (.struct fs) := ⟨_, Tryd.underlying46⟩
  rw [he] at hfs
  simp only [Option.map_some, Option.some.injEq] at hfs
  obtain ⟨n1, e1⟩ := trod_field_int (i := 1) he hfs h rfl Tryd.underlying3 (by kernel_rfl)
  obtain ⟨n, y, hy⟩ := trod_field (i := 0) he hfs h rfl
  have hc : Tryd.prog.cellsOf 44 = 1 := by kernel_rfl
  rw [hc] at hy
  obtain ⟨v, xs, hcs, hsl⟩ := sl_of_trod (sz := 3) Tryd.underlying44 (by kernel_rfl) (by omega) (fun _ _ _ hl hx => trod_cond hl hx) hy
  match cs, hl with
  | [c0, c1], _ =>
    simp at e1 hcs
    exact ⟨⟨xs, n1⟩, v, by rw [hcs, e1], hsl⟩
theorem trod_pol {fuel : Nat} {cs : List Value} {x : DataW H × List MemPlace} (hl : cs.length = 2) (h : DataW.trod enc Tryd.prog w base spare held fuel 24 cs = some x) : ∃ a : TPol, polR w (fun _ => True) a cs := by
  have hfs : (Tryd.prog.underlying 24).map (fun d => match d with | .struct fs => fs.map (fun f => (f.type, f.offset)) | _ => #[]) = some #[(22, 0), (3, 1)] := by kernel_rfl
  obtain ⟨fs, he⟩ : ∃ fs, Tryd.prog.underlying 24 = some (.struct fs) := ⟨_, Tryd.underlying24⟩
  rw [he] at hfs
  simp only [Option.map_some, Option.some.injEq] at hfs
  obtain ⟨n1, e1⟩ := trod_field_int (i := 1) he hfs h rfl Tryd.underlying3 (by kernel_rfl)
  obtain ⟨n, y, hy⟩ := trod_field (i := 0) he hfs h rfl
  have hc : Tryd.prog.cellsOf 22 = 1 := by kernel_rfl
  rw [hc] at hy
  obtain ⟨v, xs, hcs, hsl⟩ := sl_of_trod (sz := 2) Tryd.underlying22 (by kernel_rfl) (by omega) (fun _ _ _ hl hx => trod_rule hl hx) hy
  match cs, hl with
  | [c0, c1], _ =>
    simp at e1 hcs
    exact ⟨⟨xs, n1⟩, v, by rw [hcs, e1], hsl⟩

theorem open_pol {r : Reach} {b0 : Nat} {v : Value} {d : DataW H} {ps : List MemPlace}
    (hv : Value.okWide Tryd.prog w r b0 24 v) (h : DataW.Trod enc Tryd.prog w base spare held 24 v d ps) : ∃ (u : Value) (t : TPol), v = polV u t.dflt ∧ RdRules w (fun _ => True) u t.rules := by
  simp only [Value.okWide, Tryd.underlying24] at hv
  obtain ⟨cs, rfl, _⟩ := hv
  obtain ⟨fuel, hf⟩ := h
  obtain ⟨xs, m, _, _, hlen, _, _⟩ := DataW.trod_struct Tryd.underlying24 hf
  have hc : Tryd.prog.cellsOf 24 = 2 := by kernel_rfl
  rw [hc] at hlen
  obtain ⟨t, u, hcs, hr⟩ := trod_pol hlen hf
  obtain ⟨l⟩ := cs
  simp only [Value.cells] at hcs
  subst hcs
  exact ⟨u, t, rfl, hr⟩
theorem open_rules {r : Reach} {b0 : Nat} {v : Value} {d : DataW H} {ps : List MemPlace}
    (hv : Value.okWide Tryd.prog w r b0 22 v) (h : DataW.Trod enc Tryd.prog w base spare held 22 v d ps) : ∃ l, RdRules w (fun _ => True) v l := by
  obtain ⟨a, len, cap, rfl⟩ := okWide_slice Tryd.underlying22 hv
  obtain ⟨fuel, hf⟩ := h
  obtain ⟨v', xs, hcs, hsl⟩ := sl_of_trod (sz := 2) Tryd.underlying22 (by kernel_rfl) (by omega) (fun _ _ _ hl hx => trod_rule hl hx) hf
  simp [Value.cells] at hcs
  rw [hcs]
  exact ⟨xs, hsl⟩
theorem reach_slice {P : Program} {ts : List TypeId} {ds : List (DataW H)} {j bytes : Nat} {t e : TypeId} {d : DataW H} {a : Option Addr} {n c : Nat} {ps : List MemPlace} (hwt : (DataW.weightsEach P ts ds).all (· ≤ reachBytes) = true)
    (ht : ts[j]? = some t) (hd : ds[j]? = some d) (hu : P.underlying t = some (.slice e)) (hb : P.bytesOf e = bytes) (h : DataW.Trod enc P w base spare held t (.slice a n c) d ps) : n * bytes ≤ 140737488351232 := by
  obtain ⟨fuel, hf⟩ := h
  rcases open_slice hu hf with ⟨h0, _⟩ | ⟨a', len, cap, m, k, D, Pl, hcs, _, hl, _, _, hx, _⟩
  · simp [Value.cells] at h0
    obtain ⟨_, rfl, _⟩ := h0
    simp
  · simp [Value.cells] at hcs
    obtain ⟨_, rfl, _⟩ := hcs
    injection hx with hx _
    have := sized_slice hwt ht (hd.trans (congrArg some hx)) hu
    rw [hb] at this
    simp only [List.length_map, List.length_range] at this
    have h1 : n * bytes ≤ (n + (m - n)) * bytes := Nat.mul_le_mul_right _ (by omega)
    unfold reachBytes at this
    omega
end
end Go.Proofs.YtmokmmpomgjemaaDoor
