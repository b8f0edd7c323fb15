/- Texts laid one behind the other: RegB. No condition beyond theirs. -/
import Derived.Test.YtioeliocdbckbaaDoorK2
namespace Go.Proofs.YtioeliocdbckbaaDoor
open Go.RowKit

section
variable {P : Program} {ops : Array Oper} {B : Nat} {w0 : World} {Q : Act → World → Prop} {o : Oper} {l : List Oper} {ss : List Spec} {a : Act} {fs : List (World → Prop)} {F : World → Prop}
def obB (P : Program) (ops : Array Oper) (B : Nat) (w0 : World) (s : Spec) (o : Oper) (a : Act) (fs : List (World → Prop)) : Prop :=
  ∀ (W : World), Cls B w0 W → depFacts (prune o) fs W → ∀ R : Value → World → Prop, (∀ (v : Value) (W' : World), Below W.heap.size W W' → s.holds v W' → R v W') → if Region.wanted o (yielded ops a.tmps) then gives P o a W R else R undef W
def walkB (P : Program) (ops : Array Oper) (B : Nat) (w0 : World) (Q : Act → World → Prop) : List Oper → List Spec → Act → List (World → Prop) → (World → Prop) → Prop
  | [], _, a, _, F => ∀ (W : World), Cls B w0 W → F W → Q a W
  | _ :: _, [], _, _, _ => False
  | o :: l, s :: ss, a, fs, F => obB P ops B w0 s o a fs ∧
      match s.exact? with
      | some x => walkB P ops B w0 Q l ss (a.put o.dst x) (fs ++ [fun _ : World => True]) F
      | none => ∀ v : Value, walkB P ops B w0 Q l ss (a.put o.dst v) (fs ++ [s.pred v]) (fun w : World => F w ∧ s.pred v w)
theorem walkB_ex {x : Value} (h : ∀ K : Act → Prop, (∀ a', walkB P ops B w0 Q l ss a' (fs ++ [fun _ : World => True]) F → K a') → obB P ops B w0 (ex x) o a fs ∧ K (a.put o.dst x)) : walkB P ops B w0 Q (o :: l) (ex x :: ss) a fs F := h _ (fun _ h => h)
theorem walkB_pr {p : Value → World → Prop} (h : ∀ K : Value → Act → Prop, (∀ v a', walkB P ops B w0 Q l ss a' (fs ++ [p v]) (fun w : World => F w ∧ p v w) → K v a') → obB P ops B w0 (pr p) o a fs ∧ ∀ v, K v (a.put o.dst v)) : walkB P ops B w0 Q (o :: l) (pr p :: ss) a fs F := h _ (fun _ _ h => h)
theorem walkB_P {bs : List (List Nat)} {n : Nat} : ∀ (l : List Oper) (ss : List Spec) (i : Nat) (a : Act) (fs : List (World → Prop)) (F : World → Prop), walkB P ops B w0 Q l ss a fs F → walkP P ops (fun _ => Cls B w0) TB bs Q n l ss i a fs F
  | [], _, _, _, _, _, h => fun _ W _ hC hF => h W hC hF
  | _ :: _, [], _, _, _, _, h => h.elim
  | o :: l, s :: ss, i, a, fs, F, h => by
    obtain ⟨h1, h2⟩ := h
    refine ⟨fun done W hI _ _ _ hf R hR => h1 W hI hf R fun v W' hb hs => hR v W' (hI.step hb) hb hs, ?_⟩
    revert h2
    show (match s.exact? with | some x => _ | none => _) → (match s.exact? with | some x => _ | none => _)
    cases s.exact? with
    | some x => exact fun h2 => walkB_P l ss (i + 1) _ _ _ h2
    | none => exact fun h2 v => walkB_P l ss (i + 1) _ _ _ (h2 v)
def stableP (p : Value → World → Prop) : Prop := ∀ v w w', Below w.heap.size w w' → p v w → p v w'
def stables : List Spec → Prop
  | [] => True
  | s :: r => ((∃ x, s = ex x) ∨ ∃ p, s = pr p ∧ stableP p) ∧ stables r
theorem stables_get : ∀ (ss : List Spec), stables ss → ∀ s ∈ ss, stableB s
  | [], _, s, h => by cases h
  | s0 :: r, h, s, hm => by
    rcases List.mem_cons.1 hm with rfl | hm
    · rcases h.1 with ⟨x, rfl⟩ | ⟨p, rfl, hp⟩
      · exact stable_ex x
      · exact hp
    · exact stables_get r h.2 s hm
/-- THE LAW. -/
theorem wp_region_B {Q : Exit → Act → World → Prop} {id : Nat} {w : World} (ss : List Spec) (B : Nat) (hBw : B ≤ w.heap.size) (hm : P.follows .mixedOrders = true) (hB : monoB2 (l.map prune) a.tmps.size = true)
    (hst : stables ss) (h : walkB P l.toArray B w (Q .normal) l ss a [] (fun _ => True)) : (Code.region id l.toArray true).wp P Q a w :=
  wp_region_done3 ss (fun _ => Cls B w) TB hm hB (fun _ _ s _ hk v _ w1 w2 _ hT hf => stables_get ss hst s (List.mem_of_getElem? hk) v w1 w2 hT hf) ⟨hBw, (Below.refl _ _).drew⟩ _ rfl (walkB_P l ss 0 a [] _ h)
end
end Go.Proofs.YtioeliocdbckbaaDoor
