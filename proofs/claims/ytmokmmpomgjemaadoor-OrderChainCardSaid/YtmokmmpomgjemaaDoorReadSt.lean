/- The state of PolicyRead's loop of rules, and what a round makes of it. No condition. -/
import Derived.Test.YtmokmmpomgjemaaDoorReadMaps
import Derived.Test.YtmokmmpomgjemaaDoorRPolCheck
import Derived.Test.YtmokmmpomgjemaaDoorOwn
import Derived.Test.YtmokmmpomgjemaaDoorApp
import Derived.Test.YtmokmmpomgjemaaDoorBlk
import Derived.Laws.ResultCell
namespace Go.Proofs.YtmokmmpomgjemaaDoor
open Go.RowKit
open Go.MapKept (IsKey)

set_option maxHeartbeats 1000000 in
theorem bad_any (e : Int) (w : World) : Calls Tryd.prog 26 #[.int .i64 e] w fun en w' => en = .returned (.tuple #[polV (.slice none 0 0) 0, .int .i64 e]) ∧ Below w.heap.size w w' := by
  go_enter Tryd.func26, Tryd.ntmps26
  go_wp2
  refine bodyPost_ret (v := .tuple #[polV (.slice none 0 0) 0, .int .i64 e]) ?_ rfl ⟨rfl, bel_alloc (Below.refl _ _) _⟩
  rw [results_cell_tmp rfl]
  go_simp

/-- blocks of the call's own behind its five, but that of one slice. -/
def But (B : Nat) (pv : Value) (b : Nat) : Prop := B + 5 ≤ b ∧ pv.ownBlock ≠ some b
/-- the world as the loop of rules has it. -/
structure RdState (w wr : World) (rs : List TRule) (pv : Value) : Prop where
  bel : Below w.heap.size w wr
  sz : w.heap.size + 5 ≤ wr.heap.size
  res : wr.heap[w.heap.size]? = some (.cells #[.slice none 0 0, .int .i64 0] 24)
  vm : wr.heap[w.heap.size + 1]? = some (.map vmap 5)
  fm : wr.heap[w.heap.size + 2]? = some (.map fmap 5)
  om : wr.heap[w.heap.size + 3]? = some (.map omap 4)
  pc : wr.heap[w.heap.size + 4]? = some (.cells #[pv, .int .i64 0] 24)
  own : OwnSl wr (w.heap.size + 5) 46 2 (ruleR wr (But w.heap.size pv)) pv rs
theorem RdState.below {w wr w1 : World} {rs : List TRule} {pv : Value} (h : RdState w wr rs pv) (hb : Below wr.heap.size wr w1) : RdState w w1 rs pv where
  bel := bel_call h.bel hb
  sz := Nat.le_trans h.sz hb.size
  res := blk_below h.res hb
  vm := blk_below h.vm hb
  fm := blk_below h.fm hb
  om := blk_below h.om hb
  pc := blk_below h.pc hb
  own := (h.own.below hb).monoR fun _ _ _ ⟨v, h1, h2⟩ => ⟨v, h1, h2.below hb⟩
theorem RdState.rules {w wr : World} {rs : List TRule} {pv : Value} (h : RdState w wr rs pv) : RdRules wr (fun b => w.heap.size + 5 ≤ b) pv rs :=
  (h.own.monoR fun _ _ _ ⟨v, h1, h2⟩ => ⟨v, h1, h2.keep (fun _ hb _ => hb.1) (fun _ _ _ => rfl) (Nat.le_refl _)⟩).sl fun _ h => h
theorem rdState0 (w : World) : RdState w (((((w.alloc (.cells #[.slice none 0 0, .int .i64 0] 24)).alloc (.map vmap 5)).alloc (.map fmap 5)).alloc (.map omap 4)).alloc (.cells #[.slice none 0 0, .int .i64 0] 24)) [] (.slice none 0 0) where
  bel := bel_alloc (bel_alloc (bel_alloc (bel_alloc (bel_alloc (Below.refl _ _) _) _) _) _) _
  sz := by simp
  res := blk_old (blk_old (blk_old (blk_old (blk_at rfl))))
  vm := blk_old (blk_old (blk_old (blk_at (by simp))))
  fm := blk_old (blk_old (blk_at (by simp)))
  om := blk_old (blk_at (by simp))
  pc := blk_at (by simp)
  own := OwnSl.nil

theorem infoCond : (Tryd.prog.info? 60).map (fun i => (i.zero, i.size, i.bytes)) = some (some (.agg #[.int .i64 0, .int .i64 0, .int .i64 0]), 3, 24) := by kernel_rfl
theorem infoRule : (Tryd.prog.info? 46).map (fun i => (i.zero, i.size, i.bytes)) = some (some (.agg #[.slice none 0 0, .int .i64 0]), 2, 32) := by kernel_rfl
theorem rd_step {w w2 wr w4 : World} {rs : List TRule} {pv : Value} {cs : List TCond} {cv : Value} {vd : Int} {gg cap : Nat} {rows : List (List Value)} {O : Obj} (hst : RdState w w2 rs pv) (hbw : Below w2.heap.size w2 wr)
    (hown : OwnSl wr (w2.heap.size + 1) 60 3 condR cv cs) (hgrow : (wr.alloc O).grownBy w4 pv.ownBlock)
    (hown4 : w4.ownsRow (w.heap.size + 5) 46 2 (.slice (some ⟨gg, 0, none⟩) (rs.length + 1) cap) (rs.length + 1) (rows.flatten ++ [cv, .int .i64 vd]))
    (hro : RowsOf 2 (ruleR wr (But w.heap.size pv)) rs rows) (hat : pv.ownBlock = some gg ∨ gg = wr.heap.size + 1) :
    RdState w (w4.setCell ⟨w.heap.size + 4, 0, none⟩ (.slice (some ⟨gg, 0, none⟩) (rs.length + 1) cap)) (rs ++ [⟨cs, vd⟩]) (.slice (some ⟨gg, 0, none⟩) (rs.length + 1) cap) := by
  have h1 := hst.below hbw
  have hsz2 := hst.sz
  have hsw := hbw.size
  have hpo : ∀ g, pv.ownBlock = some g → w.heap.size + 5 ≤ g ∧ g < w2.heap.size := fun g hg => by
    obtain ⟨rows', _, hr'⟩ := hst.own
    exact hr'.lt g hg
  have hal : (wr.alloc O).heap.size = wr.heap.size + 1 := by simp
  have hg4 := hgrow.size
  -- a block that is neither the box nor the rules' row stays
  have keep : ∀ b, b < wr.heap.size → b ≠ w.heap.size + 4 → pv.ownBlock ≠ some b → (w4.setCell ⟨w.heap.size + 4, 0, none⟩ (.slice (some ⟨gg, 0, none⟩) (rs.length + 1) cap)).heap[b]? = wr.heap[b]? := fun b hb hn ho => by
    rw [set_other (by exact hn), hgrow.block b (by omega) (fun e => ho e.symm)]
    show (wr.heap.push O)[b]? = _
    rw [Array.getElem?_push, if_neg (by omega)]
  have small : ∀ b, b < w.heap.size + 4 → (w4.setCell ⟨w.heap.size + 4, 0, none⟩ (.slice (some ⟨gg, 0, none⟩) (rs.length + 1) cap)).heap[b]? = wr.heap[b]? := fun b hb =>
    keep b (by omega) (by omega) (fun e => by have := (hpo b e).1; omega)
  have hss : wr.heap.size ≤ (w4.setCell ⟨w.heap.size + 4, 0, none⟩ (.slice (some ⟨gg, 0, none⟩) (rs.length + 1) cap)).heap.size := by rw [set_size]; omega
  exact {
    bel := by
      refine set_below ?_ (by show w.heap.size ≤ w.heap.size + 4; omega)
      exact h1.bel.trans ⟨hgrow.os, hgrow.tape, hgrow.output, by omega, fun i hi => by
        rw [hgrow.block i (by omega) (fun e => by have := (hpo i e.symm).1; omega)]
        show (wr.heap.push O)[i]? = _
        rw [Array.getElem?_push, if_neg (by omega)]⟩
    sz := by omega
    res := (small _ (by omega)).trans h1.res
    vm := (small _ (by omega)).trans h1.vm
    fm := (small _ (by omega)).trans h1.fm
    om := (small _ (by omega)).trans h1.om
    pc := by
      have : w4.heap[w.heap.size + 4]? = some (.cells #[pv, .int .i64 0] 24) := by
        rw [hgrow.block _ (by omega) (fun e => by have := (hpo _ e.symm).1; omega)]
        show (wr.heap.push O)[w.heap.size + 4]? = _
        rw [Array.getElem?_push, if_neg (by omega)]
        exact h1.pc
      exact set_at this
    own := by
      refine ⟨rows ++ [[cv, .int .i64 vd]], (hro.mono fun x _ c hx => ?_).app (RowsOf.cons (sz := 2) (x := (⟨cs, vd⟩ : TRule)) (r := [cv, .int .i64 vd]) RowsOf.nil ?_ rfl), ?_⟩
      · obtain ⟨v, e1, e2⟩ := hx
        exact ⟨v, e1, e2.keep (fun b hb hlt => ⟨hb.1, fun e => by
          have e' : gg = b := by simpa [Value.ownBlock] using e
          rcases hat with h | h
          · exact hb.2 (by rw [h, e'])
          · omega⟩) (fun b hb hlt => keep b hlt (by have := hb.1; omega) hb.2) hss⟩
      · refine ⟨cv, rfl, ?_⟩
        have hs : RdConds wr (fun b => w2.heap.size + 1 ≤ b) cv cs := hown.sl fun _ h => h
        exact hs.keep (fun b hb hlt => ⟨by have : w2.heap.size + 1 ≤ b := hb; omega, fun e => by
          have e' : gg = b := by simpa [Value.ownBlock] using e
          have hb' : w2.heap.size + 1 ≤ b := hb
          rcases hat with h | h
          · have := (hpo gg h).2; omega
          · omega⟩) (fun b hb hlt => keep b hlt (by have : w2.heap.size + 1 ≤ b := hb; omega) (fun e => by have : w2.heap.size + 1 ≤ b := hb; have := (hpo b e).2; omega)) hss
      · have := ownsRow_keep1 (w' := w4.setCell ⟨w.heap.size + 4, 0, none⟩ (.slice (some ⟨gg, 0, none⟩) (rs.length + 1) cap)) hown4 (fun b hb _ _ => set_other (by show b ≠ w.heap.size + 4; omega))
        simpa using this }
end Go.Proofs.YtmokmmpomgjemaaDoor
