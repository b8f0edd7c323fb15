/- Texts laid one behind the other: Frame, Right. No condition beyond theirs. -/
import Derived.Test.YthkgjohhbdipcaaGreatDoorK2
import Derived.Test.YthkgjohhbdipcaaGreatDoorRows
import Derived.SizedLaws
import Derived.LaidMore
import Derived.Lay
import Derived.Lib.LaidU8
import Derived.Shelf.Vars
import Derived.ProofKit
import Derived.OpenShut
import Derived.Stop.Joined
import Derived.Test.YthkgjohhbdipcaaGreatDoorK1
set_option linter.all false
namespace Go.Proofs.YthkgjohhbdipcaaGreatDoor
open Go.ChangeShapes Go.WideShapes Go.ChangeAt Go.RowKit
variable {H : Type} {enc : TypeId × Value → H}
theorem law_wrap {a : Assume} {C : Checked} {os : Os} {f : FuncId} {fn : Func} {s : ChangeSpec} {conds : List PathCond} {apart fresh handsOn again : Bool} {X : World → Array Value → Prop}
  (hX : ∀ (w w' : World) (args : Array Value),w.heap = w'.heap → X w args → X w' args)
  (own : ownKnob C.prog.godebug = none) (started : os.Started) (noInit : C.prog.inits.idxOf? f = none) (hfn : C.prog.funcs[f]? = some fn)
  (witness : ∃ (w : World) (tape : Tape) (i : Input),w.os = os∧(w.forCall tape i).Shaped C.prog∧i.vars = []∧Input.okWide C.prog (w.forCall tape i) .any w.heap.size f i ∧
   ((s.pre enc C.prog fn conds apart (w.forCall tape i).memory i.args∧X (w.forCall tape i).memory i.args)∧sizedMet enc C.prog fn (OpenSpec.ofChange s) apart (w.forCall tape i).memory i.args)∧a.holds C.prog (lone (Frame.enter C.prog f i.args .normal) [] (w.forCall tape i)))
  (contract : ∀ (W : World) (base : Nat) (args : Array Value) (ds gs : List (DataW H)) (before : List MemPlace),
   (∀ (j : Nat) t v,fn.params[j]? = some t → args[j]? = some v → Value.okWide C.prog W .any base t v) →
   DataW.Whole enc C.prog fn.params.toList s.vars apart W args.toList ds gs before →
   (DataW.weightsEach C.prog (fn.params.toList ++ s.plain.varTypes C.prog) (ds ++ gs)).all (·≤reachBytes) = true → X W args → W.ShapedOpen C.prog →
   Calls C.prog f args W fun e W'=>∃ v,e = .returned v∧s.post enc C.prog fn apart fresh handsOn again W args v W') :
  ReturnsInHanded a C os f .any (fun w args=>(s.pre enc C.prog fn conds apart w args∧X w args)∧sizedMet enc C.prog fn (OpenSpec.ofChange s) apart w args) (s.post enc C.prog fn apart fresh handsOn again):=by
 refine returnsInHanded_of_calls own started noInit witness ?_
 intro w tape i _ hsh _ hok hpre _
 obtain ⟨_,_,_,fn',hfn',_,_,_,_,hval⟩:=hok
 have e : fn' = fn:=Option.some.inj (hfn'.symm.trans hfn)
 subst e
 obtain ⟨⟨⟨ds,gs,before,hw,_⟩,hx⟩,hz⟩:=hpre
 have hw':=DataW.Whole.of_heap (w':=w.forCall tape i) (by rfl) hw
 refine (contract (w.forCall tape i) w.heap.size i.args ds gs before hval hw' (hz.weights hw) (hX _ _ _ (by rfl) hx) hsh).mono fun e W' ⟨v,he,hp⟩=>?_
 subst he
 exact ChangeSpec.post_blind hp
theorem tabIs_of_reads {P : Program} {W : World} {name : String} {k : IntKind} {zs : List Int} {g : Nat} {t e : TypeId} {n : Nat}
  (hg : P.globalNamed name = some g) (hty : (P.globals[g]?).map (·.type) = some t) (ht : P.underlying t = some (.array n e)) (he : P.underlying e = some (.int k)) (hce : P.cellsOf e = 1) (hct : P.cellsOf t = n)
  (h : Lib.VarReads P W name (Lib.tabData k zs)) : Lib.TabIs P W name k zs:=by
 obtain ⟨g',t',cs,fuel,p,hg',ht',hvar,hd⟩:=h
 obtain rfl:=Option.some.inj (hg.symm.trans hg')
 obtain rfl:=Option.some.inj (hty.symm.trans ht')
 unfold Lib.TabIs
 rw [hvar,← Lib.cells_of_tab ht he hce hct hd]
theorem iface_of_reads {P : Program} {W : World} {name nm : String} {d : DataW Unit} {g : Nat} {t : TypeId} {ms : Array (String × TypeId)}
  (hg : P.globalNamed name = some g) (hty : (P.globals[g]?).map (·.type) = some t) (ht : P.underlying t = some (.interface ms))
  (h : Lib.VarReads P W name (.iface nm d)) : ∃ te pe,W.cell? ⟨g,0,none⟩ = some (.iface te pe):=by
 obtain ⟨g',t',cs,fuel,p,hg',ht',hvar,hd⟩:=h
 obtain rfl:=Option.some.inj (hg.symm.trans hg')
 obtain rfl:=Option.some.inj (hty.symm.trans ht')
 cases fuel with
 | zero=>simp [DataW.trod] at hd
 | succ fuel =>
  have : ∃ u v,cs.toList = [.iface u v]:=by
   cases hcs : cs.toList with
   | nil=>rw [hcs] at hd;simp [DataW.trod,ht] at hd
   | cons c r =>
    rw [hcs] at hd
    cases r with
    | cons _ _=>simp [DataW.trod,ht] at hd
    | nil=>cases c <;> first | exact ⟨_,_,rfl⟩ | simp [DataW.trod,ht] at hd
  obtain ⟨u,v,hcs⟩:=this
  refine ⟨u,v,?_⟩
  rw [World.var?_cell hg hvar 0,Array.eq_one_of_toList hcs]
  rfl
theorem laid_of {l : List (String × DataW Unit)} (hl : (l.all fun x=>x.2.handleName?.isNone) = true) (h1 : ("internal/strconv.uint64pow10",Rows.laid_internal_strconv_uint64pow10) ∈ l)
  (h2 : ("strconv.ErrRange",Rows.laid_strconv_ErrRange) ∈ l) (h3 : ("strconv.ErrSyntax",Rows.laid_strconv_ErrSyntax) ∈ l)
  {W : World} (hL : laidMetH Tryz.prog l W) (hsh : W.ShapedOpen Tryz.prog) : Laid W:=by
 rw [MakeChecks.laidMetH_plain _ _ _ hl] at hL
 exact {
  ml:=cell_of_shapedOpen_int (zero:=#[.int .i64 0]) hsh (by decide +kernel) (by kernel_rfl) (by kernel_rfl) (by kernel_rfl) (by kernel_rfl) Tryz.underlying3
  pow:=tabIs_of_reads (g:=3) (t:=242) (n:=20) (by kernel_rfl) (by kernel_rfl) Tryz.underlying242 Tryz.underlying200 (by kernel_rfl) (by kernel_rfl) (Lib.laidMet.reads hL h1)
  syn:=iface_of_reads (g:=4) (t:=149) (by kernel_rfl) (by kernel_rfl) Tryz.underlying149 (Lib.laidMet.reads hL h3)
  rng:=iface_of_reads (g:=5) (t:=149) (by kernel_rfl) (by kernel_rfl) Tryz.underlying149 (Lib.laidMet.reads hL h2) }
end Go.Proofs.YthkgjohhbdipcaaGreatDoor
namespace Go.Proofs.YthkgjohhbdipcaaGreatDoor
open Go.RowKit
attribute [local go_sem] gives givesUpon
theorem tmod_small (k n : Int) (hn : 0 < n) : -n < k.tmod n∧k.tmod n < n∧k % n = if k.tmod n < 0 then k.tmod n + n else k.tmod n:=by
 have h1:=Int.tmod_lt_of_pos k hn
 have h2 : -n < k.tmod n:=Int.lt_tmod_of_pos k hn
 refine ⟨h2,h1,?_⟩
 have he:=Int.emod_nonneg k (show n ≠ 0 by omega)
 have he2:=Int.emod_lt_of_pos k hn
 have hd:=Int.tmod_eq_emod (a:=k) (b:=n)
 split at hd <;> split <;> omega
set_option maxHeartbeats 1000000 in
theorem at_any (k n : Int) (w : World) (hn : 0 < n) (hb : n≤70000) : Calls Tryz.prog 46 #[.int .i64 k,.int .i64 n] w fun e w'=>e = .returned (.int .i64 (k % n))∧w = w':=by
 obtain ⟨h1,h2,h3⟩:=tmod_small k n hn
 have H3:=Lib.hid h3
 clear h3
 go_enter Tryz.func46,Tryz.ntmps46
 by_cases h4 : k.tmod n < 0
 ·go_wp2
  go_ret
  exact ⟨ret_int (by rw [H3.out,if_pos h4]),rfl⟩
 ·go_wp2
  go_ret
  exact ⟨ret_int (by rw [H3.out,if_neg (by omega)]),rfl⟩
def TCall.right (x : TCall) : TCall:=⟨x.a0 % 64,x.a1 % 4,x.a2 % 65536,x.a3 % 65536,x.a4 % 65536⟩
theorem TCall.right_ok (x : TCall) : x.right.ok:=by unfold TCall.ok TCall.right;dsimp only;omega
def rightTo (x : TCall) (k : Nat) : Array Value :=
 #[.int .i64 (if 0 < k then x.a0 % 64 else x.a0),.int .i64 (if 1 < k then x.a1 % 4 else x.a1),.int .i64 (if 2 < k then x.a2 % 65536 else x.a2),.int .i64 (if 3 < k then x.a3 % 65536 else x.a3),.int .i64 (if 4 < k then x.a4 % 65536 else x.a4)]
theorem rightTo_get (x : TCall) (k : Nat) (h : k < 5) : (rightTo x k)[k]? = some (.int .i64 (x.get k)):=by
 have hk : k = 0 ∨ k = 1 ∨ k = 2 ∨ k = 3 ∨ k = 4:=by omega
 rcases hk with rfl | rfl | rfl | rfl | rfl <;> rfl
theorem rightTo_set (x : TCall) (k : Nat) (h : k < 5) : (rightTo x k).setIfInBounds k (.int .i64 (x.get k % (mostOf k + 1))) = rightTo x (k + 1):=by
 have hk : k = 0 ∨ k = 1 ∨ k = 2 ∨ k = 3 ∨ k = 4:=by omega
 rcases hk with rfl | rfl | rfl | rfl | rfl <;> rfl
structure OneBlk (w0 : World) (b : Nat) (T : TypeId) (cs : Array Value) (W : World) : Prop where
 grown : w0.grownBy W (some b)
 here : W.heap[b]? = some (.cells cs T (0,0))
theorem OneBlk.lt {w0 W : World} {b : Nat} {T : TypeId} {cs : Array Value} (h : OneBlk w0 b T cs W) : b < W.heap.size:=(Array.getElem?_eq_some_iff.1 h.here).1
theorem OneBlk.below {w0 W W' : World} {b : Nat} {T : TypeId} {cs : Array Value} (h : OneBlk w0 b T cs W) (hb : Below W.heap.size W W') : OneBlk w0 b T cs W' :=
 ⟨⟨hb.os.trans h.grown.os,hb.tape.trans h.grown.tape,hb.output.trans h.grown.output,Nat.le_trans h.grown.size hb.size,fun i hi hn=>(hb.block i (Nat.lt_of_lt_of_le hi h.grown.size)).trans (h.grown.block i hi hn)⟩,(hb.block b h.lt).trans h.here⟩
theorem OneBlk.cell {w0 W : World} {b : Nat} {T : TypeId} {cs : Array Value} (h : OneBlk w0 b T cs W) (k : Nat) : W.cell? ⟨b,k,none⟩ = cs[k]?:=by simp [World.cell?,h.here]
theorem OneBlk.frozen {w0 W : World} {b : Nat} {T : TypeId} {cs : Array Value} (h : OneBlk w0 b T cs W) (k : Nat) : W.frozen? ⟨b,k,none⟩ = false:=by simp [World.frozen?,h.here]
theorem OneBlk.set {w0 W : World} {b : Nat} {T : TypeId} {cs : Array Value} (h : OneBlk w0 b T cs W) (k : Nat) (v : Value) : OneBlk w0 b T (cs.setIfInBounds k v) (W.setCell ⟨b,k,none⟩ v):=by
 refine ⟨⟨h.grown.os,h.grown.tape,h.grown.output,by simpa [World.setCell] using h.grown.size,fun i hi hn=>?_⟩,?_⟩
 ·rw [Below.heap_setCell _ _ _ _ (fun e=>hn (by rw [e]))]
  exact h.grown.block i hi hn
 ·simp [World.setCell,Array.getElem?_modify,h.here]
theorem OneBlk.toBelow {w0 W : World} {b B : Nat} {T : TypeId} {cs : Array Value} (h : OneBlk w0 b T cs W) (hB : B≤b) (hB' : B≤w0.heap.size) : Below B w0 W :=
 ⟨h.grown.os,h.grown.tape,h.grown.output,h.grown.size,fun k hk=>h.grown.block k (by omega) (by simp;omega)⟩
set_option maxHeartbeats 1000000 in
theorem right_any (x : TCall) (w : World) : Calls Tryz.prog 48 #[callV x] w fun e w'=>e = .returned (callV x.right)∧Below w.heap.size w w':=by
 go_enter Tryz.func48,Tryz.ntmps48
 go_wp2_with fail
 go_loopw [4] (fun i wr=>∃ k : Nat,k≤5∧i = .int .i64 k∧OneBlk ((w.alloc (.cells #[.int .i64 x.a0,.int .i64 x.a1,.int .i64 x.a2,.int .i64 x.a3,.int .i64 x.a4] 46)).alloc (.cells #[.int .i64 0,.int .i64 0,.int .i64 0,.int .i64 0,.int .i64 0] 46)) w.heap.size 46 (rightTo x k) wr) (fun i _=>5 - (intOf i).toNat)
 case atStart=>exact ⟨0,by omega,rfl,⟨rfl,rfl,rfl,Nat.le_refl _,fun _ _ _=>rfl⟩,blk_old (blk_at rfl)⟩
 case round =>
  obtain ⟨k,hk,rfl,hO⟩:=hrel
  have HO:=Lib.hid hO
  have hlt0:=hO.lt
  clear hO
  by_cases hlt : k < 5
  ·have hm0 : 0 < mostOf k + 1∧mostOf k + 1≤70000:=by unfold mostOf;split <;> (try split) <;> omega
   have hwr : IntKind.i64.wrap (mostOf k + 1) = mostOf k + 1:=IntWalk.i64_in _ (by omega)
   have hgk:=rightTo_get x k hlt
   have Hset:=Lib.hid (rightTo_set x k hlt)
   go_wp2_with fail
   refine wp_region_stores (fun done W=>OneBlk wr w.heap.size 46 (if done 9 then rightTo x (k + 1) else rightTo x k) W) (by kernel_rfl) (by kernel_rfl) ⟨⟨rfl,rfl,rfl,Nat.le_refl _,fun _ _ _=>rfl⟩,HO.out.here⟩ _ rfl ?_
   (refine doneE_step (fun K hK=>?_);apply Exists.intro;refine ⟨fun done W hI h0 hd hn R hR=>?_,?_⟩;(go_simp;refine hR _ _ ?_ rfl;simpa [updDone] using hI);(go_simp;refine hK _ ?_;clear hK K))
   (refine doneE_step (fun K hK=>?_);apply Exists.intro;refine ⟨fun done W hI h0 hd hn R hR=>?_,?_⟩;(go_simp;refine hR _ _ ?_ rfl;simpa [updDone] using hI);(go_simp;refine hK _ ?_;clear hK K))
   (refine doneE_step (fun K hK=>?_);apply Exists.intro;refine ⟨fun done W hI h0 hd hn R hR=>?_,?_⟩;(go_simp;refine hR _ _ ?_ rfl;simpa [updDone] using hI);(go_simp;refine hK _ ?_;clear hK K))
   (refine doneE_step (fun K hK=>?_);apply Exists.intro;refine ⟨fun done W hI h0 hd hn R hR=>?_,?_⟩;(have h9 : done 9 = false:=hn 9 (by decide);have hI' : OneBlk wr w.heap.size 46 (rightTo x k) W:=(by simpa [h9] using hI);have hc:=(hI'.cell k).trans hgk;clear hI h0 hd hn;go_simp;refine hR _ _ ?_ rfl;simpa [updDone,h9] using hI');(go_simp;refine hK _ ?_;clear hK K))
   (refine doneE_step (fun K hK=>?_);apply Exists.intro;refine ⟨fun done W hI h0 hd hn R hR=>?_,?_⟩;(go_simp;refine hR _ _ ?_ rfl;simpa [updDone] using hI);(go_simp;refine hK _ ?_;clear hK K))
   (refine doneE_step (fun K hK=>?_);apply Exists.intro;refine ⟨fun done W hI h0 hd hn R hR=>?_,?_⟩;(go_simp;go_at_call 62;refine (mostof_any _ _).mono ?_;rintro e w1 ⟨rfl,hb1⟩;refine ⟨_,rfl,hR _ _ ?_ rfl⟩;simpa [updDone] using hI.below hb1);(go_simp;refine hK _ ?_;clear hK K))
   (refine doneE_step (fun K hK=>?_);apply Exists.intro;refine ⟨fun done W hI h0 hd hn R hR=>?_,?_⟩;(go_simp;refine hR _ _ ?_ rfl;simpa [updDone] using hI);(go_simp;refine hK _ ?_;clear hK K))
   (refine doneE_step (fun K hK=>?_);apply Exists.intro;refine ⟨fun done W hI h0 hd hn R hR=>?_,?_⟩;(go_simp;go_at_call 46;(with_reducible refine (at_any _ _ _ hm0.1 hm0.2).mono ?_);rintro e w1 ⟨rfl,rfl⟩;refine ⟨_,rfl,hR _ _ ?_ rfl⟩;simpa [updDone] using hI);(go_simp;refine hK _ ?_;clear hK K))
   (refine doneE_step (fun K hK=>?_);apply Exists.intro;refine ⟨fun done W hI h0 hd hn R hR=>?_,?_⟩;(go_simp;refine hR _ _ ?_ rfl;simpa [updDone] using hI);(go_simp;refine hK _ ?_;clear hK K))
   (refine doneE_step (fun K hK=>?_);apply Exists.intro;refine ⟨fun done W hI h0 hd hn R hR=>?_,?_⟩;(have hI' : OneBlk wr w.heap.size 46 (rightTo x k) W:=(by simpa [h0] using hI);have hc:=(hI'.cell k).trans hgk;have hf:=hI'.frozen k;have hs:=hI'.set k (.int .i64 (x.get k % (mostOf k + 1)));rw [Hset.out] at hs;clear hI h0 hd hn;go_simp;refine hR _ _ ?_ rfl;simpa [updDone] using hs);(go_simp;refine hK _ ?_;clear hK K))
   intro done W hdone hI
   have h9 : done 9 = true:=hdone 9 (by decide)
   have hI' : OneBlk wr w.heap.size 46 (rightTo x (k + 1)) W:=by simpa [h9] using hI
   clear hI hdone
   have HI:=Lib.hid hI'
   clear hI'
   go_wp2
   go_roundw
   case rel=>exact ⟨k + 1,by omega,by go_num,⟨⟨HI.out.grown.os.trans HO.out.grown.os,HI.out.grown.tape.trans HO.out.grown.tape,HI.out.grown.output.trans HO.out.grown.output,Nat.le_trans HO.out.grown.size HI.out.grown.size,fun i hi hn=>(HI.out.grown.block i (Nat.lt_of_lt_of_le hi HO.out.grown.size) hn).trans (HO.out.grown.block i hi hn)⟩,HI.out.here⟩⟩
   case measure=>simp [intOf];omega
  ·obtain rfl : k = 5:=by omega
   have hcell:=HO.out.cell
   have h2 : wr.heap[w.heap.size + 1]? = some (.cells #[.int .i64 0,.int .i64 0,.int .i64 0,.int .i64 0,.int .i64 0] 46 (0,0)) :=
    (HO.out.grown.block (w.heap.size + 1) (by simp) (by simp)).trans (blk_at (by simp))
   have hc2 : ∀ j,wr.cell? ⟨w.heap.size + 1,j,none⟩ = (#[Value.int .i64 0,.int .i64 0,.int .i64 0,.int .i64 0,.int .i64 0] : Array Value)[j]?:=fun j=>by simp [World.cell?,h2]
   have hf2 : ∀ j,wr.frozen? ⟨w.heap.size + 1,j,none⟩ = false:=fun j=>by simp [World.frozen?,h2]
   clear h2
   unfold rightTo at hcell
   have hb : Below w.heap.size w wr:=(bel_alloc (bel_alloc (Below.refl _ _) _) _).trans (HO.out.toBelow (Nat.le_refl _) (by simp;omega))
   have Hb:=Lib.hid hb
   clear hb
   go_wp2
   exact bodyPost_ret (v:=callV x.right) (by simp [results,Tryz.results48,go_sem,hc2];exact ⟨rfl,rfl,rfl,rfl,rfl⟩) rfl ⟨rfl,((((Hb.out.setCell (by simp) _).setCell (by simp) _).setCell (by simp) _).setCell (by simp) _).setCell (by simp) _⟩
end Go.Proofs.YthkgjohhbdipcaaGreatDoor
