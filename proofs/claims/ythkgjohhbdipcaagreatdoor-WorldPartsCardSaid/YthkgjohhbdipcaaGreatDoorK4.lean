/- Texts laid one behind the other: NoteSpec, RegB, NPrint, ReadLib, CutC, ShelfMore, IndexAny, WordIdx, Number, Rel. No condition beyond theirs. -/
import Derived.Test.YthkgjohhbdipcaaGreatDoorK3
import Derived.Test.YthkgjohhbdipcaaGreatDoorK2
import Derived.Test.YthkgjohhbdipcaaGreatDoorK1
import Derived.Lib.SplitLaws
import Derived.Shelf.Strings.Builder1
import Derived.Shelf.Small.Utf8
import Derived.Shelf.Small.Bits
import Derived.Shelf.Small.Strs
import Derived.Shelf.Small.Wraps
import Derived.Shelf.Utf8.RuneCount
import Derived.Shelf.Strconv.Atoi
import Derived.Shelf.Strconv.Itoa0
import Derived.Shelf.Strconv.Itoa1
import Derived.Shelf.LaysM
import Derived.Shelf.Strconv.Itoa2
import Derived.Shelf.Strconv.Itoa3
import Derived.Shelf.Strconv.Itoa4
import Derived.Shelf.Strconv.AtoiErrFast
import Derived.Shelf.Strconv.ParseIntEmpty
import Derived.Shelf.Strconv.AtoiFail
import Derived.Shelf.Strconv.Clone
import Derived.Shelf.Strconv.SyntaxError
import Derived.Shelf.LaysC
import Derived.Shelf.Strconv.ToError
import Derived.Shelf.Strconv.Lower
import Derived.Shelf.Strconv.ParseUint10
import Derived.Shelf.Strconv.ParseUint10Empty
import Derived.Shelf.Strconv.ParseUint10Any
import Derived.Shelf.Strconv.ParseInt10
import Derived.Shelf.Strconv.AtoiLong
import Derived.Shelf.Strconv.AtoiInnerAll
import Derived.Shelf.Strconv.RangeError
import Derived.Shelf.Strconv.ToErrorRange
import Derived.Shelf.Strconv.AtoiAll
import Derived.Shelf.Strconv.ParseUintEmpty
import Derived.Shelf.Strconv.ParseUint10b64
import Derived.Shelf.Strconv.ParseUint10b32
import Derived.Shelf.Strconv.ParseUint10b16
import Derived.Shelf.Strconv.ParseUint10b8
import Derived.Shelf.Strconv.ParseUint10At
import Derived.Shelf.Strconv.ParseInt10At64
import Derived.Shelf.Strconv.ParseInt10At32
import Derived.Shelf.Strconv.ParseInt10At16
import Derived.Shelf.Strconv.ParseInt10At8
import Derived.Shelf.Strconv.ParseInt10All
import Derived.Shelf.Strconv.ParseIntPublic10
import Derived.Shelf.Strconv.ErrVarParseInt
import Derived.Shelf.Strings.Search1
import Derived.Shelf.Strings.Search2
import Derived.Shelf.Strings.Search3
import Derived.Shelf.Strings.Cut
import Derived.Shelf.Strings.Count
import Derived.Shelf.Strings.Shaped
import Derived.Shelf.Sort.Plain
import Derived.Shelf.Strings.Prefix
import Derived.Shelf.Strings.Split
import Derived.Shelf.Strings.Fields
import Derived.Shelf.Strings.SplitShaped
import Derived.Shelf.Unicode.Latin
import Derived.Shelf.Unicode.Decode
import Derived.Shelf.Strings.Runes
import Derived.Shelf.Strings.RuneCount
import Derived.Shelf.Strings.IndexAny
import Derived.Shelf.Strings.AsciiSet
import Derived.Shelf.Strings.IndexAnyAll
import Derived.Shelf.Strings.Explode
import Derived.Shelf.Unicode.DecodeSlow
import Derived.Shelf.Unicode.DecodeAny
import Derived.Shelf.Unicode.Is16White
import Derived.Shelf.Unicode.IsSpaceAny
import Derived.Shelf.Unicode.Is16Any
import Derived.Shelf.Unicode.Is32Any
import Derived.Shelf.Unicode.ExclAny
import Derived.Shelf.Slices.Turned
import Derived.Ground.Names2Prog
import Derived.Shelf.Slices.CompactI
import Derived.Shelf.Slices.SearchI
import Derived.Shelf.Slices.Cells
import Derived.Shelf.Slices.In.SortNone
import Derived.Test.YthkgjohhbdipcaaGreatDoorProg
import Derived.Lib.OthersKept
import Derived.Lib.MapLaws
import Derived.Lib.TrimUEq
import Derived.Lib.IndexAny
import Derived.Deep.LoopGhost
import Derived.Stop.FmtQuoteTie
import Derived.KernelRfl
import Derived.Laws.Runes
import Derived.WalkMore
import Derived.Lib.ParseIntBTie
set_option linter.all false
namespace Go.Proofs.YthkgjohhbdipcaaGreatDoor
def kindW (k : Int) : List UInt8:=if k = 1 then [111,112,101,110] else if k = 2 then [116,105,103,104,116] else if k = 3 then [102,111,114,107] else [115,104,117,116]
def kindOf (l : List UInt8) : Int:=if l = [111,112,101,110] then 1 else if l = [116,105,103,104,116] then 2 else if l = [102,111,114,107] then 3 else if l = [115,104,117,116] then 4 else 0
def zeroRec : TRec:=⟨0,0,0,zeroPol⟩
def tailW (r : TRec) : List UInt8:=if r.kind = 3 then 32 :: Lib.itoa r.from_ else if r.kind = 4 then [] else 32 :: textP r.p
def recW (r : TRec) : List UInt8:=kindW r.kind ++ 32 :: (Lib.itoa r.cell ++ tailW r)
def checkedRec (r : TRec) : TRec × Int:=if recE r = 0 then (r,0) else (zeroRec,recE r)
def readGo (k : Int) (u : List UInt8 × List UInt8 × Bool) : TRec × Int :=
 if k = 0 ∨ (wholeS u.1).2 = false ∨ u.2.2 ≠ decide (k ≠ 4) then (zeroRec,1)
 else if k = 3 then (if (wholeS u.2.1).2 then checkedRec ⟨3,(wholeS u.1).1,(wholeS u.2.1).1,zeroPol⟩ else (zeroRec,1))
 else if k = 4 then checkedRec ⟨4,(wholeS u.1).1,0,zeroPol⟩
 else if (readP u.2.1).2 ≠ 0 then (zeroRec,(readP u.2.1).2) else checkedRec ⟨k,(wholeS u.1).1,0,(readP u.2.1).1⟩
def readRec (s : List UInt8) : TRec × Int:=readGo (kindOf (Lib.cut s [32]).1) (Lib.cut (Lib.cut s [32]).2.1 [32])
theorem cut_cases (s : List UInt8) (c : UInt8) : (c ∉ s∧Lib.cut s [c] = (s,[],false)) ∨ ∃ a r,s = a ++ c :: r∧c ∉ a∧Lib.cut s [c] = (a,r,true):=by
 by_cases h : c ∈ s
 ·obtain ⟨a,r,rfl,ha⟩:=List.eq_append_cons_of_mem h
  exact .inr ⟨a,r,rfl,ha,cut_app ha⟩
 ·exact .inl ⟨h,cut_none h⟩
theorem kindW_plain (k : Int) : ∀ b ∈ kindW k,plainB b = true:=by
 intro b hb
 unfold kindW at hb
 split at hb
 ·simp at hb;rcases hb with rfl | rfl | rfl | rfl <;> decide
 ·split at hb
  ·simp at hb;rcases hb with rfl | rfl | rfl | rfl | rfl <;> decide
  ·split at hb
   ·simp at hb;rcases hb with rfl | rfl | rfl | rfl <;> decide
   ·simp at hb;rcases hb with rfl | rfl | rfl | rfl <;> decide
theorem kindOf_W {k : Int} (h0 : 1≤k) (h1 : k≤4) : kindOf (kindW k) = k:=by
 have : k = 1 ∨ k = 2 ∨ k = 3 ∨ k = 4:=by omega
 rcases this with rfl | rfl | rfl | rfl <;> decide
theorem kindW_of {l : List UInt8} (h : kindOf l ≠ 0) : kindW (kindOf l) = l∧1≤kindOf l∧kindOf l≤4:=by
 unfold kindOf at h ⊢
 split
 ·rename_i e;subst e;exact ⟨by decide,by decide,by decide⟩
 ·split
  ·rename_i e;subst e;exact ⟨by decide,by decide,by decide⟩
  ·split
   ·rename_i e;subst e;exact ⟨by decide,by decide,by decide⟩
   ·split
    ·rename_i e;subst e;exact ⟨by decide,by decide,by decide⟩
    ·rename_i h1 h2 h3 h4
     rw [if_neg h1,if_neg h2,if_neg h3,if_neg h4] at h
     exact absurd rfl h
theorem itoa_no {v : Int} (h0 : 0≤v) {b : UInt8} (hb : b.toNat < 48 ∨ 57 < b.toNat) : b ∉ Lib.itoa v:=by
 intro hm
 have:=(itoa_digits h0).1 b hm;omega
theorem noPol_zero {p : TPol} (h : noPol p) : p = zeroPol:=by
 obtain ⟨l,d⟩:=p
 obtain ⟨h1,h2⟩:=h
 dsimp only at h1 h2
 subst h1 h2;rfl
theorem cut_rec {r : TRec} (h : recE r = 0) : Lib.cut (recW r) [32] = (kindW r.kind,Lib.itoa r.cell ++ tailW r,true)∧Lib.cut (Lib.itoa r.cell ++ tailW r) [32] = (Lib.itoa r.cell,(tailW r).drop 1,decide (r.kind ≠ 4)):=by
 obtain ⟨k0,k1,c0,c1,f0,f1,e1,e2,e3⟩:=recE_ok h
 refine ⟨cut_app (plain_ne (kindW_plain _) (by decide)),?_⟩
 have hn : (32 : UInt8) ∉ Lib.itoa r.cell:=itoa_no c0 (by decide)
 by_cases h4 : r.kind = 4
 ·unfold tailW
  rw [if_neg (by omega),if_pos h4,List.append_nil,cut_none hn]
  simp [h4]
 ·have hd : decide (r.kind ≠ 4) = true:=by simpa using h4
  rw [hd]
  by_cases h3 : r.kind = 3
  ·unfold tailW
   rw [if_pos h3,cut_app hn];rfl
  ·unfold tailW
   rw [if_neg h3,if_neg h4,cut_app hn];rfl
theorem recW_read {r : TRec} (h : recE r = 0) : readRec (recW r) = (r,0):=by
 obtain ⟨h1,h2⟩:=cut_rec h
 obtain ⟨k0,k1,c0,c1,f0,f1,e1,e2,e3⟩:=recE_ok h
 unfold readRec
 rw [h1]
 dsimp only
 rw [h2,kindOf_W k0 k1]
 unfold readGo
 dsimp only
 have hw:=whole_itoa c0 (show r.cell≤65535 by omega)
 rw [hw]
 rw [if_neg (by simp;omega)]
 have hk : ∀ r',r' = r → checkedRec r' = (r,0):=by rintro r' rfl;unfold checkedRec;rw [if_pos h]
 by_cases h3 : r.kind = 3
 ·have ht : (tailW r).drop 1 = Lib.itoa r.from_:=by unfold tailW;rw [if_pos h3];rfl
  rw [if_pos h3,ht,whole_itoa f0 (by omega)]
  dsimp only
  rw [if_pos rfl]
  refine hk _ ?_
  obtain ⟨a,b,c,d⟩:=r
  dsimp only at *
  rw [noPol_zero (e2 (by omega)),h3]
 ·by_cases h4 : r.kind = 4
  ·rw [if_neg h3,if_pos h4]
   refine hk _ ?_
   obtain ⟨a,b,c,d⟩:=r
   dsimp only at *
   rw [noPol_zero (e2 (by omega)),h4,e1 h3]
  ·have ht : (tailW r).drop 1 = textP r.p:=by unfold tailW;rw [if_neg h3,if_neg h4];rfl
   rw [if_neg h3,if_neg h4,ht,print_read (e3 (by omega))]
   dsimp only
   rw [if_neg (by simp)]
   refine hk _ ?_
   obtain ⟨a,b,c,d⟩:=r
   dsimp only at *
   rw [e1 h3]
theorem checkedRec_ok {r r' : TRec} (h : checkedRec r' = (r,0)) : r' = r∧recE r = 0:=by
 unfold checkedRec at h
 split at h
 ·rename_i h0
  simp only [Prod.mk.injEq,and_true] at h
  subst h;exact ⟨rfl,h0⟩
 ·rename_i h0
  simp only [Prod.mk.injEq] at h
  exact absurd h.2 h0
theorem read_recW {s : List UInt8} {r : TRec} (h : readRec s = (r,0)) : recE r = 0∧recW r = s:=by
 unfold readRec readGo at h
 split at h
 ·simp at h
 ·rename_i hbad
  have hk : kindOf (Lib.cut s [32]).1 ≠ 0:=fun e=>hbad (.inl e)
  have hw : (wholeS (Lib.cut (Lib.cut s [32]).2.1 [32]).1).2 = true:=by
   cases hx : (wholeS (Lib.cut (Lib.cut s [32]).2.1 [32]).1).2 with
   | true=>rfl
   | false=>exact absurd (.inr (.inl hx)) hbad
  have hm : (Lib.cut (Lib.cut s [32]).2.1 [32]).2.2 = decide (kindOf (Lib.cut s [32]).1 ≠ 4):=by
   by_cases hx : (Lib.cut (Lib.cut s [32]).2.1 [32]).2.2 = decide (kindOf (Lib.cut s [32]).1 ≠ 4)
   ·exact hx
   ·exact absurd (.inr (.inr hx)) hbad
  clear hbad
  obtain ⟨hkw,hk1,hk2⟩:=kindW_of hk
  rcases cut_cases s 32 with ⟨_,hc⟩ | ⟨a,t,rfl,ha,hc⟩
  ·rw [hc] at hw
   have : (wholeS (Lib.cut ([] : List UInt8) [32]).1).2 = false:=by decide
   rw [this] at hw;cases hw
  rw [hc] at h hk hw hm hkw hk1 hk2
  dsimp only at h hk hw hm hkw hk1 hk2
  generalize hK : kindOf a = k at h hk hm hkw hk1 hk2
  rcases cut_cases t 32 with ⟨_,hc2⟩ | ⟨b,t2,rfl,hb,hc2⟩
  ·rw [hc2] at h hw hm
   dsimp only at h hw hm
   have h4 : k = 4:=by
    have:=of_decide_eq_false hm.symm
    omega
   rw [if_neg (by omega),if_pos h4] at h
   obtain ⟨h1,h2⟩:=checkedRec_ok h
   refine ⟨h2,?_⟩
   rw [← h1]
   unfold recW tailW
   dsimp only
   rw [if_neg (by omega),if_pos rfl,List.append_nil,← whole_some hw,← h4,hkw]
  ·rw [hc2] at h hw hm
   dsimp only at h hw hm
   have h4 : k ≠ 4:=of_decide_eq_true hm.symm
   by_cases h3 : k = 3
   ·rw [if_pos h3] at h
    split at h
    ·rename_i hw2
     obtain ⟨h1,h2⟩:=checkedRec_ok h
     refine ⟨h2,?_⟩
     rw [← h1]
     unfold recW tailW
     dsimp only
     rw [if_pos rfl,← whole_some hw,← whole_some hw2,← h3,hkw]
    ·simp at h
   ·rw [if_neg h3,if_neg h4] at h
    split at h
    ·rename_i he
     simp only [Prod.mk.injEq] at h
     exact absurd h.2 he
    ·rename_i he
     obtain ⟨h1,h2⟩:=checkedRec_ok h
     refine ⟨h2,?_⟩
     have hp : readP t2 = ((readP t2).1,0):=by
      have : (readP t2).2 = 0:=by simpa using he
      rw [← this]
     rw [← h1]
     unfold recW tailW
     dsimp only
     rw [if_neg h3,if_neg h4,← whole_some hw,(read_print hp).2,hkw]
theorem text_no10 {p : TPol} (h : OkPol p) : (10 : UInt8) ∉ textP p:=by
 unfold textP
 intro hm
 rcases List.mem_append.1 hm with hm | hm
 ·obtain ⟨r,hr,hm⟩:=List.mem_flatMap.1 hm
  have ok:=h.rules r hr
  rcases List.mem_append.1 hm with hm | hm
  ·unfold ruleW at hm
   rcases List.mem_append.1 hm with hm | hm
   ·exact plain_ne (verdictW_plain _) (by decide) hm
   ·obtain ⟨c,hc,hm⟩:=List.mem_flatMap.1 hm
    rcases List.mem_cons.1 hm with hm | hm
    ·exact absurd hm (by decide)
    ·exact condW_no (ok.conds c hc).v0 (by decide) (by decide) (by decide) (by decide) (by decide) (by decide) hm
  ·exact absurd hm (by decide)
 ·exact plain_ne (verdictW_plain _) (by decide) hm
theorem rec_no10 {r : TRec} (h : recE r = 0) : (10 : UInt8) ∉ recW r:=by
 obtain ⟨k0,k1,c0,c1,f0,f1,e1,e2,e3⟩:=recE_ok h
 intro hm
 unfold recW at hm
 rcases List.mem_append.1 hm with hm | hm
 ·exact plain_ne (kindW_plain _) (by decide) hm
 ·rcases List.mem_cons.1 hm with hm | hm
  ·exact absurd hm (by decide)
  ·rcases List.mem_append.1 hm with hm | hm
   ·exact itoa_no c0 (by decide) hm
   ·unfold tailW at hm
    split at hm
    ·rcases List.mem_cons.1 hm with hm | hm
     ·exact absurd hm (by decide)
     ·exact itoa_no f0 (by decide) hm
    ·split at hm
     ·cases hm
     ·rcases List.mem_cons.1 hm with hm | hm
      ·exact absurd hm (by decide)
      ·exact text_no10 (e3 (by omega)) hm
def lineW (r : TRec) : List UInt8:=recW r ++ [10]
def logW (l : List TRec) : List UInt8:=l.flatMap lineW
def linesF : Nat → List UInt8 → Nat → List TRec × Nat × Int
 | 0,_,_=>([],0,0)
 | n + 1,s,most=>if s = [] then ([],0,0) else if (Lib.cut s [10]).2.2 = false then ([],0,8) else
   if (readRec (Lib.cut s [10]).1).2 ≠ 0 then ([],0,(readRec (Lib.cut s [10]).1).2) else if most = 0 then ([],0,2) else
    ((readRec (Lib.cut s [10]).1).1 :: (linesF n (Lib.cut s [10]).2.1 (most - 1)).1,(Lib.cut s [10]).1.length + 1 + (linesF n (Lib.cut s [10]).2.1 (most - 1)).2.1,(linesF n (Lib.cut s [10]).2.1 (most - 1)).2.2)
def linesOf (s : List UInt8) (most : Nat) : List TRec × Nat × Int:=linesF s.length s most
theorem linesF_fuel : ∀ (n m : Nat) (s : List UInt8) (most : Nat),s.length≤n → s.length≤m → linesF n s most = linesF m s most
 | 0,0,_,_,_,_=>rfl
 | 0,m + 1,s,most,h,_=>by
  obtain rfl : s = []:=List.length_eq_zero_iff.1 (by omega)
  simp [linesF]
 | n + 1,0,s,most,_,h=>by
  obtain rfl : s = []:=List.length_eq_zero_iff.1 (by omega)
  simp [linesF]
 | n + 1,m + 1,s,most,h1,h2=>by
  unfold linesF
  rcases cut_cases s 10 with ⟨_,hc⟩ | ⟨a,t,rfl,ha,hc⟩
  ·rw [hc];simp
  ·rw [hc]
   dsimp only
   simp only [List.length_append,List.length_cons] at h1 h2
   rw [linesF_fuel n m t (most - 1) (by omega) (by omega)]
theorem lines_nil (most : Nat) : linesOf [] most = ([],0,0):=rfl
theorem lines_torn {s : List UInt8} (h : (10 : UInt8) ∉ s) (h0 : s ≠ []) (most : Nat) : linesOf s most = ([],0,8):=by
 unfold linesOf
 cases s with
 | nil=>exact absurd rfl h0
 | cons b s =>
  show linesF (s.length + 1) _ _ = _
  unfold linesF
  rw [cut_none h];simp
theorem lines_cons {a t : List UInt8} (ha : (10 : UInt8) ∉ a) (most : Nat) : linesOf (a ++ 10 :: t) most = if (readRec a).2 ≠ 0 then ([],0,(readRec a).2) else if most = 0 then ([],0,2) else
  ((readRec a).1 :: (linesOf t (most - 1)).1,a.length + 1 + (linesOf t (most - 1)).2.1,(linesOf t (most - 1)).2.2):=by
 have hl : (a ++ 10 :: t).length = (a.length + t.length) + 1:=by simp;omega
 unfold linesOf
 rw [hl]
 conv=>lhs;unfold linesF
 rw [cut_app ha]
 dsimp only
 rw [if_neg (by simp),if_neg (by simp),linesF_fuel (a.length + t.length) t.length t (most - 1) (by omega) (Nat.le_refl _)]
theorem lines_log : ∀ (l : List TRec) (t : List UInt8) (most : Nat),(∀ r ∈ l,recE r = 0) → l.length≤most → linesOf (logW l ++ t) most = (l ++ (linesOf t (most - l.length)).1,(logW l).length + (linesOf t (most - l.length)).2.1,(linesOf t (most - l.length)).2.2)
 | [],t,most,_,_=>by simp [logW]
 | r :: l,t,most,h,hm=>by
  have h0:=h r (List.mem_cons_self ..)
  have e : logW (r :: l) ++ t = recW r ++ 10 :: (logW l ++ t):=by simp [logW,lineW]
  simp only [List.length_cons] at hm
  rw [e,lines_cons (rec_no10 h0),recW_read h0,if_neg (by simp),if_neg (by omega),lines_log l t (most - 1) (fun x hx=>h x (List.mem_cons_of_mem _ hx)) (by omega)]
  have e2 : most - 1 - l.length = most - (l.length + 1):=by omega
  simp only [List.length_cons,e2]
  refine Prod.ext rfl (Prod.ext ?_ rfl)
  simp [logW,lineW];omega
theorem lines_back : ∀ (n : Nat) (s : List UInt8) (most : Nat),s.length≤n → (∀ r ∈ (linesOf s most).1,recE r = 0)∧(linesOf s most).1.length≤most∧∃ t,s = logW (linesOf s most).1 ++ t∧(linesOf s most).2.1 = (logW (linesOf s most).1).length∧((linesOf s most).2.2 = 0 → t = [])
 | n,s,most,hn=>by
  rcases cut_cases s 10 with ⟨hs,_⟩ | ⟨a,t,rfl,ha,hc⟩
  ·by_cases h0 : s = []
   ·subst h0;rw [lines_nil];simp [logW]
   ·rw [lines_torn hs h0];simp [logW]
  ·cases n with
   | zero=>simp at hn
   | succ n =>
   simp only [List.length_append,List.length_cons] at hn
   obtain ⟨i1,i2,t2,i3,i4,i5⟩:=lines_back n t (most - 1) (by omega)
   rw [lines_cons ha]
   split
   ·rename_i he
    refine ⟨by simp,by simp,_,by simp [logW];rfl,by simp [logW],fun h=>absurd h he⟩
   ·rename_i he
    split
    ·refine ⟨by simp,by simp,_,by simp [logW];rfl,by simp [logW],fun h=>by simp at h⟩
    ·rename_i hm
     have hr : readRec a = ((readRec a).1,0):=by
      have : (readRec a).2 = 0:=by simpa using he
      rw [← this]
     obtain ⟨r1,r2⟩:=read_recW hr
     refine ⟨fun r hr'=>?_,by simp;omega,t2,?_,?_,i5⟩
     ·rcases List.mem_cons.1 hr' with rfl | hr'
      ·exact r1
      ·exact i1 r hr'
     ·have e : logW ((readRec a).1 :: (linesOf t (most - 1)).1) ++ t2 = a ++ 10 :: (logW (linesOf t (most - 1)).1 ++ t2):=by simp [logW,lineW,r2]
      dsimp only
      rw [e,← i3]
     ·dsimp only
      rw [i4]
      simp [logW,lineW,r2];omega
theorem linesOf_spec (s : List UInt8) (most : Nat) : (∀ r ∈ (linesOf s most).1,recE r = 0)∧(linesOf s most).1.length≤most∧∃ t,s = logW (linesOf s most).1 ++ t∧(linesOf s most).2.1 = (logW (linesOf s most).1).length∧((linesOf s most).2.2 = 0 → t = []):=lines_back _ s most (Nat.le_refl _)
theorem lines_take : ∀ (l : List TRec) (n most : Nat),(∀ r ∈ l,recE r = 0) → l.length≤most → ∃ k,k≤l.length∧(linesOf ((logW l).take n) most).1 = l.take k∧(linesOf ((logW l).take n) most).2.1 = (logW (l.take k)).length
 | [],n,most,_,_=>⟨0,by simp,by simp [logW,lines_nil],by simp [logW,lines_nil]⟩
 | r :: l,n,most,h,hm=>by
  have h0:=h r (List.mem_cons_self ..)
  simp only [List.length_cons] at hm
  have e : logW (r :: l) = recW r ++ 10 :: logW l:=by simp [logW,lineW]
  rw [e]
  by_cases hn : n≤(recW r).length
  ·have ht : (recW r ++ 10 :: logW l).take n = (recW r).take n:=List.take_append_of_le_length hn
   have hno : (10 : UInt8) ∉ (recW r).take n:=fun hx=>rec_no10 h0 (List.mem_of_mem_take hx)
   rw [ht]
   by_cases he : (recW r).take n = []
   ·rw [he];exact ⟨0,by simp,by simp [lines_nil],by simp [logW,lines_nil]⟩
   ·rw [lines_torn hno he];exact ⟨0,by simp,by simp,by simp [logW]⟩
  ·obtain ⟨m,rfl⟩ : ∃ m,n = (recW r).length + (m + 1):=⟨n - (recW r).length - 1,by omega⟩
   have ht : (recW r ++ 10 :: logW l).take ((recW r).length + (m + 1)) = recW r ++ 10 :: (logW l).take m:=by
    rw [List.take_length_add_append,List.take_succ_cons]
   rw [ht,lines_cons (rec_no10 h0),recW_read h0,if_neg (by simp),if_neg (by omega)]
   obtain ⟨k,hk,i1,i2⟩:=lines_take l m (most - 1) (fun x hx=>h x (List.mem_cons_of_mem _ hx)) (by omega)
   refine ⟨k + 1,by simp;omega,by simp [i1],?_⟩
   dsimp only
   rw [i2,List.take_succ_cons]
   simp [logW,lineW];omega
structure TDisk where
 safe : List UInt8
 wait : List UInt8
deriving DecidableEq
def zeroDisk : TDisk:=⟨[],[]⟩
def diskE (d : TDisk) : Int:=if 60000 < d.safe.length + d.wait.length then 2 else (linesOf d.safe 40).2.2
def putE (d : TDisk) (r : TRec) : TDisk × Int:=if diskE d ≠ 0 then (zeroDisk,diskE d) else if recE r ≠ 0 then (zeroDisk,recE r) else
 if 60000 < d.safe.length + d.wait.length + (recW r).length + 1 then (zeroDisk,2) else (⟨d.safe,d.wait ++ lineW r⟩,0)
def syncE (d : TDisk) : TDisk × Int:=if diskE d ≠ 0 then (zeroDisk,diskE d) else if diskE ⟨d.safe ++ d.wait,[]⟩ ≠ 0 then (zeroDisk,diskE ⟨d.safe ++ d.wait,[]⟩) else (⟨d.safe ++ d.wait,[]⟩,0)
def crashE (d : TDisk) (n : Int) : TDisk × Int:=if diskE d ≠ 0 then (zeroDisk,diskE d) else if n < 0 ∨ (d.wait.length : Int) < n then (zeroDisk,3) else (⟨d.safe,d.wait.take n.toNat⟩,0)
def restOf (d : TDisk) : List TRec × Nat × Int:=linesOf d.wait (40 - (linesOf d.safe 40).1.length)
def recoverE (d : TDisk) : TDisk × List TRec × Int:=if diskE d ≠ 0 then (zeroDisk,[],diskE d) else (⟨d.safe ++ d.wait.take (restOf d).2.1,[]⟩,(linesOf d.safe 40).1 ++ (restOf d).1,0)
theorem diskE_ok {d : TDisk} (h : diskE d = 0) : d.safe.length + d.wait.length≤60000∧(∀ r ∈ (linesOf d.safe 40).1,recE r = 0)∧(linesOf d.safe 40).1.length≤40∧d.safe = logW (linesOf d.safe 40).1:=by
 unfold diskE at h
 split at h
 ·simp at h
 ·rename_i h0
  obtain ⟨i1,i2,t,i3,_,i5⟩:=linesOf_spec d.safe 40
  rw [i5 h,List.append_nil] at i3
  exact ⟨by omega,i1,i2,i3⟩
theorem diskE_log {l : List TRec} {w : List UInt8} (hl : ∀ r ∈ l,recE r = 0) (h40 : l.length≤40) (hn : (logW l).length + w.length≤60000) : diskE ⟨logW l,w⟩ = 0∧linesOf (logW l) 40 = (l,(logW l).length,0):=by
 have:=lines_log l [] 40 hl h40
 rw [List.append_nil,lines_nil] at this
 simp only [List.append_nil,Nat.add_zero] at this
 refine ⟨?_,this⟩
 unfold diskE
 dsimp only
 rw [if_neg (by omega),this]
theorem logW_append (l m : List TRec) : logW (l ++ m) = logW l ++ logW m:=by unfold logW;rw [List.flatMap_append]
end Go.Proofs.YthkgjohhbdipcaaGreatDoor
namespace Go.Proofs.YthkgjohhbdipcaaGreatDoor
open Go.RowKit
section
variable {P : Program} {ops : Array Oper} {B : Nat} {w0 : World} {Q : Act → World → Prop} {o : Oper} {l : List Oper} {ss : List Spec} {a : Act} {fs : List (World → Prop)} {F : World → Prop}
def obB (P : Program) (ops : Array Oper) (B : Nat) (w0 : World) (s : Spec) (o : Oper) (a : Act) (fs : List (World → Prop)) : Prop :=
 ∀ (W : World),Cls B w0 W → depFacts (prune o) fs W → ∀ R : Value → World → Prop,(∀ (v : Value) (W' : World),Below W.heap.size W W' → s.holds v W' → R v W') → if Region.wanted o (yielded ops a.tmps) then gives P o a W R else R undef W
def walkB (P : Program) (ops : Array Oper) (B : Nat) (w0 : World) (Q : Act → World → Prop) : List Oper → List Spec → Act → List (World → Prop) → (World → Prop) → Prop
 | [],_,a,_,F=>∀ (W : World),Cls B w0 W → F W → Q a W
 | _ :: _,[],_,_,_=>False
 | o :: l,s :: ss,a,fs,F=>obB P ops B w0 s o a fs ∧
   match s.exact? with
   | some x=>walkB P ops B w0 Q l ss (a.put o.dst x) (fs ++ [fun _ : World=>True]) F
   | none=>∀ v : Value,walkB P ops B w0 Q l ss (a.put o.dst v) (fs ++ [s.pred v]) (fun w : World=>F w∧s.pred v w)
theorem walkB_ex {x : Value} (h : ∀ K : Act → Prop,(∀ a',walkB P ops B w0 Q l ss a' (fs ++ [fun _ : World=>True]) F → K a') → obB P ops B w0 (ex x) o a fs∧K (a.put o.dst x)) : walkB P ops B w0 Q (o :: l) (ex x :: ss) a fs F:=h _ (fun _ h=>h)
theorem walkB_pr {p : Value → World → Prop} (h : ∀ K : Value → Act → Prop,(∀ v a',walkB P ops B w0 Q l ss a' (fs ++ [p v]) (fun w : World=>F w∧p v w) → K v a') → obB P ops B w0 (pr p) o a fs∧∀ v,K v (a.put o.dst v)) : walkB P ops B w0 Q (o :: l) (pr p :: ss) a fs F:=h _ (fun _ _ h=>h)
theorem walkB_P {bs : List (List Nat)} {n : Nat} : ∀ (l : List Oper) (ss : List Spec) (i : Nat) (a : Act) (fs : List (World → Prop)) (F : World → Prop),walkB P ops B w0 Q l ss a fs F → walkP P ops (fun _=>Cls B w0) TB bs Q n l ss i a fs F
 | [],_,_,_,_,_,h=>fun _ W _ hC hF=>h W hC hF
 | _ :: _,[],_,_,_,_,h=>h.elim
 | o :: l,s :: ss,i,a,fs,F,h=>by
  obtain ⟨h1,h2⟩:=h
  refine ⟨fun done W hI _ _ _ hf R hR=>h1 W hI hf R fun v W' hb hs=>hR v W' (hI.step hb) hb hs,?_⟩
  revert h2
  show (match s.exact? with | some x=>_ | none=>_) → (match s.exact? with | some x=>_ | none=>_)
  cases s.exact? with
  | some x=>exact fun h2=>walkB_P l ss (i + 1) _ _ _ h2
  | none=>exact fun h2 v=>walkB_P l ss (i + 1) _ _ _ (h2 v)
def stableP (p : Value → World → Prop) : Prop:=∀ v w w',Below w.heap.size w w' → p v w → p v w'
def stables : List Spec → Prop
 | []=>True
 | s :: r=>((∃ x,s = ex x) ∨ ∃ p,s = pr p∧stableP p)∧stables r
theorem stables_get : ∀ (ss : List Spec),stables ss → ∀ s ∈ ss,stableB s
 | [],_,s,h=>by cases h
 | s0 :: r,h,s,hm=>by
  rcases List.mem_cons.1 hm with rfl | hm
  ·rcases h.1 with ⟨x,rfl⟩ | ⟨p,rfl,hp⟩
   ·exact stable_ex x
   ·exact hp
  ·exact stables_get r h.2 s hm
theorem wp_region_B {Q : Exit → Act → World → Prop} {id : Nat} {w : World} (ss : List Spec) (B : Nat) (hBw : B≤w.heap.size) (hm : P.follows .mixedOrders = true) (hB : monoB2 (l.map prune) a.tmps.size = true)
  (hst : stables ss) (h : walkB P l.toArray B w (Q .normal) l ss a [] (fun _=>True)) : (Code.region id l.toArray true).wp P Q a w :=
 wp_region_done3 ss (fun _=>Cls B w) TB hm hB (fun _ _ s _ hk v _ w1 w2 _ hT hf=>stables_get ss hst s (List.mem_of_getElem? hk) v w1 w2 hT hf) ⟨hBw,(Below.refl _ _).drew⟩ _ rfl (walkB_P l ss 0 a [] _ h)
end
end Go.Proofs.YthkgjohhbdipcaaGreatDoor
namespace Go.Proofs.YthkgjohhbdipcaaGreatDoor
open Go.RowKit Go.Shelf
attribute [local go_sem] gives givesUpon
attribute [-go_sem] run_string_add_if run_slice_string_if run_slice_string
def VRowB (cells : Array Value) (T : TypeId) (n : Nat) (v : Value) (W : World) : Prop:=∃ b,v = .slice (some ⟨b,0,none⟩) n n∧W.heap[b]? = some (.cells cells T)
def VAtB (cells : Array Value) (T : TypeId) (k : Nat) (v : Value) (W : World) : Prop:=∃ b,v = .pointer (some ⟨b,k,none⟩)∧W.heap[b]? = some (.cells cells T)
theorem VRowB_stable {cells : Array Value} {T : TypeId} {n : Nat} : stableP (VRowB cells T n):=fun _ _ _ hb ⟨b,h1,h2⟩=>⟨b,h1,blk_below h2 hb⟩
theorem VAtB_stable {cells : Array Value} {T : TypeId} {n : Nat} : stableP (VAtB cells T n):=fun _ _ _ hb ⟨b,h1,h2⟩=>⟨b,h1,blk_below h2 hb⟩
@[reducible] def wordRow : Array Value:=#[Value.string (bsL []),.string (bsL [111,112,101,110]),.string (bsL [116,105,103,104,116]),.string (bsL [102,111,114,107]),.string (bsL [115,104,117,116])]
theorem word_cell {v : Int} (h0 : 1≤v) (h1 : v≤4) : wordRow[v.toNat]? = some (.string (bsL (kindW v))):=by
 rcases (by omega : v = 1 ∨ v = 2 ∨ v = 3 ∨ v = 4) with rfl | rfl | rfl | rfl <;> rfl
theorem words_any (w : World) : Calls Tryz.prog 64 #[] w fun e w'=>e = .returned (.slice (some ⟨w.heap.size,0,none⟩) 5 5)∧w' = w.alloc (.cells wordRow 9):=by
 go_enter Tryz.func64,Tryz.ntmps64
 go_wp2
 go_ret
 exact ⟨rfl,rfl⟩
theorem kindW_len (k : Int) : (kindW k).length≤5:=by unfold kindW;split <;> (try split) <;> (try split) <;> simp
theorem textP_len {p : TPol} (h : OkPol p) : (textP p).length≤34000:=by
 have h1:=headP_len p.rules h.rules
 have h2:=verdictW_len p.dflt
 have h3:=h.len
 have e : textP p = headP p.rules ++ verdictW p.dflt:=rfl
 rw [e,List.length_append];omega
theorem recW_len {r : TRec} (h : recE r = 0) : (recW r).length≤34100:=by
 obtain ⟨_,_,hc0,hc1,hf0,hf1,_,_,hp⟩:=recE_ok h
 have h1:=kindW_len r.kind
 have h2:=Lib.itoa_length_le r.cell (by omega) (by omega)
 have h3 : (tailW r).length≤34001:=by
  unfold tailW
  split
  ·have:=Lib.itoa_length_le r.from_ (by omega) (by omega)
   simp;omega
  ·split
   ·simp
   ·have:=textP_len (hp (by obtain ⟨_,h4,_⟩:=recE_ok h;omega))
    simp;omega
 unfold recW
 simp;omega
def nprintE (r : TRec) : List UInt8 × Int:=if recE r = 0 then (recW r,0) else ([],recE r)
set_option maxRecDepth 100000 in
set_option maxHeartbeats 16000000 in
theorem nprint_any (v : Value) (r : TRec) (D : Nat → Prop) (w : World) (h : RdRules w D v r.p.rules) (hL : Laid w) :
  Calls Tryz.prog 25 #[recV r v] w fun e w'=>e = .returned (.tuple #[.string (bsL (nprintE r).1),.int .i64 (nprintE r).2])∧Below w.heap.size w w':=by
 have H:=Lib.hid (RdRules.keep h (D':=fun b=>b < w.heap.size) (fun _ _ hl=>hl) (fun _ _ _=>rfl) (Nat.le_refl _))
 have HL0:=Lib.hid hL
 obtain ⟨kd,cl,fr,p⟩:=r
 dsimp only at H h ⊢
 obtain ⟨a,c,rfl,hlc,hcm,hat⟩:=Sl.form H.out
 clear h hL hlc hcm hat
 go_enter Tryz.func25,Tryz.ntmps25
 go_wp2_with fail
 have HB0:=Lib.hid (Bx.one (w:=w) (o:=.cells #[.int .i64 kd,.int .i64 cl,.int .i64 fr,.slice a p.rules.length c,.int .i64 p.dflt] 56))
 refine (notecheck_any _ ⟨kd,cl,fr,p⟩ _ _ (RdRules.below H.out HB0.out.bel)).mono ?_
 rintro e w1 ⟨rfl,hb1⟩
 have HB:=Lib.hid (HB0.out.below hb1)
 clear hb1 HB0
 by_cases h0 : recE ⟨kd,cl,fr,p⟩ = 0
 ·have HE : Hid (nprintE ⟨kd,cl,fr,p⟩ = (recW ⟨kd,cl,fr,p⟩,0)):=if_pos h0
  obtain ⟨hk1,hk2,hc0,hc1,hf0,hf1,_,_,hp⟩:=recE_ok h0
  dsimp only at hk1 hk2 hc0 hc1 hf0 hf1 hp
  have Hp:=Lib.hid hp
  have HL:=Lib.hid (HL0.out.below HB.out.bel)
  rw [h0]
  clear h0 hp
  have hkl:=kindW_len kd
  have hil:=Lib.itoa_length_le cl (by omega) (by omega)
  obtain ⟨s1,hs1⟩ : ∃ s1,kindW kd ++ [32] = s1:=⟨_,rfl⟩
  obtain ⟨s2,hs2⟩ : ∃ s2,s1 ++ Lib.itoa cl = s2:=⟨_,rfl⟩
  have hl1 : s1.length≤6:=by rw [← hs1];simp;omega
  have hl2 : s2.length≤27:=by rw [← hs2];simp;omega
  have hb1 : ∀ W : World,(Op.stringOp .add (bsL (kindW kd)) ⟨#[32]⟩).run Tryz.prog W = .ok (.string (bsL s1)) W:=fun W=>by rw [← hs1];exact add_bs (kindW kd) [32] (by simp;omega) W
  have hb2 : ∀ W : World,(Op.stringOp .add (bsL s1) (bsL (Lib.itoa cl))).run Tryz.prog W = .ok (.string (bsL s2)) W:=fun W=>by rw [← hs2];exact add_bs s1 (Lib.itoa cl) (by omega) W
  have HS : Hid (s2 = kindW kd ++ 32 :: Lib.itoa cl):=by show _ = _;rw [← hs2,← hs1];simp
  have Hl2:=Lib.hid hl2
  clear hs1 hs2 hl1
  have hk5 : kd < 5:=by omega
  have hk0 : 0≤kd:=by omega
  have hq0:=HB.out.cells0
  go_wp2_with fail
  clear hq0
  refine wp_region_B [pr (VRowB wordRow 9 5),ex (.pointer (some ⟨w.heap.size,0,none⟩)),ex (.int .i64 kd),pr (VAtB wordRow 9 kd.toNat),ex (.string (bsL (kindW kd))),ex (.string (bsL s1)),ex (.pointer (some ⟨w.heap.size,1,none⟩)),ex (.int .i64 cl),ex (.string (bsL (Lib.itoa cl))),ex (.string (bsL s2)),ex (.string (bsL s2))] _ (Nat.le_refl _) (by kernel_rfl) (by kernel_rfl) ⟨.inr ⟨_,rfl,VRowB_stable⟩,.inl ⟨_,rfl⟩,.inl ⟨_,rfl⟩,.inr ⟨_,rfl,VAtB_stable⟩,.inl ⟨_,rfl⟩,.inl ⟨_,rfl⟩,.inl ⟨_,rfl⟩,.inl ⟨_,rfl⟩,.inl ⟨_,rfl⟩,.inl ⟨_,rfl⟩,.inl ⟨_,rfl⟩,trivial⟩ ?_
  (refine walkB_pr (fun K hK=>?_);refine ⟨fun W hC hd R hR=>?_,fun v0=>?_⟩;(clear hd;go_simp;go_at_call 64;refine (words_any W).mono ?_;rintro e w9 ⟨rfl,rfl⟩;exact ⟨_,rfl,hR _ _ (bel_alloc (Below.refl _ _) _) ⟨_,rfl,heap_last _ _⟩⟩);(go_simp;refine hK _ _ ?_;clear hK K))
  (refine walkB_ex (fun K hK=>?_);refine ⟨fun W hC hd R hR=>?_,?_⟩;(clear hd;go_simp;exact hR _ _ (Below.refl _ _) rfl);(go_simp;refine hK _ ?_;clear hK K))
  (refine walkB_ex (fun K hK=>?_);refine ⟨fun W hC hd R hR=>?_,?_⟩;(have hqb:=(HB.out.below hC.2).cells0;clear hd;go_simp;exact hR _ _ (Below.refl _ _) rfl);(go_simp;refine hK _ ?_;clear hK K))
  (refine walkB_pr (fun K hK=>?_);refine ⟨fun W hC hd R hR=>?_,fun v3=>?_⟩;(have hv : VRowB wordRow 9 5 v0 W:=hd 0 (by decide);obtain ⟨b0,rfl,hc0⟩:=hv;have Hc0:=Lib.hid hc0;clear hc0;clear hd;go_simp;exact hR _ _ (Below.refl _ _) ⟨b0,rfl,Hc0.out⟩);(go_simp;refine hK _ _ ?_;clear hK K))
  (refine walkB_ex (fun K hK=>?_);refine ⟨fun W hC hd R hR=>?_,?_⟩;(have hv : VAtB wordRow 9 kd.toNat v3 W:=hd 3 (by decide);obtain ⟨b0,rfl,hc0⟩:=hv;have hcell:=(cells_of hc0 _).trans (word_cell hk1 hk2);clear hc0;clear hd;go_simp;exact hR _ _ (Below.refl _ _) rfl);(go_simp;refine hK _ ?_;clear hK K))
  (refine walkB_ex (fun K hK=>?_);refine ⟨fun W hC hd R hR=>?_,?_⟩;(clear hd;go_simp;exact hR _ _ (Below.refl _ _) rfl);(go_simp;refine hK _ ?_;clear hK K))
  (refine walkB_ex (fun K hK=>?_);refine ⟨fun W hC hd R hR=>?_,?_⟩;(clear hd;go_simp;exact hR _ _ (Below.refl _ _) rfl);(go_simp;refine hK _ ?_;clear hK K))
  (refine walkB_ex (fun K hK=>?_);refine ⟨fun W hC hd R hR=>?_,?_⟩;(have hqb:=(HB.out.below hC.2).cells0;clear hd;go_simp;exact hR _ _ (Below.refl _ _) rfl);(go_simp;refine hK _ ?_;clear hK K))
  (refine walkB_ex (fun K hK=>?_);refine ⟨fun W hC hd R hR=>?_,?_⟩;(have HLW:=Lib.hid (HL.out.below hC.2);clear hd;go_simp;go_at_call 65;refine (itoa_any cl (by omega) (by omega) _ HLW.out).mono ?_;rintro e w9 ⟨rfl,hb9⟩;exact ⟨_,rfl,hR _ _ hb9 rfl⟩);(go_simp;refine hK _ ?_;clear hK K))
  (refine walkB_ex (fun K hK=>?_);refine ⟨fun W hC hd R hR=>?_,?_⟩;(clear hd;go_simp;exact hR _ _ (Below.refl _ _) rfl);(go_simp;refine hK _ ?_;clear hK K))
  (refine walkB_ex (fun K hK=>?_);refine ⟨fun W hC hd R hR=>?_,?_⟩;(clear hd;go_simp;exact hR _ _ (Below.refl _ _) rfl);(go_simp;refine hK _ ?_;clear hK K))
  intro w2 hC2 _
  have HB2:=Lib.hid (HB.out.below hC2.2)
  have HL2:=Lib.hid (HL.out.below hC2.2)
  clear hC2 hb1 hb2 HB HL hkl hil hl2
  have hq0:=HB2.out.cells0
  have hkd : kd = 1 ∨ kd = 2 ∨ kd = 3 ∨ kd = 4:=by omega
  have hs32 : ∀ (t : List UInt8),t.length≤34100 → ∀ W : World,(Op.stringOp .add (bsL s2) (bsL t)).run Tryz.prog W = .ok (.string (bsL (s2 ++ t))) W:=fun t ht W=>add_bs s2 t (by have:=Hl2.out;omega) W
  have h32 : ∀ W : World,(Op.stringOp .add (bsL s2) ⟨#[32]⟩).run Tryz.prog W = .ok (.string (bsL (s2 ++ [32]))) W:=hs32 [32] (by decide)
  clear hk1 hk2 hk5 hk0
  rcases hkd with rfl | rfl | rfl | rfl
  ·have Hok:=Lib.hid (Hp.out (by decide))
   have HPE : Hid (printE p = (textP p,0)):=if_pos ((okPol_iff p).2 Hok.out)
   have htl:=textP_len Hok.out
   have hadd2 : ∀ W : World,(Op.stringOp .add (bsL (s2 ++ [32])) (bsL (textP p))).run Tryz.prog W = .ok (.string (bsL ((s2 ++ [32]) ++ textP p))) W:=fun W=>add_bs (s2 ++ [32]) (textP p) (by have:=Hl2.out;simp;omega) W
   clear hs32
   go_wp2_with fail
   refine (tprint_any _ p _ _ (RdRules.below H.out HB2.out.bel) HL2.out).mono ?_
   rw [HPE.out]
   rintro e w3 ⟨rfl,hb3⟩
   have HB3:=Lib.hid (HB2.out.below hb3)
   clear hb3 hq0
   dsimp only
   go_wp2
   go_ret2
   exact ⟨by rw [HE.out,HS.out];simp [recW,tailW],HB3.out.bel⟩
  ·have Hok:=Lib.hid (Hp.out (by decide))
   have HPE : Hid (printE p = (textP p,0)):=if_pos ((okPol_iff p).2 Hok.out)
   have htl:=textP_len Hok.out
   have hadd2 : ∀ W : World,(Op.stringOp .add (bsL (s2 ++ [32])) (bsL (textP p))).run Tryz.prog W = .ok (.string (bsL ((s2 ++ [32]) ++ textP p))) W:=fun W=>add_bs (s2 ++ [32]) (textP p) (by have:=Hl2.out;simp;omega) W
   clear hs32
   go_wp2_with fail
   refine (tprint_any _ p _ _ (RdRules.below H.out HB2.out.bel) HL2.out).mono ?_
   rw [HPE.out]
   rintro e w3 ⟨rfl,hb3⟩
   have HB3:=Lib.hid (HB2.out.below hb3)
   clear hb3 hq0
   dsimp only
   go_wp2
   go_ret2
   exact ⟨by rw [HE.out,HS.out];simp [recW,tailW],HB3.out.bel⟩
  ·have hfl:=Lib.itoa_length_le fr (by omega) (by omega)
   have hadd : ∀ W : World,(Op.stringOp .add ⟨#[32]⟩ (bsL (Lib.itoa fr))).run Tryz.prog W = .ok (.string (bsL (32 :: Lib.itoa fr))) W:=fun W=>add_bs [32] (Lib.itoa fr) (by simp;omega) W
   have hadd2:=hs32 (32 :: Lib.itoa fr) (by simp;omega)
   clear hs32
   go_wp2_with fail
   refine (itoa_any fr (by omega) (by omega) _ HL2.out).mono ?_
   rintro e w3 ⟨rfl,hb3⟩
   have HB3:=Lib.hid (HB2.out.below hb3)
   clear hb3 hq0
   go_wp2
   go_ret2
   exact ⟨by rw [HE.out,HS.out];simp [recW,tailW],HB3.out.bel⟩
  ·clear hs32
   go_wp2
   go_ret2
   exact ⟨by rw [HE.out,HS.out];simp [recW,tailW],HB2.out.bel⟩
 ·have HE : Hid (nprintE ⟨kd,cl,fr,p⟩ = ([],recE ⟨kd,cl,fr,p⟩)):=if_neg h0
  have hne : (recE ⟨kd,cl,fr,p⟩ != 0) = true:=bne_iff_ne.2 h0
  have HBf:=Lib.hid HB.out.bel
  generalize recE ⟨kd,cl,fr,p⟩ = E at *
  clear h0
  go_wp2
  go_ret2
  exact ⟨by rw [HE.out];rfl,HBf.out⟩
end Go.Proofs.YthkgjohhbdipcaaGreatDoor
namespace Go.Proofs.YthkgjohhbdipcaaGreatDoor
open Go.RowKit
theorem splitB_words (t : ByteArray) : (Lib.splitB ⟨#[32]⟩ 0 (Lib.countB t ⟨#[32]⟩) t).map (·.data.toList) = words t.data.toList:=by
 rw [Lib.splitB_data];rfl
theorem splitB_sizes (sep : ByteArray) : ∀ (k : Nat) (t : ByteArray),∀ u ∈ Lib.splitB sep 0 k t,u.size≤t.size
 | 0,t,u,h=>by simp [Lib.splitB_zero] at h;subst h;exact Nat.le_refl _
 | k + 1,t,u,h=>by
  unfold Lib.splitB at h
  split at h
  ·simp at h;subst h;exact Nat.le_refl _
  ·rcases List.mem_cons.1 h with h | h
   ·subst h;simp [ByteArray.size_extract];omega
   ·have:=splitB_sizes sep k _ u h
    simp [ByteArray.size_extract] at this;omega
theorem split_any (t : ByteArray) (w : World) (hL : Laid w) (hs : t.size < 4294967281) : Calls Tryz.prog 109 #[.string t,.string ⟨#[32]⟩] w fun e w' =>
  ∃ ws : List ByteArray,e = .returned (.slice (some ⟨w.heap.size,0,none⟩) ws.length ws.length)∧w' = w.alloc (.cells (ws.map Value.string).toArray 9)∧ws.map (·.data.toList) = words t.data.toList∧0 < ws.length∧ws.length≤t.size + 1∧∀ u ∈ ws,u.size≤t.size:=by
 obtain ⟨m,hm⟩:=hL.ml
 refine (Tryz.strings_Split t ⟨#[32]⟩ m w hs hm (by decide)).mono ?_
 rintro e w1 ⟨rfl,rfl⟩
 have hl:=Lib.splitB_all ⟨#[32]⟩ (by decide) 0 _ t rfl
 have hc:=Lib.countB_le ⟨#[32]⟩ (by decide) _ t (Nat.le_refl _)
 exact ⟨_,by rw [hl],rfl,splitB_words t,by omega,by omega,splitB_sizes _ _ t⟩
theorem cut_any (t : ByteArray) (w : World) (hL : Laid w) (hs : t.size < 4294967281) : Calls Tryz.prog 67 #[.string t,.string ⟨#[59]⟩] w fun e w' =>
  ∃ (a r : ByteArray) (more : Bool),e = .returned (.tuple #[.string a,.string r,.bool more])∧a.data.toList = (Lib.cut t.data.toList [59]).1∧r.data.toList = (Lib.cut t.data.toList [59]).2.1∧more = (Lib.cut t.data.toList [59]).2.2∧a.size≤t.size∧(more = true → r.size < t.size)∧Below w.heap.size w w':=by
 obtain ⟨m,hm⟩:=hL.ml
 refine (Tryz.strings_Cut t ⟨#[59]⟩ m w hs hm).mono ?_
 rintro e w1 ⟨rfl,n,rfl⟩
 refine ⟨_,_,_,rfl,by simp,by simp,rfl,?_,?_,Go.Joins.below_draws _ _ _⟩
 ·show ((Lib.cut t.data.toList [59]).1.toArray).size≤t.data.size
  unfold Lib.cut
  split
  ·simp;omega
  ·simp
 ·intro h
  show ((Lib.cut t.data.toList [59]).2.1.toArray).size < t.data.size
  revert h
  show (Lib.cut t.data.toList [59]).2.2 = true → _
  unfold Lib.cut
  split
  ·rename_i h0
   intro _
   have hne : t.data.toList ≠ []:=fun e=>by rw [e] at h0;simp [Lib.index] at h0
   have : 0 < t.data.toList.length:=List.length_pos_iff.2 hne
   simp at this ⊢
   omega
  ·intro h;cases h
end Go.Proofs.YthkgjohhbdipcaaGreatDoor
namespace Go.Proofs.YthkgjohhbdipcaaGreatDoor
open Go.RowKit
theorem cutc_any (c : UInt8) (t : List UInt8) (w : World) (hL : Laid w) (hs : t.length < 4294967281) : Calls Tryz.prog 67 #[.string (bsL t),.string ⟨#[c]⟩] w fun e w' =>
  e = .returned (.tuple #[.string (bsL (Lib.cut t [c]).1),.string (bsL (Lib.cut t [c]).2.1),.bool (Lib.cut t [c]).2.2])∧Below w.heap.size w w':=by
 obtain ⟨m,hm⟩:=hL.ml
 refine (Tryz.strings_Cut (bsL t) ⟨#[c]⟩ m w (by simpa [bsL,ByteArray.size] using hs) hm).mono ?_
 rintro e w1 ⟨rfl,n,rfl⟩
 exact ⟨rfl,Go.Joins.below_draws _ _ _⟩
theorem cut_len (t : List UInt8) (c : UInt8) : (Lib.cut t [c]).1.length≤t.length∧(Lib.cut t [c]).2.1.length≤t.length:=by
 unfold Lib.cut
 split
 ·simp;omega
 ·simp
end Go.Proofs.YthkgjohhbdipcaaGreatDoor
namespace Go.Proofs
open Go.Shelf
def Tryz.lays119_ren : Go.Shelf.Ren:=⟨fun | 119=>206 | n=>n,fun | 21=>21 | 4=>4 | n=>n,fun | n=>n⟩
theorem Tryz.lays119 : Go.Proofs.Lays.n119 Tryz.prog Tryz.lays119_ren:={
 mixed:=by kernel_rfl
 f119:=Tryz.func206.trans (congrArg some (by kernel_rfl))
 t4:=Tryz.underlying4
 a4:=Tryz.isAgg4
 z4:=Tryz.sizeOf4
 v4:=Tryz.zeroValue4
 t21:=Tryz.underlying21
 a21:=Tryz.isAgg21
 z21:=Tryz.sizeOf21
 v21:=Tryz.zeroValue21 }
theorem Tryz.utf8_ValidRune (r : Int) (w : World) :
  Calls Tryz.prog 206 #[.int .i32 r] w fun e w'=>e = .returned (.bool (Lib.validRune r))∧w' = w:=Any.utf8_ValidRune Tryz.lays119 r w
def Tryz.lays137_ren : Go.Shelf.Ren:=⟨fun | 137=>205 | 217=>169 | 266=>201 | n=>n,fun | 9=>9 | 5=>5 | 3=>3 | n=>n,fun | n=>n⟩
theorem Tryz.lays137 : Go.Proofs.Lays.n137 Tryz.prog Tryz.lays137_ren:={
 mixed:=by kernel_rfl
 f137:=Tryz.func205.trans (congrArg some (by kernel_rfl))
 f217:=Tryz.func169.trans (congrArg some (by kernel_rfl))
 f266:=Tryz.func201.trans (congrArg some (by kernel_rfl))
 t3:=Tryz.underlying3
 a3:=Tryz.isAgg3
 z3:=Tryz.sizeOf3
 v3:=Tryz.zeroValue3
 t5:=Tryz.underlying5
 a5:=Tryz.isAgg5
 z5:=Tryz.sizeOf5
 v5:=Tryz.zeroValue5
 t9:=Tryz.underlying9
 a9:=Tryz.isAgg9
 z9:=Tryz.sizeOf9
 v9:=Tryz.zeroValue9 }
open Go.RowKit in
theorem Tryz.strings_IndexByte (s : ByteArray) (c : Int) (w : World) :
  Calls Tryz.prog 205 #[.string s,.int .u8 c] w fun e w'=>e = .returned (.int .i64 (Lib.indexByte s.data.toList c.toNat.toUInt8))∧w' = w:=Any.strings_IndexByte Tryz.lays137 s c w
def Tryz.laysC172_ren : Go.Shelf.Ren:=⟨fun | 172=>108 | 244=>143 | 245=>144 | 247=>151 | 279=>173 | 280=>174 | 281=>175 | 282=>176 | 287=>185 | 316=>203 | 171=>65 | 205=>204 | 321=>210 | 322=>211 | 243=>101 | 246=>140 | 283=>164 | 284=>165 | 285=>166 | 286=>167 | 129=>197 | 317=>196 | 318=>198 | 319=>199 | 320=>200 | 337=>220 | 338=>221 | n=>n,fun | 9=>9 | 3=>3 | 75=>149 | 76=>150 | 4=>4 | 5=>5 | 167=>209 | 37=>23 | 0=>0 | 85=>165 | 2=>2 | 168=>210 | 53=>200 | 175=>229 | 46=>208 | 210=>249 | 127=>184 | 145=>277 | 143=>275 | 21=>21 | 171=>199 | 173=>203 | 212=>242 | 51=>223 | 20=>20 | 213=>243 | 232=>290 | 233=>291 | 80=>154 | n=>n,fun | 15=>4 | 16=>5 | 17=>3 | 18=>8 | 19=>9 | n=>n⟩
theorem Tryz.laysC172 : Go.Proofs.LaysC.n172 Tryz.prog Tryz.laysC172_ren:={
 mixed:=by kernel_rfl
 f129:=Tryz.func197.trans (congrArg some (by kernel_rfl))
 f171:=Tryz.func65.trans (congrArg some (by kernel_rfl))
 f172:=Tryz.func108.trans (congrArg some (by kernel_rfl))
 f205:=Tryz.func204.trans (congrArg some (by kernel_rfl))
 f243:=Tryz.func101.trans (congrArg some (by kernel_rfl))
 f244:=Tryz.func143.trans (congrArg some (by kernel_rfl))
 f245:=Tryz.func144.trans (congrArg some (by kernel_rfl))
 f246:=Tryz.func140.trans (congrArg some (by kernel_rfl))
 f247:=Tryz.func151.trans (congrArg some (by kernel_rfl))
 f279:=Tryz.func173.trans (congrArg some (by kernel_rfl))
 f280:=Tryz.func174.trans (congrArg some (by kernel_rfl))
 f281:=Tryz.func175.trans (congrArg some (by kernel_rfl))
 f282:=Tryz.func176.trans (congrArg some (by kernel_rfl))
 f283:=Tryz.func164.trans (congrArg some (by kernel_rfl))
 f284:=Tryz.func165.trans (congrArg some (by kernel_rfl))
 f285:=Tryz.func166.trans (congrArg some (by kernel_rfl))
 f286:=Tryz.func167.trans (congrArg some (by kernel_rfl))
 f287:=Tryz.func185.trans (congrArg some (by kernel_rfl))
 f316:=Tryz.func203.trans (congrArg some (by kernel_rfl))
 f317:=Tryz.func196.trans (congrArg some (by kernel_rfl))
 f318:=Tryz.func198.trans (congrArg some (by kernel_rfl))
 f319:=Tryz.func199.trans (congrArg some (by kernel_rfl))
 f320:=Tryz.func200.trans (congrArg some (by kernel_rfl))
 f321:=Tryz.func210.trans (congrArg some (by kernel_rfl))
 f322:=Tryz.func211.trans (congrArg some (by kernel_rfl))
 f337:=Tryz.func220.trans (congrArg some (by kernel_rfl))
 f338:=Tryz.func221.trans (congrArg some (by kernel_rfl))
 t0:=Tryz.underlying0
 a0:=Tryz.isAgg0
 z0:=Tryz.sizeOf0
 v0:=Tryz.zeroValue0
 t2:=Tryz.underlying2
 a2:=Tryz.isAgg2
 z2:=Tryz.sizeOf2
 v2:=Tryz.zeroValue2
 t3:=Tryz.underlying3
 a3:=Tryz.isAgg3
 z3:=Tryz.sizeOf3
 v3:=Tryz.zeroValue3
 t4:=Tryz.underlying4
 a4:=Tryz.isAgg4
 z4:=Tryz.sizeOf4
 v4:=Tryz.zeroValue4
 t5:=Tryz.underlying5
 a5:=Tryz.isAgg5
 z5:=Tryz.sizeOf5
 v5:=Tryz.zeroValue5
 t9:=Tryz.underlying9
 a9:=Tryz.isAgg9
 z9:=Tryz.sizeOf9
 v9:=Tryz.zeroValue9
 t20:=Tryz.underlying20
 a20:=Tryz.isAgg20
 z20:=Tryz.sizeOf20
 v20:=Tryz.zeroValue20
 t21:=Tryz.underlying21
 a21:=Tryz.isAgg21
 z21:=Tryz.sizeOf21
 v21:=Tryz.zeroValue21
 t37:=Tryz.underlying23
 a37:=Tryz.isAgg23
 z37:=Tryz.sizeOf23
 v37:=Tryz.zeroValue23
 t46:=Tryz.underlying208
 a46:=Tryz.isAgg208
 z46:=Tryz.sizeOf208
 v46:=Tryz.zeroValue208
 t51:=Tryz.underlying223
 a51:=Tryz.isAgg223
 z51:=Tryz.sizeOf223
 v51:=Tryz.zeroValue223
 t53:=Tryz.underlying200
 a53:=Tryz.isAgg200
 z53:=Tryz.sizeOf200
 v53:=Tryz.zeroValue200
 t75:=Tryz.underlying149
 a75:=Tryz.isAgg149
 z75:=Tryz.sizeOf149
 v75:=Tryz.zeroValue149
 t76:=Tryz.underlying150
 a76:=Tryz.isAgg150
 z76:=Tryz.sizeOf150
 v76:=Tryz.zeroValue150
 t85:=Tryz.underlying165
 a85:=Tryz.isAgg165
 z85:=Tryz.sizeOf165
 v85:=Tryz.zeroValue165
 t127:=Tryz.underlying184
 a127:=Tryz.isAgg184
 z127:=Tryz.sizeOf184
 v127:=Tryz.zeroValue184
 t143:=Tryz.underlying275
 a143:=Tryz.isAgg275
 z143:=Tryz.sizeOf275
 v143:=Tryz.zeroValue275
 t145:=Tryz.underlying277
 a145:=Tryz.isAgg277
 z145:=Tryz.sizeOf277
 v145:=Tryz.zeroValue277
 t167:=Tryz.underlying209
 a167:=Tryz.isAgg209
 z167:=Tryz.sizeOf209
 v167:=Tryz.zeroValue209
 t168:=Tryz.underlying210
 a168:=Tryz.isAgg210
 z168:=Tryz.sizeOf210
 v168:=Tryz.zeroValue210
 t171:=Tryz.underlying199
 a171:=Tryz.isAgg199
 z171:=Tryz.sizeOf199
 v171:=Tryz.zeroValue199
 t173:=Tryz.underlying203
 a173:=Tryz.isAgg203
 z173:=Tryz.sizeOf203
 v173:=Tryz.zeroValue203
 t175:=Tryz.underlying229
 a175:=Tryz.isAgg229
 z175:=Tryz.sizeOf229
 v175:=Tryz.zeroValue229
 t210:=Tryz.underlying249
 a210:=Tryz.isAgg249
 z210:=Tryz.sizeOf249
 v210:=Tryz.zeroValue249
 t212:=Tryz.underlying242
 a212:=Tryz.isAgg242
 z212:=Tryz.sizeOf242
 v212:=Tryz.zeroValue242
 t213:=Tryz.underlying243
 a213:=Tryz.isAgg243
 z213:=Tryz.sizeOf243
 t232:=Tryz.underlying290
 a232:=Tryz.isAgg290
 z232:=Tryz.sizeOf290
 v232:=Tryz.zeroValue290
 t233:=Tryz.underlying291
 a233:=Tryz.isAgg291
 z233:=Tryz.sizeOf291
 v233:=Tryz.zeroValue291
 g15:=by kernel_rfl
 g16:=by kernel_rfl
 g17:=by kernel_rfl
 g18:=by kernel_rfl
 g19:=by kernel_rfl
 t80:=Tryz.underlying154
 a80:=Tryz.isAgg154
 z80:=Tryz.sizeOf154
 v80:=Tryz.zeroValue154
 i0:=by kernel_rfl
 i2:=by kernel_rfl
 i3:=by kernel_rfl
 i4:=by kernel_rfl
 i5:=by kernel_rfl
 i9:=by kernel_rfl
 i20:=by kernel_rfl
 i21:=by kernel_rfl
 i37:=by kernel_rfl
 i46:=by kernel_rfl
 i51:=by kernel_rfl
 i53:=by kernel_rfl
 i75:=by kernel_rfl
 i76:=by kernel_rfl
 i80:=by kernel_rfl
 i85:=by kernel_rfl
 i127:=by kernel_rfl
 i143:=by kernel_rfl
 i145:=by kernel_rfl
 i167:=by kernel_rfl
 i168:=by kernel_rfl
 i171:=by kernel_rfl
 i173:=by kernel_rfl
 i175:=by kernel_rfl
 i210:=by kernel_rfl
 i212:=by kernel_rfl
 i232:=by kernel_rfl
 i233:=by kernel_rfl
 m15:=by kernel_rfl
 m16:=by kernel_rfl
 m17:=by kernel_rfl
 m18:=by kernel_rfl
 m19:=by kernel_rfl
 c0:=by kernel_rfl
 c2:=by kernel_rfl
 c3:=by kernel_rfl
 c4:=by kernel_rfl
 c5:=by kernel_rfl
 c9:=by kernel_rfl
 c20:=by kernel_rfl
 c21:=by kernel_rfl
 c37:=by kernel_rfl
 c46:=by kernel_rfl
 c51:=by kernel_rfl
 c53:=by kernel_rfl
 c75:=by kernel_rfl
 c76:=by kernel_rfl
 c80:=by kernel_rfl
 c85:=by kernel_rfl
 c127:=by kernel_rfl
 c143:=by kernel_rfl
 c145:=by kernel_rfl
 c167:=by kernel_rfl
 c168:=by kernel_rfl
 c171:=by kernel_rfl
 c173:=by kernel_rfl
 c175:=by kernel_rfl
 c210:=by kernel_rfl
 c212:=by kernel_rfl
 c213:=by kernel_rfl
 c232:=by kernel_rfl
 c233:=by kernel_rfl }
open Go.RowKit in
theorem Tryz.strconv_Atoi_ok (s : ByteArray) (hmax : s.size≤9223372036854775806) (v : Int) (h : Lib.atoiAll s.data.toList = .ok v) (w : World) :
  Calls Tryz.prog 108 #[.string s] w fun e w'=>e = .returned (.tuple #[.int .i64 v,.nilIface])∧(w' = w ∨ ∃ t,w' = Lib.bytesWorld w 5 t):=Any.strconv_Atoi_ok Tryz.laysC172 s hmax v h w
open Go.RowKit in
theorem Tryz.strconv_Atoi_range (s : ByteArray) (hlim : s.size≤281474976710656) (h : Lib.atoiAll s.data.toList = .range) (ev : Value) (w : World) (hv : w.cell? ⟨5,0,none⟩ = some ev) (hev : ev = .nilIface ∨ ∃ te pe,ev = .iface te pe) :
  Calls Tryz.prog 108 #[.string s] w fun e w'=>∃ N,e = .returned (.tuple #[.int .i64 (Lib.atoiSat s.data.toList),.iface 210 (.pointer (some ⟨N,0,none⟩))])∧w.heap.size≤N∧w'.heap[N]? = some (.cells #[.string ⟨#[65,116,111,105]⟩,.string s,ev] 249 (0,0))∧Below w.heap.size w w':=Any.strconv_Atoi_range Tryz.laysC172 s hlim h ev w hv hev
def Tryz.lays152_ren : Go.Shelf.Ren:=⟨fun | 152=>177 | 137=>205 | 119=>206 | 224=>171 | 225=>170 | 217=>169 | 266=>201 | n=>n,fun | 9=>9 | 21=>21 | 3=>3 | 4=>4 | 5=>5 | 0=>0 | 46=>208 | n=>n,fun | n=>n⟩
theorem Tryz.lays152 : Go.Proofs.Lays.n152 Tryz.prog Tryz.lays152_ren:={
 mixed:=by kernel_rfl
 f119:=Tryz.func206.trans (congrArg some (by kernel_rfl))
 f137:=Tryz.func205.trans (congrArg some (by kernel_rfl))
 f152:=Tryz.func177.trans (congrArg some (by kernel_rfl))
 f217:=Tryz.func169.trans (congrArg some (by kernel_rfl))
 f224:=Tryz.func171.trans (congrArg some (by kernel_rfl))
 f225:=Tryz.func170.trans (congrArg some (by kernel_rfl))
 f266:=Tryz.func201.trans (congrArg some (by kernel_rfl))
 t0:=Tryz.underlying0
 a0:=Tryz.isAgg0
 z0:=Tryz.sizeOf0
 v0:=Tryz.zeroValue0
 t3:=Tryz.underlying3
 a3:=Tryz.isAgg3
 z3:=Tryz.sizeOf3
 v3:=Tryz.zeroValue3
 t4:=Tryz.underlying4
 a4:=Tryz.isAgg4
 z4:=Tryz.sizeOf4
 v4:=Tryz.zeroValue4
 t5:=Tryz.underlying5
 a5:=Tryz.isAgg5
 z5:=Tryz.sizeOf5
 v5:=Tryz.zeroValue5
 t9:=Tryz.underlying9
 a9:=Tryz.isAgg9
 z9:=Tryz.sizeOf9
 v9:=Tryz.zeroValue9
 t21:=Tryz.underlying21
 a21:=Tryz.isAgg21
 z21:=Tryz.sizeOf21
 v21:=Tryz.zeroValue21
 t46:=Tryz.underlying208
 a46:=Tryz.isAgg208
 z46:=Tryz.sizeOf208
 v46:=Tryz.zeroValue208 }
open Go.RowKit Go.Lib in
theorem Tryz.strings_IndexRune_ascii (s : ByteArray) (r : Int) (w : World) (h0 : 0≤r) (h1 : r < 128) :
  Calls Tryz.prog 177 #[.string s,.int .i32 r] w fun e w'=>e = .returned (.int .i64 (Lib.indexByte s.data.toList r.toNat.toUInt8))∧w' = w:=Any.strings_IndexRune_ascii Tryz.lays152 s r w h0 h1
def Tryz.lays226_ren : Go.Shelf.Ren:=⟨fun | 226=>178 | n=>n,fun | 3=>3 | 4=>4 | n=>n,fun | n=>n⟩
theorem Tryz.lays226 : Go.Proofs.Lays.n226 Tryz.prog Tryz.lays226_ren:={
 mixed:=by kernel_rfl
 f226:=Tryz.func178.trans (congrArg some (by kernel_rfl))
 t3:=Tryz.underlying3
 a3:=Tryz.isAgg3
 z3:=Tryz.sizeOf3
 v3:=Tryz.zeroValue3
 t4:=Tryz.underlying4
 a4:=Tryz.isAgg4
 z4:=Tryz.sizeOf4
 v4:=Tryz.zeroValue4 }
open Go.RowKit Go.Lib in
theorem Tryz.strings_shouldUseASCIISet (n : Int) (w : World) :
  Calls Tryz.prog 178 #[.int .i64 n] w fun e w'=>e = .returned (.bool (decide (8 < n)))∧w' = w:=Any.strings_shouldUseASCIISet Tryz.lays226 n w
def Tryz.lays153_ren : Go.Shelf.Ren:=⟨fun | 153=>145 | 152=>177 | 226=>178 | 227=>179 | 228=>180 | 137=>205 | 119=>206 | 224=>171 | 225=>170 | 217=>169 | 266=>201 | n=>n,fun | 9=>9 | 3=>3 | 4=>4 | 5=>5 | 21=>21 | 117=>217 | 116=>216 | 0=>0 | 46=>208 | 124=>251 | n=>n,fun | n=>n⟩
theorem Tryz.lays153 : Go.Proofs.Lays.n153 Tryz.prog Tryz.lays153_ren:={
 mixed:=by kernel_rfl
 f119:=Tryz.func206.trans (congrArg some (by kernel_rfl))
 f137:=Tryz.func205.trans (congrArg some (by kernel_rfl))
 f152:=Tryz.func177.trans (congrArg some (by kernel_rfl))
 f153:=Tryz.func145.trans (congrArg some (by kernel_rfl))
 f217:=Tryz.func169.trans (congrArg some (by kernel_rfl))
 f224:=Tryz.func171.trans (congrArg some (by kernel_rfl))
 f225:=Tryz.func170.trans (congrArg some (by kernel_rfl))
 f226:=Tryz.func178.trans (congrArg some (by kernel_rfl))
 f227:=Tryz.func179.trans (congrArg some (by kernel_rfl))
 f228:=Tryz.func180.trans (congrArg some (by kernel_rfl))
 f266:=Tryz.func201.trans (congrArg some (by kernel_rfl))
 t0:=Tryz.underlying0
 a0:=Tryz.isAgg0
 z0:=Tryz.sizeOf0
 v0:=Tryz.zeroValue0
 t3:=Tryz.underlying3
 a3:=Tryz.isAgg3
 z3:=Tryz.sizeOf3
 v3:=Tryz.zeroValue3
 t4:=Tryz.underlying4
 a4:=Tryz.isAgg4
 z4:=Tryz.sizeOf4
 v4:=Tryz.zeroValue4
 t5:=Tryz.underlying5
 a5:=Tryz.isAgg5
 z5:=Tryz.sizeOf5
 v5:=Tryz.zeroValue5
 t9:=Tryz.underlying9
 a9:=Tryz.isAgg9
 z9:=Tryz.sizeOf9
 v9:=Tryz.zeroValue9
 t21:=Tryz.underlying21
 a21:=Tryz.isAgg21
 z21:=Tryz.sizeOf21
 v21:=Tryz.zeroValue21
 t46:=Tryz.underlying208
 a46:=Tryz.isAgg208
 z46:=Tryz.sizeOf208
 v46:=Tryz.zeroValue208
 t116:=Tryz.underlying216
 a116:=Tryz.isAgg216
 z116:=Tryz.sizeOf216
 t117:=Tryz.underlying217
 a117:=Tryz.isAgg217
 z117:=Tryz.sizeOf217
 v117:=Tryz.zeroValue217
 t124:=Tryz.underlying251
 a124:=Tryz.isAgg251
 z124:=Tryz.sizeOf251
 v124:=Tryz.zeroValue251 }
open Go.RowKit Go.Lib in
theorem Tryz.strings_IndexAny_long (hv116 : ∀ w,(zeroValue 216).run Tryz.prog w = .ok (.agg (Array.replicate 256 (.bool false))) w) (s chars : ByteArray) (w : World) (h2 : 2≤chars.size) (h8 : 8 < s.size) (hs : s.size < 4294967281) (hcs : chars.size < 4294967281) (hascii : ∀ (j : Nat) b,chars.data.toList[j]? = some b → b.toNat < 128) :
  Calls Tryz.prog 145 #[.string s,.string chars] w fun e w'=>e = .returned (.int .i64 (Lib.indexAny s.data.toList chars.data.toList))∧w' = ((w.alloc (.cells (Lib.setCells chars.data.toList) 216)).alloc (.cells (Lib.setCells chars.data.toList) 216)):=Any.strings_IndexAny_long Tryz.lays153 hv116 (by kernel_rfl) s chars w h2 h8 hs hcs hascii
def Tryz.lays109_ren : Go.Shelf.Ren:=⟨fun | 109=>69 | n=>n,fun | 31=>101 | 9=>9 | 3=>3 | 0=>0 | 4=>4 | n=>n,fun | n=>n⟩
theorem Tryz.lays109 : Go.Proofs.Lays.n109 Tryz.prog Tryz.lays109_ren:={
 mixed:=by kernel_rfl
 f109:=Tryz.func69.trans (congrArg some (by kernel_rfl))
 t0:=Tryz.underlying0
 a0:=Tryz.isAgg0
 z0:=Tryz.sizeOf0
 v0:=Tryz.zeroValue0
 t3:=Tryz.underlying3
 a3:=Tryz.isAgg3
 z3:=Tryz.sizeOf3
 v3:=Tryz.zeroValue3
 t4:=Tryz.underlying4
 a4:=Tryz.isAgg4
 z4:=Tryz.sizeOf4
 v4:=Tryz.zeroValue4
 t9:=Tryz.underlying9
 a9:=Tryz.isAgg9
 z9:=Tryz.sizeOf9
 v9:=Tryz.zeroValue9
 t31:=Tryz.underlying101
 a31:=Tryz.isAgg101
 z31:=Tryz.sizeOf101
 v31:=Tryz.zeroValue101 }
open Go.Lib in
theorem Tryz.slices_Index_string (b off n c : Nat) (zs : List ByteArray) (x : ByteArray) (w : World) (hz : n≤zs.length) (hbig : n≤9223372036854775807) (hc : ∀ j,j < zs.length → w.cell? ⟨b,off + j,none⟩ = some (.string (zs.getD j ByteArray.empty))) :
  Calls Tryz.prog 69 #[.slice (some ⟨b,off,none⟩) n c,.string x] w fun e w'=>e = .returned (.int .i64 (Lib.idxOfS (zs.take n) x))∧w' = w:=Any.slices_Index_string Tryz.lays109 b off n c zs x w hz hbig hc
end Go.Proofs
namespace Go.Proofs.YthkgjohhbdipcaaGreatDoor
open Go.RowKit
attribute [local go_sem] gives givesUpon
theorem bytes_of {b : ByteArray} {l : List UInt8} (h : b.data.toList = l) : b = ⟨⟨l⟩⟩:=by
 obtain ⟨⟨d⟩⟩:=b
 simp at h
 subst h
 rfl
theorem cont_high (n : Nat) : 128≤(UInt8.ofNat (128 + n % 64)).toNat:=by
 rw [UInt8.toNat_ofNat']
 have:=Nat.mod_lt n (show 0 < 64 by decide)
 rw [Nat.mod_eq_of_lt (by omega)]
 omega
set_option maxRecDepth 100000 in
set_option maxHeartbeats 4000000 in
theorem idxrune_valid (r : Nat) (h1 : 128≤r) (h2 : r≤1114111) (hv : r < 55296 ∨ 57344≤r) (w : World) :
  Calls Tryz.prog 177 #[.string ⟨#[61,33,60,62]⟩,.int .i32 r] w fun e w'=>e = .returned (.int .i64 (-1))∧Below w.heap.size w w':=by
 by_cases hr : r = 65533
 ·subst hr
  go_enter Tryz.func177,Tryz.ntmps177
  go_wp2_with fail
  go_loopg [5,6] 4 (fun g _ _ wx=>∃ i : Nat,i + g = 4∧wx = w.iter ⟨#[61,33,60,62]⟩ i)
  case atStart=>exact ⟨0,by omega,rfl⟩
  case round =>
   obtain ⟨i,hig,rfl⟩:=hrel
   cases gk with
   | zero =>
    obtain rfl : i = 4:=by omega
    have hnx:=fun ty=>run_next_end (P:=Tryz.prog) w ⟨#[61,33,60,62]⟩ 4 ty (by decide)
    go_wp2
    go_ret
    exact ⟨rfl,bel_alloc (Below.refl _ _) _⟩
   | succ g =>
    have hi : i = 0 ∨ i = 1 ∨ i = 2 ∨ i = 3:=by omega
    rcases hi with rfl | rfl | rfl | rfl
    ·have hnx:=fun ty=>run_next_ascii (P:=Tryz.prog) w ⟨#[61,33,60,62]⟩ 0 ty (by decide) (by decide)
     rw [show ((⟨#[61,33,60,62]⟩ : ByteArray)[0]'(by decide)) = 61 from rfl] at hnx
     go_wp2
     go_roundg g
     case measure=>omega
     case rel=>exact ⟨1,by omega,rfl⟩
    ·have hnx:=fun ty=>run_next_ascii (P:=Tryz.prog) w ⟨#[61,33,60,62]⟩ 1 ty (by decide) (by decide)
     rw [show ((⟨#[61,33,60,62]⟩ : ByteArray)[1]'(by decide)) = 33 from rfl] at hnx
     go_wp2
     go_roundg g
     case measure=>omega
     case rel=>exact ⟨2,by omega,rfl⟩
    ·have hnx:=fun ty=>run_next_ascii (P:=Tryz.prog) w ⟨#[61,33,60,62]⟩ 2 ty (by decide) (by decide)
     rw [show ((⟨#[61,33,60,62]⟩ : ByteArray)[2]'(by decide)) = 60 from rfl] at hnx
     go_wp2
     go_roundg g
     case measure=>omega
     case rel=>exact ⟨3,by omega,rfl⟩
    ·have hnx:=fun ty=>run_next_ascii (P:=Tryz.prog) w ⟨#[61,33,60,62]⟩ 3 ty (by decide) (by decide)
     rw [show ((⟨#[61,33,60,62]⟩ : ByteArray)[3]'(by decide)) = 62 from rfl] at hnx
     go_wp2
     go_roundg g
     case measure=>omega
     case rel=>exact ⟨4,by omega,rfl⟩
 ·have g0 : (0 : Int)≤(r : Int):=by omega
  have g1 : ¬ (r : Int) < 128:=by omega
  have g2 : ((r : Int) == 65533) = false:=beq_eq_false_iff_ne.2 (by omega)
  have hval : Hid (Lib.validRune (r : Int) = true):=by show _ = _;unfold Lib.validRune;exact decide_eq_true (by omega)
  go_enter Tryz.func177,Tryz.ntmps177
  go_wp2_with fail
  refine (Tryz.utf8_ValidRune r _).mono ?_
  rw [hval.out]
  rintro e w1 ⟨rfl,rfl⟩
  clear g0 g1 g2 hval
  rcases (by omega : r < 2048 ∨ (2048≤r∧r < 65536) ∨ 65536≤r) with hc | hc | hc
  ·obtain ⟨b0,b1,hN,hb⟩ : ∃ b0 b1 : UInt8,Utf8.encode (r : Int) = ⟨#[b0,b1]⟩∧128≤b1.toNat:=⟨_,_,bytes_of (Go.Extern.FmtText.enc2 r (by omega) hc),cont_high _⟩
   have hne : (((33 : Int)) != (b1.toNat : Int)) = true:=bne_iff_ne.2 (by omega)
   have hsz : (⟨#[b0,b1]⟩ : ByteArray).size = 2:=rfl
   have hg2 : ∀ h,(⟨#[61,33,60,62]⟩ : ByteArray)[1]'h = 33:=fun _=>rfl
   have hg : ∀ h,(⟨#[b0,b1]⟩ : ByteArray)[1]'h = b1:=fun _=>rfl
   have HR : Hid (Lib.indexByte [60,62] b1 = -1):=by
    show _ = _
    have e : ∀ c : UInt8,c.toNat < 128 → (c == b1) = false:=fun c hc=>beq_eq_false_iff_ne.2 (fun e=>by rw [e] at hc;omega)
    simp [Lib.indexByte,e]
   go_wp2_with fail
   go_step3
   go_wp2_with fail
   go_loopw [9,10] (fun iv fv wr=>iv = .int .i64 1∧fv = .int .i64 0∧wr = w1) (fun _ _ _=>0)
   case atStart=>exact ⟨rfl,rfl,rfl⟩
   case round =>
    obtain ⟨rfl,rfl,hw⟩:=hrel
    subst hw
    go_wp2_with fail
    go_step3
    go_wp2_with fail
    refine wp_region_exact3 _ (Nat.le_refl _) (by kernel_rfl) (by kernel_rfl) ?_
    repeat (refine monoE_step (fun K hK=>?_);apply Exists.intro;refine ⟨fun W hC R hR=>?_,?_⟩;(go_simp;exact hR _ _ (Below.refl _ _) rfl);(go_simp;refine hK _ ?_;clear hK K))
    intro w2 hC2
    have H2:=Lib.hid hC2.2
    have Hsz:=Lib.hid hsz
    clear hC2 hb hN h1 h2 hv hr hc
    go_wp2_with fail
    refine wp_region_exact3 _ (Nat.le_refl _) (by kernel_rfl) (by kernel_rfl) ?_
    repeat (refine monoE_step (fun K hK=>?_);apply Exists.intro;refine ⟨fun W hC R hR=>?_,?_⟩;(first | (go_simp;exact hR _ _ (Below.refl _ _) rfl) | (go_simp;go_at_call 205;refine (Tryz.strings_IndexByte _ _ _).mono ?_;rintro e w9 ⟨he,rfl⟩;have he2 : e = .returned (.int .i64 (-1)):=(he.trans (congrArg (fun z=>Ending.returned (Value.int .i64 z)) (by first | exact HR.out | (go_simp;exact HR.out))));subst he2;exact ⟨_,rfl,hR _ _ (Below.refl _ _) rfl⟩));(go_simp;refine hK _ ?_;clear hK K))
    intro w3 hC3
    have H3:=Lib.hid (bel_call H2.out hC3.2)
    clear hC3
    go_wp2
    simp +zetaDelta only [Exit.noGoto_ret,Exit.inBlock,Exit.then]
    go_ret
    exact ⟨rfl,H3.out⟩
  ·obtain ⟨b0,b1,b2,hN,hb⟩ : ∃ b0 b1 b2 : UInt8,Utf8.encode (r : Int) = ⟨#[b0,b1,b2]⟩∧128≤b2.toNat:=⟨_,_,_,bytes_of (Go.Extern.FmtText.enc3 r (by omega) (by omega) hv),cont_high _⟩
   have hne : (((60 : Int)) != (b2.toNat : Int)) = true:=bne_iff_ne.2 (by omega)
   have hsz : (⟨#[b0,b1,b2]⟩ : ByteArray).size = 3:=rfl
   have hg2 : ∀ h,(⟨#[61,33,60,62]⟩ : ByteArray)[2]'h = 60:=fun _=>rfl
   have hg : ∀ h,(⟨#[b0,b1,b2]⟩ : ByteArray)[2]'h = b2:=fun _=>rfl
   have HR : Hid (Lib.indexByte [62] b2 = -1):=by
    show _ = _
    have e : ∀ c : UInt8,c.toNat < 128 → (c == b2) = false:=fun c hc=>beq_eq_false_iff_ne.2 (fun e=>by rw [e] at hc;omega)
    simp [Lib.indexByte,e]
   go_wp2_with fail
   go_step3
   go_wp2_with fail
   go_loopw [9,10] (fun iv fv wr=>iv = .int .i64 2∧fv = .int .i64 0∧wr = w1) (fun _ _ _=>0)
   case atStart=>exact ⟨rfl,rfl,rfl⟩
   case round =>
    obtain ⟨rfl,rfl,hw⟩:=hrel
    subst hw
    go_wp2_with fail
    go_step3
    go_wp2_with fail
    refine wp_region_exact3 _ (Nat.le_refl _) (by kernel_rfl) (by kernel_rfl) ?_
    repeat (refine monoE_step (fun K hK=>?_);apply Exists.intro;refine ⟨fun W hC R hR=>?_,?_⟩;(go_simp;exact hR _ _ (Below.refl _ _) rfl);(go_simp;refine hK _ ?_;clear hK K))
    intro w2 hC2
    have H2:=Lib.hid hC2.2
    have Hsz:=Lib.hid hsz
    clear hC2 hb hN h1 h2 hv hr hc
    go_wp2_with fail
    refine wp_region_exact3 _ (Nat.le_refl _) (by kernel_rfl) (by kernel_rfl) ?_
    repeat (refine monoE_step (fun K hK=>?_);apply Exists.intro;refine ⟨fun W hC R hR=>?_,?_⟩;(first | (go_simp;exact hR _ _ (Below.refl _ _) rfl) | (go_simp;go_at_call 205;refine (Tryz.strings_IndexByte _ _ _).mono ?_;rintro e w9 ⟨he,rfl⟩;have he2 : e = .returned (.int .i64 (-1)):=(he.trans (congrArg (fun z=>Ending.returned (Value.int .i64 z)) (by first | exact HR.out | (go_simp;exact HR.out))));subst he2;exact ⟨_,rfl,hR _ _ (Below.refl _ _) rfl⟩));(go_simp;refine hK _ ?_;clear hK K))
    intro w3 hC3
    have H3:=Lib.hid (bel_call H2.out hC3.2)
    clear hC3
    go_wp2
    simp +zetaDelta only [Exit.noGoto_ret,Exit.inBlock,Exit.then]
    go_ret
    exact ⟨rfl,H3.out⟩
  ·obtain ⟨b0,b1,b2,b3,hN,hb⟩ : ∃ b0 b1 b2 b3 : UInt8,Utf8.encode (r : Int) = ⟨#[b0,b1,b2,b3]⟩∧128≤b3.toNat:=⟨_,_,_,_,bytes_of (Go.Extern.FmtText.enc4 r (by omega) h2),cont_high _⟩
   have hne : (((62 : Int)) != (b3.toNat : Int)) = true:=bne_iff_ne.2 (by omega)
   have hsz : (⟨#[b0,b1,b2,b3]⟩ : ByteArray).size = 4:=rfl
   have hg2 : ∀ h,(⟨#[61,33,60,62]⟩ : ByteArray)[3]'h = 62:=fun _=>rfl
   have hg : ∀ h,(⟨#[b0,b1,b2,b3]⟩ : ByteArray)[3]'h = b3:=fun _=>rfl
   have HR : Hid (Lib.indexByte [] b3 = -1):=by
    show _ = _
    show Lib.indexByte [] _ = _
    rfl
   go_wp2_with fail
   go_step3
   go_wp2_with fail
   go_loopw [9,10] (fun iv fv wr=>iv = .int .i64 3∧fv = .int .i64 0∧wr = w1) (fun _ _ _=>0)
   case atStart=>exact ⟨rfl,rfl,rfl⟩
   case round =>
    obtain ⟨rfl,rfl,hw⟩:=hrel
    subst hw
    go_wp2_with fail
    go_step3
    go_wp2_with fail
    refine wp_region_exact3 _ (Nat.le_refl _) (by kernel_rfl) (by kernel_rfl) ?_
    repeat (refine monoE_step (fun K hK=>?_);apply Exists.intro;refine ⟨fun W hC R hR=>?_,?_⟩;(go_simp;exact hR _ _ (Below.refl _ _) rfl);(go_simp;refine hK _ ?_;clear hK K))
    intro w2 hC2
    have H2:=Lib.hid hC2.2
    have Hsz:=Lib.hid hsz
    clear hC2 hb hN h1 h2 hv hr hc
    go_wp2_with fail
    refine wp_region_exact3 _ (Nat.le_refl _) (by kernel_rfl) (by kernel_rfl) ?_
    repeat (refine monoE_step (fun K hK=>?_);apply Exists.intro;refine ⟨fun W hC R hR=>?_,?_⟩;(first | (go_simp;exact hR _ _ (Below.refl _ _) rfl) | (go_simp;go_at_call 205;refine (Tryz.strings_IndexByte _ _ _).mono ?_;rintro e w9 ⟨he,rfl⟩;have he2 : e = .returned (.int .i64 (-1)):=(he.trans (congrArg (fun z=>Ending.returned (Value.int .i64 z)) (by first | exact HR.out | (go_simp;exact HR.out))));subst he2;exact ⟨_,rfl,hR _ _ (Below.refl _ _) rfl⟩));(go_simp;refine hK _ ?_;clear hK K))
    intro w3 hC3
    have H3:=Lib.hid (bel_call H2.out hC3.2)
    clear hC3
    go_wp2
    simp +zetaDelta only [Exit.noGoto_ret,Exit.inBlock,Exit.then]
    go_ret
    exact ⟨rfl,H3.out⟩
set_option maxRecDepth 100000 in
set_option maxHeartbeats 4000000 in
theorem idxrune_sign (r : Nat) (h1 : 128≤r) (h2 : r≤1114111) (w : World) :
  Calls Tryz.prog 177 #[.string ⟨#[61,33,60,62]⟩,.int .i32 r] w fun e w'=>e = .returned (.int .i64 (-1))∧Below w.heap.size w w':=by
 by_cases hv : r < 55296 ∨ 57344≤r
 ·exact idxrune_valid r h1 h2 hv w
 ·have g0 : (0 : Int)≤(r : Int):=by omega
  have g1 : ¬ (r : Int) < 128:=by omega
  have g2 : ((r : Int) == 65533) = false:=beq_eq_false_iff_ne.2 (by omega)
  have hval : Hid (Lib.validRune (r : Int) = false):=by show _ = _;unfold Lib.validRune;exact decide_eq_false (by omega)
  go_enter Tryz.func177,Tryz.ntmps177
  go_wp2_with fail
  refine (Tryz.utf8_ValidRune r _).mono ?_
  rw [hval.out]
  rintro e w1 ⟨rfl,rfl⟩
  go_wp2
  go_ret
  exact ⟨rfl,Below.refl _ _⟩
theorem enc_high (r : Int) (h : 128≤r) : ∀ b ∈ Lib.encodeRune r,128≤b.toNat:=by
 have key : ∀ x ∈ Lib.encodeRuneZ r,128≤x∧x < 256:=fun x hx=>by
  rcases (by omega : r≤2047 ∨ (2048≤r∧r < 55296) ∨ (55296≤r∧r≤57343) ∨ (57343 < r∧r≤65535) ∨ (65536≤r∧r≤1114111) ∨ 1114111 < r) with hc | hc | hc | hc | hc | hc
  ·rw [Lib.encodeRuneZ_two h hc] at hx;simp at hx;rcases hx with rfl | rfl <;> omega
  ·rw [Lib.encodeRuneZ_three (.inl hc)] at hx;simp at hx;rcases hx with rfl | rfl | rfl <;> omega
  ·rw [Lib.encodeRuneZ_bad (.inr (.inl hc))] at hx;simp at hx;rcases hx with rfl | rfl | rfl <;> omega
  ·rw [Lib.encodeRuneZ_three (.inr hc)] at hx;simp at hx;rcases hx with rfl | rfl | rfl <;> omega
  ·rw [Lib.encodeRuneZ_four hc.1 hc.2] at hx;simp at hx;rcases hx with rfl | rfl | rfl | rfl <;> omega
  ·rw [Lib.encodeRuneZ_bad (.inr (.inr hc))] at hx;simp at hx;rcases hx with rfl | rfl | rfl <;> omega
 intro b hb
 unfold Lib.encodeRune at hb
 obtain ⟨x,hx,rfl⟩:=List.mem_map.1 hb
 obtain ⟨h1,h2⟩:=key x hx
 rw [show x.toNat.toUInt8.toNat = x.toNat % 256 from UInt8.toNat_ofNat' ..]
 omega
theorem iter_below {B k p : Nat} {s : ByteArray} {w W : World} (h : Below B w W) (hk : B≤k) : Below B w (W.iterAt k s p) :=
 ⟨h.os,h.tape,h.output,by simp [World.iterAt];exact h.size,fun b hb=>by
  rw [← h.block b hb]
  simp only [World.iterAt]
  rw [Array.getElem?_setIfInBounds_ne (by omega)]⟩
theorem dec_high (u : ByteArray) (i : Nat) (hi : i < u.size) (ha : 128≤(u[i]'hi).toNat) : 128≤(Utf8.decode u i).1∧(Utf8.decode u i).1≤1114111∧1≤(Utf8.decode u i).2∧i + (Utf8.decode u i).2≤u.size ∧
  ∀ (j : Nat) (y : UInt8),i≤j → j < i + (Utf8.decode u i).2 → u.data.toList[j]? = some y → 128≤y.toNat:=by
 have hh:=decode_high u i hi ha
 have hd:=Lib.decodeL_drop u i
 have hlen : u.data.toList.length = u.size:=(Lib.size_eq u).symm
 have hne : u.data.toList.drop i ≠ []:=fun e=>by have:=congrArg List.length e;simp at this;rw [← hlen] at hi;simp at hi;omega
 have hr:=Lib.decodeL_rune (u.data.toList.drop i)
 have hle:=Lib.decodeL_le (u.data.toList.drop i) hne
 rw [hd] at hr hle
 rw [List.length_drop,hlen] at hle
 refine ⟨hh.1,hr,hh.2,by omega,fun j y h1 h2 hy=>?_⟩
 by_cases hs : (Utf8.decode u i).1 = 65533∧(Utf8.decode u i).2 = 1
 ·obtain rfl : j = i:=by have:=hs.2;omega
  have:=Lib.data_getElem? u j hi
  rw [this] at hy
  injection hy with hy
  rw [← hy]
  exact ha
 ·have he:=Lib.encode_decode (u.data.toList.drop i) hne (by rw [hd];exact hs)
  rw [hd] at he
  have hm : y ∈ (u.data.toList.drop i).take (Utf8.decode u i).2:=by
   rw [List.mem_iff_getElem?]
   refine ⟨j - i,?_⟩
   rw [List.getElem?_take_of_lt (by omega),List.getElem?_drop,show i + (j - i) = j by omega]
   exact hy
  rw [← he] at hm
  exact enc_high _ (by have:=hh.1;omega) y hm
set_option maxRecDepth 100000 in
set_option maxHeartbeats 8000000 in
theorem indexany_any (u : ByteArray) (hu : u.size < 4294967281) (w : World) :
  Calls Tryz.prog 145 #[.string u,.string ⟨#[61,33,60,62]⟩] w fun e w'=>e = .returned (.int .i64 (Lib.indexAny u.data.toList [61,33,60,62]))∧Below w.heap.size w w':=by
 have h116 : (Tryz.prog.info? 216).map (fun i=>(i.zero,i.size)) = some (some (.agg (Array.replicate 256 (.bool false))),256):=by kernel_rfl
 by_cases h8 : 8 < u.size
 ·refine (Tryz.strings_IndexAny_long (zero_of_info h116).1 u ⟨#[61,33,60,62]⟩ w (by decide) h8 hu (by decide) (fun j b hb=>?_)).mono ?_
  ·have hb' : [(61 : UInt8),33,60,62][j]? = some b:=hb
   match j,hb' with
   | 0,h=>simp at h;subst h;decide
   | 1,h=>simp at h;subst h;decide
   | 2,h=>simp at h;subst h;decide
   | 3,h=>simp at h;subst h;decide
   | j + 4,h=>simp at h
  ·rintro e w' ⟨rfl,rfl⟩
   exact ⟨rfl,bel_alloc (bel_alloc (Below.refl _ _) _) _⟩
 ·have h8z : decide ((8 : Int) < (u.size : Int)) = false:=decide_eq_false (by omega)
  clear h116 h8
  go_enter Tryz.func145,Tryz.ntmps145
  go_wp2_with fail
  refine (Tryz.strings_shouldUseASCIISet _ _).mono ?_
  rw [h8z]
  rintro e w1 ⟨rfl,rfl⟩
  clear h8z
  go_wp2_with fail
  go_loopg [9,10] u.size (fun g _ _ wx=>∃ i : Nat,i + g = u.size∧wx.heap[w1.heap.size]? = some (.stringIter u i)∧Below w1.heap.size w1 wx∧Lib.NoAny u.data.toList [61,33,60,62] i)
  case atStart=>exact ⟨0,by omega,World.iter_heap _ _ _,bel_alloc (Below.refl _ _) _,Lib.NoAny.zero _ _⟩
  case round =>
   obtain ⟨i,hig,hit,hbw,hno⟩:=hrel
   have HN:=Lib.hid hno
   have HI:=Lib.hid hit
   have Hb:=Lib.hid hbw
   clear hno hbw
   by_cases hi : i < u.size
   ·by_cases ha : (u[i]'hi).toNat < 128
    ·have hnx:=fun (wx : World) (h : wx.heap[w1.heap.size]? = some (.stringIter u i)) ty=>Lib.run_next_ascii_at (P:=Tryz.prog) wx w1.heap.size u i ty h hi ha
     obtain ⟨x,hx⟩ : ∃ x : UInt8,u[i]'hi = x:=⟨_,rfl⟩
     have hxl : u.data.toList[i]? = some x:=by rw [← hx];exact Lib.data_getElem? u i hi
     rw [hx] at hnx ha
     have hk:=hnx wr HI.out
     have Hx:=Lib.hid hxl
     have HI2:=Lib.hid (Lib.iterAt_heap wr w1.heap.size u i (i + 1) HI.out)
     have Hb2:=Lib.hid (iter_below (k:=w1.heap.size) (s:=u) (p:=i + 1) Hb.out (Nat.le_refl _))
     have hcon:=Lib.contains_iff_indexByte [61,33,60,62] x
     have hback : ((x.toNat : Int)).toNat.toUInt8 = x:=by simp
     clear hx hxl hnx hit
     cases hin : ([61,33,60,62] : List UInt8).contains x
     ·rw [hin] at hcon
      have hlt : ¬ ((0 : Int)≤Lib.indexByte [61,33,60,62] x):=of_decide_eq_false hcon.symm
      have HN2:=Lib.hid (HN.out.succ Hx.out hin)
      clear hcon hin
      go_wp2_with fail
      refine (Tryz.strings_IndexRune_ascii _ _ _ (by omega) (by omega)).mono ?_
      rintro e w3 ⟨rfl,rfl⟩
      rw [hback]
      go_wp2
      go_roundg (u.size - (i + 1))
      case measure=>omega
      case rel=>exact ⟨i + 1,by omega,HI2.out,Hb2.out,HN2.out⟩
     ·rw [hin] at hcon
      have hge : (0 : Int)≤Lib.indexByte [61,33,60,62] x:=of_decide_eq_true hcon.symm
      have HE:=Lib.hid (Lib.indexAny_hit HN.out Hx.out hin)
      clear hcon hin
      go_wp2_with fail
      refine (Tryz.strings_IndexRune_ascii _ _ _ (by omega) (by omega)).mono ?_
      rintro e w3 ⟨rfl,rfl⟩
      rw [hback]
      go_wp2
      go_ret
      exact ⟨by rw [HE.out];rfl,Hb2.out⟩
    ·obtain ⟨d1,d2,d3,d4,d5⟩:=dec_high u i hi (by omega)
     have hk:=fun ty=>Lib.run_next_any_at (P:=Tryz.prog) wr w1.heap.size u i ty HI.out hi
     obtain ⟨⟨r,m⟩,hd⟩ : ∃ d,Utf8.decode u i = d:=⟨_,rfl⟩
     rw [hd] at d1 d2 d3 d4 d5 hk
     dsimp only at d1 d2 d3 d4 d5 hk
     have HI2:=Lib.hid (Lib.iterAt_heap wr w1.heap.size u i (i + m) HI.out)
     have Hb2:=Lib.hid (iter_below (k:=w1.heap.size) (s:=u) (p:=i + m) Hb.out (Nat.le_refl _))
     have HN2 : Hid (Lib.NoAny u.data.toList [61,33,60,62] (i + m)):=fun j y hj hy=>by
      by_cases hji : j < i
      ·exact HN.out j y hji hy
      ·have:=d5 j y (by omega) hj hy
       have e : ∀ c : UInt8,c.toNat < 128 → (y == c) = false:=fun c hc=>beq_eq_false_iff_ne.2 (fun e=>by rw [e] at this;omega)
       simp [List.contains,List.elem,e]
     clear hd d5 ha hit
     go_wp2_with fail
     refine (idxrune_sign r d1 d2 _).mono ?_
     rintro e w3 ⟨rfl,hb3⟩
     have HI3:=Lib.hid ((hb3.block w1.heap.size (by have:=(Array.getElem?_eq_some_iff.1 HI2.out).1;exact this)).trans HI2.out)
     have Hb3:=Lib.hid (bel_call Hb2.out hb3)
     clear hb3 hk
     go_wp2
     go_roundg (u.size - (i + m))
     case measure=>omega
     case rel=>exact ⟨i + m,by omega,HI3.out,Hb3.out,HN2.out⟩
   ·have hnx:=fun ty=>Lib.run_next_end_at (P:=Tryz.prog) wr w1.heap.size u i ty HI.out hi
    have HE:=Lib.hid (Lib.indexAny_none (s:=u.data.toList) (chars:=[61,33,60,62]) (fun j b hj hb=>HN.out j b (by rw [← Lib.size_eq] at hj;omega) hb))
    clear hit
    go_wp2
    go_ret
    exact ⟨by rw [HE.out];rfl,Hb.out⟩
end Go.Proofs.YthkgjohhbdipcaaGreatDoor
namespace Go.Proofs.YthkgjohhbdipcaaGreatDoor
open Go.RowKit
theorem bsL_inj {l m : List UInt8} : bsL l = bsL m ↔ l = m:=⟨fun h=>by
 have:=congrArg (fun b=>b.data.toList) h
 simpa [bsL] using this,fun h=>by rw [h]⟩
theorem sign_mem (b : UInt8) : ([61,33,60,62] : List UInt8).contains b = decide (opOf b ≠ 0):=by
 unfold opOf
 by_cases h1 : b = 61
 ·subst h1;rfl
 ·by_cases h2 : b = 33
  ·subst h2;rfl
  ·by_cases h3 : b = 60
   ·subst h3;rfl
   ·by_cases h4 : b = 62
    ·subst h4;rfl
    ·simp [h1,h2,h3,h4]
theorem any_op : ∀ l : List UInt8,Lib.indexAny l [61,33,60,62] = if opAt l = l.length then -1 else (opAt l : Int)
 | []=>rfl
 | b :: l=>by
  have ih:=any_op l
  unfold Lib.indexAny opAt
  rw [sign_mem]
  by_cases h : opOf b = 0
  ·rw [if_neg (by simp [h]),if_pos h,ih]
   by_cases h2 : opAt l = l.length
   ·rw [if_pos h2,if_pos (by rfl),if_pos (by simp [h2])]
   ·have h3 : ¬ opAt l + 1 = (b :: l).length:=by simp only [List.length_cons];omega
    have h4 : ((opAt l : Int) == -1) = false:=beq_eq_false_iff_ne.2 (by omega)
    simp only [if_neg h2,h4,if_neg h3,Bool.false_eq_true,if_false]
    omega
  ·rw [if_pos (by simp [h]),if_neg h,if_neg (by simp)]
   rfl
def fieldBs : List ByteArray:=[bsL [110,114],bsL [107,105,110,100],bsL [97],bsL [98],bsL [99]]
def opBs : List ByteArray:=[bsL [],bsL [61],bsL [33],bsL [60],bsL [62]]
def verdictBs : List ByteArray:=[bsL [107,105,108,108],bsL [116,114,97,112],bsL [102,97,105,108],bsL [108,111,103],bsL [97,108,108,111,119]]
theorem idx5 (a b c d e x : List UInt8) : Lib.idxOfS [bsL a,bsL b,bsL c,bsL d,bsL e] (bsL x) = if x = a then 0 else if x = b then 1 else if x = c then 2 else if x = d then 3 else if x = e then 4 else -1:=by
 have h : ∀ y : List UInt8,(bsL y = bsL x) = (x = y):=fun y=>propext ⟨fun h=>(bsL_inj.1 h).symm,fun h=>bsL_inj.2 h.symm⟩
 simp only [Lib.idxOfS,Lib.idxFromS,h]
 repeat' split
 all_goals simp_all
theorem field_idx (x : List UInt8) : Lib.idxOfS (fieldBs.take 5) (bsL x) = match fieldOf x with | some f=>f | none=>-1:=by
 show Lib.idxOfS [bsL _,bsL _,bsL _,bsL _,bsL _] (bsL x) = _
 rw [idx5]
 unfold fieldOf
 repeat' split
 all_goals simp_all
theorem verdict_idx (x : List UInt8) : Lib.idxOfS (verdictBs.take 5) (bsL x) = match verdictOf x with | some f=>f | none=>-1:=by
 show Lib.idxOfS [bsL _,bsL _,bsL _,bsL _,bsL _] (bsL x) = _
 rw [idx5]
 unfold verdictOf
 repeat' split
 all_goals simp_all
theorem op_idx (b : UInt8) (h : opOf b ≠ 0) : Lib.idxOfS (opBs.take 5) (bsL [b]) = opOf b:=by
 show Lib.idxOfS [bsL _,bsL _,bsL _,bsL _,bsL _] (bsL [b]) = _
 rw [idx5]
 unfold opOf at h ⊢
 by_cases h1 : b = 61
 ·subst h1;rfl
 ·by_cases h2 : b = 33
  ·subst h2;rfl
  ·by_cases h3 : b = 60
   ·subst h3;rfl
   ·by_cases h4 : b = 62
    ·subst h4;rfl
    ·simp [h1,h2,h3,h4] at h
theorem rowidx_any (a b c d e x : List UInt8) (g : Nat) (W : World) (h : W.heap[g]? = some (.cells #[.string (bsL a),.string (bsL b),.string (bsL c),.string (bsL d),.string (bsL e)] 9)) :
  Calls Tryz.prog 69 #[.slice (some ⟨g,0,none⟩) 5 5,.string (bsL x)] W fun o w'=>o = .returned (.int .i64 (Lib.idxOfS [bsL a,bsL b,bsL c,bsL d,bsL e] (bsL x)))∧w' = W :=
 Tryz.slices_Index_string g 0 5 5 [bsL a,bsL b,bsL c,bsL d,bsL e] (bsL x) W (by simp) (by omega) (fun j hj=>by
  rw [cells_of h]
  match j,hj with
  | 0,_=>rfl
  | 1,_=>rfl
  | 2,_=>rfl
  | 3,_=>rfl
  | 4,_=>rfl
  | j + 5,hj=>exact absurd hj (by simp))
theorem bsL_extract (l : List UInt8) (i j : Nat) : (bsL l).extract i j = bsL ((l.drop i).take (j - i)):=by
 apply ByteArray.ext
 simp [bsL,ByteArray.extract,ByteArray.copySlice]
end Go.Proofs.YthkgjohhbdipcaaGreatDoor
namespace Go.Proofs.YthkgjohhbdipcaaGreatDoor
open Go.RowKit
theorem atoiSat_eq (l : List UInt8) : Lib.atoiSat l = Lib.intSat 64 l:=by
 unfold Lib.atoiSat Lib.intSat
 split <;> rfl
theorem atoi_any (s : ByteArray) (w : World) (hL : Laid w) (hs : s.size≤281474976710656) :
  Calls Tryz.prog 108 #[.string s] w fun e w'=>∃ err : Value,e = .returned (.tuple #[.int .i64 (wholeS s.data.toList).1,err])∧(((∃ v,Lib.parseIntB 64 s.data.toList = .ok v∧wholeS s.data.toList = (v,Lib.itoa v == s.data.toList))∧err = .nilIface) ∨ ((wholeS s.data.toList).2 = false∧∃ t p,err = .iface t p))∧Below w.heap.size w w':=by
 cases hp : Lib.parseIntB 64 s.data.toList
 ·rename_i v
  have he : wholeS s.data.toList = (v,Lib.itoa v == s.data.toList):=by unfold wholeS;rw [hp]
  refine (Tryz.strconv_Atoi_ok s (by omega) v (by rw [← Lib.parseIntB_64];exact hp) w).mono ?_
  rintro e w1 ⟨rfl,hw1⟩
  refine ⟨_,by rw [he],.inl ⟨⟨v,rfl,he⟩,rfl⟩,?_⟩
  rcases hw1 with rfl | ⟨t,rfl⟩
  ·exact Below.refl _ _
  ·exact Go.Joins.below_bytesWorld _ _ _ _ (Nat.le_refl _)
 ·have he : wholeS s.data.toList = (0,false):=by unfold wholeS;rw [hp]
  obtain ⟨te,pe,hv⟩:=hL.syn
  have c : Calls Tryz.prog 108 #[.string s] w _:=Any.strconv_Atoi_syntax Tryz.laysC172 s hs (by rw [← Lib.parseIntB_64];exact hp) _ w hv (.inr ⟨te,pe,rfl⟩)
  exact c.mono fun e w' ⟨N,h1,_,_,h4⟩=>⟨.iface _ (.pointer (some ⟨N,0,none⟩)),by rw [he];exact h1,.inr ⟨by rw [he],_,_,rfl⟩,h4⟩
 ·have he : wholeS s.data.toList = (Lib.intSat 64 s.data.toList,false):=by unfold wholeS;rw [hp]
  obtain ⟨te,pe,hv⟩:=hL.rng
  refine (Tryz.strconv_Atoi_range s hs (by rw [← Lib.parseIntB_64];exact hp) _ w hv (.inr ⟨te,pe,rfl⟩)).mono ?_
  rintro e w1 ⟨N,rfl,_,_,hb1⟩
  exact ⟨.iface _ (.pointer (some ⟨N,0,none⟩)),by rw [he,atoiSat_eq],.inr ⟨by rw [he],_,_,rfl⟩,hb1⟩
set_option maxHeartbeats 2000000 in
theorem number_any (s : ByteArray) (w : World) (hL : Laid w) (hs : s.size≤281474976710656) :
  Calls Tryz.prog 68 #[.string s] w fun e w'=>e = .returned (.tuple #[.int .i64 (wholeS s.data.toList).1,.bool (wholeS s.data.toList).2])∧Below w.heap.size w w':=by
 have HL:=Lib.hid hL
 clear hL
 go_enter Tryz.func68,Tryz.ntmps68
 go_wp2_with fail
 refine (atoi_any s _ HL.out hs).mono ?_
 rintro e w1 ⟨err,rfl,hc,hb1⟩
 have Hb1:=Lib.hid hb1
 have HC:=Lib.hid hc
 clear hb1 hc
 rcases HC.out with ⟨⟨v,hp,he⟩,rfl⟩ | ⟨h2,t,p,rfl⟩
 ·obtain ⟨h0,h1⟩:=parse_in hp
  obtain ⟨q,hq⟩ : ∃ q,(Lib.itoa v == s.data.toList) = q:=⟨_,rfl⟩
  rw [hq] at he
  have hcmp : ((bsL (Lib.itoa v)).toList == s.toList) = q:=by rw [ByteArray.toList_eq,ByteArray.toList_eq,bsL_toList];exact hq
  have He:=Lib.hid he
  rw [he]
  clear hp he hq HC
  go_wp2_with fail
  refine (itoa_any v h0 h1 _ (HL.out.below Hb1.out)).mono ?_
  rintro e w2 ⟨rfl,hb2⟩
  have Hb2:=Lib.hid (bel_call Hb1.out hb2)
  clear hb2
  go_wp2
  go_ret2
  exact ⟨by rw [He.out];rfl,Hb2.out⟩
 ·have He:=Lib.hid h2
  clear h2 HC
  go_wp2
  go_ret2
  exact ⟨by rw [He.out];rfl,Hb1.out⟩
end Go.Proofs.YthkgjohhbdipcaaGreatDoor
namespace Go.Proofs.YthkgjohhbdipcaaGreatDoor
open Go.RowKit
def valOr (X : Option ((Nat → Value) → Value)) (vf : Nat → Value) (k : Nat) : Value:=match X with
 | some X=>X vf
 | none=>vf k
def valsOf (Xs : Nat → Option ((Nat → Value) → Value)) (vf : Nat → Value) (k : Nat) : Value:=valOr (Xs k) vf k
def updVal (vf : Nat → Value) (i : Nat) (v : Value) : Nat → Value:=fun j=>if j = i then v else vf j
def Proper (bs : List (List Nat)) (i : Nat) (X : (Nat → Value) → Value) : Prop:=∀ f g : Nat → Value,(∀ m ∈ bs.getD i [],f m = g m) → X f = X g
section
variable (P : Program) (ops : Array Oper) (Inv : (Nat → Bool) → World → Prop) (T : Nat → (Nat → Value) → World → World → Prop) (F : Nat → (Nat → Bool) → (Nat → Value) → World → Prop) (bs : List (List Nat)) (Q : Act → World → Prop) (n : Nat)
def relOb (i : Nat) (o : Oper) (av : (Nat → Value) → Act) (E : (Nat → Value) → Value → Prop) : Prop :=
 ∀ (done : Nat → Bool) (vf : Nat → Value) (w : World),Inv done w → done i = false → (∀ k ∈ (prune o).after.toList.map (fun e=>e.on),done k = true) → (∀ k : Nat,i ∈ bs.getD k [] → done k = false) → (∀ k,done k = true → F k done vf w) →
  ∀ R : Value → World → Prop,(∀ (v : Value) (w' : World),Inv (updDone done i) w' → T i vf w w' → E vf v → F i (updDone done i) (updVal vf i v) w' → R v w') → if Region.wanted o (yielded ops (av vf).tmps) then gives P o (av vf) w R else R undef w
def relWalk : List Oper → Nat → ((Nat → Value) → Act) → Prop
 | [],_,av=>∀ (done : Nat → Bool) (vf : Nat → Value) (w : World),(∀ k,k < n → done k = true) → Inv done w → (∀ k,k < n → F k done vf w) → Q (av vf) w
 | o :: l,i,av=>(∃ X : (Nat → Value) → Value,Proper bs i X∧relOb P ops Inv T F bs i o av (fun vf v=>v = X vf)∧relWalk l (i + 1) (fun vf=>(av vf).put o.dst (X vf))) ∨
   (relOb P ops Inv T F bs i o av (fun _ _=>True)∧relWalk l (i + 1) (fun vf=>(av vf).put o.dst (vf i)))
end
section
variable {P : Program} {ops : Array Oper} {Inv : (Nat → Bool) → World → Prop} {T : Nat → (Nat → Value) → World → World → Prop} {F : Nat → (Nat → Bool) → (Nat → Value) → World → Prop} {bs : List (List Nat)} {Q : Act → World → Prop} {n : Nat} {o : Oper} {l : List Oper} {i : Nat} {av : (Nat → Value) → Act}
theorem rel_ex (h : ∀ K : ((Nat → Value) → Act) → Prop,(∀ a',relWalk P ops Inv T F bs Q n l (i + 1) a' → K a') → ∃ X : (Nat → Value) → Value,relOb P ops Inv T F bs i o av (fun vf v=>v = X vf)∧Proper bs i X∧K (fun vf=>(av vf).put o.dst (X vf))) : relWalk P ops Inv T F bs Q n (o :: l) i av:=by
 obtain ⟨X,h1,h2,h3⟩:=h _ (fun _ h=>h)
 exact .inl ⟨X,h2,h1,h3⟩
theorem rel_pr (h : ∀ K : ((Nat → Value) → Act) → Prop,(∀ a',relWalk P ops Inv T F bs Q n l (i + 1) a' → K a') → relOb P ops Inv T F bs i o av (fun _ _=>True)∧K (fun vf=>(av vf).put o.dst (vf i))) : relWalk P ops Inv T F bs Q n (o :: l) i av:=by
 exact .inr (h _ (fun _ h=>h))
end
theorem lexAct_congr {f g : Nat → Value} : ∀ (l : List Oper) (i : Nat) (a : Act),(∀ k,i≤k → f k = g k) → lexAct f l i a = lexAct g l i a
 | [],_,_,_=>rfl
 | o :: l,i,a,h=>by
  simp only [lexAct]
  rw [h i (Nat.le_refl _)]
  exact lexAct_congr l (i + 1) _ (fun k hk=>h k (by omega))
def exOf (X : Option ((Nat → Value) → Value)) (vf : Nat → Value) (v : Value) : Prop:=∀ Y,X = some Y → v = Y vf
section
variable {P : Program} {ops : Array Oper} {Inv : (Nat → Bool) → World → Prop} {T : Nat → (Nat → Value) → World → World → Prop} {F : Nat → (Nat → Bool) → (Nat → Value) → World → Prop} {bs : List (List Nat)} {Q : Act → World → Prop} {n : Nat}
theorem rel_ext : ∀ (l : List Oper) (i : Nat) (av : (Nat → Value) → Act),relWalk P ops Inv T F bs Q n l i av → ∃ Xs : Nat → Option ((Nat → Value) → Value),
  (∀ k X,Xs k = some X → Proper bs k X)∧(∀ j o,l[j]? = some o → relOb P ops Inv T F bs (i + j) o (fun vf=>lexAct (valsOf Xs vf) (l.take j) i (av vf)) (exOf (Xs (i + j)))) ∧
  (∀ (done : Nat → Bool) (vf : Nat → Value) (w : World),(∀ k,k < n → done k = true) → Inv done w → (∀ k,k < n → F k done vf w) → Q (lexAct (valsOf Xs vf) l i (av vf)) w)
 | [],i,av,h=>⟨fun _=>none,(fun _ _ h=>by cases h),(fun j o hj=>by simp at hj),h⟩
 | o :: l,i,av,h=>by
  have main : ∀ (X0 : Option ((Nat → Value) → Value)),(∀ X,X0 = some X → Proper bs i X) → relOb P ops Inv T F bs i o av (exOf X0) →
    (∃ Xs : Nat → Option ((Nat → Value) → Value),(∀ k X,Xs k = some X → Proper bs k X)∧(∀ j o',l[j]? = some o' → relOb P ops Inv T F bs (i + 1 + j) o' (fun vf=>lexAct (valsOf Xs vf) (l.take j) (i + 1) ((av vf).put o.dst (valOr X0 vf i))) (exOf (Xs (i + 1 + j)))) ∧
     (∀ (done : Nat → Bool) (vf : Nat → Value) (w : World),(∀ k,k < n → done k = true) → Inv done w → (∀ k,k < n → F k done vf w) → Q (lexAct (valsOf Xs vf) l (i + 1) ((av vf).put o.dst (valOr X0 vf i))) w)) →
    ∃ Xs : Nat → Option ((Nat → Value) → Value),(∀ k X,Xs k = some X → Proper bs k X)∧(∀ j o',(o :: l)[j]? = some o' → relOb P ops Inv T F bs (i + j) o' (fun vf=>lexAct (valsOf Xs vf) ((o :: l).take j) i (av vf)) (exOf (Xs (i + j)))) ∧
     (∀ (done : Nat → Bool) (vf : Nat → Value) (w : World),(∀ k,k < n → done k = true) → Inv done w → (∀ k,k < n → F k done vf w) → Q (lexAct (valsOf Xs vf) (o :: l) i (av vf)) w):=by
   rintro X0 hp0 hob ⟨Xs,hp,hobs,hend⟩
   let Ys : Nat → Option ((Nat → Value) → Value):=fun k=>if k = i then X0 else Xs k
   have yi : Ys i = X0:=if_pos rfl
   have yk : ∀ k,i + 1≤k → Ys k = Xs k:=fun k hk=>if_neg (by omega)
   have hv : ∀ vf,valsOf Ys vf i = (valOr X0 vf i):=fun vf=>by unfold valsOf;rw [yi]
   have hc : ∀ (m : List Oper) (vf : Nat → Value) (a : Act),lexAct (valsOf Ys vf) m (i + 1) a = lexAct (valsOf Xs vf) m (i + 1) a:=fun m vf a=>lexAct_congr m (i + 1) a fun k hk=>by unfold valsOf;rw [yk k hk]
   refine ⟨Ys,fun k X hk=>?_,fun j o' hj=>?_,fun done vf w hd hI hF=>?_⟩
   ·by_cases e : k = i
    ·subst e;rw [yi] at hk;exact hp0 X hk
    ·have : Ys k = Xs k:=if_neg e
     rw [this] at hk;exact hp k X hk
   ·cases j with
    | zero =>
     simp only [List.getElem?_cons_zero,Option.some.injEq] at hj
     subst hj
     rw [Nat.add_zero,yi]
     exact hob
    | succ j =>
     have:=hobs j o' (by simpa using hj)
     rw [show i + (j + 1) = i + 1 + j by omega,yk _ (by omega)]
     refine (congrArg (fun a=>relOb P ops Inv T F bs (i + 1 + j) o' a (exOf (Xs (i + 1 + j)))) ?_).mp this
     funext vf
     simp only [List.take_succ_cons,lexAct,hv]
     exact (hc _ _ _).symm
   ·simp only [lexAct,hv]
    rw [hc]
    exact hend done vf w hd hI hF
  rcases h with ⟨X,hp,hob,hw⟩ | ⟨hob,hw⟩
  ·exact main (some X) (fun Y e=>by injection e with e;subst e;exact hp) (fun done vf w h1 h2 h3 h4 h5 R hR=>hob done vf w h1 h2 h3 h4 h5 R fun v w' a b c d=>hR v w' a b (fun Y e=>by injection e with e;subst e;exact c) d) (rel_ext l (i + 1) _ hw)
  ·exact main none (fun Y e=>by cases e) (fun done vf w h1 h2 h3 h4 h5 R hR=>hob done vf w h1 h2 h3 h4 h5 R fun v w' a b _ d=>hR v w' a b (fun Y e=>by cases e) d) (rel_ext l (i + 1) _ hw)
end
structure RelInv (l : List Oper) (Xs : Nat → Option ((Nat → Value) → Value)) (Inv : (Nat → Bool) → World → Prop) (F : Nat → (Nat → Bool) → (Nat → Value) → World → Prop) (a : Act) (vf : Nat → Value) (listed : Array Bool) (a' : Act) (w' : World) : Prop where
 cls : Inv (fun k=>listed[k]? == some true) w'
 down : ∀ (j : Nat) (o : Oper),l[j]? = some o → listed[j]? = some true → ∀ e ∈ o.after,listed[e.on]? = some true
 lsize : listed.size = l.length
 defers : a'.defers = a.defers
 size : a'.tmps.size = a.tmps.size
 vals : ∀ j,listed[j]? = some true → vf j = valsOf Xs vf j
 facts : ∀ j,listed[j]? = some true → F j (fun k=>listed[k]? == some true) vf w'
 slots : ∀ (j : Nat) (o : Oper),l[j]? = some o → listed[j]? = some true → ∀ d,o.dst = some d → a'.tmps[d]? = some (vf j)
 rest : ∀ t,(∀ (j : Nat) (o : Oper),l[j]? = some o → listed[j]? = some true → o.dst ≠ some t) → a'.tmps[t]? = a.tmps[t]?
section
variable {P : Program} {l : List Oper} {Inv : (Nat → Bool) → World → Prop} {T : Nat → (Nat → Value) → World → World → Prop} {F : Nat → (Nat → Bool) → (Nat → Value) → World → Prop} {Q : Exit → Act → World → Prop} {a : Act}
theorem wpAny_rel (hB : monoB2 l a.tmps.size = true) (hpr : ∀ o ∈ l,prune o = o)
  (hst : ∀ (i : Nat) (done : Nat → Bool) (vf : Nat → Value) (w w' : World),Inv done w → done i = false → (∀ m ∈ (befores l []).getD i [],done m = true) → (∀ m,done m = true → F m done vf w) → T i vf w w' → ∀ k,done k = true → F k (updDone done i) vf w')
  (hF : ∀ (k : Nat) (done : Nat → Bool) (f g : Nat → Value) (w : World),(∀ m ∈ (befores l []).getD k [],f m = g m) → f k = g k → F k done f w → F k done g w)
  (h : relWalk P l.toArray Inv T F (befores l []) (Q .normal) l.length l 0 (fun _=>a)) :
  ∃ Xs,∀ (fuel : Nat) (listed : Array Bool) (vf : Nat → Value) (a' : Act) (w' : World),(undone listed l.length).length≤fuel → RelInv l Xs Inv F a vf listed a' w' → wpAny P .any l.toArray Q fuel listed a' w':=by
 obtain ⟨Xs,hpX,hobs,hend⟩:=rel_ext l 0 _ h
 refine ⟨Xs,?_⟩
 have hS:=fun {i : Nat} {o : Oper} (hi : l[i]? = some o)=>monoB2_spec hB hi
 have fin : ∀ (listed : Array Bool) (vf : Nat → Value) (a' : Act) (w' : World),(∀ j,j < l.length → listed[j]? = some true) → RelInv l Xs Inv F a vf listed a' w' → Q .normal a' w':=by
  intro listed vf a' w' hall hI
  have hq:=hend _ vf w' (fun k hk=>by simp [hall k hk]) hI.cls (fun k hk=>hI.facts k (hall k hk))
  have ea : a' = lexAct (valsOf Xs vf) l 0 a:=by
   obtain ⟨hz,hd⟩:=lexAct_size (valsOf Xs vf) l 0 a
   have ht : a'.tmps = (lexAct (valsOf Xs vf) l 0 a).tmps:=by
    apply Array.ext_getElem?
    intro t
    by_cases hex : ∃ (j : Nat) (o : Oper),l[j]? = some o∧o.dst = some t
    ·obtain ⟨j,o,hj,hdt⟩:=hex
     have hjl:=(List.getElem?_eq_some_iff.1 hj).1
     obtain ⟨hlt,huniq⟩:=(hS hj).2.2.2 t hdt
     rw [lexAct_same _ l 0 a j o hj hdt huniq hlt,Nat.zero_add,← hI.vals j (hall j hjl)]
     exact hI.slots j o hj (hall j hjl) t hdt
    ·have hn : ∀ (j : Nat) (o : Oper),l[j]? = some o → o.dst ≠ some t:=fun j o hj e=>hex ⟨j,o,hj,e⟩
     rw [lexAct_other _ l 0 a (fun o ho=>by obtain ⟨j,hj⟩:=List.getElem?_of_mem ho;exact hn j o hj)]
     exact hI.rest t (fun j o hj _=>hn j o hj)
   cases a';cases hx : lexAct (valsOf Xs vf) l 0 a
   rw [hx] at ht hd
   have:=hI.defers
   simp_all
  rw [ea];exact hq
 have allIf : ∀ (listed : Array Bool),listed.size = l.length → Region.ready .any l.toArray listed = [] → ∀ j,j < l.length → listed[j]? = some true:=by
  intro listed hsz hr j
  induction j using Nat.strongRecOn with
  | ind j ih =>
   intro hj
   have hsome : listed[j]? = some listed[j]:=Array.getElem?_eq_getElem (by omega)
   cases hb : listed[j] with
   | true=>rw [hsome,hb]
   | false =>
    have : j ∈ Region.ready .any l.toArray listed:=by
     rw [mem_ready]
     refine ⟨by simp [Array.getD_eq_getD_getElem?,hsome,hb],l[j],by simp [hj],fun e he _=>?_⟩
     have h1:=((hS (List.getElem?_eq_getElem hj)).2.1 e he).1
     have h2:=ih e.on h1 (by omega)
     simp [Array.getD_eq_getD_getElem?,h2]
    rw [hr] at this
    cases this
 intro fuel
 induction fuel with
 | zero =>
  intro listed vf a' w' hf hI
  have hall : ∀ j,j < l.length → listed[j]? = some true:=by
   intro j hj
   have h0 : undone listed l.length = []:=List.eq_nil_of_length_eq_zero (by omega)
   unfold undone at h0
   rw [List.filter_eq_nil_iff] at h0
   simpa using h0 j (List.mem_range.2 hj)
  refine ⟨?_,fin _ _ _ _ hall hI⟩
  rw [List.eq_nil_iff_forall_not_mem]
  intro j hj
  obtain ⟨h0,o,ho,_⟩:=mem_ready.1 hj
  have hj' : j < l.length:=by
   have:=(Array.getElem?_eq_some_iff.1 ho).1
   simpa using this
  simp [Array.getD_eq_getD_getElem?,hall j hj'] at h0
 | succ fuel ih =>
  intro listed vf a' w' hf hI
  refine ⟨fun hr=>fin _ _ _ _ (allIf listed hI.lsize hr) hI,fun i hi=>?_⟩
  obtain ⟨h0,o,ho,hdep⟩:=mem_ready.1 hi
  have hil : l[i]? = some o:=by simpa using ho
  have hilt : i < l.length:=(List.getElem?_eq_some_iff.1 hil).1
  have hnl : listed[i]? ≠ some true:=fun e=>by simp [Array.getD_eq_getD_getElem?,e] at h0
  obtain ⟨hsel,hafter,hlooks,hdst⟩:=hS hil
  have hdone : ∀ e ∈ o.after,listed[e.on]? = some true:=fun e he=>by
   have:=hdep e he (hafter e he).2
   rw [Array.getD_eq_getD_getElem?] at this
   cases hx : listed[e.on]? with
   | none=>simp [hx] at this
   | some b=>simp [hx] at this;rw [this]
  have hob:=hobs i o hil
  rw [Nat.zero_add] at hob
  have hclosed : ∀ k m : Nat,m ∈ (befores l []).getD k [] → listed[k]? = some true → listed[m]? = some true:=fun k m hk hlk =>
   befores_spec l [] (fun k i=>listed[k]? = some true → listed[i]? = some true) (fun k i h=>by simp at h) (fun j o' e hj he hlj=>by
    simp at hlj;exact hI.down j o' hj hlj e he) (fun a b c h1 h2 h3=>h2 (h1 h3)) k m hk hlk
  have hsame : ∀ t ∈ o.looksAt l.toArray,(lexAct (valsOf Xs vf) (l.take i) 0 a).tmps[t]? = a'.tmps[t]?:=by
   intro t ht
   by_cases hex : ∃ (j : Nat) (o' : Oper),l[j]? = some o'∧o'.dst = some t
   ·obtain ⟨j,o',hj,hdt⟩:=hex
    rcases hlooks t ht j o' hj hdt with ⟨hji,e,he,hej⟩ | hbef
    rotate_left
    ·have hij : i < j:=befores_spec l [] (fun k i=>i < k) (fun k i h=>by simp at h) (fun j o' e hj he=>by
      have:=((hS (show l[j]? = some o' from hj)).2.1 e he).1;simpa using this) (fun a b c h1 h2=>Nat.lt_trans h2 h1) j i hbef
     have hnj : listed[j]? ≠ some true:=fun hlj=>hnl (hclosed j i hbef hlj)
     obtain ⟨_,huniq⟩:=(hS hj).2.2.2 t hdt
     rw [lexAct_other _ (l.take i) 0 a (fun o'' ho''=>by
      obtain ⟨k,hk⟩:=List.getElem?_of_mem ho''
      have hki : k < i:=by have:=(List.getElem?_eq_some_iff.1 hk).1;simp at this;omega
      rw [List.getElem?_take_of_lt hki] at hk
      exact huniq k o'' hk (by omega))]
     refine (hI.rest t fun k o'' hk hlk=>?_).symm
     by_cases hkj : k = j
     ·subst hkj;exact absurd hlk hnj
     ·exact huniq k o'' hk hkj
    have hlj : listed[j]? = some true:=hej ▸ hdone e he
    obtain ⟨hlt,huniq⟩:=(hS hj).2.2.2 t hdt
    rw [lexAct_same _ (l.take i) 0 a j o' (by rw [List.getElem?_take_of_lt hji];exact hj) hdt (fun j' o'' hj' hne=>huniq j' o'' (by
     have hlt' : j' < i:=by
      have:=(List.getElem?_eq_some_iff.1 hj').1
      simp at this;omega
     rw [List.getElem?_take_of_lt hlt'] at hj';exact hj') hne) hlt,Nat.zero_add,← hI.vals j hlj]
    exact (hI.slots j o' hj hlj t hdt).symm
   ·have hn : ∀ (j : Nat) (o : Oper),l[j]? = some o → o.dst ≠ some t:=fun j o hj e=>hex ⟨j,o,hj,e⟩
    rw [lexAct_other _ (l.take i) 0 a (fun o' ho'=>by obtain ⟨j,hj⟩:=List.getElem?_of_mem (List.mem_of_mem_take ho');exact hn j o' hj)]
    exact (hI.rest t (fun j o hj _=>hn j o hj)).symm
  have hexec : execOp (lexAct (valsOf Xs vf) (l.take i) 0 a).eval o = execOp a'.eval o:=by
   refine execOp_congr o hsel fun x hx=>?_
   cases x with
   | tmp t =>
    have:=hsame t (List.mem_append_left _ (List.mem_filterMap.2 ⟨.tmp t,by simpa using hx,rfl⟩))
    simp [Act.eval,Array.getD_eq_getD_getElem?,this]
   | _=>rfl
  have hwant : Region.wanted o (yielded l.toArray (lexAct (valsOf Xs vf) (l.take i) 0 a).tmps) = Region.wanted o (yielded l.toArray a'.tmps):=by
   unfold Region.wanted
   cases hg : o.guard with
   | none=>rfl
   | some gw =>
    obtain ⟨g,want⟩:=gw
    have hy : yielded l.toArray (lexAct (valsOf Xs vf) (l.take i) 0 a).tmps g = yielded l.toArray a'.tmps g:=by
     unfold yielded
     cases ht : (l.toArray[g]?).bind (·.dst) with
     | none=>rfl
     | some t =>
      have:=hsame t (by simp only [Oper.looksAt,hg,ht];simp)
      simp only [Option.bind_some,this]
    simp only [hy]
  have hnot : ∀ k : Nat,i ∈ (befores l []).getD k [] → ((fun k=>listed[k]? == some true) k) = false:=by
   intro k hk
   cases hx : (listed[k]? == some true) with
   | false=>exact hx
   | true=>exact absurd (hclosed k i hk (by simpa using hx)) hnl
  have hbi : ∀ m ∈ (befores l []).getD i [],listed[m]? = some true:=fun m hm=>by
   have hmi : m < i:=befores_spec l [] (fun k i=>i < k) (fun k i h=>by simp at h) (fun j o' e hj he=>by
     have:=((hS (show l[j]? = some o' from hj)).2.1 e he).1;simpa using this) (fun a b c h1 h2=>Nat.lt_trans h2 h1) i m hm
   have key:=befores_spec l [] (fun k m=>(k = i ∨ listed[k]? = some true) → (m = i ∨ listed[m]? = some true)) (fun k m h=>by simp at h) (fun j o' e hj he hlj=>by
    rw [List.length_nil,Nat.zero_add] at hlj
    rcases hlj with rfl | hlj
    ·rw [hil] at hj
     obtain rfl : o = o':=by simpa using hj
     exact .inr (hdone e he)
    ·exact .inr (hI.down j o' hj hlj e he)) (fun a b c h1 h2 h3=>h2 (h1 h3)) i m hm (.inl rfl)
   rcases key with h | h
   ·omega
   ·exact h
  have hres:=hob _ vf w' hI.cls (by simpa using hnl) (fun k hk=>by
   rw [hpr o (List.mem_of_getElem? hil)] at hk
   obtain ⟨e,he,rfl⟩:=List.mem_map.1 hk
   simp [hdone e (by simpa using he)]) hnot (fun k hk=>hI.facts k (by simpa using hk))
   (fun v w''=>Inv (updDone (fun k=>listed[k]? == some true) i) w''∧T i vf w' w''∧exOf (Xs i) vf v∧F i (updDone (fun k=>listed[k]? == some true) i) (updVal vf i v) w'') (fun v w'' h0 h1 h2 h3=>⟨h0,h1,h2,h3⟩)
  rw [hwant] at hres
  have next : ∀ v w'',Inv (updDone (fun k=>listed[k]? == some true) i) w'' → T i vf w' w'' → exOf (Xs i) vf v → F i (updDone (fun k=>listed[k]? == some true) i) (updVal vf i v) w'' → wpAny P .any l.toArray Q fuel (listed.setIfInBounds i true) (a'.put o.dst v) w'':=by
   intro v w'' hIv hT hE hFv
   have hu:=undone_set hilt (by rw [hI.lsize];exact Nat.le_refl _) hnl
   have hset : ∀ j,(listed.setIfInBounds i true)[j]? = some true → j = i ∨ (j ≠ i∧listed[j]? = some true):=fun j hj=>by
    by_cases e : j = i
    ·exact .inl e
    ·rw [Array.getElem?_setIfInBounds_ne (Ne.symm e)] at hj
     exact .inr ⟨e,hj⟩
   have hagree : ∀ j,listed[j]? = some true → ∀ m ∈ (befores l []).getD j [],vf m = updVal vf i v m:=fun j hj m hm=>by
    have hm':=hclosed j m hm hj
    unfold updVal
    rw [if_neg (fun e : m = i=>hnl (e ▸ hm'))]
   have hagreei : ∀ m ∈ (befores l []).getD i [],vf m = updVal vf i v m:=fun m hm=>by
    have hmi : m < i:=befores_spec l [] (fun k i=>i < k) (fun k i h=>by simp at h) (fun j o' e hj he=>by
      have:=((hS (show l[j]? = some o' from hj)).2.1 e he).1;simpa using this) (fun a b c h1 h2=>Nat.lt_trans h2 h1) i m hm
    unfold updVal
    rw [if_neg (by omega)]
   have hfun : updDone (fun k=>listed[k]? == some true) i = fun k=>(listed.setIfInBounds i true)[k]? == some true:=by
    funext k
    unfold updDone
    by_cases e : k = i
    ·subst e;rw [if_pos rfl,Array.getElem?_setIfInBounds_self_of_lt (by rw [hI.lsize];exact hilt)];simp
    ·rw [if_neg e,Array.getElem?_setIfInBounds_ne (Ne.symm e)]
   refine ih _ (updVal vf i v) _ _ (by omega) ⟨?_,?_,by simp [hI.lsize],?_,?_,?_,?_,?_,?_⟩
   ·rw [← hfun];exact hIv
   ·intro j o' hj hlj e he
    by_cases hje : j = i
    ·subst hje
     rw [hil] at hj
     obtain rfl : o = o':=by simpa using hj
     have:=hdone e he
     by_cases hei : e.on = j
     ·rw [hei,Array.getElem?_setIfInBounds_self_of_lt (by rw [hI.lsize];exact hilt)]
     ·rw [Array.getElem?_setIfInBounds_ne (Ne.symm hei)];exact this
    ·rw [Array.getElem?_setIfInBounds_ne (Ne.symm hje)] at hlj
     have:=hI.down j o' hj hlj e he
     by_cases hei : e.on = i
     ·rw [hei,Array.getElem?_setIfInBounds_self_of_lt (by rw [hI.lsize];exact hilt)]
     ·rw [Array.getElem?_setIfInBounds_ne (Ne.symm hei)];exact this
   ·rw [← hI.defers];cases o.dst <;> rfl
   ·rw [← hI.size];cases o.dst <;> simp [Act.put]
   ·intro j hj
    rcases hset j hj with rfl | ⟨hne,hj'⟩
    ·have e1 : updVal vf j v j = v:=if_pos rfl
     rw [e1]
     unfold valsOf
     cases hx : Xs j with
     | none=>exact e1.symm
     | some X=>exact (hE X hx).trans (hpX j X hx _ _ hagreei)
    ·have e1 : updVal vf i v j = vf j:=if_neg hne
     rw [e1,hI.vals j hj']
     unfold valsOf
     cases hx : Xs j with
     | none=>exact e1.symm
     | some X=>exact hpX j X hx _ _ (hagree j hj')
   ·intro j hj
    rw [← hfun]
    rcases hset j hj with rfl | ⟨hne,hj'⟩
    ·exact hFv
    ·refine hF j _ vf _ w'' (hagree j hj') (by unfold updVal;rw [if_neg hne]) ?_
     exact hst i _ vf w' w'' hI.cls (by simpa using hnl) (fun m hm=>by simpa using hbi m hm) (fun m hm=>hI.facts m (by simpa using hm)) hT j (by simpa using hj')
   ·intro j o' hj hlj d hd
    rcases hset j hlj with rfl | ⟨hne,hj'⟩
    ·rw [hil] at hj
     obtain rfl : o = o':=by simpa using hj
     rw [hd,put_get_same (by rw [hI.size];exact (hdst d hd).1)]
     unfold updVal;rw [if_pos rfl]
    ·rw [put_get_other (fun e'=>(hdst d e').2 j o' hj hne hd)]
     unfold updVal;rw [if_neg hne]
     exact hI.slots j o' hj hj' d hd
   ·intro t ht
    have hti : o.dst ≠ some t:=ht i o hil (by rw [Array.getElem?_setIfInBounds_self_of_lt (by rw [hI.lsize];exact hilt)])
    rw [put_get_other hti]
    refine hI.rest t fun j o' hj hlj=>?_
    by_cases e : j = i
    ·subst e;exact absurd hlj hnl
    ·exact ht j o' hj (by rw [Array.getElem?_setIfInBounds_ne (Ne.symm e)];exact hlj)
  unfold wpOp
  rw [ho]
  by_cases hw : Region.wanted o (yielded l.toArray a'.tmps) = true
  ·simp only [hw,if_true] at hres ⊢
   refine .inl (wp_of_gives (R:=fun v w''=>Inv (updDone (fun k=>listed[k]? == some true) i) w''∧T i vf w' w''∧exOf (Xs i) vf v∧F i (updDone (fun k=>listed[k]? == some true) i) (updVal vf i v) w'') ?_ fun v w'' ⟨h0,h1,h2,h3⟩=>next v w'' h0 h1 h2 h3)
   unfold gives at hres ⊢
   rw [← hexec];exact hres
  ·simp only [hw] at hres ⊢
   exact next _ _ hres.1 hres.2.1 hres.2.2.1 hres.2.2.2
end
theorem prune_prune (o : Oper) : prune (prune o) = prune o:=by
 unfold prune
 simp only [Array.filter_filter,Bool.and_self]
theorem rel_prune {P : Program} {Inv : (Nat → Bool) → World → Prop} {T : Nat → (Nat → Value) → World → World → Prop} {F : Nat → (Nat → Bool) → (Nat → Value) → World → Prop} {bs : List (List Nat)} {Q : Act → World → Prop} {n : Nat} {ops' : List Oper} :
  ∀ (l : List Oper) (i : Nat) (av : (Nat → Value) → Act),relWalk P ops'.toArray Inv T F bs Q n l i av → relWalk P (ops'.map prune).toArray Inv T F bs Q n (l.map prune) i av
 | [],_,_,h=>h
 | o :: l,i,av,h=>by
  have one : ∀ E,relOb P ops'.toArray Inv T F bs i o av E → relOb P (ops'.map prune).toArray Inv T F bs i (prune o) av E:=fun E h1 done vf w a b c d e R hR=>by
   rw [prune_prune] at c
   have:=h1 done vf w a b c d e R hR
   rw [← yielded_prune] at this
   exact this
  rcases h with ⟨X,hp,h1,h2⟩ | ⟨h1,h2⟩
  ·exact .inl ⟨X,hp,one _ h1,rel_prune l (i + 1) _ h2⟩
  ·exact .inr ⟨one _ h1,rel_prune l (i + 1) _ h2⟩
theorem wp_region_rel {P : Program} {l : List Oper} {Q : Exit → Act → World → Prop} {a : Act} {id : Nat} {w : World} (Inv : (Nat → Bool) → World → Prop) (T : Nat → (Nat → Value) → World → World → Prop) (F : Nat → (Nat → Bool) → (Nat → Value) → World → Prop)
  (hm : P.follows .mixedOrders = true) (hB : monoB2 (l.map prune) a.tmps.size = true) (bs : List (List Nat)) (hbs : befores (l.map prune) [] = bs)
  (hst : ∀ (i : Nat) (done : Nat → Bool) (vf : Nat → Value) (w w' : World),Inv done w → done i = false → (∀ m ∈ bs.getD i [],done m = true) → (∀ m,done m = true → F m done vf w) → T i vf w w' → ∀ k,done k = true → F k (updDone done i) vf w')
  (hF : ∀ (k : Nat) (done : Nat → Bool) (f g : Nat → Value) (w : World),(∀ m ∈ bs.getD k [],f m = g m) → f k = g k → F k done f w → F k done g w)
  (hC : Inv (fun _=>false) w.drew) (h : relWalk P l.toArray Inv T F bs (Q .normal) l.length l 0 (fun _=>a)) : (Code.region id l.toArray true).wp P Q a w:=by
 subst hbs
 have h':=rel_prune (ops':=l) l 0 _ h
 rw [show l.length = (l.map prune).length by simp] at h'
 obtain ⟨Xs,hX⟩:=wpAny_rel hB (fun o ho=>by obtain ⟨o',_,rfl⟩:=List.mem_map.1 ho;exact prune_prune o') hst hF h'
 refine wp_region_any hm (wpAny_prune _ _ _ _ (hX _ _ (fun _=>undef) _ _ ?_ ⟨?_,?_,by simp,rfl,rfl,?_,?_,?_,fun _ _=>rfl⟩))
 ·have:=List.length_filter_le (fun i=>(Array.replicate l.toArray.size false)[i]? != some true) (List.range (l.map prune).length)
  simpa [undone] using this
 ·refine (congrArg (fun d=>Inv d _) ?_).mp hC
  funext k
  rw [Array.getElem?_replicate]
  split <;> simp
 ·intro j o hj hl
  rw [Array.getElem?_replicate] at hl
  split at hl <;> simp at hl
 ·intro j hl
  rw [Array.getElem?_replicate] at hl
  split at hl <;> simp at hl
 ·intro j hl
  rw [Array.getElem?_replicate] at hl
  split at hl <;> simp at hl
 ·intro j o hj hl
  rw [Array.getElem?_replicate] at hl
  split at hl <;> simp at hl
end Go.Proofs.YthkgjohhbdipcaaGreatDoor
