import Derived.Test.YtmbiikbjkcnnaaaGreatDoorTg
import Derived.Lib.AppendStr
/- Lemmas for the proof in the last text of this claim. -/
set_option linter.unusedVariables false
set_option linter.unusedSimpArgs false
set_option linter.unusedSectionVars false
set_option maxRecDepth 1000000
set_option maxHeartbeats 8000000
namespace Go.Own
attribute [local irreducible] WPc WPL WPS WPS1 WPS2 HAny endP runT
variable [Laid]
open Go.Lib Go.RowKit
theorem upI_len{l:List In}{s:Lv}{z:Nat×Nat×Nat}(h:s.sz=z)(n:Nat):(upI l s n).sz=z:=(upI_sz l s n).trans h
theorem upI_yes{l:List In}{s:Lv}{n:Nat}(h:n<l.length)(hb:(upI l s n).b[n]?=some true):upI l s (n+1)=stI l[n] (upI l s n):=by rw[upI,dif_pos h,if_pos hb]
theorem upI_no{l:List In}{s:Lv}{n:Nat}(h:n<l.length)(hb:¬(upI l s n).b[n]?=some true):upI l s (n+1)=upI l s n:=by rw[upI,dif_pos h,if_neg hb]
theorem upC_yes{l:List Cl}{s:Lv}{n:Nat}(h:n<l.length)(hb:(upC l s n).a[n]?=some true):upC l s (n+1)=stC l[n] (upC l s n):=by rw[upC,dif_pos h,if_pos hb]
theorem upC_no{l:List Cl}{s:Lv}{n:Nat}(h:n<l.length)(hb:¬(upC l s n).a[n]?=some true):upC l s (n+1)=upC l s n:=by rw[upC,dif_pos h,if_neg hb]
theorem upU_yes{l:List Un}{s:Lv}{n:Nat}(h:n<l.length)(hb:(upU l s n).c[n]?=some true):upU l s (n+1)=stU l[n] (upU l s n):=by rw[upU,dif_pos h,if_pos hb]
theorem upU_no{l:List Un}{s:Lv}{n:Nat}(h:n<l.length)(hb:¬(upU l s n).c[n]?=some true):upU l s (n+1)=upU l s n:=by rw[upU,dif_pos h,if_neg hb]
theorem c_spec_l16Reach(w:Wd)(hw:inW w)(ht:inT w)(hr:w.rm):Con PP 31 [w.av] [] [] (fun r o=>r=.agg [.sl 2 1 [(0,0)] 0 (liveW w).a.length,.sl 2 1 [(0,1)] 0 (liveW w).b.length,.sl 2 1 [(0,2)] 0 (liveW w).c.length]∧o=[(2,49,3,[lvO (liveW w).a (liveW w).b (liveW w).c])]):=by
 have q1:=hr.sys.heap
 have q2:=hr.sys.insts
 have q3:=hr.sys.units
 have b1:(w.sys.heap.length:Int)≤281474976710656:=by omega
 have b2:(w.sys.insts.length:Int)≤281474976710656:=by omega
 have b3:(w.sys.units.length:Int)≤281474976710656:=by omega
 have c1:(w.sys.heap.length:Int)≤9223372036854775807:=by omega
 have c2:(w.sys.insts.length:Int)≤9223372036854775807:=by omega
 have c3:(w.sys.units.length:Int)≤9223372036854775807:=by omega
 have hz:=ht.z
 have hz':(0:Int)<(w.sys.insts.length:Int):=by omega
 have hsl:sL w=⟨tskA (List.replicate w.sys.heap.length false) w.tasks,libS ((List.replicate w.sys.insts.length false).set 0 true) w.libs,tskU (List.replicate w.sys.units.length false) w.tasks⟩:=rfl
 refine cof 169 Go.Proofs.Tryz.func31 fun G=>?_
 simp only[entSt,tmOf,List.append_nil,List.cons_append,List.nil_append,Wd.av]
 repeat' (first
  |(refine WPc.cutG (id:=2) (⟨169,G,[(1,.ptr 1 7 [] 0 0),(2,.ptr 2 3 [] 0 0),(3,.ptr 3 4 [] 0 0),(4,.ptr 4 3 [] 0 0)],[(1,42,7,[w.cs]),(2,49,3,[[.sc (.slice none 0 0),.sc (.slice none 0 0),.sc (.slice none 0 0)]]),(3,38,4,[w.sys.cs]),(4,49,3,[lvO (List.replicate w.sys.heap.length false) (List.replicate w.sys.insts.length false) (List.replicate w.sys.units.length false)])]⟩:St) ?_ ?_)
  |(refine WPc.tree (id:=2) tok [(3,[17]),(7,[21]),(11,[25]),(13,[4]),(14,[4,17,21,25])] (.val 0 [4,21,25] (.val 1 [4,21,25] (.val 2 [4,21,25] (.val 4 [4,17,25] (.val 5 [4,17,25] (.val 6 [4,17,25] (.val 8 [4,17,21] (.val 9 [4,17,21] (.val 10 [4,17,21] (.eff 3 (.eff 7 (.eff 11 (.val 12 [4] (.eff 13 (.eff 14 .done .nil) .nil)) (.eff 13 (.eff 11 (.val 12 [] (.eff 14 .done .nil)) .nil) .nil)) (.eff 11 (.eff 7 (.val 12 [4] (.eff 13 (.eff 14 .done .nil) .nil)) (.eff 13 (.eff 7 (.val 12 [] (.eff 14 .done .nil)) .nil) .nil)) (.eff 13 (.eff 7 (.eff 11 (.val 12 [] (.eff 14 .done .nil)) .nil) (.eff 11 (.eff 7 (.val 12 [] (.eff 14 .done .nil)) .nil) .nil)) .nil))) (.eff 7 (.eff 3 (.eff 11 (.val 12 [4] (.eff 13 (.eff 14 .done .nil) .nil)) (.eff 13 (.eff 11 (.val 12 [] (.eff 14 .done .nil)) .nil) .nil)) (.eff 11 (.eff 3 (.val 12 [4] (.eff 13 (.eff 14 .done .nil) .nil)) (.eff 13 (.eff 3 (.val 12 [] (.eff 14 .done .nil)) .nil) .nil)) (.eff 13 (.eff 3 (.eff 11 (.val 12 [] (.eff 14 .done .nil)) .nil) (.eff 11 (.eff 3 (.val 12 [] (.eff 14 .done .nil)) .nil) .nil)) .nil))) (.eff 11 (.eff 3 (.eff 7 (.val 12 [4] (.eff 13 (.eff 14 .done .nil) .nil)) (.eff 13 (.eff 7 (.val 12 [] (.eff 14 .done .nil)) .nil) .nil)) (.eff 7 (.eff 3 (.val 12 [4] (.eff 13 (.eff 14 .done .nil) .nil)) (.eff 13 (.eff 3 (.val 12 [] (.eff 14 .done .nil)) .nil) .nil)) (.eff 13 (.eff 3 (.eff 7 (.val 12 [] (.eff 14 .done .nil)) .nil) (.eff 7 (.eff 3 (.val 12 [] (.eff 14 .done .nil)) .nil) .nil)) .nil))) (.eff 13 (.eff 3 (.eff 7 (.eff 11 (.val 12 [] (.eff 14 .done .nil)) .nil) (.eff 11 (.eff 7 (.val 12 [] (.eff 14 .done .nil)) .nil) .nil)) (.eff 7 (.eff 3 (.eff 11 (.val 12 [] (.eff 14 .done .nil)) .nil) (.eff 11 (.eff 3 (.val 12 [] (.eff 14 .done .nil)) .nil) .nil)) (.eff 11 (.eff 3 (.eff 7 (.val 12 [] (.eff 14 .done .nil)) .nil) (.eff 7 (.eff 3 (.val 12 [] (.eff 14 .done .nil)) .nil) .nil)) .nil))) .nil))))))))))))) (by kernel_rfl) fun K hT=>?_)
  |(refine runT.v fun K hK=>?_;simp -implicitDefEqProofs +contextual [-Int.not_le,-Int.not_lt,-Nat.not_le,-Nat.not_lt,-List.all_eq_true,-List.all_eq_false,-List.any_eq_true,-List.any_eq_false,Wd.cs,Sy.cs,lvO,boC,List.map_replicate,b1,b2,b3,c1,c2,c3];(repeat1' (first|apply hK|apply And.intro|intro _))<;>clear hK K)
  |(refine runT.e (fun K hK=>?_) ?_<;>(try(simp -implicitDefEqProofs +contextual [-Int.not_le,-Int.not_lt,-Nat.not_le,-Nat.not_lt,-List.all_eq_true,-List.all_eq_false,-List.any_eq_true,-List.any_eq_false,Wd.cs,Sy.cs,lvO,boC,List.map_replicate,b1,b2,b3,c1,c2,c3];(repeat1' (first|apply hK|apply And.intro|intro _))<;>clear hK K)))
  |exact runT.n
  |(refine runT.d (hT _ ?_))
  |(refine FitS.mk rfl rfl ?_ ?_<;>simp[FitO,Wd.cs,Sy.cs,lvO,boC,List.map_replicate,b1,b2,b3,c1,c2,c3])
  |apply WPc.sq
  |(refine WPc.rq tok rfl fun K hK=>?_;simp -implicitDefEqProofs +contextual [-Int.not_le,-Int.not_lt,-Nat.not_le,-Nat.not_lt,-List.all_eq_true,-List.all_eq_false,-List.any_eq_true,-List.any_eq_false,Wd.cs,Sy.cs,lvO,boC,List.map_replicate,b1,b2,b3,c1,c2,c3];(repeat1' (first|apply hK|apply And.intro|intro _))<;>clear hK K<;>(try dsimp only[List.drop]))
  |(refine WPc.region ?_;simp only[List.toList_toArray]))
 have lA:(List.replicate w.sys.heap.length false).length=w.sys.heap.length:=List.length_replicate
 have lB:((List.replicate w.sys.insts.length false).set 0 true).length=w.sys.insts.length:=by simp
 have lC:(List.replicate w.sys.units.length false).length=w.sys.units.length:=List.length_replicate
 have hs0:=set_boC (l:=List.replicate w.sys.insts.length false) (i:=0) (by simpa using hz)
 generalize List.replicate w.sys.heap.length false=A0 at lA hsl ⊢
 generalize List.replicate w.sys.units.length false=C0 at lC hsl ⊢
 have lB0:(List.replicate w.sys.insts.length false).length=w.sys.insts.length:=List.length_replicate
 generalize List.replicate w.sys.insts.length false=B00 at lB lB0 hs0 hsl ⊢
 generalize B00.set 0 true=B0 at lB hs0 hsl
 have k1:=hr.libs
 have k2:=hr.tasks
 refine go (L:=_∧True) (wa7 @Wd.cs.eq_1 @Sy.cs.eq_1 @lvO.eq_1 @hz @hz' @lB0 @hs0) wb0 wb0 wb0 wb0 ⟨fun _=>?_,wb0⟩
 refine WPc.loopV (σ:=Nat) (fun i=>i≤w.libs.length) (fun i=>w.libs.length-i) (fun i=>[(5,.sc (.int .i64 i))]) (fun i=>[(1,42,7,[w.cs]),(2,49,3,[[.sc (.slice none 0 0),.sc (.slice none 0 0),.sc (.slice none 0 0)]]),(3,38,4,[w.sys.cs]),(4,49,3,[lvO A0 (libS B0 (w.libs.take i)) C0])]) [1,2,3,4] 0 (by simp[lvO,libS,Wd.cs,Sy.cs]) (by simp[lvO,libS,Wd.cs,Sy.cs]) (by simp) ?_
 rintro i hi s hs
 simp at hs
 subst hs
 by_cases hlt:i<w.libs.length
 ·have hb:i+1≤9223372036854775807:=by omega
  have hn:=libS_next B0 hlt
  have hl:=libS_len (w.libs.take i) B0
  obtain⟨z1,z2⟩:=ht.l _ (List.getElem_mem hlt)
  generalize libS B0 (w.libs.take i)=R at hn hl ⊢
  have z3:w.libs[i].inst<(R.length:Int):=by rw[hl,lB];exact z2
  have z4:w.libs[i].inst.toNat<R.length:=by omega
  have hs:=set_boC z4
  rw[←hn]at hs
  refine go (L:=_∧True) (wa8 @hlt @Wd.cs.eq_1 @En.cs.eq_1 @lvO.eq_1 @z1 @z3 @z4 @hs) wb0 wb0 wb0 (wb2 wb0 (sch 7 [(9,[1,4])] [(0,[]),(1,[]),(2,[]),(3,[]),(4,[]),(5,[]),(6,[]),(7,[]),(8,[]),(9,[1,4])])) ⟨fun _=>?_,wb0⟩
  refine⟨i+1,⟨hlt,by first|omega|(simp only;omega)|assumption⟩,rfl,rfl,?_,?_⟩<;>simp (disch:=omega) [wrap64,hs,lvO,Wd.cs,Sy.cs]
 obtain rfl:i=w.libs.length:=by omega
 rw[List.take_length]
 have lB1:(libS B0 w.libs).length=w.sys.insts.length:=by rw[libS_len,lB]
 generalize libS B0 w.libs=B1 at lB1 hsl ⊢
 refine go (L:=_∧True) (wa3 @hlt @Wd.cs.eq_1 @lvO.eq_1) wb0 wb0 wb0 wb0 ⟨fun _=>?_,wb0⟩
 refine WPc.loopV (σ:=Nat) (fun i=>i≤w.tasks.length) (fun i=>w.tasks.length-i) (fun i=>[(6,.sc (.int .i64 i))]) (fun i=>[(1,42,7,[w.cs]),(2,49,3,[[.sc (.slice none 0 0),.sc (.slice none 0 0),.sc (.slice none 0 0)]]),(3,38,4,[w.sys.cs]),(4,49,3,[lvO (tskA A0 (w.tasks.take i)) B1 (tskU C0 (w.tasks.take i))])]) [1,2,3,4] 0 (by simp[lvO,tskA,tskU,Wd.cs,Sy.cs]) (by simp[lvO,tskA,tskU,Wd.cs,Sy.cs]) (by simp) ?_
 rintro i hi s hs
 simp at hs
 subst hs
 by_cases hlt:i<w.tasks.length
 ·have hb:i+1≤9223372036854775807:=by omega
  have n1:=tskA_next A0 hlt
  have n2:=tskU_next C0 hlt
  have e1:=tskA_len (w.tasks.take i) A0
  have e2:=tskU_len (w.tasks.take i) C0
  have hm:=ht.t _ (List.getElem_mem hlt)
  have hmr:=(hr.tasks1 _ (List.getElem_mem hlt)).mac
  generalize tskA A0 (w.tasks.take i)=RA at n1 e1 ⊢
  generalize tskU C0 (w.tasks.take i)=RC at n2 e2 ⊢
  have uT:=c_spec_l16Task RA B1 RC w.tasks[i].mac hmr (by rw[e1,lA,lB1,e2,lC];exact hm)
  have e3:(tkA RA w.tasks[i].mac).length=RA.length:=tkA_len _ _
  have e4:(tkU RC w.tasks[i].mac).length=RC.length:=tkU_len _ _
  rw[←n1,←n2]at uT
  rw[←n1]at e3
  rw[←n2]at e4
  simp only[Mc.av]at uT
  refine gox (L:=_∧True) (wa7 @hlt @Wd.cs.eq_1 @Tk.cs.eq_1 @Mc.cs.eq_1 @lvO.eq_1 @e3 @e4) wb0 (wb1 (fun _=>uT)) wb0 (wb8 wb0 (nm 2 [60,4,500004,0,0]) (nm 2 [60,4,600004,0,1]) (nm 2 [60,4,700004,0,2]) (nm 1 [60,60,500060,0,0]) (nm 1 [60,60,600060,0,1]) (nm 1 [60,60,700060,0,2]) (sch 11 [(7,[4,60,1060,2060,500004,600004,700004]),(8,[4,60,500060,600060,700060])] [(0,[]),(1,[]),(2,[]),(3,[]),(4,[]),(5,[]),(6,[]),(7,[4,60,1060,2060,500004,600004,700004]),(8,[4,60,500060,600060,700060])])) ⟨fun _=>?_,wb0⟩
  refine⟨i+1,⟨hlt,by first|omega|(simp only;omega)|assumption⟩,rfl,rfl,?_,?_⟩<;>simp (disch:=omega) [wrap64,lvO,Wd.cs,Sy.cs]
 obtain rfl:i=w.tasks.length:=by omega
 rw[List.take_length]
 refine go (L:=_∧True) (wa3 @hlt @Wd.cs.eq_1 @lvO.eq_1) wb0 wb0 wb0 wb0 ⟨fun _=>?_,wb0⟩
 refine WPc.loopV (σ:=Nat) (fun k=>True) (fun k=>allW w-(nthS w k).cnt) (fun k=>[]) (fun k=>[(1,42,7,[w.cs]),(2,49,3,[[.sc (.slice none 0 0),.sc (.slice none 0 0),.sc (.slice none 0 0)]]),(3,38,4,[w.sys.cs]),(4,49,3,[lvO (nthS w k).a (nthS w k).b (nthS w k).c])]) [2,3,4] 0 (by simp[lvO,nthS,hsl,Wd.cs,Sy.cs]) (by simp[lvO,nthS,hsl,Wd.cs,Sy.cs]) (trivial) ?_
 rintro k hk s hs
 simp at hs
 subst hs
 have zs:=nthS_sz w k
 obtain⟨g1,g2⟩:=@nthS_next _ w k
 have g3:=nthS_cnt w (k+1)
 have hN:nthS w (k+1)=upU w.sys.units (upC w.sys.heap (upI w.sys.insts (nthS w k) w.sys.insts.length) w.sys.heap.length) w.sys.units.length:=rfl
 have hfix:(nthS w k).cnt=(nthS w (k+1)).cnt→nthS w (k+1)=liveW w:=fun e=>by
  have:=g2 e
  rw[←liveW_of this];exact this
 have hm:(nthS w k).cnt≠(nthS w (k+1)).cnt→allW w-(nthS w (k+1)).cnt<allW w-(nthS w k).cnt:=fun e=>by omega
 clear g2 hsl
 generalize nthS w k=s at zs g1 hN hfix hm ⊢
 have sa:s.a.length=w.sys.heap.length:=congrArg (·.1) zs
 have sb:s.b.length=w.sys.insts.length:=congrArg (·.2.1) zs
 have sc:s.c.length=w.sys.units.length:=congrArg (·.2.2) zs
 have uN:=c_spec_l16Count s.a s.b s.c (by omega) (by omega) (by omega)
 have hc0:s.cnt=s.a.count true+s.b.count true+s.c.count true:=rfl
 generalize s.a.count true+s.b.count true+s.c.count true=n0 at uN hc0
 refine go (L:=_∧True) (wa3 @Wd.cs.eq_1 @Sy.cs.eq_1 @lvO.eq_1) (wb1 (fun _=>uN)) wb0 wb0 wb0 ⟨fun _=>?_,wb0⟩
 refine WPc.loopV (σ:=Nat) (fun j=>j≤w.sys.insts.length) (fun j=>w.sys.insts.length-j) (fun j=>[(8,.sc (.int .i64 j))]) (fun j=>[(1,42,7,[w.cs]),(2,49,3,[[.sc (.slice none 0 0),.sc (.slice none 0 0),.sc (.slice none 0 0)]]),(3,38,4,[w.sys.cs]),(4,49,3,[lvO (upI w.sys.insts s j).a (upI w.sys.insts s j).b (upI w.sys.insts s j).c])]) [2,3,4,7] 0 (by simp[lvO,upI,Wd.cs,Sy.cs]) (by simp[lvO,upI,Wd.cs,Sy.cs]) (by simp) ?_
 rintro j hj s hs
 simp at hs
 subst hs
 by_cases hlt:j<w.sys.insts.length
 ·have hb:j+1≤9223372036854775807:=by omega
  have hx:=hr.sys.insts1 _ (List.getElem_mem hlt)
  have hin:=hw.i _ (List.getElem_mem hlt)
  have zz:=upI_len (l:=w.sys.insts) zs j
  have hy:=upI_yes (s:=s) hlt
  have hno:=upI_no (s:=s) hlt
  generalize upI w.sys.insts s j=t at zz hy hno ⊢
  have za:t.a.length=w.sys.heap.length:=congrArg (·.1) zz
  have zb:t.b.length=w.sys.insts.length:=congrArg (·.2.1) zz
  have hbl:j<t.b.length:=by omega
  cases hq:t.b[j]with
  |false =>
   have hno':upI w.sys.insts s (j+1)=t:=hno (by rw[List.getElem?_eq_getElem hbl,hq];simp)
   refine go (L:=_∧True) (wa7 @hlt @Wd.cs.eq_1 @Sy.cs.eq_1 @lvO.eq_1 @boC.eq_1 @hbl @hq) wb0 wb0 wb0 wb0 ⟨fun _=>?_,wb0⟩
   refine⟨j+1,⟨hlt,by first|omega|(simp only;omega)|assumption⟩,rfl,rfl,?_,?_⟩<;>simp (disch:=omega) [wrap64,hno',lvO,Wd.cs,Sy.cs]
  |true =>
   have hy':upI w.sys.insts s (j+1)=stI w.sys.insts[j] t:=hy (by rw[List.getElem?_eq_getElem hbl,hq])
   have uV:=c_spec_l16Vals t.a t.b t.c w.sys.insts[j].vals hx.vals (fun v hv hk=>by rw[za];exact hin.1 v hv (inRange_kind hk))
   have lv:=setVs_len w.sys.insts[j].vals t.a
   have e1:stI w.sys.insts[j] t=⟨setVs t.a w.sys.insts[j].vals,lnkS t.b w.sys.insts[j].links,t.c⟩:=rfl
   rw[e1]at hy'
   have hlk:=hx.links
   generalize setVs t.a w.sys.insts[j].vals=A at uV lv hy'
   refine gox (L:=_∧True) (wa9 @hlt @Wd.cs.eq_1 @Sy.cs.eq_1 @In.cs.eq_1 @lvO.eq_1 @boC.eq_1 @hbl @hq @lv) wb0 (wb1 (fun _=>uV)) wb0 (wb8 wb0 (nm 2 [82,4,500004,0,0]) (nm 2 [82,4,600004,0,1]) (nm 2 [82,4,700004,0,2]) (nm 1 [82,82,500082,0,0]) (nm 1 [82,82,600082,0,1]) (nm 1 [82,82,700082,0,2]) (sch 17 [(7,[4,82,1082,2082,500004,600004,700004]),(8,[4,82,500082,600082,700082])] [(0,[]),(1,[]),(2,[]),(3,[]),(4,[]),(5,[]),(6,[]),(7,[4,82,1082,2082,500004,600004,700004]),(8,[4,82,500082,600082,700082])])) ⟨fun _=>?_,wb0⟩
   refine WPc.loopV (σ:=Nat) (fun m=>m≤w.sys.insts[j].links.length) (fun m=>w.sys.insts[j].links.length-m) (fun m=>[(9,.sc (.int .i64 m))]) (fun m=>[(1,42,7,[w.cs]),(2,49,3,[[.sc (.slice none 0 0),.sc (.slice none 0 0),.sc (.slice none 0 0)]]),(3,38,4,[w.sys.cs]),(4,49,3,[lvO A (lnkS t.b (w.sys.insts[j].links.take m)) t.c])]) [2,3,4,7,8] 0 (by simp[lvO,lnkS,Wd.cs,Sy.cs]) (by simp[lvO,lnkS,Wd.cs,Sy.cs]) (by simp) ?_
   rintro m hm2 s hs
   simp at hs
   subst hs
   by_cases hl2:m<w.sys.insts[j].links.length
   ·have hb2:m+1≤9223372036854775807:=by omega
    have hn:=lnkS_next t.b hl2
    have hl:=lnkS_len (w.sys.insts[j].links.take m) t.b
    obtain⟨y1,y2⟩:=hin.2 _ (List.getElem_mem hl2)
    generalize lnkS t.b (w.sys.insts[j].links.take m)=R at hn hl ⊢
    have y3:w.sys.insts[j].links[m].inst<(R.length:Int):=by rw[hl,zb];exact y2
    have y4:w.sys.insts[j].links[m].inst.toNat<R.length:=by omega
    have hs:=set_boC y4
    rw[←hn]at hs
    refine go (L:=_∧True) (wa11 @hlt @hl2 @Wd.cs.eq_1 @Sy.cs.eq_1 @In.cs.eq_1 @Lk.cs.eq_1 @lvO.eq_1 @y1 @y3 @y4 @hs) wb0 wb0 wb0 (wb2 wb0 (sch 21 [(13,[3,4])] [(0,[]),(1,[]),(2,[]),(3,[]),(4,[]),(5,[]),(6,[]),(7,[]),(8,[]),(9,[]),(10,[]),(11,[]),(12,[]),(13,[3,4])])) ⟨fun _=>?_,wb0⟩
    refine⟨m+1,⟨hl2,by first|omega|(simp only;omega)|assumption⟩,rfl,rfl,?_,?_⟩<;>simp (disch:=omega) [wrap64,hs,lvO,Wd.cs,Sy.cs]
   ·obtain rfl:m=w.sys.insts[j].links.length:=by omega
    rw[List.take_length]
    refine go (L:=_∧True) (wa6 @hlt @hl2 @Wd.cs.eq_1 @Sy.cs.eq_1 @In.cs.eq_1 @lvO.eq_1) wb0 wb0 wb0 wb0 ⟨fun _=>?_,wb0⟩
    refine⟨j+1,⟨hlt,by first|omega|(simp only;omega)|assumption⟩,rfl,rfl,?_,?_⟩<;>simp (disch:=omega) [wrap64,hy',lvO,Wd.cs,Sy.cs]
 obtain rfl:j=w.sys.insts.length:=by omega
 have zI:=upI_len (l:=w.sys.insts) zs w.sys.insts.length
 generalize upI w.sys.insts s w.sys.insts.length=s1 at zI hN ⊢
 refine go (L:=_∧True) (wa4 @hlt @Wd.cs.eq_1 @Sy.cs.eq_1 @lvO.eq_1) wb0 wb0 wb0 wb0 ⟨fun _=>?_,wb0⟩
 refine WPc.loopV (σ:=Nat) (fun j=>j≤w.sys.heap.length) (fun j=>w.sys.heap.length-j) (fun j=>[(10,.sc (.int .i64 j))]) (fun j=>[(1,42,7,[w.cs]),(2,49,3,[[.sc (.slice none 0 0),.sc (.slice none 0 0),.sc (.slice none 0 0)]]),(3,38,4,[w.sys.cs]),(4,49,3,[lvO (upC w.sys.heap s1 j).a (upC w.sys.heap s1 j).b (upC w.sys.heap s1 j).c])]) [2,3,4,7] 0 (by simp[lvO,upC,Wd.cs,Sy.cs]) (by simp[lvO,upC,Wd.cs,Sy.cs]) (by simp) ?_
 rintro j hj s hs
 simp at hs
 subst hs
 by_cases hlt:j<w.sys.heap.length
 ·have hb:j+1≤9223372036854775807:=by omega
  have hx:=hr.sys.heap1 _ (List.getElem_mem hlt)
  have hin:=hw.c _ (List.getElem_mem hlt)
  have zz:(upC w.sys.heap s1 j).sz=zW w:=(upC_sz _ _ _).trans zI
  have hy:=upC_yes (s:=s1) hlt
  have hno:=upC_no (s:=s1) hlt
  generalize upC w.sys.heap s1 j=t at zz hy hno ⊢
  have za:t.a.length=w.sys.heap.length:=congrArg (·.1) zz
  have zc:t.c.length=w.sys.units.length:=congrArg (·.2.2) zz
  have hbl:j<t.a.length:=by omega
  cases hq:t.a[j]with
  |false =>
   have hno':upC w.sys.heap s1 (j+1)=t:=hno (by rw[List.getElem?_eq_getElem hbl,hq];simp)
   refine go (L:=_∧True) (wa7 @hlt @Wd.cs.eq_1 @Sy.cs.eq_1 @lvO.eq_1 @boC.eq_1 @hbl @hq) wb0 wb0 wb0 wb0 ⟨fun _=>?_,wb0⟩
   refine⟨j+1,⟨hlt,by first|omega|(simp only;omega)|assumption⟩,rfl,rfl,?_,?_⟩<;>simp (disch:=omega) [wrap64,hno',lvO,Wd.cs,Sy.cs]
  |true =>
   have hy':upC w.sys.heap s1 (j+1)=stC w.sys.heap[j] t:=hy (by rw[List.getElem?_eq_getElem hbl,hq])
   have uV:=c_spec_l16Vals t.a t.b t.c w.sys.heap[j].vals hx.vals (fun v hv hk=>by rw[za];exact hin.1 v hv (inRange_kind hk))
   have lv:=setVs_len w.sys.heap[j].vals t.a
   have e1:stC w.sys.heap[j] t=⟨setVs t.a w.sys.heap[j].vals,t.b,if w.sys.heap[j].k=2 then t.c.set w.sys.heap[j].a.toNat true else t.c⟩:=rfl
   rw[e1]at hy'
   generalize setVs t.a w.sys.heap[j].vals=A at uV lv hy'
   by_cases hk2:w.sys.heap[j].k=2
   ·have hk':(w.sys.heap[j].k=2)=True:=by simp[hk2]
    rw[if_pos hk2]at hy'
    obtain⟨y1,y2⟩:=hin.2 hk2
    have y3:w.sys.heap[j].a<(t.c.length:Int):=by rw[zc];exact y2
    have y4:w.sys.heap[j].a.toNat<t.c.length:=by omega
    have hs:=set_boC y4
    refine gox (L:=_∧True) (wa13 @hlt @Wd.cs.eq_1 @Sy.cs.eq_1 @Cl.cs.eq_1 @lvO.eq_1 @boC.eq_1 @hbl @hq @lv @hk' @y1 @y3 @y4) wb0 (wb1 (fun _=>uV)) wb0 (wb9 wb0 (nm 2 [126,4,500004,0,0]) (nm 2 [126,4,600004,0,1]) (nm 2 [126,4,700004,0,2]) (nm 1 [126,126,500126,0,0]) (nm 1 [126,126,600126,0,1]) (nm 1 [126,126,700126,0,2]) (sch 26 [(7,[4,126,1126,2126,500004,600004,700004]),(8,[4,126,500126,600126,700126])] [(0,[]),(1,[]),(2,[]),(3,[]),(4,[]),(5,[]),(6,[]),(7,[4,126,1126,2126,500004,600004,700004]),(8,[4,126,500126,600126,700126])]) (sch 28 [(9,[3,4])] [(0,[]),(1,[]),(2,[]),(3,[]),(4,[]),(5,[]),(6,[]),(7,[]),(8,[]),(9,[3,4])])) ⟨fun _=>?_,wb0⟩
    refine⟨j+1,⟨hlt,by first|omega|(simp only;omega)|assumption⟩,rfl,rfl,?_,?_⟩<;>simp (disch:=omega) [wrap64,hy',hs,lvO,Wd.cs,Sy.cs]
   ·have hk':(w.sys.heap[j].k=2)=False:=by simp[hk2]
    rw[if_neg hk2]at hy'
    refine gox (L:=_∧True) (wa10 @hlt @Wd.cs.eq_1 @Sy.cs.eq_1 @Cl.cs.eq_1 @lvO.eq_1 @boC.eq_1 @hbl @hq @lv @hk') wb0 (wb1 (fun _=>uV)) wb0 (wb8 wb0 (nm 2 [126,4,500004,0,0]) (nm 2 [126,4,600004,0,1]) (nm 2 [126,4,700004,0,2]) (nm 1 [126,126,500126,0,0]) (nm 1 [126,126,600126,0,1]) (nm 1 [126,126,700126,0,2]) (sch 26 [(7,[4,126,1126,2126,500004,600004,700004]),(8,[4,126,500126,600126,700126])] [(0,[]),(1,[]),(2,[]),(3,[]),(4,[]),(5,[]),(6,[]),(7,[4,126,1126,2126,500004,600004,700004]),(8,[4,126,500126,600126,700126])])) ⟨fun _=>?_,wb0⟩
    refine⟨j+1,⟨hlt,by first|omega|(simp only;omega)|assumption⟩,rfl,rfl,?_,?_⟩<;>simp (disch:=omega) [wrap64,hy',lvO,Wd.cs,Sy.cs]
 obtain rfl:j=w.sys.heap.length:=by omega
 have zC:(upC w.sys.heap s1 w.sys.heap.length).sz=zW w:=(upC_sz _ _ _).trans zI
 generalize upC w.sys.heap s1 w.sys.heap.length=s2 at zC hN ⊢
 refine go (L:=_∧True) (wa4 @hlt @Wd.cs.eq_1 @Sy.cs.eq_1 @lvO.eq_1) wb0 wb0 wb0 wb0 ⟨fun _=>?_,wb0⟩
 refine WPc.loopV (σ:=Nat) (fun j=>j≤w.sys.units.length) (fun j=>w.sys.units.length-j) (fun j=>[(11,.sc (.int .i64 j))]) (fun j=>[(1,42,7,[w.cs]),(2,49,3,[[.sc (.slice none 0 0),.sc (.slice none 0 0),.sc (.slice none 0 0)]]),(3,38,4,[w.sys.cs]),(4,49,3,[lvO (upU w.sys.units s2 j).a (upU w.sys.units s2 j).b (upU w.sys.units s2 j).c])]) [2,3,4,7] 0 (by simp[lvO,upU,Wd.cs,Sy.cs]) (by simp[lvO,upU,Wd.cs,Sy.cs]) (by simp) ?_
 rintro j hj s hs
 simp at hs
 subst hs
 by_cases hlt:j<w.sys.units.length
 ·have hb:j+1≤9223372036854775807:=by omega
  have hin:=hw.u _ (List.getElem_mem hlt)
  have zz:(upU w.sys.units s2 j).sz=zW w:=(upU_sz _ _ _).trans zC
  have hy:=upU_yes (s:=s2) hlt
  have hno:=upU_no (s:=s2) hlt
  generalize upU w.sys.units s2 j=t at zz hy hno ⊢
  have zb:t.b.length=w.sys.insts.length:=congrArg (·.2.1) zz
  have zc:t.c.length=w.sys.units.length:=congrArg (·.2.2) zz
  have hbl:j<t.c.length:=by omega
  cases hq:t.c[j]with
  |false =>
   have hno':upU w.sys.units s2 (j+1)=t:=hno (by rw[List.getElem?_eq_getElem hbl,hq];simp)
   refine go (L:=_∧True) (wa7 @hlt @Wd.cs.eq_1 @Sy.cs.eq_1 @lvO.eq_1 @boC.eq_1 @hbl @hq) wb0 wb0 wb0 wb0 ⟨fun _=>?_,wb0⟩
   refine⟨j+1,⟨hlt,by first|omega|(simp only;omega)|assumption⟩,rfl,rfl,?_,?_⟩<;>simp (disch:=omega) [wrap64,hno',lvO,Wd.cs,Sy.cs]
  |true =>
   have hy':upU w.sys.units s2 (j+1)=stU w.sys.units[j] t:=hy (by rw[List.getElem?_eq_getElem hbl,hq])
   have e1:stU w.sys.units[j] t=⟨t.a,t.b.set w.sys.units[j].home.toNat true,t.c⟩:=rfl
   rw[e1]at hy'
   obtain⟨y1,y2⟩:=hin
   have y3:w.sys.units[j].home<(t.b.length:Int):=by rw[zb];exact y2
   have y4:w.sys.units[j].home.toNat<t.b.length:=by omega
   have hs:=set_boC y4
   refine go (L:=_∧True) (wa11 @hlt @Wd.cs.eq_1 @Sy.cs.eq_1 @Un.cs.eq_1 @lvO.eq_1 @boC.eq_1 @hbl @hq @y1 @y3 @y4) wb0 wb0 wb0 (wb2 wb0 (sch 33 [(9,[3,4])] [(0,[]),(1,[]),(2,[]),(3,[]),(4,[]),(5,[]),(6,[]),(7,[]),(8,[]),(9,[3,4])])) ⟨fun _=>?_,wb0⟩
   refine⟨j+1,⟨hlt,by first|omega|(simp only;omega)|assumption⟩,rfl,rfl,?_,?_⟩<;>simp (disch:=omega) [wrap64,hy',hs,lvO,Wd.cs,Sy.cs]
 obtain rfl:j=w.sys.units.length:=by omega
 rw[←hN]
 have zs3:=nthS_sz w (k+1)
 generalize h3:nthS w (k+1)=s3 at zs3 g1 g3 hfix hm
 have ta:s3.a.length=w.sys.heap.length:=congrArg (·.1) zs3
 have tb:s3.b.length=w.sys.insts.length:=congrArg (·.2.1) zs3
 have tc:s3.c.length=w.sys.units.length:=congrArg (·.2.2) zs3
 have uM:=c_spec_l16Count s3.a s3.b s3.c (by omega) (by omega) (by omega)
 have hc1:s3.cnt=s3.a.count true+s3.b.count true+s3.c.count true:=rfl
 generalize s3.a.count true+s3.b.count true+s3.c.count true=n1 at uM hc1
 rw[hc0,hc1]at hfix hm
 by_cases he:n1=n0
 ·subst he
  have hL:=hfix rfl
  rw[←hL]
  refine gox (L:=_∧True) (wa4 @hlt @Wd.cs.eq_1 @Sy.cs.eq_1 @lvO.eq_1) (wb1 (fun _=>uM)) wb0 wb0 (wb4 (outs [2]) (nm 1 [168,4,900021,0,0]) (nm 1 [168,4,900022,0,1]) (nm 1 [168,4,900023,0,2])) ⟨fun _=>?_,wb0⟩
  all_goals exact⟨rfl,rfl⟩
 ·have he':(n1=n0)=False:=by simp[he]
  have hm':=hm (fun e=>he e.symm)
  refine go (L:=_∧True) (wa5 @hlt @Wd.cs.eq_1 @Sy.cs.eq_1 @lvO.eq_1 @he') (wb1 (fun _=>uM)) wb0 wb0 wb0 ⟨fun _ hq=>?_,wb0⟩
  refine⟨k+1,⟨trivial,?_⟩,rfl,rfl,?_,?_⟩
  ·rw[h3,hc1,hc0];exact hm'
  all_goals simp (disch:=omega) [wrap64,h3,lvO,Wd.cs,Sy.cs]
end Go.Own
set_option maxRecDepth 1000000
namespace Go.Own
variable [Laid]
open Go.Lib Go.RowKit
theorem c_impl_reach(w:Wd)(hw:inW w)(ht:inT w)(hr:w.rm)(J:Rch→Prop)(hJ:KeepsJ w J)(h0:J (startW w)):Con PP 36 [.fp w.cs] [] [] (fun r o=>∃s:Rch,(Bq w s∧J s∧s.cq=[]∧s.iq=[]∧s.uq=[])∧r=.agg [.sl 2 1 [(0,0)] 0 s.cl.length,.sl 2 1 [(0,1)] 0 s.il.length,.sl 2 1 [(0,2)] 0 s.ul.length]∧o=[(2,49,3,[[.sl 4 1 (s.cl.map boC),.sl 4 1 (s.il.map boC),.sl 4 1 (s.ul.map boC)]])]):=
 Con.pin _ ⟨_,Go.Proofs.Tryz.func36,by kernel_rfl,by kernel_rfl⟩ (fun L2 _ K hcs=>@c_impl_reach0 L2 K w hcs hw ht hr J hJ h0) (by simp)
end Go.Own
set_option maxRecDepth 1000000
set_option maxHeartbeats 4000000
namespace Go.Own
attribute [local irreducible] WPc WPL WPS WPS1 WPS2 HAny endP
variable [Laid]
open Go.Lib Go.RowKit
theorem inOk_v{y:Sy}{i k:Nat}{x:In}(hk:k<x.vals.length)(h:vOk0 y.heap x.vals[k]=false):inOk y i x=false:=by
 rw[inOk,all_at (List.getElem?_eq_getElem hk) h];simp
theorem headOk_yes{i:Nat}{x:In}(h:headOk i x=true):((i=0)=True∧(0<i)=False∧(x.lib=⟨#[]⟩)=True∧(x.ver=0)=True)∨((i=0)=False∧(0<i)=True∧isName x.lib=true∧inRange x.ver 1 1000=true):=by
 unfold headOk at h
 by_cases h0:i=0
 ·rw[if_pos h0]at h
  simp only[Bool.and_eq_true,decide_eq_true_eq,zs]at h
  exact .inl ⟨by simp[h0],by simp[h0],by simp[h.1],by simp[h.2]⟩
 ·rw[if_neg h0]at h
  simp only[Bool.and_eq_true]at h
  exact .inr ⟨by simp[h0],by simp;omega,h.1,h.2⟩
theorem headOk_no{i:Nat}{x:In}(h:headOk i x=false):((i=0)=True∧(x.lib=⟨#[]⟩)=False)∨((i=0)=True∧(x.lib=⟨#[]⟩)=True∧(x.ver=0)=False)∨((i=0)=False∧(0<i)=True∧isName x.lib=false)∨((i=0)=False∧(0<i)=True∧isName x.lib=true∧inRange x.ver 1 1000=false):=by
 unfold headOk at h
 by_cases h0:i=0
 ·rw[if_pos h0]at h
  by_cases h1:x.lib=⟨#[]⟩
  ·simp only[h1,zs,decide_true,Bool.true_and,decide_eq_false_iff_not]at h
   exact .inr (.inl ⟨by simp[h0],by simp[h1],by simp[h]⟩)
  ·exact .inl ⟨by simp[h0],by simp[h1]⟩
 ·rw[if_neg h0]at h
  cases h1:isName x.lib with
  |false=>exact .inr (.inr (.inl ⟨by simp[h0],by simp;omega,rfl⟩))
  |true =>
   rw[h1,Bool.true_and]at h
   exact .inr (.inr (.inr ⟨by simp[h0],by simp;omega,rfl,h⟩))
theorem c_impl_instOk[F:Facts.Of](y:Sy)(i:Nat)(hi:i<y.insts.length)(hs:y.sm)(hr:y.rm):Con PP 139 [.fp y.cs,.sc (.int .i64 i)] [] [] (fun r o=>r=.sc (.bool (inOk y i y.insts[i]))):=by
 have s1:=hs.insts _ (List.getElem_mem hi)
 have r1:=hr.insts1 _ (List.getElem_mem hi)
 have rI:=hr.insts
 have hi':(i:Int)<y.insts.length:=by omega
 have sL:=s1.lib
 have rV:=r1.vals
 have sN:=s1.names
 have sV:=s1.vals
 have rT:=r1.types
 have sT:=s1.types
 refine cof 85 Go.Proofs.Tryz.func139 fun G=>?_
 simp only[entSt,tmOf,List.append_nil,List.cons_append,List.nil_append,Sy.cs]
 cases hd:headOk i y.insts[i]with
 |false =>
  rw[inOk,hd,Bool.false_and]
  rcases headOk_no hd with ⟨f1,f2⟩|⟨f1,f2,f3⟩|⟨f1,f2,f3⟩|⟨f1,f2,f3,f4⟩
  ·refine go (L:=_∧True) (wa5 @hi @hi' @In.cs.eq_1 @f1 @f2) wb0 wb0 wb0 wb0 ⟨fun _=>?_,wb0⟩
   all_goals rfl
  ·refine go (L:=_∧True) (wa6 @hi @hi' @In.cs.eq_1 @f1 @f2 @f3) wb0 wb0 wb0 wb0 ⟨fun _=>?_,wb0⟩
   all_goals rfl
  ·refine go (L:=_∧True) (wa6 @hi @hi' @In.cs.eq_1 @f1 @f2 @f3) (wb1 (fun v0 (h:_)=>c_impl_IsName v0 h)) wb0 wb0 wb0 ⟨fun _=>?_,wb0⟩
   all_goals rfl
  ·refine go (L:=_∧True) (wa7 @hi @hi' @In.cs.eq_1 @f1 @f2 @f3 @f4) (wb2 (fun v0 (h:_)=>c_impl_IsName v0 h) (fun v0 v1 v2 (_:True)=>c_impl_inRange v0 v1 v2)) wb0 wb0 wb0 ⟨fun _=>?_,wb0⟩
   all_goals rfl
 |true =>
  rcases headOk_yes hd with ⟨f1,f2,f3,f4⟩|⟨f1,f2,f3,f4⟩
  all_goals
   all_goals refine go (L:=_∧True) (wa7 @hi @hi' @In.cs.eq_1 @f1 @f2 @f3 @f4) (wb2 (fun v0 (h:_)=>c_impl_IsName v0 h) (fun v0 v1 v2 (_:True)=>c_impl_inRange v0 v1 v2)) wb0 wb0 wb0 ⟨fun _=>?_,wb0⟩
   refine WPc.loopV (σ:=Nat) (fun k=>k≤y.insts[i].vals.length∧(y.insts[i].vals.take k).all (vOk0 y.heap)=true) (fun k=>y.insts[i].vals.length-k) (fun k=>[(46,.sc (.int .i64 k))]) (fun k=>[(5,83,6,[y.insts[i].cs])]) [0,5,44,45] 0 (by simp[In.cs]) (by simp[In.cs]) (by simp) ?_
   rintro k ⟨hk,hall⟩ s hs
   simp at hs
   subst hs
   by_cases hlt:k<y.insts[i].vals.length
   ·have hz:=sV _ (List.getElem_mem hlt)
    have hv:=List.getElem?_eq_getElem hlt
    have e1:V.eqb ⟨y.insts[i].vals[k].k,y.insts[i].vals[k].n,y.insts[i].vals[k].s⟩ ⟨0,0,⟨#[]⟩⟩=decide (y.insts[i].vals[k]=noV):=rfl
    have e2:valueOk y.heap ⟨y.insts[i].vals[k].k,y.insts[i].vals[k].n,y.insts[i].vals[k].s⟩=valueOk y.heap y.insts[i].vals[k]:=rfl
    cases h0:decide (y.insts[i].vals[k]=noV) with
    |true =>
     all_goals refine go (L:=_∧True) (wa8 @V.cs.eq_1 @In.cs.eq_1 @hlt @hi @hi' @e1 @e2 @h0) wb0 wb0 wb0 (wb2 wb0 (sch 7 [] [(0,[]),(1,[]),(2,[]),(3,[]),(4,[]),(5,[]),(6,[]),(7,[]),(8,[]),(9,[]),(10,[]),(11,[])])) ⟨fun _=>?_,wb0⟩
     refine⟨k+1,⟨⟨hlt,all_next hv (by rw[vOk0,h0,Bool.true_or]) hall⟩,by first|omega|(simp only;omega)|assumption⟩,rfl,rfl,?_,?_⟩<;>simp (disch:=omega) [wrap64,In.cs]
    |false =>
     cases h1:valueOk y.heap y.insts[i].vals[k]with
     |true =>
      all_goals refine go (L:=_∧True) (wa9 @V.cs.eq_1 @In.cs.eq_1 @hlt @hi @hi' @e1 @e2 @h0 @h1) (wb1 (fun v0 v1 v2 v3 (h:_)=>c_impl_ValueOk v0 ⟨v1,v2,v3⟩ h)) wb0 wb0 (wb2 wb0 (sch 7 [] [(0,[]),(1,[]),(2,[]),(3,[]),(4,[]),(5,[]),(6,[]),(7,[]),(8,[]),(9,[]),(10,[]),(11,[])])) ⟨fun _=>?_,wb0⟩
      refine⟨k+1,⟨⟨hlt,all_next hv (by rw[vOk0,h1,Bool.or_true]) hall⟩,by first|omega|(simp only;omega)|assumption⟩,rfl,rfl,?_,?_⟩<;>simp (disch:=omega) [wrap64,In.cs]
     |false =>
      rw[inOk_v hlt (by rw[vOk0,h0,h1];rfl)]
      all_goals refine go (L:=_∧True) (wa9 @V.cs.eq_1 @In.cs.eq_1 @hlt @hi @hi' @e1 @e2 @h0 @h1) (wb1 (fun v0 v1 v2 v3 (h:_)=>c_impl_ValueOk v0 ⟨v1,v2,v3⟩ h)) wb0 wb0 (wb2 wb0 (sch 7 [] [(0,[]),(1,[]),(2,[]),(3,[]),(4,[]),(5,[]),(6,[]),(7,[]),(8,[]),(9,[]),(10,[]),(11,[])])) ⟨fun _=>?_,wb0⟩
      all_goals rfl
   ·obtain rfl:k=y.insts[i].vals.length:=by omega
    rw[List.take_length]at hall
    have e1:lksOk y.insts.length ⟨y.insts[i].lib,y.insts[i].ver,y.insts[i].names,y.insts[i].vals,y.insts[i].links,y.insts[i].types⟩=lksOk y.insts.length y.insts[i]:=rfl
    have e2:inOk y i y.insts[i]=(namesOk y.insts[i].names 30&&(decide (y.insts[i].vals.length=y.insts[i].names.length)&&(lksOk y.insts.length y.insts[i]&&tyOk y.insts[i].types))):=by rw[inOk,hd,hall];rfl
    rw[e2]
    all_goals refine go (L:=_∧_∧_∧_∧True) (wa5 @hlt @In.cs.eq_1 @hi @hi' @e1) (wb3 (fun v0 v1 (h:_)=>c_impl_namesOk v0 v1 h) (fun v0 v1 v2 v3 v4 v5 v6 v7 v8 v9 (h:_∧_∧_)=>c_impl_linksOk ⟨v0,v1,v2,v3⟩ ⟨v4,v5,v6,v7,v8,v9⟩ h.1 h.2.1 h.2.2) (fun v0 (h:_∧_)=>c_impl_typesOk v0 h.1 h.2)) wb0 wb0 wb0 ⟨fun _ _ _ _=>?_,fun _ _ _ _=>?_,fun _ _ _=>?_,fun _ _=>?_,wb0⟩
    all_goals (simp_all[Bool.and_assoc];try(intros;omega))
end Go.Own
set_option maxRecDepth 1000000
set_option maxHeartbeats 4000000
namespace Go.Own
attribute [local irreducible] WPc WPL WPS WPS1 WPS2 HAny endP
variable [Laid]
open Go.Lib Go.RowKit
theorem c_spec_ProgOk(p:Pg)(hs:∀c,c∈p.nodes→c.sm)(hr:∀c,c∈p.nodes→c.args.length≤1000000000):Con PP 117 [p.av] [] [] (fun r o=>r=.sc (.bool (progOk p))):=by
 by_cases hN:inRange p.nodes.length 1 400=true
 ·have hN':=hN
  simp only[inRange,Bool.and_eq_true,decide_eq_true_eq]at hN'
  obtain⟨n1,n2⟩:=hN'
  obtain⟨m,hm⟩:∃m,p.nodes.length=m+1:=⟨p.nodes.length-1,by omega⟩
  have hw1:IntKind.i64.wrap ((p.nodes.length:Int)-1)=m:=by rw[wrap64 (by omega) (by omega)];omega
  by_cases hroot:p.root=(p.nodes.length:Int)-1
  ·have hroot':(p.root=(m:Int))=True:=by simp only[eq_iff_iff,iff_true];omega
   have hb1:(8:Int)*(p.nodes.length:Int)≤281474976710656:=by omega
   have hb2:(p.nodes.length:Int)≤9223372036854775807:=by omega
   refine cof 87 Go.Proofs.Tryz.func117 fun G=>?_
   simp only[entSt,tmOf,List.append_nil,List.cons_append,List.nil_append,Pg.av]
   refine go (L:=_∧True) (wa5 @hN @hw1 @hroot' @hb1 @hb2) (wb1 (fun v0 v1 v2 (_:True)=>c_spec_l1In v0 v1 v2)) wb0 wb0 wb0 ⟨fun _=>?_,wb0⟩
   refine WPc.loopV (σ:=Nat) (fun i=>i≤p.nodes.length∧(∀j,j<i→okNode p.nodes j=true)) (fun i=>p.nodes.length-i) (fun i=>[(4,.sc (.int .i64 i))]) (fun i=>[(1,135,2,[[.fz (p.nodes.map Nd.cs),.sc (.int .i64 p.root)]]),(25,3,1,(seenTo p.nodes i).map nC)]) [1,3] 0 (by simp[seenTo_zero,nC]) (by simp[seenTo_zero,nC]) (by simp) ?_
   rintro i ⟨hi,hall⟩ s hs
   simp at hs
   subst hs
   by_cases hlt:i<p.nodes.length
   ·have hz:=hs _ (List.getElem_mem hlt)
    have hz':Nd.sm ⟨p.nodes[i].k,p.nodes[i].n,p.nodes[i].s,p.nodes[i].names,p.nodes[i].args⟩:=hz
    have hra:=hr _ (List.getElem_mem hlt)
    have ee:nodeOk ⟨p.nodes[i].k,p.nodes[i].n,p.nodes[i].s,p.nodes[i].names,p.nodes[i].args⟩=nodeOk p.nodes[i]:=rfl
    cases hno:nodeOk p.nodes[i]with
    |false =>
     rw[progOk_node hlt (by rw[okNode_eq hlt,hno];rfl)]
     refine go (L:=_∧True) (wa5 @Nd.cs.eq_1 @Nd.av.eq_1 @hlt @ee @hno) (wb1 (fun v0 v1 v2 v3 v4 (h:_)=>c_spec_l3Node ⟨v0,v1,v2,v3,v4⟩ h)) wb0 wb0 wb0 ⟨fun _=>?_,wb0⟩
     all_goals rfl
    |true =>
     refine go (L:=_∧True) (wa5 @Nd.cs.eq_1 @Nd.av.eq_1 @hlt @ee @hno) (wb1 (fun v0 v1 v2 v3 v4 (h:_)=>c_spec_l3Node ⟨v0,v1,v2,v3,v4⟩ h)) wb0 wb0 wb0 ⟨fun _=>?_,wb0⟩
     refine WPc.loopV (σ:=Nat) (fun k=>k≤p.nodes[i].args.length∧(p.nodes[i].args.take k).all (fun a=>inRange a 0 ((i:Int)-1))=true) (fun k=>p.nodes[i].args.length-k) (fun k=>[(5,.sc (.int .i64 k))]) (fun k=>[(1,135,2,[[.fz (p.nodes.map Nd.cs),.sc (.int .i64 p.root)]]),(25,3,1,(bumps (seenTo p.nodes i) (p.nodes[i].args.take k)).map nC)]) [1,3,4] 0 (by simp[bumps_zero,nC]) (by simp[bumps_zero,nC]) (by simp) ?_
     rintro k ⟨hk,hka⟩ s hs
     simp at hs
     subst hs
     by_cases hklt:k<p.nodes[i].args.length
     ·have hv:p.nodes[i].args[k]?=some p.nodes[i].args[k]:=List.getElem?_eq_getElem hklt
      cases hin:inRange p.nodes[i].args[k] 0 ((i:Int)-1) with
      |false =>
       rw[progOk_node hlt (by rw[okNode_eq hlt,argsOk,all_at hv hin,Bool.and_false])]
       have hin':p.nodes[i].args[k]<0∨(0≤p.nodes[i].args[k]∧(i:Int)≤p.nodes[i].args[k]):=by
        simp only[inRange,Bool.and_eq_false_iff,decide_eq_false_iff_not]at hin;omega
       rcases hin' with hb|⟨hb,hb2⟩
       ·refine go (L:=_∧True) (wa5 @Nd.cs.eq_1 @nC.eq_1 @hlt @hklt @hb) wb0 wb0 wb0 wb0 ⟨fun _=>?_,wb0⟩
        all_goals rfl
       ·have hb':¬p.nodes[i].args[k]<0:=by omega
        refine go (L:=_∧True) (wa6 @Nd.cs.eq_1 @nC.eq_1 @hlt @hklt @hb' @hb2) wb0 wb0 wb0 wb0 ⟨fun _=>?_,wb0⟩
        all_goals rfl
      |true =>
       have hin':=hin
       simp only[inRange,Bool.and_eq_true,decide_eq_true_eq]at hin'
       obtain⟨a0,a1⟩:=hin'
       have hbn:=bnd_bumps (p.nodes[i].args.take k) (bnd_seen hr (show i≤400 by omega))
       have hlen:(bumps (seenTo p.nodes i) (p.nodes[i].args.take k)).length=p.nodes.length:=by simp
       have hnx:=bumps_next (l:=seenTo p.nodes i) hklt
       generalize bumps (seenTo p.nodes i) (p.nodes[i].args.take k)=L at *
       have b0:¬p.nodes[i].args[k]<0:=by omega
       have b1:¬(i:Int)≤p.nodes[i].args[k]:=by omega
       have a2:p.nodes[i].args[k].toNat<L.length:=by omega
       have a3:p.nodes[i].args[k]<(L.length:Int):=by omega
       have a4:p.nodes[i].args[k]<(p.nodes.length:Int):=by omega
       have a5:p.nodes[i].args[k].toNat<p.nodes.length:=by omega
       have hx:=hbn _ (List.getElem_mem a2)
       have hwx:IntKind.i64.wrap (L[p.nodes[i].args[k].toNat]+1)=L[p.nodes[i].args[k].toNat]+1:=wrap64 (by omega) (by simp at hx;omega)
       have hmod:=modify_nC a2
       refine go (L:=_∧True) (wa13 @Nd.cs.eq_1 @nC.eq_1 @hlt @hklt @b0 @b1 @a0 @a2 @a4 @a5 @hlen @hwx @hmod) wb0 wb0 wb0 wb0 ⟨fun _=>?_,wb0⟩
       refine⟨k+1,⟨⟨hklt,all_next hv hin hka⟩,by first|omega|(simp only;omega)|assumption⟩,rfl,rfl,?_,?_⟩<;>simp (disch:=omega) [wrap64,hnx,hmod,bump,nC]
     ·obtain rfl:k=p.nodes[i].args.length:=by omega
      rw[List.take_length]at hka
      have hsn:=seenTo_next hlt
      refine go (L:=_∧True) (wa4 @Nd.cs.eq_1 @nC.eq_1 @hlt @hklt) wb0 wb0 wb0 wb0 ⟨fun _=>?_,wb0⟩
      have hok:okNode p.nodes i=true:=by rw[okNode_eq hlt,hno,argsOk,hka];rfl
      have hall2:∀j,j<i+1→okNode p.nodes j=true:=fun j hj=>by
       rcases Nat.lt_succ_iff_lt_or_eq.1 hj with h|rfl
       ·exact hall _ h
       ·exact hok
      refine⟨i+1,⟨⟨hlt,hall2⟩,by first|omega|(simp only;omega)|assumption⟩,rfl,rfl,?_,?_⟩<;>simp (disch:=omega) [wrap64,hsn,List.take_length]
   ·obtain rfl:i=p.nodes.length:=by omega
    have hlast:=seen_last (show 0<p.nodes.length by omega) hall p.nodes.length (Nat.le_refl _)
    have hlen:(seenTo p.nodes p.nodes.length).length=p.nodes.length:=by simp
    have hno:=fun (i:Nat) (hi:i<p.nodes.length-1) (x:Int)=>progOk_seen (p:=p) hi (x:=x)
    have hyes:=progOk_yes (p:=p) hN hroot hall
    generalize seenTo p.nodes p.nodes.length=S at *
    have hm1:p.nodes.length-1=m:=by omega
    rw[hm1]at hlast hyes
    have l0:m<S.length:=by omega
    have l1:m≤p.nodes.length:=by omega
    have l2:(m:Int)≤(p.nodes.length:Int):=by omega
    have l3:(m:Int)<(p.nodes.length:Int):=by omega
    have l4:m<p.nodes.length:=by omega
    have l5:S[m]=0:=by rw[List.getElem?_eq_getElem l0]at hlast;exact Option.some.inj hlast
    refine go (L:=_∧True) (wa6 @l0 @l1 @l2 @l3 @l4 @hlen) wb0 wb0 wb0 wb0 ⟨fun _=>?_,wb0⟩
    refine WPc.loopV (σ:=Nat) (fun i=>i≤m∧(S.take i).all (fun n=>decide (n=1))=true) (fun i=>m-i) (fun i=>[(7,.sc (.int .i64 i))]) (fun i=>[(1,135,2,[[.fz (p.nodes.map Nd.cs),.sc (.int .i64 p.root)]]),(25,3,1,S.map nC)]) [3] 0 (by simp) (by simp) (by simp) ?_
    rintro i ⟨hi,hall1⟩ s hs
    simp at hs
    subst hs
    by_cases hlt2:i<m
    ·have hiS:i<S.length:=by omega
     have hiN:i<p.nodes.length:=by omega
     by_cases he:S[i]=1
     ·refine go (L:=_∧True) (wa6 @nC.eq_1 @hlt2 @hiS @hiN @he @hlen) wb0 wb0 wb0 wb0 ⟨fun _ hq=>?_,wb0⟩
      refine⟨i+1,⟨⟨hlt2,all_next (List.getElem?_eq_getElem hiS) (by simp[he]) hall1⟩,by first|omega|(simp only;omega)|assumption⟩,rfl,rfl,?_,?_⟩<;>simp (disch:=omega) [wrap64]
     ·rw[hno i (by omega) _ (List.getElem?_eq_getElem hiS) he]
      refine go (L:=_∧True) (wa6 @nC.eq_1 @hlt2 @hiS @hiN @he @hlen) wb0 wb0 wb0 wb0 ⟨fun _ hq=>?_,wb0⟩
      all_goals rfl
    ·obtain rfl:i=m:=by omega
     rw[hyes hall1]
     refine go (L:=_∧True) (wa9 @nC.eq_1 @hlt2 @l0 @l1 @l2 @l3 @l4 @l5 @hlen) wb0 wb0 wb0 wb0 ⟨fun _ hq=>?_,wb0⟩
     all_goals rfl
  ·have hroot':(p.root=(m:Int))=False:=by simp only[eq_iff_iff,iff_false];omega
   rw[progOk_root hroot]
   refine cof 87 Go.Proofs.Tryz.func117 fun G=>?_
   simp only[entSt,tmOf,List.append_nil,List.cons_append,List.nil_append,Pg.av]
   refine go (L:=_∧True) (wa3 @hN @hw1 @hroot') (wb1 (fun v0 v1 v2 (_:True)=>c_spec_l1In v0 v1 v2)) wb0 wb0 wb0 ⟨fun _=>?_,wb0⟩
   all_goals rfl
 ·have hN':inRange p.nodes.length 1 400=false:=by simpa using hN
  rw[progOk_len hN']
  refine cof 87 Go.Proofs.Tryz.func117 fun G=>?_
  simp only[entSt,tmOf,List.append_nil,List.cons_append,List.nil_append,Pg.av]
  refine go (L:=_∧True) (wa1 @hN') (wb1 (fun v0 v1 v2 (_:True)=>c_spec_l1In v0 v1 v2)) wb0 wb0 wb0 ⟨fun _=>?_,wb0⟩
  all_goals rfl
end Go.Own
set_option maxRecDepth 1000000
set_option maxHeartbeats 4000000
namespace Go.Own
attribute [local irreducible] WPc WPL WPS WPS1 WPS2 HAny endP
variable [Laid]
open Go.Lib Go.RowKit
theorem allI_at{α:Type}{l:List α}{f:Nat→α→Bool}{i:Nat}(hi:i<l.length)(h:f i l[i]=false):allI l f=false:=by
 cases e:allI l f with
 |false=>rfl
 |true=>rw[allI_iff.1 e i hi]at h;cases h
theorem inOk_eq(y:Sy)(i:Nat)(x:In):inOk y i x=((headOk i x&&(namesOk x.names 30&&(decide (x.vals.length=x.names.length)&&(decide (x.links.length≤30)&&decide (x.types.length≤8)))))&&(x.vals.all (vOk0 y.heap)&&(allI x.links (lkS y.insts.length x)&&allI x.types (tyS x.types)))):=by
 rw[inOk,lksOk_eq,tyOk_eq]
 have e1:decide ((x.links.length:Int)≤30)=decide (x.links.length≤30):=by simp;omega
 have e2:decide ((x.types.length:Int)≤8)=decide (x.types.length≤8):=by simp;omega
 rw[e1,e2]
 cases headOk i x<;>cases x.vals.all (vOk0 y.heap)<;>cases namesOk x.names 30<;>cases decide (x.vals.length=x.names.length)<;>cases decide (x.links.length≤30)<;>cases allI x.links (lkS y.insts.length x)<;>cases decide (x.types.length≤8)<;>cases allI x.types (tyS x.types)<;>rfl
def lkSeen(x:In)(k:Nat):List ByteArray:=x.names++(x.links.take k).map Lk.name
theorem lkSeen_zero(x:In):lkSeen x 0=x.names:=by simp[lkSeen]
theorem lkSeen_len{x:In}{k:Nat}(hk:k≤x.links.length):(lkSeen x k).length=x.names.length+k:=by simp[lkSeen];omega
theorem lkSeen_next{x:In}{k:Nat}(hk:k<x.links.length):lkSeen x (k+1)=lkSeen x k++[x.links[k].name]:=by
 unfold lkSeen
 rw[List.take_add_one,List.getElem?_eq_getElem hk,Option.toList_some,List.map_append,List.map_cons,List.map_nil,List.append_assoc]
theorem c_spec_l8InstOk(y:Sy)(i:Nat)(hi:i<y.insts.length)(hs:y.sm)(hr:y.rm):Con PP 116 [y.av,.sc (.int .i64 i)] [] [] (fun r o=>r=.sc (.bool (inOk y i y.insts[i]))):=by
 have s1:=hs.insts _ (List.getElem_mem hi)
 have r1:=hr.insts1 _ (List.getElem_mem hi)
 have rI:=hr.insts
 have hi':(i:Int)<y.insts.length:=by omega
 have sL:=s1.lib
 have sN:=s1.names
 have sV:=s1.vals
 have sK:=s1.links
 have sT:=s1.types
 have rN:=r1.names
 have rV:=r1.vals
 have rK:=r1.links
 have rT:=r1.types
 rw[inOk_eq]
 refine cof 192 Go.Proofs.Tryz.func116 fun G=>?_
 simp only[entSt,tmOf,List.append_nil,List.cons_append,List.nil_append,Sy.av]
 cases hd:headOk i y.insts[i]with
 |false =>
  rw[Bool.false_and,Bool.false_and]
  rcases headOk_no hd with ⟨f1,f2⟩|⟨f1,f2,f3⟩|⟨f1,f2,f3⟩|⟨f1,f2,f3,f4⟩
  ·refine go (L:=_∧True) (wa5 @hi @hi' @In.cs.eq_1 @f1 @f2) wb0 wb0 wb0 wb0 ⟨fun _=>?_,wb0⟩
   all_goals rfl
  ·refine go (L:=_∧True) (wa6 @hi @hi' @In.cs.eq_1 @f1 @f2 @f3) wb0 wb0 wb0 wb0 ⟨fun _=>?_,wb0⟩
   all_goals rfl
  ·refine go (L:=_∧True) (wa6 @hi @hi' @In.cs.eq_1 @f1 @f2 @f3) (wb1 (fun v0 (h:_)=>c_spec_IsName v0 h)) wb0 wb0 wb0 ⟨fun _=>?_,wb0⟩
   all_goals rfl
  ·refine go (L:=_∧True) (wa7 @hi @hi' @In.cs.eq_1 @f1 @f2 @f3 @f4) (wb2 (fun v0 (h:_)=>c_spec_IsName v0 h) (fun v0 v1 v2 (_:True)=>c_spec_l1In v0 v1 v2)) wb0 wb0 wb0 ⟨fun _=>?_,wb0⟩
   all_goals rfl
 |true =>
 rw[Bool.true_and]
 cases hH:(namesOk y.insts[i].names 30&&(decide (y.insts[i].vals.length=y.insts[i].names.length)&&(decide (y.insts[i].links.length≤30)&&decide (y.insts[i].types.length≤8)))) with
 |false =>
  rw[Bool.false_and]
  rcases headOk_yes hd with ⟨f1,f2,f3,f4⟩|⟨f1,f2,f3,f4⟩
  all_goals
   all_goals refine go (L:=_∧_∧_∧_∧_∧True) (wa7 @hi @hi' @In.cs.eq_1 @f1 @f2 @f3 @f4) (wb3 (fun v0 (h:_)=>c_spec_IsName v0 h) (fun v0 v1 v2 (_:True)=>c_spec_l1In v0 v1 v2) (fun v0 v1 (h:_)=>c_spec_l3Names v0 v1 h)) wb0 wb0 wb0 ⟨fun _ _ _ _ hq=>?_,fun _ _ _ _ hq=>?_,fun _ _ _ _=>?_,fun _ _ _=>?_,fun _ _=>?_,wb0⟩
   all_goals first
    |rfl
    |(exfalso;revert hH;simp_all;done)
    |(exfalso;simp_all;omega)
 |true =>
 have hH':=hH
 simp only[Bool.and_eq_true,decide_eq_true_eq]at hH'
 obtain⟨g2,g3,g4,g5⟩:=hH'
 have g3':((y.insts[i].vals.length:Int)=(y.insts[i].names.length:Int))=True:=by simp[g3]
 have g4':((30:Int)<(y.insts[i].links.length:Int))=False:=by simp;omega
 have g5':((8:Int)<(y.insts[i].types.length:Int))=False:=by simp;omega
 rcases headOk_yes hd with ⟨f1,f2,f3,f4⟩|⟨f1,f2,f3,f4⟩
 all_goals
  all_goals refine go (L:=_∧True) (wa12 @hi @hi' @In.cs.eq_1 @f1 @f2 @f3 @f4 @g2 @g3 @g3' @g4' @g5') (wb3 (fun v0 (h:_)=>c_spec_IsName v0 h) (fun v0 v1 v2 (_:True)=>c_spec_l1In v0 v1 v2) (fun v0 v1 (h:_)=>c_spec_l3Names v0 v1 h)) wb0 wb0 wb0 ⟨fun _=>?_,wb0⟩
  rw[Bool.true_and]
  refine WPc.loopV (σ:=Nat) (fun k=>k≤y.insts[i].vals.length∧(y.insts[i].vals.take k).all (vOk0 y.heap)=true) (fun k=>y.insts[i].vals.length-k) (fun k=>[(6,.sc (.int .i64 k))]) (fun k=>[(2,38,4,[y.cs]),(5,83,6,[y.insts[i].cs])]) [2,5] 0 (by simp[In.cs,Sy.cs]) (by simp[In.cs,Sy.cs]) (by simp) ?_
  rintro k ⟨hk,hall⟩ s hs
  simp at hs
  subst hs
  by_cases hlt:k<y.insts[i].vals.length
  ·have hz:=sV _ (List.getElem_mem hlt)
   have hv:=List.getElem?_eq_getElem hlt
   have e1:V.eqb ⟨y.insts[i].vals[k].k,y.insts[i].vals[k].n,y.insts[i].vals[k].s⟩ ⟨0,0,⟨#[]⟩⟩=decide (y.insts[i].vals[k]=noV):=rfl
   have e2:valueOk y.heap ⟨y.insts[i].vals[k].k,y.insts[i].vals[k].n,y.insts[i].vals[k].s⟩=valueOk y.heap y.insts[i].vals[k]:=rfl
   cases h0:decide (y.insts[i].vals[k]=noV) with
   |true =>
    all_goals refine go (L:=_∧True) (wa9 @V.cs.eq_1 @In.cs.eq_1 @Sy.cs.eq_1 @hlt @hi @hi' @e1 @e2 @h0) wb0 wb0 wb0 (wb2 wb0 (sch 7 [] [(0,[]),(1,[]),(2,[]),(3,[]),(4,[]),(5,[]),(6,[]),(7,[]),(8,[]),(9,[]),(10,[]),(11,[]),(12,[]),(13,[]),(14,[]),(15,[]),(16,[]),(17,[])])) ⟨fun _=>?_,wb0⟩
    refine⟨k+1,⟨⟨hlt,all_next hv (by rw[vOk0,h0,Bool.true_or]) hall⟩,by first|omega|(simp only;omega)|assumption⟩,rfl,rfl,?_,?_⟩<;>simp (disch:=omega) [wrap64,In.cs,Sy.cs]
   |false =>
    cases h1:valueOk y.heap y.insts[i].vals[k]with
    |true =>
     all_goals refine go (L:=_∧True) (wa10 @V.cs.eq_1 @In.cs.eq_1 @Sy.cs.eq_1 @hlt @hi @hi' @e1 @e2 @h0 @h1) (wb1 (fun v0 v1 v2 v3 (h:_)=>c_spec_ValueOk v0 ⟨v1,v2,v3⟩ h)) wb0 wb0 (wb2 wb0 (sch 7 [] [(0,[]),(1,[]),(2,[]),(3,[]),(4,[]),(5,[]),(6,[]),(7,[]),(8,[]),(9,[]),(10,[]),(11,[]),(12,[]),(13,[]),(14,[]),(15,[]),(16,[]),(17,[])])) ⟨fun _=>?_,wb0⟩
     refine⟨k+1,⟨⟨hlt,all_next hv (by rw[vOk0,h1,Bool.or_true]) hall⟩,by first|omega|(simp only;omega)|assumption⟩,rfl,rfl,?_,?_⟩<;>simp (disch:=omega) [wrap64,In.cs,Sy.cs]
    |false =>
     rw[all_at hv (by rw[vOk0,h0,h1];rfl),Bool.false_and]
     all_goals refine go (L:=_∧True) (wa10 @V.cs.eq_1 @In.cs.eq_1 @Sy.cs.eq_1 @hlt @hi @hi' @e1 @e2 @h0 @h1) (wb1 (fun v0 v1 v2 v3 (h:_)=>c_spec_ValueOk v0 ⟨v1,v2,v3⟩ h)) wb0 wb0 (wb2 wb0 (sch 7 [] [(0,[]),(1,[]),(2,[]),(3,[]),(4,[]),(5,[]),(6,[]),(7,[]),(8,[]),(9,[]),(10,[]),(11,[]),(12,[]),(13,[]),(14,[]),(15,[]),(16,[]),(17,[])])) ⟨fun _=>?_,wb0⟩
     all_goals rfl
  ·obtain rfl:k=y.insts[i].vals.length:=by omega
   rw[List.take_length]at hall
   rw[hall,Bool.true_and]
   clear hall
   have hb1:y.insts[i].names.length*16≤140737488355328:=by omega
   have hb2:y.insts[i].names.length≤9223372036854775807:=by omega
   all_goals refine go (L:=_∧True) (wa5 @hlt @In.cs.eq_1 @Sy.cs.eq_1 @hb1 @hb2) wb0 wb0 wb0 wb0 ⟨fun _=>?_,wb0⟩
   refine WPc.renC 97 900001 fun K hK=>?_
   simp -implicitDefEqProofs
   refine hK _ ?_;clear hK K
   refine WPc.loopV (σ:=Nat) (fun k=>k≤y.insts[i].links.length∧(∀j,(h:j<y.insts[i].links.length)→j<k→lkS y.insts.length y.insts[i] j y.insts[i].links[j]=true)) (fun k=>y.insts[i].links.length-k) (fun k=>[(8,.sc (.int .i64 k)),(7,.sl 900001 1 [] 0 (y.insts[i].names.length+k))]) (fun k=>[(2,38,4,[y.cs]),(5,83,6,[y.insts[i].cs]),(900001,9,1,(lkSeen y.insts[i] k).map sC)]) [2,5] 0 (by simp[In.cs,Sy.cs,lkSeen_zero]) (by simp[In.cs,Sy.cs,lkSeen_zero]) (by simp) ?_
   rintro k ⟨hk,hall⟩ s hs
   simp at hs
   subst hs
   by_cases hlt2:k<y.insts[i].links.length
   ·have hz:=sK _ (List.getElem_mem hlt2)
    have z1:=hz.name
    have z2:=hz.tgt
    have hlk:=lkSeen_len hk
    have hln:=lkSeen_next hlt2
    have hll:lkS y.insts.length y.insts[i] k y.insts[i].links[k]=(isName y.insts[i].links[k].name && !isW (lkSeen y.insts[i] k) y.insts[i].links[k].name&&inRange y.insts[i].links[k].inst 0 ((y.insts.length:Int)-1)&&isName y.insts[i].links[k].tgt):=rfl
    have hb3:(y.insts[i].names.length+k+1)*16≤140737488355328:=by omega
    have hb4:y.insts[i].names.length+k+1≤9223372036854775807:=by omega
    have hdz:=dz_S hlk
    cases h1:lkS y.insts.length y.insts[i] k y.insts[i].links[k]with
    |false =>
     rw[allI_at hlt2 h1,Bool.false_and]
     rw[hll]at h1
     all_goals refine go (L:=_∧_∧_∧_∧_∧_∧True) (wa8 @Lk.cs.eq_1 @In.cs.eq_1 @Sy.cs.eq_1 @hlt2 @hlk @hb3 @hb4 @hdz) (wb2 (fun v0 (h:_)=>c_spec_IsName v0 h) (fun v0 v1 (_:True)=>c_spec_l3In v0 v1)) wb0 wb0 wb0 ⟨fun _ _ _ _ _ hq=>?_,fun _ _ _ _ _ hq=>?_,fun _ _ _ _ _=>?_,fun _ _ _ _=>?_,fun _ _ _=>?_,fun _ _=>?_,wb0⟩
     all_goals first
      |rfl
      |(exfalso;simp_all[inRange];done)
      |(exfalso;simp_all[inRange];omega)
    |true =>
     have h1':=h1
     rw[hll]at h1'
     simp only[Bool.and_eq_true,Bool.not_eq_true',inRange,decide_eq_true_eq]at h1'
     obtain⟨⟨⟨z3,z4⟩,z5,z6⟩,z7⟩:=h1'
     have z5':(y.insts[i].links[k].inst<0)=False:=by simp;omega
     have z6':((y.insts.length:Int)≤y.insts[i].links[k].inst)=False:=by simp;omega
     all_goals refine go (L:=_∧True) (wa13 @Lk.cs.eq_1 @In.cs.eq_1 @Sy.cs.eq_1 @hlt2 @hlk @hb3 @hb4 @hdz @z3 @z4 @z5' @z6' @z7) (wb2 (fun v0 (h:_)=>c_spec_IsName v0 h) (fun v0 v1 (_:True)=>c_spec_l3In v0 v1)) wb0 wb0 wb0 ⟨fun _=>?_,wb0⟩
     refine⟨k+1,⟨⟨hlt2,fun j hj hji=>(Nat.lt_succ_iff_lt_or_eq.1 hji).elim (hall j hj) (fun e=>by subst e;exact h1)⟩,by first|omega|(simp only;omega)|assumption⟩,rfl,rfl,?_,?_⟩<;>simp (disch:=omega) [wrap64,hln,sC,In.cs,Sy.cs,Nat.add_assoc]
   ·obtain rfl:k=y.insts[i].links.length:=by omega
    have hI:allI y.insts[i].links (lkS y.insts.length y.insts[i])=true:=allI_iff.2 fun j hj=>hall j hj hj
    clear hall
    rw[hI,Bool.true_and]
    all_goals refine go (L:=_∧True) (wa3 @hlt2 @In.cs.eq_1 @Sy.cs.eq_1) wb0 wb0 wb0 wb0 ⟨fun _=>?_,wb0⟩
    refine WPc.renC 147 900002 fun K hK=>?_
    simp -implicitDefEqProofs
    refine hK _ ?_;clear hK K
    refine WPc.loopV (σ:=Nat) (fun k=>k≤y.insts[i].types.length∧(∀j,(h:j<y.insts[i].types.length)→j<k→tyS y.insts[i].types j y.insts[i].types[j]=true)) (fun k=>y.insts[i].types.length-k) (fun k=>[(11,.sc (.int .i64 k)),(10,.sl 900002 1 [] 0 k)]) (fun k=>[(2,38,4,[y.cs]),(5,83,6,[y.insts[i].cs]),(900002,9,1,(mapT Ty.name y.insts[i].types k).map sC)]) [5] 0 (by simp[In.cs,Sy.cs,mapT_zero]) (by simp[In.cs,Sy.cs,mapT_zero]) (by simp) ?_
    rintro k ⟨hk,hall⟩ s hs
    simp at hs
    subst hs
    by_cases hlt3:k<y.insts[i].types.length
    ·have z1:=(sT _ (List.getElem_mem hlt3)).name
     have hn:=mapT_next Ty.name hlt3
     have hlk:=mapT_len Ty.name hk
     have hll:tyS y.insts[i].types k y.insts[i].types[k]=(isName y.insts[i].types[k].name && !isW (mapT Ty.name y.insts[i].types k) y.insts[i].types[k].name&&inRange y.insts[i].types[k].size 0 8):=rfl
     have hb3:(k+1)*16≤140737488355328:=by omega
     have hb4:k+1≤9223372036854775807:=by omega
     have hdz:=dz_S hlk
     cases h1:tyS y.insts[i].types k y.insts[i].types[k]with
     |false =>
      rw[allI_at hlt3 h1]
      rw[hll]at h1
      all_goals refine go (L:=_∧_∧_∧_∧True) (wa8 @Ty.cs.eq_1 @In.cs.eq_1 @Sy.cs.eq_1 @hlt3 @hlk @hb3 @hb4 @hdz) (wb3 (fun v0 (h:_)=>c_spec_IsName v0 h) (fun v0 v1 v2 (_:True)=>c_spec_l1In v0 v1 v2) (fun v0 v1 (_:True)=>c_spec_l3In v0 v1)) wb0 wb0 wb0 ⟨fun _ _ _ hq=>?_,fun _ _ _ hq=>?_,fun _ _ _=>?_,fun _ _=>?_,wb0⟩
      all_goals first
       |rfl
       |(exfalso;simp_all;done)
     |true =>
      have h1':=h1
      rw[hll]at h1'
      simp only[Bool.and_eq_true,Bool.not_eq_true']at h1'
      obtain⟨⟨z3,z4⟩,z5⟩:=h1'
      all_goals refine go (L:=_∧True) (wa11 @Ty.cs.eq_1 @In.cs.eq_1 @Sy.cs.eq_1 @hlt3 @hlk @hb3 @hb4 @hdz @z3 @z4 @z5) (wb3 (fun v0 (h:_)=>c_spec_IsName v0 h) (fun v0 v1 v2 (_:True)=>c_spec_l1In v0 v1 v2) (fun v0 v1 (_:True)=>c_spec_l3In v0 v1)) wb0 wb0 wb0 ⟨fun _=>?_,wb0⟩
      refine⟨k+1,⟨⟨hlt3,fun j hj hji=>(Nat.lt_succ_iff_lt_or_eq.1 hji).elim (hall j hj) (fun e=>by subst e;exact h1)⟩,by first|omega|(simp only;omega)|assumption⟩,rfl,rfl,?_,?_⟩<;>simp (disch:=omega) [wrap64,hn,sC,In.cs,Sy.cs]
    ·obtain rfl:k=y.insts[i].types.length:=by omega
     have hT:allI y.insts[i].types (tyS y.insts[i].types)=true:=allI_iff.2 fun j hj=>hall j hj hj
     rw[hT]
     all_goals refine go (L:=_∧True) (wa3 @hlt3 @In.cs.eq_1 @Sy.cs.eq_1) wb0 wb0 wb0 wb0 ⟨fun _=>?_,wb0⟩
     all_goals rfl
end Go.Own
set_option maxRecDepth 1000000
set_option maxHeartbeats 4000000
namespace Go.Own
attribute [local irreducible] WPc WPL WPS WPS1 WPS2 HAny endP
variable [Laid]
open Go.Lib Go.RowKit
theorem sysOk_len{y:Sy}(h:¬(inRange y.insts.length 1 12=true∧y.units.length≤60∧y.out.length≤40∧heapOk y.heap=true)):sysOk y=false:=by
 rw[Bool.eq_false_iff]
 intro hy
 apply h
 simp only[sysOk,Bool.and_eq_true,decide_eq_true_eq]at hy
 exact⟨hy.1,hy.2.1,hy.2.2.1,hy.2.2.2.1⟩
theorem sysOk_i{y:Sy}{i:Nat}(hi:i<y.insts.length)(h:inOk y i y.insts[i]=false):sysOk y=false:=by
 have:allI y.insts (inOk y)=false:=by
  cases e:allI y.insts (inOk y) with
  |false=>rfl
  |true=>rw[allI_iff.1 e i hi]at h;cases h
 rw[sysOk,this];simp
theorem sysOk_u{y:Sy}{i:Nat}(hi:i<y.units.length)(h:unOk y y.units[i]=false):sysOk y=false:=by
 rw[sysOk,all_at (List.getElem?_eq_getElem hi) h];simp
theorem sysOk_c{y:Sy}{i:Nat}(hi:i<y.heap.length)(h:celOk y y.heap[i]=false):sysOk y=false:=by
 rw[sysOk,all_at (List.getElem?_eq_getElem hi) h];simp
theorem c_impl_SysOk[F:Facts.Of](y:Sy)(hs:y.sm)(hr:y.rm):Con PP 74 [y.av] [] [] (fun r o=>r=.sc (.bool (sysOk y))):=by
 have s1:=hs.heap
 have s2:=hs.units
 have r1:=hr.insts
 have r2:=hr.units
 have r3:=hr.heap
 have r4:=hr.units1
 have hw:IntKind.i64.wrap ((y.insts.length:Int)-1)=(y.insts.length:Int)-1:=wrap64 (by omega) (by omega)
 refine cof 82 Go.Proofs.Tryz.func74 fun G=>?_
 simp only[entSt,tmOf,List.append_nil,List.cons_append,List.nil_append,Sy.av]
 by_cases hl:inRange y.insts.length 1 12=true∧y.units.length≤60∧y.out.length≤40∧heapOk y.heap=true
 ·have e0:=sysOk_len (y:=y)
  obtain⟨l1,l2,l3,l4⟩:=hl
  have l2':¬(60:Int)<(y.units.length:Int):=by omega
  have l3':¬(40:Int)<(y.out.length:Int):=by omega
  refine go (L:=_∧True) (wa4 @l1 @l2' @l3' @l4) (wb2 (fun v0 v1 v2 (_:True)=>c_impl_inRange v0 v1 v2) (fun v0 (h:_)=>c_impl_HeapOk v0 h)) wb0 wb0 wb0 ⟨fun _=>?_,wb0⟩
  refine WPc.loopV (σ:=Nat) (fun i=>i≤y.insts.length∧(∀j,(h:j<y.insts.length)→j<i→inOk y j y.insts[j]=true)) (fun i=>y.insts.length-i) (fun i=>[(34,.sc (.int .i64 i))]) (fun i=>[(1,38,4,[y.cs])]) [1,33] 0 (by simp[Sy.cs]) (by simp[Sy.cs]) (by simp) ?_
  rintro i ⟨hi,hall⟩ s hs
  simp at hs
  subst hs
  by_cases hlt:i<y.insts.length
  ·have u1:=c_impl_instOk y i hlt hs hr
   simp only[Sy.cs]at u1
   cases h1:inOk y i y.insts[i]with
   |false =>
    rw[sysOk_i hlt h1]
    refine go (L:=_∧True) (wa3 @hlt @Sy.cs.eq_1 @h1) (wb1 (fun _=>u1)) wb0 wb0 wb0 ⟨fun _=>?_,wb0⟩
    all_goals rfl
   |true =>
    refine go (L:=_∧True) (wa3 @hlt @Sy.cs.eq_1 @h1) (wb1 (fun _=>u1)) wb0 wb0 wb0 ⟨fun _=>?_,wb0⟩
    refine⟨i+1,⟨⟨hlt,fun j hj hji=>(Nat.lt_succ_iff_lt_or_eq.1 hji).elim (hall j hj) (fun e=>by subst e;exact h1)⟩,by first|omega|(simp only;omega)|assumption⟩,rfl,rfl,?_,?_⟩<;>simp (disch:=omega) [wrap64,Sy.cs]
  ·obtain rfl:i=y.insts.length:=by omega
   have hI:allI y.insts (inOk y)=true:=allI_iff.2 fun j hj=>hall j hj hj
   clear hall
   refine go (L:=_∧True) (wa2 @hlt @Sy.cs.eq_1) wb0 wb0 wb0 wb0 ⟨fun _=>?_,wb0⟩
   refine WPc.loopV (σ:=Nat) (fun k=>k≤y.units.length∧(y.units.take k).all (unOk y)=true) (fun k=>y.units.length-k) (fun k=>[(44,.sc (.int .i64 k))]) (fun k=>[(1,38,4,[y.cs])]) [1,42,43] 0 (by simp[Sy.cs]) (by simp[Sy.cs]) (by simp) ?_
   rintro k ⟨hk,hall⟩ s hs
   simp at hs
   subst hs
   by_cases hlt2:k<y.units.length
   ·have hv:=List.getElem?_eq_getElem hlt2
    have u1:=c_impl_ProgOk y.units[k].prog (s2 _ (List.getElem_mem hlt2)).prog (fun c hc=>((r4 _ (List.getElem_mem hlt2)).prog.nodes1 c hc).args)
    simp only[Pg.av]at u1
    cases h1:unOk y y.units[k]with
    |false =>
     rw[sysOk_u hlt2 h1]
     unfold unOk at h1
     cases h2:inRange y.units[k].home 0 ((y.insts.length:Int)-1) with
     |false =>
      refine go (L:=_∧True) (wa5 @hlt2 @Sy.cs.eq_1 @Un.cs.eq_1 @hw @h2) (wb1 (fun v0 v1 v2 (_:True)=>c_impl_inRange v0 v1 v2)) wb0 wb0 wb0 ⟨fun _=>?_,wb0⟩
      all_goals rfl
     |true =>
      rw[h2,Bool.true_and]at h1
      refine go (L:=_∧True) (wa6 @hlt2 @Sy.cs.eq_1 @Un.cs.eq_1 @hw @h1 @h2) (wb2 (fun v0 v1 v2 (_:True)=>c_impl_inRange v0 v1 v2) (fun _=>u1)) wb0 wb0 wb0 ⟨fun _=>?_,wb0⟩
      all_goals rfl
    |true =>
     have h1':=h1
     unfold unOk at h1'
     rw[Bool.and_eq_true]at h1'
     obtain⟨h2,h3⟩:=h1'
     refine go (L:=_∧True) (wa6 @hlt2 @Sy.cs.eq_1 @Un.cs.eq_1 @hw @h2 @h3) (wb2 (fun v0 v1 v2 (_:True)=>c_impl_inRange v0 v1 v2) (fun _=>u1)) wb0 wb0 wb0 ⟨fun _=>?_,wb0⟩
     refine⟨k+1,⟨⟨hlt2,all_next hv h1 hall⟩,by first|omega|(simp only;omega)|assumption⟩,rfl,rfl,?_,?_⟩<;>simp (disch:=omega) [wrap64,Sy.cs]
   ·obtain rfl:k=y.units.length:=by omega
    rw[List.take_length]at hall
    have hU:=hall
    clear hall
    refine go (L:=_∧True) (wa2 @hlt2 @Sy.cs.eq_1) wb0 wb0 wb0 wb0 ⟨fun _=>?_,wb0⟩
    refine WPc.loopV (σ:=Nat) (fun k=>k≤y.heap.length∧(y.heap.take k).all (celOk y)=true) (fun k=>y.heap.length-k) (fun k=>[(66,.sc (.int .i64 k))]) (fun k=>[(1,38,4,[y.cs])]) [1,64,65] 0 (by simp[Sy.cs]) (by simp[Sy.cs]) (by simp) ?_
    rintro k ⟨hk,hall⟩ s hs
    simp at hs
    subst hs
    by_cases hlt3:k<y.heap.length
    ·have hv:=List.getElem?_eq_getElem hlt3
     have u1:=c_impl_isLambda y y.heap[k].a y.heap[k].b r2 r4
     simp only[Sy.cs]at u1
     by_cases hk2:y.heap[k].k=2
     ·have hk3:(y.heap[k].k=2)=True:=by simp[hk2]
      cases h1:isLam y y.heap[k].a y.heap[k].b with
      |false =>
       rw[sysOk_c hlt3 (by simp[celOk,hk2,h1])]
       refine go (L:=_∧True) (wa5 @hlt3 @Sy.cs.eq_1 @Cl.cs.eq_1 @h1 @hk3) (wb1 (fun _=>u1)) wb0 wb0 wb0 ⟨fun _=>?_,wb0⟩
       all_goals rfl
      |true =>
       refine go (L:=_∧True) (wa5 @hlt3 @Sy.cs.eq_1 @Cl.cs.eq_1 @h1 @hk3) (wb1 (fun _=>u1)) wb0 wb0 wb0 ⟨fun _=>?_,wb0⟩
       refine⟨k+1,⟨⟨hlt3,all_next hv (by simp[celOk,h1]) hall⟩,by first|omega|(simp only;omega)|assumption⟩,rfl,rfl,?_,?_⟩<;>simp (disch:=omega) [wrap64,Sy.cs]
     ·have hk3:(y.heap[k].k=2)=False:=by simp[hk2]
      refine go (L:=_∧True) (wa4 @hlt3 @Sy.cs.eq_1 @Cl.cs.eq_1 @hk3) wb0 wb0 wb0 wb0 ⟨fun _=>?_,wb0⟩
      refine⟨k+1,⟨⟨hlt3,all_next hv (by simp[celOk,hk2]) hall⟩,by first|omega|(simp only;omega)|assumption⟩,rfl,rfl,?_,?_⟩<;>simp (disch:=omega) [wrap64,Sy.cs]
    ·obtain rfl:k=y.heap.length:=by omega
     rw[List.take_length]at hall
     have e:sysOk y=true:=by simp[sysOk,l1,l2,l3,l4,hI,hU,hall]
     rw[e]
     refine go (L:=_∧True) (wa2 @hlt3 @Sy.cs.eq_1) wb0 wb0 wb0 wb0 ⟨fun _=>?_,wb0⟩
     all_goals rfl
 ·rw[sysOk_len hl]
  refine go (L:=_∧_∧_∧_∧_∧True) wb0 (wb2 (fun v0 v1 v2 (_:True)=>c_impl_inRange v0 v1 v2) (fun v0 (h:_)=>c_impl_HeapOk v0 h)) wb0 wb0 wb0 ⟨fun _ _ _ _ hq=>?_,fun _ _ _ _ hq=>?_,fun _ _ _ _=>?_,fun _ _ _=>?_,fun _ _=>?_,wb0⟩
  all_goals first
   |rfl
   |(exfalso;apply hl;simp_all;done)
   |(exfalso;apply hl;simp_all;omega)
theorem c_impl_ynode(y:Sy)(u n:Int)(h:isNode y u n=true):Con PP 225 [.fp y.cs,.sc (.int .i64 u),.sc (.int .i64 n)] [] [] (fun r o=>r=.fp ((nodeAt y u n).getD ndZ).cs):=by
 obtain⟨h1,h2,h3,h4⟩:=isNode_yes h
 have h5:u<(y.units.length:Int):=by omega
 have h6:n<(y.units[u.toNat].prog.nodes.length:Int):=by omega
 have e:(nodeAt y u n).getD ndZ=y.units[u.toNat].prog.nodes[n.toNat]:=by
  unfold nodeAt
  rw[List.getElem?_eq_getElem h3,Option.bind_some,List.getElem?_eq_getElem h4];rfl
 rw[e]
 refine cof 18 Go.Proofs.Tryz.func225 fun G=>?_
 simp only[entSt,tmOf,List.append_nil,List.cons_append,List.nil_append,Sy.cs]
 refine go (L:=_∧True) (wa7 @h1 @h2 @h3 @h4 @h5 @h6 @Un.cs.eq_1) wb0 wb0 wb0 wb0 ⟨fun _=>?_,wb0⟩
 all_goals rfl
theorem c_impl_envOk[F:Facts.Of](y:Sy)(e:List Bd)(hs:∀b,b∈e→b.sm):Con PP 145 [.fp y.cs,.fz (e.map Bd.cs)] [] [] (fun r o=>r=.sc (.bool (envOk y e))):=by
 refine Con.lenOf 1 Go.Proofs.Tryz.func145 (by kernel_rfl) (by kernel_rfl) rfl fun hlen=>?_
 simp at hlen
 refine cof 28 Go.Proofs.Tryz.func145 fun G=>?_
 simp only[entSt,tmOf,List.append_nil,List.cons_append,List.nil_append,Sy.cs]
 refine go (L:=_∧True) wb0 wb0 wb0 wb0 wb0 ⟨fun _=>?_,wb0⟩
 refine WPc.loopK (σ:=Nat) (fun i=>i≤e.length∧(e.take i).all (fun b=>isName b.name&&valueOk y.heap b.val)=true) (fun i=>e.length-i) (fun i=>[(9,.sc (.int .i64 i))]) [0,7,8] 0 (by simp) (by simp) (by simp) ?_
 rintro i ⟨hi,hall⟩ s hs
 simp at hs
 subst hs
 by_cases hlt:i<e.length
 ·have hv:=List.getElem?_eq_getElem hlt
  have hz:=hs _ (List.getElem_mem hlt)
  have z1:=hz.name
  have z2:=hz.val
  have e2:valueOk y.heap ⟨e[i].val.k,e[i].val.n,e[i].val.s⟩=valueOk y.heap e[i].val:=rfl
  cases h1:(isName e[i].name&&valueOk y.heap e[i].val) with
  |false =>
   rw[envOk,all_at hv h1]
   cases h2:isName e[i].name with
   |false =>
    refine go (L:=_∧True) (wa4 @hlt @Bd.cs.eq_1 @e2 @h2) (wb1 (fun v0 (h:_)=>c_impl_IsName v0 h)) wb0 wb0 (wb2 wb0 (sch 4 [] [(0,[]),(1,[]),(2,[]),(3,[]),(4,[]),(5,[]),(6,[]),(7,[]),(8,[]),(9,[]),(10,[]),(11,[]),(12,[]),(13,[])])) ⟨fun _=>?_,wb0⟩
    all_goals rfl
   |true =>
    rw[h2,Bool.true_and]at h1
    refine go (L:=_∧True) (wa5 @hlt @Bd.cs.eq_1 @e2 @h1 @h2) (wb2 (fun v0 v1 v2 v3 (h:_)=>c_impl_ValueOk v0 ⟨v1,v2,v3⟩ h) (fun v0 (h:_)=>c_impl_IsName v0 h)) wb0 wb0 (wb2 wb0 (sch 4 [] [(0,[]),(1,[]),(2,[]),(3,[]),(4,[]),(5,[]),(6,[]),(7,[]),(8,[]),(9,[]),(10,[]),(11,[]),(12,[]),(13,[])])) ⟨fun _=>?_,wb0⟩
    all_goals rfl
  |true =>
   have h1':=h1
   rw[Bool.and_eq_true]at h1'
   obtain⟨h2,h3⟩:=h1'
   refine go (L:=_∧True) (wa5 @hlt @Bd.cs.eq_1 @e2 @h2 @h3) (wb2 (fun v0 v1 v2 v3 (h:_)=>c_impl_ValueOk v0 ⟨v1,v2,v3⟩ h) (fun v0 (h:_)=>c_impl_IsName v0 h)) wb0 wb0 (wb2 wb0 (sch 4 [] [(0,[]),(1,[]),(2,[]),(3,[]),(4,[]),(5,[]),(6,[]),(7,[]),(8,[]),(9,[]),(10,[]),(11,[]),(12,[]),(13,[])])) ⟨fun _=>?_,wb0⟩
   all_goals
    refine⟨i+1,⟨⟨hlt,all_next hv h1 hall⟩,by first|omega|(simp only;omega)|assumption⟩,rfl,rfl,?_,?_⟩<;>simp (disch:=omega) [wrap64]
 ·obtain rfl:i=e.length:=by omega
  rw[List.take_length]at hall
  rw[envOk,hall]
  refine go (L:=_∧True) (wa1 @hlt) wb0 wb0 wb0 wb0 ⟨fun _=>?_,wb0⟩
  all_goals rfl
end Go.Own
set_option maxRecDepth 1000000
set_option maxHeartbeats 4000000
namespace Go.Own
attribute [local irreducible] WPc WPL WPS WPS1 WPS2 HAny endP
variable [Laid]
open Go.Lib Go.RowKit
def fmAt(c:Nd)(f:Fm):Bool:=if c.k=6∨c.k=10 then decide (f.vals.length=0) else if c.k=8∨c.k=9∨c.k=11 then decide (f.vals.length<c.args.length) else false
theorem nodeAt_some{y:Sy}{u n:Int}(h:isNode y u n=true):nodeAt y u n=some ((nodeAt y u n).getD ndZ):=by
 unfold isNode at h
 rw[Bool.and_eq_true]at h
 cases e:nodeAt y u n with
 |none=>rw[e]at h;cases h.2
 |some c=>rfl
theorem fmOk_eq(y:Sy)(f:Fm):fmOk y f=(isNode y f.unit f.node&&(f.vals.all (valueOk y.heap)&&(envOk y f.env&&fmAt ((nodeAt y f.unit f.node).getD ndZ) f))):=by
 unfold fmOk
 cases h:isNode y f.unit f.node with
 |false=>rfl
 |true =>
  rw[nodeAt_some h]
  rfl
theorem c_impl_frameOk[F:Facts.Of](y:Sy)(f:Fm)(hs:f.sm)(hy:y.units.length≤1000000000)(hr:∀t,t∈y.units→t.rm):Con PP 146 [.fp y.cs,f.av] [] [] (fun r o=>r=.sc (.bool (fmOk y f))):=by
 have s1:=hs.vals
 have s2:=hs.env
 rw[fmOk_eq]
 refine cof 60 Go.Proofs.Tryz.func146 fun G=>?_
 simp only[entSt,tmOf,List.append_nil,List.cons_append,List.nil_append,Fm.av,Sy.cs]
 have e1:∀u n,isNode ⟨y.heap,y.insts,y.units,y.out⟩ u n=isNode y u n:=fun _ _=>rfl
 have e2:∀e,envOk ⟨y.heap,y.insts,y.units,y.out⟩ e=envOk y e:=fun _=>rfl
 cases h1:isNode y f.unit f.node with
 |false =>
  refine go (L:=_∧True) (wa3 @e1 @e2 @h1) (wb1 (fun v0 v1 v2 v3 v4 v5 (h:_∧_)=>c_impl_isNode ⟨v0,v1,v2,v3⟩ v4 v5 h.1 h.2)) wb0 wb0 (wb2 wb0 (sch 1 [] [(0,[]),(1,[]),(2,[]),(3,[]),(4,[]),(5,[]),(6,[]),(7,[]),(8,[]),(9,[]),(10,[]),(11,[]),(12,[]),(13,[]),(14,[]),(15,[]),(16,[]),(17,[]),(18,[]),(19,[]),(20,[]),(21,[]),(22,[]),(23,[])])) ⟨fun _=>?_,wb0⟩
  all_goals rfl
 |true =>
  cases h2:f.vals.all (valueOk y.heap) with
  |false =>
   refine go (L:=_∧True) (wa4 @e1 @e2 @h1 @h2) (wb2 (fun v0 v1 v2 v3 v4 v5 (h:_∧_)=>c_impl_isNode ⟨v0,v1,v2,v3⟩ v4 v5 h.1 h.2) (fun v0 v1 (h:_)=>c_impl_valuesOk v0 v1 h)) wb0 wb0 (wb2 wb0 (sch 1 [] [(0,[]),(1,[]),(2,[]),(3,[]),(4,[]),(5,[]),(6,[]),(7,[]),(8,[]),(9,[]),(10,[]),(11,[]),(12,[]),(13,[]),(14,[]),(15,[]),(16,[]),(17,[]),(18,[]),(19,[]),(20,[]),(21,[]),(22,[]),(23,[])])) ⟨fun _=>?_,wb0⟩
   all_goals rfl
  |true =>
   cases h3:envOk y f.env with
   |false =>
    refine go (L:=_∧True) (wa5 @e1 @e2 @h1 @h2 @h3) (wb3 (fun v0 v1 v2 v3 v4 v5 (h:_∧_)=>c_impl_isNode ⟨v0,v1,v2,v3⟩ v4 v5 h.1 h.2) (fun v0 v1 v2 v3 v4 (h:_)=>c_impl_envOk ⟨v0,v1,v2,v3⟩ v4 h) (fun v0 v1 (h:_)=>c_impl_valuesOk v0 v1 h)) wb0 wb0 (wb2 wb0 (sch 1 [] [(0,[]),(1,[]),(2,[]),(3,[]),(4,[]),(5,[]),(6,[]),(7,[]),(8,[]),(9,[]),(10,[]),(11,[]),(12,[]),(13,[]),(14,[]),(15,[]),(16,[]),(17,[]),(18,[]),(19,[]),(20,[]),(21,[]),(22,[]),(23,[])])) ⟨fun _=>?_,wb0⟩
    all_goals rfl
   |true =>
    have u1:=c_impl_ynode y f.unit f.node h1
    generalize (nodeAt y f.unit f.node).getD ndZ=c at u1 ⊢
    simp only[Sy.cs,Nd.cs]at u1
    refine go (L:=_∧_∧_∧_∧_∧_∧True) (wa5 @e1 @e2 @h1 @h2 @h3) (wb4 (fun _=>u1) (fun v0 v1 v2 v3 v4 v5 (h:_∧_)=>c_impl_isNode ⟨v0,v1,v2,v3⟩ v4 v5 h.1 h.2) (fun v0 v1 v2 v3 v4 (h:_)=>c_impl_envOk ⟨v0,v1,v2,v3⟩ v4 h) (fun v0 v1 (h:_)=>c_impl_valuesOk v0 v1 h)) wb0 wb0 (wb3 wb0 (sch 1 [] [(0,[]),(1,[]),(2,[]),(3,[]),(4,[]),(5,[]),(6,[]),(7,[]),(8,[]),(9,[]),(10,[]),(11,[]),(12,[]),(13,[]),(14,[]),(15,[]),(16,[]),(17,[]),(18,[]),(19,[]),(20,[]),(21,[]),(22,[]),(23,[])]) (sch 11 [] [(0,[]),(1,[]),(2,[]),(3,[]),(4,[]),(5,[]),(6,[]),(7,[]),(8,[]),(9,[])])) ⟨fun _ hq=>?_,fun _ hq hq=>?_,fun _ hq hq hq=>?_,fun _ hq hq hq hq=>?_,fun _ hq hq hq hq hq=>?_,fun _ hq hq hq hq hq=>?_,wb0⟩
    all_goals (simp_all[fmAt])
theorem mcOk_f{y:Sy}{m:Mc}{i:Nat}(hi:i<m.stack.length)(h:fmOk y m.stack[i]=false):mcOk y m=false:=by
 rw[mcOk,all_at (List.getElem?_eq_getElem hi) h];simp
theorem c_impl_machineOk[F:Facts.Of](y:Sy)(m:Mc)(hs:m.sm)(hy:y.units.length≤1000000000)(hr:∀t,t∈y.units→t.rm):Con PP 76 [.fp y.cs,m.av] [] [] (fun r o=>r=.sc (.bool (mcOk y m))):=by
 have s1:=hs.env
 have s2:=hs.val
 have s3:=hs.stack
 have e1:∀u n,isNode ⟨y.heap,y.insts,y.units,y.out⟩ u n=isNode y u n:=fun _ _=>rfl
 have e2:∀e,envOk ⟨y.heap,y.insts,y.units,y.out⟩ e=envOk y e:=fun _=>rfl
 have e3:∀f,fmOk ⟨y.heap,y.insts,y.units,y.out⟩ f=fmOk y f:=fun _=>rfl
 have e4:valueOk y.heap ⟨m.val.k,m.val.n,m.val.s⟩=valueOk y.heap m.val:=rfl
 have e5:V.eqb ⟨m.val.k,m.val.n,m.val.s⟩ ⟨0,0,⟨#[]⟩⟩=decide (m.val=noV):=rfl
 have b1:∀b:Bool,(b&&false)=false:=Bool.and_false
 refine cof 81 Go.Proofs.Tryz.func76 fun G=>?_
 simp only[entSt,tmOf,List.append_nil,List.cons_append,List.nil_append,Mc.av,Sy.cs]
 cases h1:inRange m.mode 1 3 with
 |false =>
  have e:mcOk y m=false:=by rw[mcOk,h1,Bool.false_and]
  rw[e]
  refine go (L:=_∧True) (wa3 @e1 @e2 @h1) (wb1 (fun v0 v1 v2 (_:True)=>c_impl_inRange v0 v1 v2)) wb0 wb0 wb0 ⟨fun _=>?_,wb0⟩
  all_goals rfl
 |true =>
  cases h2:inRange m.fin 0 7 with
  |false =>
   have e:mcOk y m=false:=by rw[mcOk,h2,Bool.false_and,Bool.and_false]
   rw[e]
   refine go (L:=_∧True) (wa4 @e1 @e2 @h1 @h2) (wb1 (fun v0 v1 v2 (_:True)=>c_impl_inRange v0 v1 v2)) wb0 wb0 wb0 ⟨fun _=>?_,wb0⟩
   all_goals rfl
  |true =>
   cases h3:isNode y m.unit m.node with
   |false =>
    have e:mcOk y m=false:=by rw[mcOk,h3];simp
    rw[e]
    refine go (L:=_∧True) (wa5 @e1 @e2 @h1 @h2 @h3) (wb2 (fun v0 v1 v2 (_:True)=>c_impl_inRange v0 v1 v2) (fun v0 v1 v2 v3 v4 v5 (h:_∧_)=>c_impl_isNode ⟨v0,v1,v2,v3⟩ v4 v5 h.1 h.2)) wb0 wb0 wb0 ⟨fun _=>?_,wb0⟩
    all_goals rfl
   |true =>
    by_cases h4:m.stack.length≤120
    ·have h4':¬(120:Int)<(m.stack.length:Int):=by omega
     cases h5:envOk y m.env with
     |false =>
      have e:mcOk y m=false:=by rw[mcOk,h5];simp
      rw[e]
      refine go (L:=_∧True) (wa7 @e1 @e2 @h1 @h2 @h3 @h4' @h5) (wb3 (fun v0 v1 v2 (_:True)=>c_impl_inRange v0 v1 v2) (fun v0 v1 v2 v3 v4 v5 (h:_∧_)=>c_impl_isNode ⟨v0,v1,v2,v3⟩ v4 v5 h.1 h.2) (fun v0 v1 v2 v3 v4 (h:_)=>c_impl_envOk ⟨v0,v1,v2,v3⟩ v4 h)) wb0 wb0 wb0 ⟨fun _=>?_,wb0⟩
      all_goals rfl
     |true =>
      refine go (L:=_∧True) (wa7 @e1 @e2 @h1 @h2 @h3 @h4' @h5) (wb3 (fun v0 v1 v2 (_:True)=>c_impl_inRange v0 v1 v2) (fun v0 v1 v2 v3 v4 v5 (h:_∧_)=>c_impl_isNode ⟨v0,v1,v2,v3⟩ v4 v5 h.1 h.2) (fun v0 v1 v2 v3 v4 (h:_)=>c_impl_envOk ⟨v0,v1,v2,v3⟩ v4 h)) wb0 wb0 wb0 ⟨fun _=>?_,wb0⟩
      refine WPc.loopV (σ:=Nat) (fun i=>i≤m.stack.length∧(m.stack.take i).all (fmOk y)=true) (fun i=>m.stack.length-i) (fun i=>[(42,.sc (.int .i64 i))]) (fun i=>[(3,123,9,[m.cs])]) [0,3,40,41] 0 (by simp[Mc.cs]) (by simp[Mc.cs]) (by simp) ?_
      rintro i ⟨hi,hall⟩ s hs
      simp at hs
      subst hs
      by_cases hlt:i<m.stack.length
      ·have hv:=List.getElem?_eq_getElem hlt
       have hz:=s3 _ (List.getElem_mem hlt)
       have u1:=c_impl_frameOk y m.stack[i] hz hy hr
       simp only[Sy.cs,Fm.av]at u1
       cases h6:fmOk y m.stack[i]with
       |false =>
        rw[mcOk_f hlt h6]
        refine go (L:=_∧True) (wa4 @h6 @hlt @Mc.cs.eq_1 @Fm.cs.eq_1) (wb1 (fun _=>u1)) wb0 wb0 wb0 ⟨fun _=>?_,wb0⟩
        all_goals rfl
       |true =>
        refine go (L:=_∧True) (wa4 @h6 @hlt @Mc.cs.eq_1 @Fm.cs.eq_1) (wb1 (fun _=>u1)) wb0 wb0 wb0 ⟨fun _=>?_,wb0⟩
        refine⟨i+1,⟨⟨hlt,all_next hv h6 hall⟩,by first|omega|(simp only;omega)|assumption⟩,rfl,rfl,?_,?_⟩<;>simp (disch:=omega) [wrap64,Mc.cs]
      ·obtain rfl:i=m.stack.length:=by omega
       rw[List.take_length]at hall
       have e:mcOk y m=(if m.mode=1 then decide (m.val=noV) else if m.mode=2 then valueOk y.heap m.val else vOk0 y.heap m.val):=by
        simp only[mcOk,h1,h2,h3,h4,h5,hall,decide_true,Bool.true_and]
       rw[e]
       refine go (L:=_∧_∧_∧_∧True) (wa4 @hlt @Mc.cs.eq_1 @e4 @e5) (wb1 (fun v0 v1 v2 v3 (h:_)=>c_impl_ValueOk v0 ⟨v1,v2,v3⟩ h)) wb0 wb0 (wb3 wb0 (sch 13 [] [(0,[]),(1,[]),(2,[]),(3,[]),(4,[]),(5,[]),(6,[]),(7,[])]) (sch 14 [] [(0,[]),(1,[]),(2,[]),(3,[]),(4,[]),(5,[]),(6,[]),(7,[]),(8,[]),(9,[]),(10,[]),(11,[]),(12,[]),(13,[])])) ⟨fun _ hq=>?_,fun _ hq hq=>?_,fun _ _ hq hq=>?_,fun _ _ hq hq=>?_,wb0⟩
       all_goals (simp_all[vOk0])
    ·have h4':(120:Int)<(m.stack.length:Int):=by omega
     have e:mcOk y m=false:=by simp[mcOk,h4]
     rw[e]
     refine go (L:=_∧True) (wa6 @e1 @e2 @h1 @h2 @h3 @h4') (wb2 (fun v0 v1 v2 (_:True)=>c_impl_inRange v0 v1 v2) (fun v0 v1 v2 v3 v4 v5 (h:_∧_)=>c_impl_isNode ⟨v0,v1,v2,v3⟩ v4 v5 h.1 h.2)) wb0 wb0 wb0 ⟨fun _=>?_,wb0⟩
     all_goals rfl
end Go.Own
set_option maxRecDepth 1000000
namespace Go.Own
variable {w0:World}{β0:Blk}{st st':St}{β:Blk}{a:Act}{w w':World}{o:Oper}[Laid]
def uC(b:UInt8):List C:=[.sc (.int .u8 b.toNat)]
@[simp] theorem uC.len(c:UInt8):(uC c).length=1:=rfl
@[simp] theorem uC.frz(c:UInt8):(uC c).map Own.frz=uC c:=rfl
@[simp] theorem uC.pln(c:UInt8):(uC c).all plainC=true:=rfl
@[simp] theorem uC.lenA(l:List UInt8):lenAll 1 (l.map uC)=true:=lenAll_map uC.len l
@[simp] theorem uC.frzA(l:List UInt8):frzAll (l.map uC)=l.map uC:=frzAll_map uC.frz l
@[simp] theorem uC.plnA(l:List UInt8):plainAll (l.map uC)=true:=plainAll_map uC.pln l
def appendS(st:St)(nid t u:Nat)(x y:AV):Option (AV×St):=
 match elemT tt t,kd tt u,y with
 |some (e,ti),some .str,.sc (.string s)=>match dstA st nid e ti.size x with
  |some (id,es,st1)=>if e=5∧ti.size=1∧ti.bytes=1∧es.length+s.size≤140737488355328 then some (appO st1 id e 1 es (s.data.toList.map uC)) else none
  |none=>none
 |_,_,_=>none
attribute [simp] appendS
end Go.Own
set_option maxRecDepth 100000
namespace Go.Own
variable [Laid]
open Go.Lib Go.RowKit
abbrev By:=List UInt8
def byS(s:ByteArray):By:=s.data.toList
def leafT(h:List Cl)(v:V):By :=
 if v.k=1 then byS (dec v.n) else if v.k=2 then (if v.n=1 then [35,116] else [35,102]) else if v.k=3 then [40,41] else if v.k=4 then byS v.s
 else if v.k=6 then [102,110] else if v.k=7 then 35::(match h[v.n.toNat]? with|some c=>byS c.s|none=>[]) else []
def val0(h:List Cl)(v:V)(k:Nat):V:=match h[v.n.toNat]? with|some c=>arg c.vals k|none=>noV
structure LeafB(h:List Cl)(S:Nat):Prop where
 s0:25≤S
 leaf:∀v:V,valueOk h v=true→(leafT h v).length≤S
structure Pairs(h:List Cl):Prop where
 two:∀v:V,valueOk h v=true→v.k=5→0≤v.n∧∃hi:v.n.toNat<h.length,h[v.n.toNat].vals.length=2
 ok:∀v:V,valueOk h v=true→v.k=5→∀k,k<2→valueOk h (val0 h v k)=true∧((val0 h v k).k=5→(val0 h v k).n.toNat<v.n.toNat)
theorem hOk_at{h:List Cl}(hh:heapOk h=true){i:Nat}(hi:i<h.length):okAt h i h[i]=true:=by
 simp only[heapOk,Bool.and_eq_true,List.all_eq_true,List.mem_range]at hh
 have:=hh.2 _ hi
 rwa [okI_eq hi]at this
end Go.Own
set_option maxRecDepth 1000000
set_option maxHeartbeats 4000000
namespace Go.Own
attribute [local irreducible] WPc WPL WPS WPS1 WPS2 HAny endP
variable [Laid]
open Go.Lib Go.RowKit
theorem heapOk_fn{h:List Cl}{k:Nat}(hh:heapOk h=true)(hk:k<h.length)(h2:h[k].k=2):0≤h[k].a∧0≤h[k].b:=by
 have ho:=hOk_at hh hk
 simp only[okAt,Bool.and_eq_true]at ho
 have:=ho.1.1
 unfold cellOk at this
 simp_all
theorem celOk_eq{y:Sy}{c:Cl}(h2:c.k=2)(ha:0≤c.a)(hb:0≤c.b):celOk y c=(if h:c.a.toNat<y.units.length then (if h3:c.b.toNat<y.units[c.a.toNat].prog.nodes.length then decide (y.units[c.a.toNat].prog.nodes[c.b.toNat].k=7) else false) else false):=by
 unfold celOk isLam isNode nodeAt
 rw[decide_eq_true ha,decide_eq_true hb,decide_eq_false (by simp[h2]:¬c.k≠2)]
 by_cases h:c.a.toNat<y.units.length
 ·rw[List.getElem?_eq_getElem h,Option.bind_some,dif_pos h]
  by_cases h3:c.b.toNat<y.units[c.a.toNat].prog.nodes.length
  ·rw[List.getElem?_eq_getElem h3,dif_pos h3];rfl
  ·rw[List.getElem?_eq_none (by omega),dif_neg h3];rfl
 ·rw[List.getElem?_eq_none (by omega),dif_neg h];rfl
theorem c_spec_SysOk(y:Sy)(hs:y.sm)(hr:y.rm):Con PP 58 [y.av] [] [] (fun r o=>r=.sc (.bool (sysOk y))):=by
 have s1:=hs.heap
 have s2:=hs.units
 have r1:=hr.insts
 have r2:=hr.units
 have r3:=hr.heap
 have r4:=hr.units1
 refine cof 130 Go.Proofs.Tryz.func58 fun G=>?_
 simp only[entSt,tmOf,List.append_nil,List.cons_append,List.nil_append,Sy.av]
 by_cases hl:inRange y.insts.length 1 12=true∧y.units.length≤60∧y.out.length≤40∧heapOk y.heap=true
 ·have e0:=sysOk_len (y:=y)
  obtain⟨l1,l2,l3,l4⟩:=hl
  have l2':¬(60:Int)<(y.units.length:Int):=by omega
  have l3':¬(40:Int)<(y.out.length:Int):=by omega
  refine go (L:=_∧True) (wa4 @l1 @l2' @l3' @l4) (wb2 (fun v0 (h:_)=>c_spec_HeapOk v0 h) (fun v0 v1 v2 (_:True)=>c_spec_l1In v0 v1 v2)) wb0 wb0 wb0 ⟨fun _=>?_,wb0⟩
  refine WPc.loopV (σ:=Nat) (fun i=>i≤y.insts.length∧(∀j,(h:j<y.insts.length)→j<i→inOk y j y.insts[j]=true)) (fun i=>y.insts.length-i) (fun i=>[(3,.sc (.int .i64 i))]) (fun i=>[(1,38,4,[y.cs])]) [1] 0 (by simp[Sy.cs]) (by simp[Sy.cs]) (by simp) ?_
  rintro i ⟨hi,hall⟩ s hs
  simp at hs
  subst hs
  by_cases hlt:i<y.insts.length
  ·have u1:=c_spec_l8InstOk y i hlt hs hr
   simp only[Sy.av]at u1
   cases h1:inOk y i y.insts[i]with
   |false =>
    rw[sysOk_i hlt h1]
    refine go (L:=_∧True) (wa3 @hlt @Sy.cs.eq_1 @h1) (wb1 (fun _=>u1)) wb0 wb0 wb0 ⟨fun _=>?_,wb0⟩
    all_goals rfl
   |true =>
    refine go (L:=_∧True) (wa3 @hlt @Sy.cs.eq_1 @h1) (wb1 (fun _=>u1)) wb0 wb0 wb0 ⟨fun _=>?_,wb0⟩
    refine⟨i+1,⟨⟨hlt,fun j hj hji=>(Nat.lt_succ_iff_lt_or_eq.1 hji).elim (hall j hj) (fun e=>by subst e;exact h1)⟩,by first|omega|(simp only;omega)|assumption⟩,rfl,rfl,?_,?_⟩<;>simp (disch:=omega) [wrap64,Sy.cs]
  ·obtain rfl:i=y.insts.length:=by omega
   have hI:allI y.insts (inOk y)=true:=allI_iff.2 fun j hj=>hall j hj hj
   clear hall
   refine go (L:=_∧True) (wa2 @hlt @Sy.cs.eq_1) wb0 wb0 wb0 wb0 ⟨fun _=>?_,wb0⟩
   refine WPc.loopV (σ:=Nat) (fun k=>k≤y.units.length∧(y.units.take k).all (unOk y)=true) (fun k=>y.units.length-k) (fun k=>[(4,.sc (.int .i64 k))]) (fun k=>[(1,38,4,[y.cs])]) [1] 0 (by simp[Sy.cs]) (by simp[Sy.cs]) (by simp) ?_
   rintro k ⟨hk,hall⟩ s hs
   simp at hs
   subst hs
   by_cases hlt2:k<y.units.length
   ·have hv:=List.getElem?_eq_getElem hlt2
    have u1:=c_spec_ProgOk y.units[k].prog (s2 _ (List.getElem_mem hlt2)).prog (fun c hc=>((r4 _ (List.getElem_mem hlt2)).prog.nodes1 c hc).args)
    simp only[Pg.av]at u1
    cases h1:unOk y y.units[k]with
    |false =>
     rw[sysOk_u hlt2 h1]
     unfold unOk at h1
     refine go (L:=_∧_∧_∧_∧True) (wa3 @hlt2 @Sy.cs.eq_1 @Un.cs.eq_1) (wb1 (fun _=>u1)) wb0 wb0 (wb2 wb0 (sch 11 [] ((0,[])::(1,[])::(2,[])::(3,[])::(4,[])::(5,[])::(6,[])::(7,[])::(8,[])::(9,[])::(10,[])::(11,[])::(12,[])::(13,[])::(14,[])::(15,[])::(16,[])::(17,[])::(18,[])::(19,[])::(20,[])::(21,[])::(22,[])::(23,[])::(24,[])::(25,[])::(26,[])::(27,[])::(28,[])::[]))) ⟨fun _ _ _ hq=>?_,fun _ _ _ hq=>?_,fun _ _ _=>?_,fun _ _=>?_,wb0⟩
     all_goals first
      |rfl
      |(exfalso;simp_all[inRange];done)
      |(exfalso;simp_all[inRange];omega)
    |true =>
     have h1':=h1
     simp only[unOk,Bool.and_eq_true,inRange,decide_eq_true_eq]at h1'
     obtain⟨⟨w1,w2⟩,w3⟩:=h1'
     have w1':(y.units[k].home<0)=False:=by simp;omega
     have w2':((y.insts.length:Int)≤y.units[k].home)=False:=by simp;omega
     refine go (L:=_∧True) (wa6 @hlt2 @Sy.cs.eq_1 @Un.cs.eq_1 @w1' @w2' @w3) (wb1 (fun _=>u1)) wb0 wb0 (wb2 wb0 (sch 11 [] ((0,[])::(1,[])::(2,[])::(3,[])::(4,[])::(5,[])::(6,[])::(7,[])::(8,[])::(9,[])::(10,[])::(11,[])::(12,[])::(13,[])::(14,[])::(15,[])::(16,[])::(17,[])::(18,[])::(19,[])::(20,[])::(21,[])::(22,[])::(23,[])::(24,[])::(25,[])::(26,[])::(27,[])::(28,[])::[]))) ⟨fun _=>?_,wb0⟩
     refine⟨k+1,⟨⟨hlt2,all_next hv h1 hall⟩,by first|omega|(simp only;omega)|assumption⟩,rfl,rfl,?_,?_⟩<;>simp (disch:=omega) [wrap64,Sy.cs]
   ·obtain rfl:k=y.units.length:=by omega
    rw[List.take_length]at hall
    have hU:=hall
    clear hall
    refine go (L:=_∧True) (wa2 @hlt2 @Sy.cs.eq_1) wb0 wb0 wb0 wb0 ⟨fun _=>?_,wb0⟩
    refine WPc.loopV (σ:=Nat) (fun k=>k≤y.heap.length∧(y.heap.take k).all (celOk y)=true) (fun k=>y.heap.length-k) (fun k=>[(5,.sc (.int .i64 k))]) (fun k=>[(1,38,4,[y.cs])]) [1] 0 (by simp[Sy.cs]) (by simp[Sy.cs]) (by simp) ?_
    rintro k ⟨hk,hall⟩ s hs
    simp at hs
    subst hs
    by_cases hlt3:k<y.heap.length
    ·have hv:=List.getElem?_eq_getElem hlt3
     by_cases hk2:y.heap[k].k=2
     ·have hk3:(y.heap[k].k=2)=True:=by simp[hk2]
      obtain⟨ha,hb⟩:=heapOk_fn l4 hlt3 hk2
      have he:=celOk_eq (y:=y) hk2 ha hb
      by_cases g1:y.heap[k].a.toNat<y.units.length
      ·have g1':y.heap[k].a<(y.units.length:Int):=by omega
       have g1'':¬(y.units.length:Int)≤y.heap[k].a:=by omega
       rw[dif_pos g1]at he
       by_cases g2:y.heap[k].b.toNat<y.units[y.heap[k].a.toNat].prog.nodes.length
       ·have g2':y.heap[k].b<(y.units[y.heap[k].a.toNat].prog.nodes.length:Int):=by omega
        have g2'':¬(y.units[y.heap[k].a.toNat].prog.nodes.length:Int)≤y.heap[k].b:=by omega
        rw[dif_pos g2]at he
        by_cases g3:y.units[y.heap[k].a.toNat].prog.nodes[y.heap[k].b.toNat].k=7
        ·have g3':(y.units[y.heap[k].a.toNat].prog.nodes[y.heap[k].b.toNat].k=7)=True:=by simp[g3]
         refine go (L:=_∧True) (wa15 @hlt3 @Sy.cs.eq_1 @Cl.cs.eq_1 @Un.cs.eq_1 @Nd.cs.eq_1 @hk3 @ha @hb @g1 @g1' @g1'' @g2 @g2' @g2'' @g3') wb0 wb0 wb0 (wb2 wb0 (sch 17 [] ((0,[])::(1,[])::(2,[])::(3,[])::(4,[])::(5,[])::(6,[])::(7,[])::(8,[])::(9,[])::(10,[])::(11,[])::(12,[])::(13,[])::(14,[])::(15,[])::(16,[])::(17,[])::(18,[])::(19,[])::(20,[])::(21,[])::(22,[])::(23,[])::(24,[])::(25,[])::(26,[])::(27,[])::(28,[])::(29,[])::(30,[])::(31,[])::(32,[])::(33,[])::(34,[])::(35,[])::(36,[])::(37,[])::(38,[])::(39,[])::(40,[])::[]))) ⟨fun _=>?_,wb0⟩
         refine⟨k+1,⟨⟨hlt3,all_next hv (by rw[he];simp[g3]) hall⟩,by first|omega|(simp only;omega)|assumption⟩,rfl,rfl,?_,?_⟩<;>simp (disch:=omega) [wrap64,Sy.cs]
        ·have g3':(y.units[y.heap[k].a.toNat].prog.nodes[y.heap[k].b.toNat].k=7)=False:=by simp[g3]
         rw[sysOk_c hlt3 (by rw[he];simp[g3])]
         refine go (L:=_∧True) (wa15 @hlt3 @Sy.cs.eq_1 @Cl.cs.eq_1 @Un.cs.eq_1 @Nd.cs.eq_1 @hk3 @ha @hb @g1 @g1' @g1'' @g2 @g2' @g2'' @g3') wb0 wb0 wb0 (wb2 wb0 (sch 17 [] ((0,[])::(1,[])::(2,[])::(3,[])::(4,[])::(5,[])::(6,[])::(7,[])::(8,[])::(9,[])::(10,[])::(11,[])::(12,[])::(13,[])::(14,[])::(15,[])::(16,[])::(17,[])::(18,[])::(19,[])::(20,[])::(21,[])::(22,[])::(23,[])::(24,[])::(25,[])::(26,[])::(27,[])::(28,[])::(29,[])::(30,[])::(31,[])::(32,[])::(33,[])::(34,[])::(35,[])::(36,[])::(37,[])::(38,[])::(39,[])::(40,[])::[]))) ⟨fun _=>?_,wb0⟩
         all_goals rfl
       ·have g2'':(y.units[y.heap[k].a.toNat].prog.nodes.length:Int)≤y.heap[k].b:=by omega
        rw[dif_neg g2]at he
        rw[sysOk_c hlt3 he]
        refine go (L:=_∧True) (wa12 @hlt3 @Sy.cs.eq_1 @Cl.cs.eq_1 @Un.cs.eq_1 @Nd.cs.eq_1 @hk3 @ha @hb @g1 @g1' @g1'' @g2'') wb0 wb0 wb0 (wb2 wb0 (sch 17 [] ((0,[])::(1,[])::(2,[])::(3,[])::(4,[])::(5,[])::(6,[])::(7,[])::(8,[])::(9,[])::(10,[])::(11,[])::(12,[])::(13,[])::(14,[])::(15,[])::(16,[])::(17,[])::(18,[])::(19,[])::(20,[])::(21,[])::(22,[])::(23,[])::(24,[])::(25,[])::(26,[])::(27,[])::(28,[])::(29,[])::(30,[])::(31,[])::(32,[])::(33,[])::(34,[])::(35,[])::(36,[])::(37,[])::(38,[])::(39,[])::(40,[])::[]))) ⟨fun _=>?_,wb0⟩
        all_goals rfl
      ·have g1'':(y.units.length:Int)≤y.heap[k].a:=by omega
       rw[dif_neg g1]at he
       rw[sysOk_c hlt3 he]
       refine go (L:=_∧True) (wa9 @hlt3 @Sy.cs.eq_1 @Cl.cs.eq_1 @Un.cs.eq_1 @Nd.cs.eq_1 @hk3 @ha @hb @g1'') wb0 wb0 wb0 (wb2 wb0 (sch 17 [] ((0,[])::(1,[])::(2,[])::(3,[])::(4,[])::(5,[])::(6,[])::(7,[])::(8,[])::(9,[])::(10,[])::(11,[])::(12,[])::(13,[])::(14,[])::(15,[])::(16,[])::(17,[])::(18,[])::(19,[])::(20,[])::(21,[])::(22,[])::(23,[])::(24,[])::(25,[])::(26,[])::(27,[])::(28,[])::(29,[])::(30,[])::(31,[])::(32,[])::(33,[])::(34,[])::(35,[])::(36,[])::(37,[])::(38,[])::(39,[])::(40,[])::[]))) ⟨fun _=>?_,wb0⟩
       all_goals rfl
     ·have hk3:(y.heap[k].k=2)=False:=by simp[hk2]
      refine go (L:=_∧True) (wa4 @hlt3 @Sy.cs.eq_1 @Cl.cs.eq_1 @hk3) wb0 wb0 wb0 (wb2 wb0 (sch 17 [] ((0,[])::(1,[])::(2,[])::(3,[])::(4,[])::(5,[])::(6,[])::(7,[])::(8,[])::(9,[])::(10,[])::(11,[])::(12,[])::(13,[])::(14,[])::(15,[])::(16,[])::(17,[])::(18,[])::(19,[])::(20,[])::(21,[])::(22,[])::(23,[])::(24,[])::(25,[])::(26,[])::(27,[])::(28,[])::(29,[])::(30,[])::(31,[])::(32,[])::(33,[])::(34,[])::(35,[])::(36,[])::(37,[])::(38,[])::(39,[])::(40,[])::[]))) ⟨fun _=>?_,wb0⟩
      refine⟨k+1,⟨⟨hlt3,all_next hv (by simp[celOk,hk2]) hall⟩,by first|omega|(simp only;omega)|assumption⟩,rfl,rfl,?_,?_⟩<;>simp (disch:=omega) [wrap64,Sy.cs]
    ·obtain rfl:k=y.heap.length:=by omega
     rw[List.take_length]at hall
     have e:sysOk y=true:=by simp[sysOk,l1,l2,l3,l4,hI,hU,hall]
     rw[e]
     refine go (L:=_∧True) (wa2 @hlt3 @Sy.cs.eq_1) wb0 wb0 wb0 wb0 ⟨fun _=>?_,wb0⟩
     all_goals rfl
 ·rw[sysOk_len hl]
  refine go (L:=_∧_∧_∧_∧_∧True) wb0 (wb2 (fun v0 (h:_)=>c_spec_HeapOk v0 h) (fun v0 v1 v2 (_:True)=>c_spec_l1In v0 v1 v2)) wb0 wb0 wb0 ⟨fun _ _ _ _ hq=>?_,fun _ _ _ _ hq=>?_,fun _ _ _ _=>?_,fun _ _ _=>?_,fun _ _=>?_,wb0⟩
  all_goals first
   |rfl
   |(exfalso;apply hl;simp_all;done)
   |(exfalso;apply hl;simp_all;omega)
theorem c_spec_l9At(y:Sy)(u n:Int):Con PP 127 [y.av,.sc (.int .i64 u),.sc (.int .i64 n)] [] [] (fun r o=>r=.sc (.bool (isNode y u n))):=by
 rw[isNode_eq]
 refine cof 32 Go.Proofs.Tryz.func127 fun G=>?_
 simp only[entSt,tmOf,List.append_nil,List.cons_append,List.nil_append,Sy.av]
 by_cases a0:0≤u
 ·by_cases a1:u.toNat<y.units.length
  ·have a2:u<(y.units.length:Int):=by omega
   have a3:inRange u 0 ((y.units.length:Int)-1)=true:=by simp[inRange];omega
   rw[List.getElem?_eq_getElem a1,a3,Bool.true_and]
   by_cases b0:0≤n
   ·have b3:inRange n 0 ((y.units[u.toNat].prog.nodes.length:Int)-1)=decide (n<(y.units[u.toNat].prog.nodes.length:Int)):=by
     unfold inRange
     rw[decide_eq_true b0,Bool.true_and]
     exact decide_eq_decide.2 (by omega)
    dsimp only
    rw[b3]
    refine go (L:=_∧True) (wa5 @a0 @a1 @a2 @b0 @Un.cs.eq_1) wb0 wb0 wb0 wb0 ⟨fun _=>?_,wb0⟩
    all_goals rfl
   ·have b3:inRange n 0 ((y.units[u.toNat].prog.nodes.length:Int)-1)=false:=by simp[inRange];omega
    dsimp only
    rw[b3]
    refine go (L:=_∧True) (wa5 @a0 @a1 @a2 @b0 @Un.cs.eq_1) wb0 wb0 wb0 wb0 ⟨fun _=>?_,wb0⟩
    all_goals rfl
  ·have a2:¬u<(y.units.length:Int):=by omega
   have a3:inRange u 0 ((y.units.length:Int)-1)=false:=by simp[inRange];omega
   rw[a3,Bool.false_and]
   refine go (L:=_∧True) (wa2 @a0 @a2) wb0 wb0 wb0 wb0 ⟨fun _=>?_,wb0⟩
   all_goals rfl
 ·have a3:inRange u 0 ((y.units.length:Int)-1)=false:=by simp[inRange];omega
  rw[a3,Bool.false_and]
  refine go (L:=_∧True) (wa1 @a0) wb0 wb0 wb0 wb0 ⟨fun _=>?_,wb0⟩
  all_goals rfl
theorem c_spec_l9Env(y:Sy)(e:List Bd)(hs:∀b,b∈e→b.sm):Con PP 128 [y.av,.fz (e.map Bd.cs)] [] [] (fun r o=>r=.sc (.bool (envOk y e))):=by
 refine Con.lenOf 1 Go.Proofs.Tryz.func128 (by kernel_rfl) (by kernel_rfl) rfl fun hlen=>?_
 simp at hlen
 refine cof 30 Go.Proofs.Tryz.func128 fun G=>?_
 simp only[entSt,tmOf,List.append_nil,List.cons_append,List.nil_append,Sy.av]
 refine go (L:=_∧True) wb0 wb0 wb0 wb0 wb0 ⟨fun _=>?_,wb0⟩
 refine WPc.loopV (σ:=Nat) (fun i=>i≤e.length∧(e.take i).all (fun b=>isName b.name&&valueOk y.heap b.val)=true) (fun i=>e.length-i) (fun i=>[(5,.sc (.int .i64 i))]) (fun i=>[(2,38,4,[y.cs])]) [1,2] 0 (by simp[Sy.cs]) (by simp[Sy.cs]) (by simp) ?_
 rintro i ⟨hi,hall⟩ s hs
 simp at hs
 subst hs
 by_cases hlt:i<e.length
 ·have hv:=List.getElem?_eq_getElem hlt
  have hz:=hs _ (List.getElem_mem hlt)
  have z1:=hz.name
  have z2:=hz.val
  have e2:valueOk y.heap ⟨e[i].val.k,e[i].val.n,e[i].val.s⟩=valueOk y.heap e[i].val:=rfl
  cases h1:(isName e[i].name&&valueOk y.heap e[i].val) with
  |false =>
   rw[envOk,all_at hv h1]
   cases h2:isName e[i].name with
   |false =>
    refine go (L:=_∧True) (wa5 @hlt @Bd.cs.eq_1 @Sy.cs.eq_1 @e2 @h2) (wb1 (fun v0 (h:_)=>c_spec_IsName v0 h)) wb0 wb0 (wb2 wb0 (sch 4 [] [(0,[]),(1,[]),(2,[]),(3,[]),(4,[]),(5,[]),(6,[]),(7,[]),(8,[]),(9,[]),(10,[]),(11,[]),(12,[]),(13,[]),(14,[]),(15,[]),(16,[]),(17,[])])) ⟨fun _=>?_,wb0⟩
    all_goals rfl
   |true =>
    rw[h2,Bool.true_and]at h1
    refine go (L:=_∧True) (wa6 @hlt @Bd.cs.eq_1 @Sy.cs.eq_1 @e2 @h1 @h2) (wb2 (fun v0 (h:_)=>c_spec_IsName v0 h) (fun v0 v1 v2 v3 (h:_)=>c_spec_ValueOk v0 ⟨v1,v2,v3⟩ h)) wb0 wb0 (wb2 wb0 (sch 4 [] [(0,[]),(1,[]),(2,[]),(3,[]),(4,[]),(5,[]),(6,[]),(7,[]),(8,[]),(9,[]),(10,[]),(11,[]),(12,[]),(13,[]),(14,[]),(15,[]),(16,[]),(17,[])])) ⟨fun _=>?_,wb0⟩
    all_goals rfl
  |true =>
   have h1':=h1
   rw[Bool.and_eq_true]at h1'
   obtain⟨h2,h3⟩:=h1'
   refine go (L:=_∧True) (wa6 @hlt @Bd.cs.eq_1 @Sy.cs.eq_1 @e2 @h2 @h3) (wb2 (fun v0 (h:_)=>c_spec_IsName v0 h) (fun v0 v1 v2 v3 (h:_)=>c_spec_ValueOk v0 ⟨v1,v2,v3⟩ h)) wb0 wb0 (wb2 wb0 (sch 4 [] [(0,[]),(1,[]),(2,[]),(3,[]),(4,[]),(5,[]),(6,[]),(7,[]),(8,[]),(9,[]),(10,[]),(11,[]),(12,[]),(13,[]),(14,[]),(15,[]),(16,[]),(17,[])])) ⟨fun _=>?_,wb0⟩
   all_goals
    refine⟨i+1,⟨⟨hlt,all_next hv h1 hall⟩,by first|omega|(simp only;omega)|assumption⟩,rfl,rfl,?_,?_⟩<;>simp (disch:=omega) [wrap64,Sy.cs]
 ·obtain rfl:i=e.length:=by omega
  rw[List.take_length]at hall
  rw[envOk,hall]
  refine go (L:=_∧True) (wa2 @hlt @Sy.cs.eq_1) wb0 wb0 wb0 wb0 ⟨fun _=>?_,wb0⟩
  all_goals rfl
theorem c_spec_l9Frame(y:Sy)(f:Fm)(hs:f.sm)(hr:f.rm):Con PP 129 [y.av,f.av] [] [] (fun r o=>r=.sc (.bool (fmOk y f))):=by
 have s1:=hs.vals
 have s2:=hs.env
 have rV:=hr.vals
 rw[fmOk_eq]
 refine cof 69 Go.Proofs.Tryz.func129 fun G=>?_
 simp only[entSt,tmOf,List.append_nil,List.cons_append,List.nil_append,Fm.av,Sy.av]
 have e1:∀u n,isNode ⟨y.heap,y.insts,y.units,y.out⟩ u n=isNode y u n:=fun _ _=>rfl
 have e2:∀e,envOk ⟨y.heap,y.insts,y.units,y.out⟩ e=envOk y e:=fun _=>rfl
 cases h1:isNode y f.unit f.node with
 |false =>
  refine go (L:=_∧True) (wa3 @e1 @e2 @h1) (wb1 (fun v0 v1 v2 v3 v4 v5 (_:True)=>c_spec_l9At ⟨v0,v1,v2,v3⟩ v4 v5)) wb0 wb0 wb0 ⟨fun _=>?_,wb0⟩
  all_goals rfl
 |true =>
  cases h3:envOk y f.env with
  |false =>
   rw[Bool.false_and,Bool.and_false,Bool.and_false]
   refine go (L:=_∧True) (wa4 @e1 @e2 @h1 @h3) (wb2 (fun v0 v1 v2 v3 v4 v5 (_:True)=>c_spec_l9At ⟨v0,v1,v2,v3⟩ v4 v5) (fun v0 v1 v2 v3 v4 (h:_)=>c_spec_l9Env ⟨v0,v1,v2,v3⟩ v4 h)) wb0 wb0 wb0 ⟨fun _=>?_,wb0⟩
   all_goals rfl
  |true =>
   obtain⟨a0,b0,a1,b1⟩:=isNode_yes h1
   have a2:f.unit<(y.units.length:Int):=by omega
   have b2:f.node<(y.units[f.unit.toNat].prog.nodes.length:Int):=by omega
   have e:(nodeAt y f.unit f.node).getD ndZ=y.units[f.unit.toNat].prog.nodes[f.node.toNat]:=by
    unfold nodeAt
    rw[List.getElem?_eq_getElem a1,Option.bind_some,List.getElem?_eq_getElem b1];rfl
   rw[e]
   refine go (L:=_∧True) (wa4 @e1 @e2 @h1 @h3) (wb2 (fun v0 v1 v2 v3 v4 v5 (_:True)=>c_spec_l9At ⟨v0,v1,v2,v3⟩ v4 v5) (fun v0 v1 v2 v3 v4 (h:_)=>c_spec_l9Env ⟨v0,v1,v2,v3⟩ v4 h)) wb0 wb0 wb0 ⟨fun _=>?_,wb0⟩
   refine WPc.loopV (σ:=Nat) (fun i=>i≤f.vals.length∧(f.vals.take i).all (valueOk y.heap)=true) (fun i=>f.vals.length-i) (fun i=>[(5,.sc (.int .i64 i))]) (fun i=>[(2,38,4,[y.cs]),(3,220,4,[f.cs])]) [2,3] 0 (by simp[Sy.cs,Fm.cs]) (by simp[Sy.cs,Fm.cs]) (by simp) ?_
   rintro i ⟨hi,hall⟩ s hs
   simp at hs
   subst hs
   by_cases hlt:i<f.vals.length
   ·have hv:=List.getElem?_eq_getElem hlt
    have hz:=s1 _ (List.getElem_mem hlt)
    have e4:valueOk y.heap ⟨f.vals[i].k,f.vals[i].n,f.vals[i].s⟩=valueOk y.heap f.vals[i]:=rfl
    cases h4:valueOk y.heap f.vals[i]with
    |false =>
     rw[all_at hv h4,Bool.false_and,Bool.and_false]
     refine go (L:=_∧True) (wa6 @hlt @V.cs.eq_1 @Sy.cs.eq_1 @Fm.cs.eq_1 @e4 @h4) (wb1 (fun v0 v1 v2 v3 (h:_)=>c_spec_ValueOk v0 ⟨v1,v2,v3⟩ h)) wb0 wb0 (wb2 wb0 (sch 6 [] [(0,[]),(1,[]),(2,[]),(3,[]),(4,[]),(5,[]),(6,[]),(7,[]),(8,[])])) ⟨fun _=>?_,wb0⟩
     all_goals rfl
    |true =>
     refine go (L:=_∧True) (wa6 @hlt @V.cs.eq_1 @Sy.cs.eq_1 @Fm.cs.eq_1 @e4 @h4) (wb1 (fun v0 v1 v2 v3 (h:_)=>c_spec_ValueOk v0 ⟨v1,v2,v3⟩ h)) wb0 wb0 (wb2 wb0 (sch 6 [] [(0,[]),(1,[]),(2,[]),(3,[]),(4,[]),(5,[]),(6,[]),(7,[]),(8,[])])) ⟨fun _=>?_,wb0⟩
     refine⟨i+1,⟨⟨hlt,all_next hv h4 hall⟩,by first|omega|(simp only;omega)|assumption⟩,rfl,rfl,?_,?_⟩<;>simp (disch:=omega) [wrap64,Sy.cs,Fm.cs]
   ·obtain rfl:i=f.vals.length:=by omega
    rw[List.take_length]at hall
    rw[hall]
    refine go (L:=_∧_∧_∧_∧_∧_∧True) (wa11 @hlt @Sy.cs.eq_1 @Fm.cs.eq_1 @Un.cs.eq_1 @Nd.cs.eq_1 @a0 @a1 @a2 @b0 @b1 @b2) wb0 wb0 wb0 (wb2 wb0 (sch 8 [(12,[6]),(13,[2,3,6])] [(0,[6]),(1,[6]),(2,[6]),(3,[6]),(4,[6]),(5,[6]),(6,[6]),(7,[6]),(8,[6]),(9,[6]),(10,[6]),(11,[6]),(12,[6]),(13,[2,3,6])])) ⟨fun _ hq=>?_,fun _ hq hq=>?_,fun _ hq hq hq=>?_,fun _ hq hq hq hq=>?_,fun _ hq hq hq hq hq=>?_,fun _ hq hq hq hq hq=>?_,wb0⟩
    all_goals (simp_all[fmAt])
theorem mcOk_eq(y:Sy)(m:Mc):mcOk y m=(inRange m.fin 0 7&&(isNode y m.unit m.node&&(decide (m.stack.length≤120)&&(envOk y m.env&&(m.stack.all (fmOk y) &&
  (if m.mode=1 then decide (m.val=noV) else if m.mode=2 then valueOk y.heap m.val else if m.mode=3 then vOk0 y.heap m.val else false)))))):=by
 unfold mcOk
 by_cases h1:m.mode=1
 ·simp[h1,inRange]
 ·by_cases h2:m.mode=2
  ·simp[h2,inRange]
  ·by_cases h3:m.mode=3
   ·simp[h3,inRange]
   ·have:inRange m.mode 1 3=false:=by simp[inRange];omega
    simp[this,h1,h2,h3]
theorem c_spec_MachineOk(y:Sy)(m:Mc)(hs:y.sm)(hr:y.rm)(hs2:m.sm)(hr2:m.rm):Con PP 64 [y.av,m.av] [] [] (fun r o=>r=.sc (.bool (machOk y m))):=by
 have r2:=hr.units
 have r4:=hr.units1
 have s1:=hs2.env
 have s2:=hs2.val
 have s3:=hs2.stack
 have e0:sysOk ⟨y.heap,y.insts,y.units,y.out⟩=sysOk y:=rfl
 have e1:∀u n,isNode ⟨y.heap,y.insts,y.units,y.out⟩ u n=isNode y u n:=fun _ _=>rfl
 have e2:∀e,envOk ⟨y.heap,y.insts,y.units,y.out⟩ e=envOk y e:=fun _=>rfl
 have e3:∀f,fmOk ⟨y.heap,y.insts,y.units,y.out⟩ f=fmOk y f:=fun _=>rfl
 have e4:valueOk y.heap ⟨m.val.k,m.val.n,m.val.s⟩=valueOk y.heap m.val:=rfl
 have e5:V.eqb ⟨m.val.k,m.val.n,m.val.s⟩ ⟨0,0,⟨#[]⟩⟩=decide (m.val=noV):=rfl
 refine cof 80 Go.Proofs.Tryz.func64 fun G=>?_
 simp only[entSt,tmOf,List.append_nil,List.cons_append,List.nil_append,Mc.av,Sy.av]
 cases hH:(sysOk y&&(inRange m.fin 0 7&&(isNode y m.unit m.node&&(decide (m.stack.length≤120)&&envOk y m.env)))) with
 |false =>
  have e:machOk y m=false:=by
   rw[machOk,mcOk_eq]
   revert hH
   cases sysOk y<;>cases inRange m.fin 0 7<;>cases isNode y m.unit m.node<;>cases decide (m.stack.length≤120)<;>cases envOk y m.env<;>simp
  rw[e]
  refine go (L:=_∧_∧_∧_∧_∧_∧True) (wa3 @e0 @e1 @e2) (wb4 (fun v0 v1 v2 v3 (h:_∧_)=>c_spec_SysOk ⟨v0,v1,v2,v3⟩ h.1 h.2) (fun v0 v1 v2 (_:True)=>c_spec_l1In v0 v1 v2) (fun v0 v1 v2 v3 v4 v5 (_:True)=>c_spec_l9At ⟨v0,v1,v2,v3⟩ v4 v5) (fun v0 v1 v2 v3 v4 (h:_)=>c_spec_l9Env ⟨v0,v1,v2,v3⟩ v4 h)) wb0 wb0 wb0 ⟨fun _ _ _ _ _ hq=>?_,fun _ _ _ _ _ hq=>?_,fun _ _ _ _ _=>?_,fun _ _ _ _=>?_,fun _ _ _=>?_,fun _ _=>?_,wb0⟩
  all_goals first
   |rfl
   |(exfalso;simp_all;done)
   |(exfalso;simp_all;omega)
 |true =>
  have e:machOk y m=(m.stack.all (fmOk y)&&(if m.mode=1 then decide (m.val=noV) else if m.mode=2 then valueOk y.heap m.val else if m.mode=3 then vOk0 y.heap m.val else false)):=by
   rw[machOk,mcOk_eq]
   revert hH
   cases sysOk y<;>cases inRange m.fin 0 7<;>cases isNode y m.unit m.node<;>cases decide (m.stack.length≤120)<;>cases envOk y m.env<;>simp
  rw[e]
  simp only[Bool.and_eq_true,decide_eq_true_eq]at hH
  obtain⟨p1,p2,p3,p4,p5⟩:=hH
  have p4':((120:Int)<(m.stack.length:Int))=False:=by simp;omega
  refine go (L:=_∧True) (wa8 @e0 @e1 @e2 @p1 @p2 @p3 @p4' @p5) (wb4 (fun v0 v1 v2 v3 (h:_∧_)=>c_spec_SysOk ⟨v0,v1,v2,v3⟩ h.1 h.2) (fun v0 v1 v2 (_:True)=>c_spec_l1In v0 v1 v2) (fun v0 v1 v2 v3 v4 v5 (_:True)=>c_spec_l9At ⟨v0,v1,v2,v3⟩ v4 v5) (fun v0 v1 v2 v3 v4 (h:_)=>c_spec_l9Env ⟨v0,v1,v2,v3⟩ v4 h)) wb0 wb0 wb0 ⟨fun _=>?_,wb0⟩
  refine WPc.loopV (σ:=Nat) (fun i=>i≤m.stack.length∧(m.stack.take i).all (fmOk y)=true) (fun i=>m.stack.length-i) (fun i=>[(5,.sc (.int .i64 i))]) (fun i=>[(2,38,4,[y.cs]),(3,123,9,[m.cs])]) [2,3] 0 (by simp[Mc.cs,Sy.cs]) (by simp[Mc.cs,Sy.cs]) (by simp) ?_
  rintro i ⟨hi,hall⟩ s hs
  simp at hs
  subst hs
  by_cases hlt:i<m.stack.length
  ·have hv:=List.getElem?_eq_getElem hlt
   have u1:=c_spec_l9Frame y m.stack[i] (s3 _ (List.getElem_mem hlt)) (hr2.stack1 _ (List.getElem_mem hlt))
   simp only[Sy.av,Fm.av]at u1
   cases h6:fmOk y m.stack[i]with
   |false =>
    rw[all_at hv h6,Bool.false_and]
    refine go (L:=_∧True) (wa5 @h6 @hlt @Mc.cs.eq_1 @Sy.cs.eq_1 @Fm.cs.eq_1) (wb1 (fun _=>u1)) wb0 wb0 (wb2 wb0 (sch 6 [] [(0,[]),(1,[]),(2,[]),(3,[]),(4,[]),(5,[]),(6,[]),(7,[])])) ⟨fun _=>?_,wb0⟩
    all_goals rfl
   |true =>
    refine go (L:=_∧True) (wa5 @h6 @hlt @Mc.cs.eq_1 @Sy.cs.eq_1 @Fm.cs.eq_1) (wb1 (fun _=>u1)) wb0 wb0 (wb2 wb0 (sch 6 [] [(0,[]),(1,[]),(2,[]),(3,[]),(4,[]),(5,[]),(6,[]),(7,[])])) ⟨fun _=>?_,wb0⟩
    refine⟨i+1,⟨⟨hlt,all_next hv h6 hall⟩,by first|omega|(simp only;omega)|assumption⟩,rfl,rfl,?_,?_⟩<;>simp (disch:=omega) [wrap64,Mc.cs,Sy.cs]
  ·obtain rfl:i=m.stack.length:=by omega
   rw[List.take_length]at hall
   rw[hall]
   refine go (L:=_∧_∧_∧_∧_∧True) (wa5 @hlt @Mc.cs.eq_1 @Sy.cs.eq_1 @e4 @e5) (wb1 (fun v0 v1 v2 v3 (h:_)=>c_spec_ValueOk v0 ⟨v1,v2,v3⟩ h)) wb0 wb0 wb0 ⟨fun _ hq=>?_,fun _ hq hq=>?_,fun _ _ hq hq hq=>?_,fun _ _ hq hq hq=>?_,fun _ hq hq hq=>?_,wb0⟩
   all_goals (simp_all[vOk0])
end Go.Own
set_option maxRecDepth 1000000
set_option maxHeartbeats 4000000
namespace Go.Own
attribute [local irreducible] WPc WPL WPS WPS1 WPS2 HAny endP
variable [Laid]
open Go.Lib Go.RowKit
theorem count_step(b:Bool){l:List Bool}{i:Nat}(hi:i<l.length):(l.take (i+1)).count b=(l.take i).count b+if l[i]=b then 1 else 0:=by
 rw[List.take_add_one,List.getElem?_eq_getElem hi,Option.toList_some,List.count_append,List.count_singleton]
 by_cases h:l[i]=b<;>simp[h]
theorem c_impl_dead(l:List Bool)(h1:l.length≤1000000000):Con PP 37 [.fz (l.map boC)] [] [] (fun r o=>r=.sc (.int .i64 (l.count false:Nat))):=by
 refine cof 18 Go.Proofs.Tryz.func37 fun G=>?_
 simp only[entSt,tmOf,List.append_nil,List.cons_append,List.nil_append]
 refine go (L:=_∧True) wb0 wb0 wb0 wb0 wb0 ⟨fun _=>?_,wb0⟩
 refine WPc.loopK (σ:=Nat) (fun i=>i≤l.length) (fun i=>l.length-i) (fun i=>[(8,.sc (.int .i64 i)),(3,.sc (.int .i64 ((l.take i).count false:Nat)))]) [6,7] 0 (by simp[List.count_nil]) (by simp[List.count_nil]) (by simp) ?_
 rintro i hi s hs
 simp at hs
 subst hs
 by_cases hlt:i<l.length
 ·have hb:i+1≤9223372036854775807:=by omega
  have hn:=count_step false hlt
  have hle:(l.take i).count false≤i:=Nat.le_trans List.count_le_length (by simp;omega)
  generalize (l.take i).count false=n at hn hle ⊢
  have hnb:(n:Int)+1≤9223372036854775807:=by omega
  cases hx:l[i]with
  |true =>
   have hn':(l.take (i+1)).count false=n:=by rw[hn,hx];simp
   refine go (L:=_∧True) (wa3 @hlt @boC.eq_1 @hx) wb0 wb0 wb0 wb0 ⟨fun _=>?_,wb0⟩
   refine⟨i+1,⟨hlt,by first|omega|(simp only;omega)|assumption⟩,rfl,rfl,?_,?_⟩<;>simp (disch:=omega) [wrap64,hn']
  |false =>
   have hn':(l.take (i+1)).count false=n+1:=by rw[hn,hx];simp
   have hw:IntKind.i64.wrap ((n:Int)+1)=((n+1:Nat):Int):=by rw[wrap64 (by omega) (by omega)];omega
   refine go (L:=_∧True) (wa4 @hlt @boC.eq_1 @hx @hw) wb0 wb0 wb0 wb0 ⟨fun _=>?_,wb0⟩
   refine⟨i+1,⟨hlt,by first|omega|(simp only;omega)|assumption⟩,rfl,rfl,?_,?_⟩<;>simp (disch:=omega) [wrap64,hn']
 ·obtain rfl:i=l.length:=by omega
  rw[List.take_length]
  refine go (L:=_∧True) (wa1 @hlt) wb0 wb0 wb0 wb0 ⟨fun _=>?_,wb0⟩
  all_goals rfl
theorem c_spec_Size(y:Sy)(hs:y.sm)(hr:y.rm)(hok:sysOk y=true):Con PP 29 [y.av] [] [] (fun r o=>r=.sc (.int .i64 ((y.heap.length:Int)+y.insts.length+y.units.length))):=by
 have u1:=c_spec_SysOk y hs hr
 rw[hok]at u1
 simp only[Sy.av]at u1
 have a1:=hr.heap
 have a2:=hr.insts
 have a3:=hr.units
 have w1:IntKind.i64.wrap ((y.heap.length:Int)+y.insts.length)=(y.heap.length:Int)+y.insts.length:=wrap64 (by omega) (by omega)
 have w2:IntKind.i64.wrap ((y.heap.length:Int)+y.insts.length+y.units.length)=(y.heap.length:Int)+y.insts.length+y.units.length:=wrap64 (by omega) (by omega)
 refine cof 17 Go.Proofs.Tryz.func29 fun G=>?_
 simp only[entSt,tmOf,List.append_nil,List.cons_append,List.nil_append,Sy.av]
 refine go (L:=_∧True) (wa3 @Sy.cs.eq_1 @w1 @w2) (wb1 (fun _=>u1)) wb0 wb0 wb0 ⟨fun _=>?_,wb0⟩
 all_goals rfl
end Go.Own
set_option maxRecDepth 1000000
set_option maxHeartbeats 4000000
namespace Go.Own
attribute [local irreducible] WPc WPL WPS WPS1 WPS2 HAny endP
variable [Laid]
open Go.Lib Go.RowKit
def strR(l:List ByteArray):Root:=(9,1,l.map sC)
def dfNames(l:List Df):List ByteArray:=l.map Df.name
def tyNames(l:List Ty):List ByteArray:=l.map Ty.name
theorem dfNames_len(l:List Df):(dfNames l).length=l.length:=by simp[dfNames]
theorem tyNames_len(l:List Ty):(tyNames l).length=l.length:=by simp[tyNames]
theorem mapT_df(l:List Df):mapT Df.name l l.length=dfNames l:=mapT_all _ _
theorem mapT_ty(l:List Ty):mapT Ty.name l l.length=tyNames l:=mapT_all _ _
theorem c_impl_namesOfDefs(l:List Df)(h1:l.length≤1000000000):Con PP 223 [.fz (l.map Df.cs)] [] [] (fun r o=>r=.sl 900009 1 [] 0 l.length∧o=[(900009,strR (dfNames l))]):=by
 refine cof 19 Go.Proofs.Tryz.func223 fun G=>?_
 simp only[entSt,tmOf,List.append_nil,List.cons_append,List.nil_append]
 refine go (L:=_∧True) wb0 wb0 wb0 wb0 wb0 ⟨fun _=>?_,wb0⟩
 refine WPc.adoptK 3 900001 9 1 fun K hK=>?_
 simp -implicitDefEqProofs
 refine hK _ ?_;clear hK K
 refine WPc.loopV (σ:=Nat) (fun i=>i≤l.length) (fun i=>l.length-i) (fun i=>[(8,.sc (.int .i64 i)),(3,.sl 900001 1 [] 0 i)]) (fun i=>[(900001,9,1,(mapT Df.name l i).map sC)]) [6,7] 0 (by simp[mapT_zero]) (by simp[mapT_zero]) (by simp) ?_
 rintro i hi s hs
 simp at hs
 subst hs
 by_cases hlt:i<l.length
 ·have hb1:(i+1)*16≤140737488355328:=by omega
  have hb2:i+1≤9223372036854775807:=by omega
  have hn:=mapT_next Df.name hlt
  have hll:=mapT_len Df.name hi
  refine go (L:=_∧True) (wa5 @Df.cs.eq_1 @hlt @hb1 @hb2 @hll) wb0 wb0 wb0 wb0 ⟨fun _=>?_,wb0⟩
  refine⟨i+1,⟨hlt,by first|omega|(simp only;omega)|assumption⟩,rfl,rfl,?_,?_⟩<;>simp (disch:=omega) [wrap64,hn,sC]
 ·obtain rfl:i=l.length:=by omega
  refine gox (L:=_∧True) (wa1 @hlt) wb0 wb0 wb0 (wb2 (outs [900009]) (nm 6 [900001,900009])) ⟨fun _=>?_,wb0⟩
  all_goals (simp[strR,mapT_df,mapT_ty])
theorem c_impl_namesOfTypes(l:List Ty)(h1:l.length≤1000000000):Con PP 269 [.fz (l.map Ty.cs)] [] [] (fun r o=>r=.sl 900009 1 [] 0 l.length∧o=[(900009,strR (tyNames l))]):=by
 refine cof 19 Go.Proofs.Tryz.func269 fun G=>?_
 simp only[entSt,tmOf,List.append_nil,List.cons_append,List.nil_append]
 refine go (L:=_∧True) wb0 wb0 wb0 wb0 wb0 ⟨fun _=>?_,wb0⟩
 refine WPc.adoptK 3 900001 9 1 fun K hK=>?_
 simp -implicitDefEqProofs
 refine hK _ ?_;clear hK K
 refine WPc.loopV (σ:=Nat) (fun i=>i≤l.length) (fun i=>l.length-i) (fun i=>[(8,.sc (.int .i64 i)),(3,.sl 900001 1 [] 0 i)]) (fun i=>[(900001,9,1,(mapT Ty.name l i).map sC)]) [6,7] 0 (by simp[mapT_zero]) (by simp[mapT_zero]) (by simp) ?_
 rintro i hi s hs
 simp at hs
 subst hs
 by_cases hlt:i<l.length
 ·have hb1:(i+1)*16≤140737488355328:=by omega
  have hb2:i+1≤9223372036854775807:=by omega
  have hn:=mapT_next Ty.name hlt
  have hll:=mapT_len Ty.name hi
  refine go (L:=_∧True) (wa5 @Ty.cs.eq_1 @hlt @hb1 @hb2 @hll) wb0 wb0 wb0 wb0 ⟨fun _=>?_,wb0⟩
  refine⟨i+1,⟨hlt,by first|omega|(simp only;omega)|assumption⟩,rfl,rfl,?_,?_⟩<;>simp (disch:=omega) [wrap64,hn,sC]
 ·obtain rfl:i=l.length:=by omega
  refine gox (L:=_∧True) (wa1 @hlt) wb0 wb0 wb0 (wb2 (outs [900009]) (nm 6 [900001,900009])) ⟨fun _=>?_,wb0⟩
  all_goals (simp[strR,mapT_df,mapT_ty])
def onceL(l:List ByteArray):Bool:=allI l fun k s => !isW (l.take k) s
theorem onceL_at{l:List ByteArray}{i:Nat}(hi:i<l.length)(h:isW (l.take i) l[i]=true):onceL l=false:=by
 cases e:onceL l with
 |false=>rfl
 |true=>have:=allI_iff.1 e i hi;rw[h]at this;cases this
theorem c_impl_isOnce(l:List ByteArray):Con PP 150 [.fz (l.map sC)] [] [] (fun r o=>r=.sc (.bool (onceL l))):=by
 refine Con.lenOf 0 Go.Proofs.Tryz.func150 (by kernel_rfl) (by kernel_rfl) rfl fun hlen=>?_
 simp at hlen
 refine cof 18 Go.Proofs.Tryz.func150 fun G=>?_
 simp only[entSt,tmOf,List.append_nil,List.cons_append,List.nil_append]
 refine go (L:=_∧True) wb0 wb0 wb0 wb0 wb0 ⟨fun _=>?_,wb0⟩
 refine WPc.loopK (σ:=Nat) (fun i=>i≤l.length∧(∀j,(h:j<l.length)→j<i→isW (l.take j) l[j]=false)) (fun i=>l.length-i) (fun i=>[(7,.sc (.int .i64 i))]) [0,5,6] 0 (by simp) (by simp) (by simp) ?_
 rintro i ⟨hi,hall⟩ s hs
 simp at hs
 subst hs
 by_cases hlt:i<l.length
 ·have hf:=fidx_self hlt
  cases hw:isW (l.take i) l[i]with
  |false =>
   have hf':(fidx l l[i] 0=(i:Int))=True:=by rw[hw]at hf;simpa using hf
   refine go (L:=_∧True) (wa3 @sC.eq_1 @hlt @hf') (wb1 (fun v0 v1 (_:True)=>c_slices_IndexS v0 v1)) wb0 wb0 wb0 ⟨fun _=>?_,wb0⟩
   all_goals
    refine⟨i+1,⟨⟨hlt,fun j hj hji=>(Nat.lt_succ_iff_lt_or_eq.1 hji).elim (hall j hj) (fun e=>by subst e;exact hw)⟩,by first|omega|(simp only;omega)|assumption⟩,rfl,rfl,?_,?_⟩<;>simp (disch:=omega) [wrap64]
  |true =>
   have hf':(fidx l l[i] 0=(i:Int))=False:=by rw[hw]at hf;simpa using hf
   rw[onceL_at hlt hw]
   refine go (L:=_∧True) (wa3 @sC.eq_1 @hlt @hf') (wb1 (fun v0 v1 (_:True)=>c_slices_IndexS v0 v1)) wb0 wb0 wb0 ⟨fun _=>?_,wb0⟩
   all_goals rfl
 ·obtain rfl:i=l.length:=by omega
  have e:onceL l=true:=allI_iff.2 fun j hj=>by rw[hall j hj hj];rfl
  rw[e]
  refine go (L:=_∧True) (wa1 @hlt) wb0 wb0 wb0 wb0 ⟨fun _=>?_,wb0⟩
  all_goals rfl
def inAll(l all:List ByteArray):Bool:=l.all (isW all)
theorem c_impl_areIn(l all:List ByteArray):Con PP 149 [.fz (l.map sC),.fz (all.map sC)] [] [] (fun r o=>r=.sc (.bool (inAll l all))):=by
 refine Con.lenOf 0 Go.Proofs.Tryz.func149 (by kernel_rfl) (by kernel_rfl) rfl fun hlen=>?_
 simp at hlen
 refine cof 18 Go.Proofs.Tryz.func149 fun G=>?_
 simp only[entSt,tmOf,List.append_nil,List.cons_append,List.nil_append]
 refine go (L:=_∧True) wb0 wb0 wb0 wb0 wb0 ⟨fun _=>?_,wb0⟩
 refine WPc.loopK (σ:=Nat) (fun i=>i≤l.length∧(l.take i).all (isW all)=true) (fun i=>l.length-i) (fun i=>[(9,.sc (.int .i64 i))]) [1,7,8] 0 (by simp) (by simp) (by simp) ?_
 rintro i ⟨hi,hall⟩ s hs
 simp at hs
 subst hs
 by_cases hlt:i<l.length
 ·have hv:=List.getElem?_eq_getElem hlt
  cases hw:isW all l[i]with
  |true =>
   refine go (L:=_∧True) (wa3 @sC.eq_1 @hlt @hw) (wb1 (fun v0 v1 (_:True)=>c_slices_Contains v0 v1)) wb0 wb0 wb0 ⟨fun _=>?_,wb0⟩
   all_goals
    refine⟨i+1,⟨⟨hlt,all_next hv hw hall⟩,by first|omega|(simp only;omega)|assumption⟩,rfl,rfl,?_,?_⟩<;>simp (disch:=omega) [wrap64]
  |false =>
   rw[inAll,all_at hv hw]
   refine go (L:=_∧True) (wa3 @sC.eq_1 @hlt @hw) (wb1 (fun v0 v1 (_:True)=>c_slices_Contains v0 v1)) wb0 wb0 wb0 ⟨fun _=>?_,wb0⟩
   all_goals rfl
 ·obtain rfl:i=l.length:=by omega
  rw[List.take_length]at hall
  rw[inAll,hall]
  refine go (L:=_∧True) (wa1 @hlt) wb0 wb0 wb0 wb0 ⟨fun _=>?_,wb0⟩
  all_goals rfl
def prgsOk(l:List Df):Bool:=l.all fun d=>progOk d.prog
theorem c_impl_progsOk[F:Facts.Of](l:List Df)(hs:∀d,d∈l→d.sm)(hr:∀d,d∈l→d.rm):Con PP 224 [.fz (l.map Df.cs)] [] [] (fun r o=>r=.sc (.bool (prgsOk l))):=by
 refine Con.lenOf 0 Go.Proofs.Tryz.func224 (by kernel_rfl) (by kernel_rfl) rfl fun hlen=>?_
 simp at hlen
 refine cof 16 Go.Proofs.Tryz.func224 fun G=>?_
 simp only[entSt,tmOf,List.append_nil,List.cons_append,List.nil_append]
 refine go (L:=_∧True) wb0 wb0 wb0 wb0 wb0 ⟨fun _=>?_,wb0⟩
 refine WPc.loopK (σ:=Nat) (fun i=>i≤l.length∧(l.take i).all (fun d=>progOk d.prog)=true) (fun i=>l.length-i) (fun i=>[(7,.sc (.int .i64 i))]) [5,6] 0 (by simp) (by simp) (by simp) ?_
 rintro i ⟨hi,hall⟩ s hs
 simp at hs
 subst hs
 by_cases hlt:i<l.length
 ·have hv:=List.getElem?_eq_getElem hlt
  have u:=c_impl_ProgOk l[i].prog (hs _ (List.getElem_mem hlt)).prog (fun c hc=>((hr _ (List.getElem_mem hlt)).prog.nodes1 c hc).args)
  simp only[Pg.av]at u
  cases hw:progOk l[i].prog with
  |true =>
   refine go (L:=_∧True) (wa3 @Df.cs.eq_1 @hlt @hw) (wb1 (fun _=>u)) wb0 wb0 wb0 ⟨fun _=>?_,wb0⟩
   all_goals
    refine⟨i+1,⟨⟨hlt,all_next hv hw hall⟩,by first|omega|(simp only;omega)|assumption⟩,rfl,rfl,?_,?_⟩<;>simp (disch:=omega) [wrap64]
  |false =>
   rw[prgsOk,all_at hv hw]
   refine go (L:=_∧True) (wa3 @Df.cs.eq_1 @hlt @hw) (wb1 (fun _=>u)) wb0 wb0 wb0 ⟨fun _=>?_,wb0⟩
   all_goals rfl
 ·obtain rfl:i=l.length:=by omega
  rw[List.take_length]at hall
  rw[prgsOk,hall]
  refine go (L:=_∧True) (wa1 @hlt) wb0 wb0 wb0 wb0 ⟨fun _=>?_,wb0⟩
  all_goals rfl
end Go.Own
set_option maxRecDepth 1000000
set_option maxHeartbeats 4000000
namespace Go.Own
attribute [local irreducible] WPc WPL WPS WPS1 WPS2 HAny endP
variable [Laid]
open Go.Lib Go.RowKit
def srFew(s:Sr):Bool:=decide (s.imports.length≤30)&&(decide (s.exports.length≤30)&&(decide (s.defs.length≤30)&&(decide (s.types.length≤8)&&decide (s.convs.length≤8))))
theorem c_impl_isFew(s:Sr):Con PP 219 [.fp s.cs] [] [] (fun r o=>r=.sc (.bool (srFew s))):=by
 have e1:((s.imports.length:Int)≤30)=(s.imports.length≤30):=by simp;omega
 have e2:((s.exports.length:Int)≤30)=(s.exports.length≤30):=by simp;omega
 have e3:((s.defs.length:Int)≤30)=(s.defs.length≤30):=by simp;omega
 have e4:((s.types.length:Int)≤8)=(s.types.length≤8):=by simp;omega
 have e5:((s.convs.length:Int)≤8)=(s.convs.length≤8):=by simp;omega
 refine cof 41 Go.Proofs.Tryz.func219 fun G=>?_
 simp only[entSt,tmOf,List.append_nil,List.cons_append,List.nil_append,Sr.cs]
 refine go (L:=_∧_∧_∧_∧_∧True) (wa5 @e1 @e2 @e3 @e4 @e5) wb0 wb0 wb0 wb0 ⟨fun _ _ _ _ _=>?_,fun _ _ _ _ _=>?_,fun _ _ _ _=>?_,fun _ _ _=>?_,fun _ _=>?_,wb0⟩
 all_goals (simp_all[srFew];try(intros;omega))
def srUnlike(s:Sr):Bool:=onceL s.imports&&(onceL s.exports&&(onceL (tyNames s.types)&&(onceL (dfNames s.defs)&&(onceL (dfNames s.convs) && !isW s.imports s.name))))
theorem c_impl_isUnlike(s:Sr)(hr:s.rm):Con PP 220 [.fp s.cs] [] [] (fun r o=>r=.sc (.bool (srUnlike s))):=by
 have r1:=hr.types
 have r2:=hr.defs
 have r3:=hr.convs
 have d1:=dz_S (tyNames_len s.types)
 have d2:=dz_S (dfNames_len s.defs)
 have d3:=dz_S (dfNames_len s.convs)
 have n1:=tyNames_len s.types
 have n2:=dfNames_len s.defs
 have n3:=dfNames_len s.convs
 refine cof 51 Go.Proofs.Tryz.func220 fun G=>?_
 simp only[entSt,tmOf,List.append_nil,List.cons_append,List.nil_append,Sr.cs]
 cases h1:onceL s.imports with
 |false =>
  have e:srUnlike s=false:=by simp[srUnlike,h1]
  rw[e]
  refine go (L:=_∧True) (wa1 @h1) (wb1 (fun v0 (_:True)=>c_impl_isOnce v0)) wb0 wb0 (wb2 wb0 (sch 1 [(17,[20,1020,2020]),(25,[28,1028,2028]),(33,[36,1036,2036])] ((0,[])::(1,[])::(2,[])::(3,[])::(4,[])::(5,[])::(6,[])::(7,[])::(8,[])::(9,[])::(10,[])::(11,[])::(12,[])::(13,[])::(14,[])::(15,[])::(16,[])::(17,[20,1020,2020])::(18,[])::(19,[])::(20,[])::(21,[])::(22,[])::(23,[])::(24,[])::(25,[28,1028,2028])::(26,[])::(27,[])::(28,[])::(29,[])::(30,[])::(31,[])::(32,[])::(33,[36,1036,2036])::(34,[])::(35,[])::(36,[])::(37,[])::(38,[])::(39,[])::(40,[])::(41,[])::(42,[])::(43,[])::(44,[])::(45,[])::(46,[])::(47,[])::(48,[])::[]))) ⟨fun _=>?_,wb0⟩
  all_goals rfl
 |true =>
 cases h2:onceL s.exports with
 |false =>
  have e:srUnlike s=false:=by simp[srUnlike,h2]
  rw[e]
  refine go (L:=_∧True) (wa2 @h1 @h2) (wb1 (fun v0 (_:True)=>c_impl_isOnce v0)) wb0 wb0 (wb2 wb0 (sch 1 [(17,[20,1020,2020]),(25,[28,1028,2028]),(33,[36,1036,2036])] ((0,[])::(1,[])::(2,[])::(3,[])::(4,[])::(5,[])::(6,[])::(7,[])::(8,[])::(9,[])::(10,[])::(11,[])::(12,[])::(13,[])::(14,[])::(15,[])::(16,[])::(17,[20,1020,2020])::(18,[])::(19,[])::(20,[])::(21,[])::(22,[])::(23,[])::(24,[])::(25,[28,1028,2028])::(26,[])::(27,[])::(28,[])::(29,[])::(30,[])::(31,[])::(32,[])::(33,[36,1036,2036])::(34,[])::(35,[])::(36,[])::(37,[])::(38,[])::(39,[])::(40,[])::(41,[])::(42,[])::(43,[])::(44,[])::(45,[])::(46,[])::(47,[])::(48,[])::[]))) ⟨fun _=>?_,wb0⟩
  all_goals rfl
 |true =>
 cases h3:onceL (tyNames s.types) with
 |false =>
  have e:srUnlike s=false:=by simp[srUnlike,h3]
  rw[e]
  refine go (L:=_∧True) (wa6 @h1 @h2 @h3 @strR.eq_1 @d1 @n1) (wb1 (fun v0 (_:True)=>c_impl_isOnce v0)) (wb1 (fun v0 (h:_)=>c_impl_namesOfTypes v0 h)) wb0 (wb2 wb0 (sch 1 [(17,[20,1020,2020]),(25,[28,1028,2028]),(33,[36,1036,2036])] ((0,[])::(1,[])::(2,[])::(3,[])::(4,[])::(5,[])::(6,[])::(7,[])::(8,[])::(9,[])::(10,[])::(11,[])::(12,[])::(13,[])::(14,[])::(15,[])::(16,[])::(17,[20,1020,2020])::(18,[])::(19,[])::(20,[])::(21,[])::(22,[])::(23,[])::(24,[])::(25,[28,1028,2028])::(26,[])::(27,[])::(28,[])::(29,[])::(30,[])::(31,[])::(32,[])::(33,[36,1036,2036])::(34,[])::(35,[])::(36,[])::(37,[])::(38,[])::(39,[])::(40,[])::(41,[])::(42,[])::(43,[])::(44,[])::(45,[])::(46,[])::(47,[])::(48,[])::[]))) ⟨fun _=>?_,wb0⟩
  all_goals rfl
 |true =>
 cases h4:onceL (dfNames s.defs) with
 |false =>
  have e:srUnlike s=false:=by simp[srUnlike,h4]
  rw[e]
  refine go (L:=_∧True) (wa9 @h1 @h2 @h3 @h4 @strR.eq_1 @d1 @n1 @d2 @n2) (wb1 (fun v0 (_:True)=>c_impl_isOnce v0)) (wb2 (fun v0 (h:_)=>c_impl_namesOfDefs v0 h) (fun v0 (h:_)=>c_impl_namesOfTypes v0 h)) wb0 (wb2 wb0 (sch 1 [(17,[20,1020,2020]),(25,[28,1028,2028]),(33,[36,1036,2036])] ((0,[])::(1,[])::(2,[])::(3,[])::(4,[])::(5,[])::(6,[])::(7,[])::(8,[])::(9,[])::(10,[])::(11,[])::(12,[])::(13,[])::(14,[])::(15,[])::(16,[])::(17,[20,1020,2020])::(18,[])::(19,[])::(20,[])::(21,[])::(22,[])::(23,[])::(24,[])::(25,[28,1028,2028])::(26,[])::(27,[])::(28,[])::(29,[])::(30,[])::(31,[])::(32,[])::(33,[36,1036,2036])::(34,[])::(35,[])::(36,[])::(37,[])::(38,[])::(39,[])::(40,[])::(41,[])::(42,[])::(43,[])::(44,[])::(45,[])::(46,[])::(47,[])::(48,[])::[]))) ⟨fun _=>?_,wb0⟩
  all_goals rfl
 |true =>
 cases h5:onceL (dfNames s.convs) with
 |false =>
  have e:srUnlike s=false:=by simp[srUnlike,h5]
  rw[e]
  refine go (L:=_∧True) (wa12 @h1 @h2 @h3 @h4 @h5 @strR.eq_1 @d1 @n1 @d2 @n2 @d3 @n3) (wb1 (fun v0 (_:True)=>c_impl_isOnce v0)) (wb2 (fun v0 (h:_)=>c_impl_namesOfDefs v0 h) (fun v0 (h:_)=>c_impl_namesOfTypes v0 h)) wb0 (wb2 wb0 (sch 1 [(17,[20,1020,2020]),(25,[28,1028,2028]),(33,[36,1036,2036])] ((0,[])::(1,[])::(2,[])::(3,[])::(4,[])::(5,[])::(6,[])::(7,[])::(8,[])::(9,[])::(10,[])::(11,[])::(12,[])::(13,[])::(14,[])::(15,[])::(16,[])::(17,[20,1020,2020])::(18,[])::(19,[])::(20,[])::(21,[])::(22,[])::(23,[])::(24,[])::(25,[28,1028,2028])::(26,[])::(27,[])::(28,[])::(29,[])::(30,[])::(31,[])::(32,[])::(33,[36,1036,2036])::(34,[])::(35,[])::(36,[])::(37,[])::(38,[])::(39,[])::(40,[])::(41,[])::(42,[])::(43,[])::(44,[])::(45,[])::(46,[])::(47,[])::(48,[])::[]))) ⟨fun _=>?_,wb0⟩
  all_goals rfl
 |true =>
  have e:srUnlike s = !isW s.imports s.name:=by simp[srUnlike,h1,h2,h3,h4,h5]
  rw[e]
  refine go (L:=_∧True) (wa12 @h1 @h2 @h3 @h4 @h5 @strR.eq_1 @d1 @n1 @d2 @n2 @d3 @n3) (wb2 (fun v0 (_:True)=>c_impl_isOnce v0) (fun v0 v1 (_:True)=>c_slices_Contains v0 v1)) (wb2 (fun v0 (h:_)=>c_impl_namesOfDefs v0 h) (fun v0 (h:_)=>c_impl_namesOfTypes v0 h)) wb0 (wb2 wb0 (sch 1 [(17,[20,1020,2020]),(25,[28,1028,2028]),(33,[36,1036,2036])] ((0,[])::(1,[])::(2,[])::(3,[])::(4,[])::(5,[])::(6,[])::(7,[])::(8,[])::(9,[])::(10,[])::(11,[])::(12,[])::(13,[])::(14,[])::(15,[])::(16,[])::(17,[20,1020,2020])::(18,[])::(19,[])::(20,[])::(21,[])::(22,[])::(23,[])::(24,[])::(25,[28,1028,2028])::(26,[])::(27,[])::(28,[])::(29,[])::(30,[])::(31,[])::(32,[])::(33,[36,1036,2036])::(34,[])::(35,[])::(36,[])::(37,[])::(38,[])::(39,[])::(40,[])::(41,[])::(42,[])::(43,[])::(44,[])::(45,[])::(46,[])::(47,[])::(48,[])::[]))) ⟨fun _=>?_,wb0⟩
  all_goals rfl
def srFit(s:Sr):Bool:=inAll s.exports (dfNames s.defs)&&inAll (dfNames s.convs) (tyNames s.types)
theorem c_impl_isFit(s:Sr)(hr:s.rm):Con PP 221 [.fp s.cs] [] [] (fun r o=>r=.sc (.bool (srFit s))):=by
 have r1:=hr.types
 have r2:=hr.defs
 have r3:=hr.convs
 have d1:=dz_S (tyNames_len s.types)
 have d2:=dz_S (dfNames_len s.defs)
 have d3:=dz_S (dfNames_len s.convs)
 have n1:=tyNames_len s.types
 have n2:=dfNames_len s.defs
 have n3:=dfNames_len s.convs
 refine cof 26 Go.Proofs.Tryz.func221 fun G=>?_
 simp only[entSt,tmOf,List.append_nil,List.cons_append,List.nil_append,Sr.cs]
 cases h1:inAll s.exports (dfNames s.defs) with
 |false =>
  have e:srFit s=false:=by simp[srFit,h1]
  rw[e]
  refine go (L:=_∧True) (wa8 @h1 @strR.eq_1 @d1 @n1 @d2 @n2 @d3 @n3) (wb1 (fun v0 v1 (_:True)=>c_impl_areIn v0 v1)) (wb1 (fun v0 (h:_)=>c_impl_namesOfDefs v0 h)) wb0 (wb2 wb0 (sch 1 [(8,[11,1011,2011]),(15,[18,1018,2018]),(20,[23,1023,2023])] [(0,[11,1011,2011]),(1,[11,1011,2011]),(2,[11,1011,2011]),(3,[11,1011,2011]),(4,[]),(5,[]),(6,[]),(7,[]),(8,[11,1011,2011]),(9,[]),(10,[]),(11,[]),(12,[]),(13,[]),(14,[]),(16,[18,1018,2018]),(17,[18,1018,2018]),(18,[18,1018,2018]),(19,[18,1018,2018]),(15,[18,1018,2018]),(20,[23,1023,2023]),(21,[]),(22,[]),(23,[])])) ⟨fun _=>?_,wb0⟩
  all_goals rfl
 |true =>
  have e:srFit s=inAll (dfNames s.convs) (tyNames s.types):=by simp[srFit,h1]
  rw[e]
  refine go (L:=_∧True) (wa8 @h1 @strR.eq_1 @d1 @n1 @d2 @n2 @d3 @n3) (wb1 (fun v0 v1 (_:True)=>c_impl_areIn v0 v1)) (wb2 (fun v0 (h:_)=>c_impl_namesOfDefs v0 h) (fun v0 (h:_)=>c_impl_namesOfTypes v0 h)) wb0 (wb2 wb0 (sch 1 [(8,[11,1011,2011]),(15,[18,1018,2018]),(20,[23,1023,2023])] [(0,[11,1011,2011]),(1,[11,1011,2011]),(2,[11,1011,2011]),(3,[11,1011,2011]),(4,[]),(5,[]),(6,[]),(7,[]),(8,[11,1011,2011]),(9,[]),(10,[]),(11,[]),(12,[]),(13,[]),(14,[]),(16,[18,1018,2018]),(17,[18,1018,2018]),(18,[18,1018,2018]),(19,[18,1018,2018]),(15,[18,1018,2018]),(20,[23,1023,2023]),(21,[]),(22,[]),(23,[])])) ⟨fun _=>?_,wb0⟩
  all_goals rfl
end Go.Own
set_option maxRecDepth 1000000
set_option maxHeartbeats 4000000
namespace Go.Own
attribute [local irreducible] WPc WPL WPS WPS1 WPS2 HAny endP
variable [Laid]
open Go.Lib Go.RowKit
def srNames(s:Sr):Bool:=s.imports.all isName&&(s.exports.all isName&&((dfNames s.defs).all isName&&(dfNames s.convs).all isName))
def srcOk(s:Sr):Bool:=(isName s.name&&(srFew s&&(srUnlike s&&srFit s)))&&(srNames s&&(tyOk s.types&&(prgsOk s.defs&&prgsOk s.convs)))
theorem dfNames_sm{l:List Df}(hs:∀d,d∈l→d.sm):∀v,v∈dfNames l→v.size<4294967000:=fun v hv=>by
 obtain⟨d,hd,rfl⟩:=List.mem_map.1 hv
 exact(hs d hd).name
theorem c_impl_SrcOk[F:Facts.Of](s:Sr)(hs:s.sm)(hr:s.rm):Con PP 142 [s.av] [] [] (fun r o=>r=.sc (.bool (srcOk s))):=by
 have r1:=hr.types
 have r2:=hr.defs
 have r3:=hr.convs
 have d2:=dz_S (dfNames_len s.defs)
 have d3:=dz_S (dfNames_len s.convs)
 have n2:=dfNames_len s.defs
 have n3:=dfNames_len s.convs
 have s1:=hs.name
 have s2:=hs.imports
 have s3:=hs.exports
 have s4:=dfNames_sm hs.defs
 have s5:=dfNames_sm hs.convs
 have u1:=c_impl_isFew s
 have u2:=c_impl_isUnlike s hr
 have u3:=c_impl_isFit s hr
 have u4:=c_impl_typesOk s.types r1 hs.types
 have u5:=c_impl_progsOk s.defs hs.defs hr.defs1
 have u6:=c_impl_progsOk s.convs hs.convs hr.convs1
 simp only[Sr.cs]at u1 u2 u3
 refine cof 56 Go.Proofs.Tryz.func142 fun G=>?_
 simp only[entSt,tmOf,List.append_nil,List.cons_append,List.nil_append,Sr.av]
 cases g1:isName s.name with
 |false =>
  have e:srcOk s=false:=by simp[srcOk,g1]
  rw[e]
  refine go (L:=_∧True) (wa1 @g1) (wb1 (fun v0 (h:_)=>c_impl_IsName v0 h)) wb0 wb0 wb0 ⟨fun _=>?_,wb0⟩
  all_goals rfl
 |true =>
 cases g2:srFew s with
 |false =>
  have e:srcOk s=false:=by simp[srcOk,g2]
  rw[e]
  refine go (L:=_∧True) (wa2 @g1 @g2) (wb2 (fun v0 (h:_)=>c_impl_IsName v0 h) (fun _=>u1)) wb0 wb0 wb0 ⟨fun _=>?_,wb0⟩
  all_goals rfl
 |true =>
 cases g3:srUnlike s with
 |false =>
  have e:srcOk s=false:=by simp[srcOk,g3]
  rw[e]
  refine go (L:=_∧True) (wa3 @g1 @g2 @g3) (wb3 (fun v0 (h:_)=>c_impl_IsName v0 h) (fun _=>u1) (fun _=>u2)) wb0 wb0 wb0 ⟨fun _=>?_,wb0⟩
  all_goals rfl
 |true =>
 cases g4:srFit s with
 |false =>
  have e:srcOk s=false:=by simp[srcOk,g4]
  rw[e]
  refine go (L:=_∧True) (wa4 @g1 @g2 @g3 @g4) (wb4 (fun v0 (h:_)=>c_impl_IsName v0 h) (fun _=>u1) (fun _=>u2) (fun _=>u3)) wb0 wb0 wb0 ⟨fun _=>?_,wb0⟩
  all_goals rfl
 |true =>
 cases p1:s.imports.all isName with
 |false =>
  have e:srcOk s=false:=by rw[srcOk,srNames,p1];simp
  rw[e]
  refine go (L:=_∧True) (wa10 @g1 @g2 @g3 @g4 @p1 @strR.eq_1 @d2 @n2 @d3 @n3) (wb5 (fun v0 (h:_)=>c_impl_IsName v0 h) (fun _=>u1) (fun _=>u2) (fun _=>u3) (fun v0 (h:_)=>c_impl_allNames v0 h)) wb0 wb0 wb0 ⟨fun _=>?_,wb0⟩
  all_goals rfl
 |true =>
 cases p2:s.exports.all isName with
 |false =>
  have e:srcOk s=false:=by rw[srcOk,srNames,p2];simp
  rw[e]
  refine go (L:=_∧True) (wa11 @g1 @g2 @g3 @g4 @p1 @p2 @strR.eq_1 @d2 @n2 @d3 @n3) (wb5 (fun v0 (h:_)=>c_impl_IsName v0 h) (fun _=>u1) (fun _=>u2) (fun _=>u3) (fun v0 (h:_)=>c_impl_allNames v0 h)) wb0 wb0 wb0 ⟨fun _=>?_,wb0⟩
  all_goals rfl
 |true =>
 cases p3:(dfNames s.defs).all isName with
 |false =>
  have e:srcOk s=false:=by rw[srcOk,srNames,p3];simp
  rw[e]
  refine go (L:=_∧True) (wa12 @g1 @g2 @g3 @g4 @p1 @p2 @p3 @strR.eq_1 @d2 @n2 @d3 @n3) (wb5 (fun v0 (h:_)=>c_impl_IsName v0 h) (fun _=>u1) (fun _=>u2) (fun _=>u3) (fun v0 (h:_)=>c_impl_allNames v0 h)) (wb1 (fun v0 (h:_)=>c_impl_namesOfDefs v0 h)) wb0 wb0 ⟨fun _=>?_,wb0⟩
  all_goals rfl
 |true =>
 cases p4:(dfNames s.convs).all isName with
 |false =>
  have e:srcOk s=false:=by rw[srcOk,srNames,p4];simp
  rw[e]
  refine go (L:=_∧True) (wa13 @g1 @g2 @g3 @g4 @p1 @p2 @p3 @p4 @strR.eq_1 @d2 @n2 @d3 @n3) (wb5 (fun v0 (h:_)=>c_impl_IsName v0 h) (fun _=>u1) (fun _=>u2) (fun _=>u3) (fun v0 (h:_)=>c_impl_allNames v0 h)) (wb1 (fun v0 (h:_)=>c_impl_namesOfDefs v0 h)) wb0 wb0 ⟨fun _=>?_,wb0⟩
  all_goals rfl
 |true =>
 have e:srcOk s=(tyOk s.types&&(prgsOk s.defs&&prgsOk s.convs)):=by rw[srcOk,srNames,g1,g2,g3,g4,p1,p2,p3,p4];rfl
 rw[e]
 repeat' (first
  |apply WPc.sq
  |(refine WPc.ret (endP.val (.inr rfl) rfl rfl (by simp;rfl) ?_))
  |apply WPc.skip
  |refine WPL.nil ?_
  |(apply WPL.cL (c_impl_IsName _ ?g1);(case q=>(repeat' (first|refine And.intro ?_ ?_|intro _|(with_reducible exact cleanOut_nil)|(refine Eqv.mk ?_;first|rfl|(simp -implicitDefEqProofs [g1,g2,g3,g4,p1,p2,p3,p4,strR,d2,n2,d3,n3];done))|(simp -implicitDefEqProofs [g1,g2,g3,g4,p1,p2,p3,p4,strR,d2,n2,d3,n3];done)|(simp -implicitDefEqProofs [g1,g2,g3,g4,p1,p2,p3,p4,strR,d2,n2,d3,n3];rfl)|(simp;done)|(simp;rfl)|rfl)));(case g1=>(first|assumption|omega)))
  |(apply WPL.cL u1;(case q=>(repeat' (first|refine And.intro ?_ ?_|intro _|(with_reducible exact cleanOut_nil)|(refine Eqv.mk ?_;first|rfl|(simp -implicitDefEqProofs [g1,g2,g3,g4,p1,p2,p3,p4,strR,d2,n2,d3,n3];done))|(simp -implicitDefEqProofs [g1,g2,g3,g4,p1,p2,p3,p4,strR,d2,n2,d3,n3];done)|(simp -implicitDefEqProofs [g1,g2,g3,g4,p1,p2,p3,p4,strR,d2,n2,d3,n3];rfl)|(simp;done)|(simp;rfl)|rfl))))
  |(apply WPL.cL u2;(case q=>(repeat' (first|refine And.intro ?_ ?_|intro _|(with_reducible exact cleanOut_nil)|(refine Eqv.mk ?_;first|rfl|(simp -implicitDefEqProofs [g1,g2,g3,g4,p1,p2,p3,p4,strR,d2,n2,d3,n3];done))|(simp -implicitDefEqProofs [g1,g2,g3,g4,p1,p2,p3,p4,strR,d2,n2,d3,n3];done)|(simp -implicitDefEqProofs [g1,g2,g3,g4,p1,p2,p3,p4,strR,d2,n2,d3,n3];rfl)|(simp;done)|(simp;rfl)|rfl))))
  |(apply WPL.cL u3;(case q=>(repeat' (first|refine And.intro ?_ ?_|intro _|(with_reducible exact cleanOut_nil)|(refine Eqv.mk ?_;first|rfl|(simp -implicitDefEqProofs [g1,g2,g3,g4,p1,p2,p3,p4,strR,d2,n2,d3,n3];done))|(simp -implicitDefEqProofs [g1,g2,g3,g4,p1,p2,p3,p4,strR,d2,n2,d3,n3];done)|(simp -implicitDefEqProofs [g1,g2,g3,g4,p1,p2,p3,p4,strR,d2,n2,d3,n3];rfl)|(simp;done)|(simp;rfl)|rfl))))
  |(apply WPL.cL (c_impl_allNames _ ?g1);(case q=>(repeat' (first|refine And.intro ?_ ?_|intro _|(with_reducible exact cleanOut_nil)|(refine Eqv.mk ?_;first|rfl|(simp -implicitDefEqProofs [g1,g2,g3,g4,p1,p2,p3,p4,strR,d2,n2,d3,n3];done))|(simp -implicitDefEqProofs [g1,g2,g3,g4,p1,p2,p3,p4,strR,d2,n2,d3,n3];done)|(simp -implicitDefEqProofs [g1,g2,g3,g4,p1,p2,p3,p4,strR,d2,n2,d3,n3];rfl)|(simp;done)|(simp;rfl)|rfl)));(case g1=>(first|assumption|omega)))
  |(apply WPL.cU (c_impl_namesOfDefs _ ?g1);(case q=>(repeat' (first|refine And.intro ?_ ?_|intro _|(with_reducible exact cleanOut_nil)|(refine Eqv.mk ?_;first|rfl|(simp -implicitDefEqProofs [g1,g2,g3,g4,p1,p2,p3,p4,strR,d2,n2,d3,n3];done))|(simp -implicitDefEqProofs [g1,g2,g3,g4,p1,p2,p3,p4,strR,d2,n2,d3,n3];done)|(simp -implicitDefEqProofs [g1,g2,g3,g4,p1,p2,p3,p4,strR,d2,n2,d3,n3];rfl)|(simp;done)|(simp;rfl)|rfl)));(case g1=>(first|assumption|omega)))
  |(apply WPL.cL u4;(case q=>(repeat' (first|refine And.intro ?_ ?_|intro _|(with_reducible exact cleanOut_nil)|(refine Eqv.mk ?_;first|rfl|(simp -implicitDefEqProofs [g1,g2,g3,g4,p1,p2,p3,p4,strR,d2,n2,d3,n3];done))|(simp -implicitDefEqProofs [g1,g2,g3,g4,p1,p2,p3,p4,strR,d2,n2,d3,n3];done)|(simp -implicitDefEqProofs [g1,g2,g3,g4,p1,p2,p3,p4,strR,d2,n2,d3,n3];rfl)|(simp;done)|(simp;rfl)|rfl))))
  |(apply WPL.cL u6;(case q=>(repeat' (first|refine And.intro ?_ ?_|intro _|(with_reducible exact cleanOut_nil)|(refine Eqv.mk ?_;first|rfl|(simp -implicitDefEqProofs [g1,g2,g3,g4,p1,p2,p3,p4,strR,d2,n2,d3,n3];done))|(simp -implicitDefEqProofs [g1,g2,g3,g4,p1,p2,p3,p4,strR,d2,n2,d3,n3];done)|(simp -implicitDefEqProofs [g1,g2,g3,g4,p1,p2,p3,p4,strR,d2,n2,d3,n3];rfl)|(simp;done)|(simp;rfl)|rfl))))
  |(apply WPL.cL u5;(case q=>(repeat' (first|refine And.intro ?_ ?_|intro _|(with_reducible exact cleanOut_nil)|(refine Eqv.mk ?_;first|rfl|(simp -implicitDefEqProofs [g1,g2,g3,g4,p1,p2,p3,p4,strR,d2,n2,d3,n3];done))|(simp -implicitDefEqProofs [g1,g2,g3,g4,p1,p2,p3,p4,strR,d2,n2,d3,n3];done)|(simp -implicitDefEqProofs [g1,g2,g3,g4,p1,p2,p3,p4,strR,d2,n2,d3,n3];rfl)|(simp;done)|(simp;rfl)|rfl))))
  |(refine WPL.call0f ?_ ?_ ?_;(focus(simp;done));(focus(simp;done)))
  |((first|refine WPc.rq tok rfl fun K hK=>?_|refine WPL.rn tok _ (by simp[ahead,isFn];rfl) fun K hK=>?_);simp -implicitDefEqProofs +contextual [-Int.not_le,-Int.not_lt,-Nat.not_le,-Nat.not_lt,-List.all_eq_true,-List.all_eq_false,-List.any_eq_true,-List.any_eq_false,g1,g2,g3,g4,p1,p2,p3,p4,strR,d2,n2,d3,n3];(repeat1' (first|apply hK|apply And.intro|intro _))<;>clear hK K<;>(try dsimp only[List.drop]))
  |(refine WPc.region ?_;simp only[List.toList_toArray])
  |(refine WPc.condF ?_ ?_;(focus(simp;done))))
 all_goals (simp_all)
end Go.Own
namespace Go.Own
def lessB(a b:ByteArray):Bool:=Op.bytesLess a.toList b.toList
@[simp] theorem binV_slss{a b:ByteArray}:binV .lss (.string a) (.string b)=some (.bool (lessB a b)):=rfl
@[simp] theorem binV_sleq{a b:ByteArray}:binV .leq (.string a) (.string b)=some (.bool (lessB a b||decide (a=b))):=by simp only[binV,strB,toList_inj,lessB]
@[simp] theorem binV_sgeq{a b:ByteArray}:binV .geq (.string a) (.string b)=some (.bool (!lessB a b)):=rfl
theorem bytesLess_tri:∀x y:List UInt8,Op.bytesLess x y=true∨x=y∨Op.bytesLess y x=true
 |[],[]=>.inr (.inl rfl)
 |[],_::_=>.inl rfl
 |_::_,[]=>.inr (.inr rfl)
 |a::x,b::y=>by
  rcases bytesLess_tri x y with h|h|h
  ·by_cases h1:a<b
   ·exact .inl (by simp[Op.bytesLess,h1])
   ·by_cases h2:b<a
    ·exact .inr (.inr (by simp[Op.bytesLess,h2]))
    ·have:a=b:=by apply UInt8.toNat_inj.1;simp only[UInt8.lt_iff_toNat_lt]at h1 h2;omega
     exact .inl (by simp[Op.bytesLess,this,h])
  ·subst h
   by_cases h1:a<b
   ·exact .inl (by simp[Op.bytesLess,h1])
   ·by_cases h2:b<a
    ·exact .inr (.inr (by simp[Op.bytesLess,h2]))
    ·have:a=b:=by apply UInt8.toNat_inj.1;simp only[UInt8.lt_iff_toNat_lt]at h1 h2;omega
     exact .inr (.inl (by rw[this]))
  ·by_cases h1:a<b
   ·exact .inl (by simp[Op.bytesLess,h1])
   ·by_cases h2:b<a
    ·exact .inr (.inr (by simp[Op.bytesLess,h2]))
    ·have:a=b:=by apply UInt8.toNat_inj.1;simp only[UInt8.lt_iff_toNat_lt]at h1 h2;omega
     exact .inr (.inr (by simp[Op.bytesLess,this,h]))
theorem bytesLess_anti:∀x y:List UInt8,Op.bytesLess x y=true→Op.bytesLess y x=false∧x≠y
 |[],[],h=>by simp[Op.bytesLess]at h
 |[],_::_,_=>⟨rfl,by simp⟩
 |_::_,[],h=>by simp[Op.bytesLess]at h
 |a::x,b::y,h=>by
  simp only[Op.bytesLess,Bool.or_eq_true,Bool.and_eq_true,decide_eq_true_eq,beq_iff_eq]at h
  rcases h with h|⟨rfl,h⟩
  ·have h2:¬b<a:=by simp only[UInt8.lt_iff_toNat_lt]at h ⊢;omega
   have h3:¬b=a:=fun e=>by subst e;simp only[UInt8.lt_iff_toNat_lt]at h;omega
   exact⟨by simp[Op.bytesLess,h2,h3],fun e=>h3 (by injection e with e _;exact e.symm)⟩
  ·obtain⟨g1,g2⟩:=bytesLess_anti x y h
   have h2:¬a<a:=by simp only[UInt8.lt_iff_toNat_lt];omega
   exact⟨by simp[Op.bytesLess,g1,h2],fun e=>g2 (by injection e)⟩
theorem leB(a b:ByteArray):(lessB a b||decide (a=b)) = !lessB b a:=by
 unfold lessB
 have e:(a=b)=(a.toList=b.toList):=by
  have:=@toList_inj a b
  by_cases h:a=b
  ·simp[h]
  ·rw[decide_eq_false h,beq_eq_false_iff_ne]at this
   simp[h,this]
 rcases bytesLess_tri a.toList b.toList with h|h|h
 ·obtain⟨g1,g2⟩:=bytesLess_anti _ _ h
  simp[h,g1]
 ·cases hl:Op.bytesLess b.toList a.toList with
  |true=>exact absurd h.symm (bytesLess_anti _ _ hl).2
  |false=>simp[e,h]
 ·obtain⟨g1,g2⟩:=bytesLess_anti _ _ h
  simp only[h,g1,e,Bool.false_or,Bool.not_true,decide_eq_false_iff_not]
  exact fun x=>g2 x.symm
end Go.Own
set_option maxRecDepth 1000000
set_option maxHeartbeats 4000000
namespace Go.Own
attribute [local irreducible] WPc WPL WPS WPS1 WPS2 HAny endP
variable [Laid]
open Go.Lib Go.RowKit
def mayCome(s:Sr)(out:List ByteArray):Bool := !isW out s.name&&inAll s.imports out
def bestOf(l:List Sr)(out:List ByteArray):Nat→Option ByteArray
 |0=>none
 |i+1=>match l[i]? with
  |some s=>if mayCome s out=true then (match bestOf l out i with
   |none=>some s.name
   |some n=>if lessB s.name n=true then some s.name else some n) else bestOf l out i
  |none=>bestOf l out i
def ordL(l:List Sr):Nat→List ByteArray→Option (List ByteArray)
 |0,out=>some out
 |f+1,out=>match bestOf l out l.length with
  |none=>none
  |some n=>ordL l f (out++[n])
theorem bestOf_next{l:List Sr}{out:List ByteArray}{i:Nat}(hi:i<l.length):bestOf l out (i+1)=if mayCome l[i] out=true then (match bestOf l out i with
   |none=>some l[i].name
   |some n=>if lessB l[i].name n=true then some l[i].name else some n) else bestOf l out i:=by
 rw[bestOf,List.getElem?_eq_getElem hi]
def At(l:List Sr)(b:Option ByteArray)(k:Int):Prop:=match b with
 |none=>k = -1
 |some n=>0≤k∧∃h:k.toNat<l.length,l[k.toNat].name=n
theorem c_impl_namesOfSrcs(l:List Sr)(h1:l.length≤1000000000):Con PP 148 [.fz (l.map Sr.cs)] [] [] (fun r o=>r=.sl 900009 1 [] 0 l.length∧o=[(900009,strR (mapT Sr.name l l.length))]):=by
 refine cof 19 Go.Proofs.Tryz.func148 fun G=>?_
 simp only[entSt,tmOf,List.append_nil,List.cons_append,List.nil_append]
 refine go (L:=_∧True) wb0 wb0 wb0 wb0 wb0 ⟨fun _=>?_,wb0⟩
 refine WPc.adoptK 3 900001 9 1 fun K hK=>?_
 simp -implicitDefEqProofs
 refine hK _ ?_;clear hK K
 refine WPc.loopV (σ:=Nat) (fun i=>i≤l.length) (fun i=>l.length-i) (fun i=>[(8,.sc (.int .i64 i)),(3,.sl 900001 1 [] 0 i)]) (fun i=>[(900001,9,1,(mapT Sr.name l i).map sC)]) [6,7] 0 (by simp[mapT_zero]) (by simp[mapT_zero]) (by simp) ?_
 rintro i hi s hs
 simp at hs
 subst hs
 by_cases hlt:i<l.length
 ·have hb1:(i+1)*16≤140737488355328:=by omega
  have hb2:i+1≤9223372036854775807:=by omega
  have hn:=mapT_next Sr.name hlt
  have hll:=mapT_len Sr.name hi
  refine go (L:=_∧True) (wa5 @Sr.cs.eq_1 @hlt @hb1 @hb2 @hll) wb0 wb0 wb0 wb0 ⟨fun _=>?_,wb0⟩
  refine⟨i+1,⟨hlt,by first|omega|(simp only;omega)|assumption⟩,rfl,rfl,?_,?_⟩<;>simp (disch:=omega) [wrap64,hn,sC]
 ·obtain rfl:i=l.length:=by omega
  refine gox (L:=_∧True) (wa1 @hlt) wb0 wb0 wb0 (wb2 (outs [900009]) (nm 6 [900001,900009])) ⟨fun _=>?_,wb0⟩
  all_goals (simp[strR])
def ordP(res:Option (List ByteArray))(r:AV)(o:List (Nat×Root)):Prop:=match res with
 |some y=>r=.tup [.sl 900009 1 [] 0 y.length,.sc (.bool true)]∧o=[(900009,strR y)]
 |none=>r=.tup [.sc (.slice none 0 0),.sc (.bool false)]
theorem order_con(l:List Sr)(h1:l.length≤1000000000)(res:Option (List ByteArray))(hres:ordL l l.length []=res) :
  Con PP 151 [.fz (l.map Sr.cs)] [] [] (ordP res):=by
 refine cof 58 Go.Proofs.Tryz.func151 fun G=>?_
 simp only[entSt,tmOf,List.append_nil,List.cons_append,List.nil_append]
 refine go (L:=_∧True) wb0 wb0 wb0 wb0 wb0 ⟨fun _=>?_,wb0⟩
 refine WPc.adoptK 4 900001 9 1 fun K hK=>?_
 simp -implicitDefEqProofs
 refine hK _ ?_;clear hK K
 refine WPc.loopV (σ:=List ByteArray) (fun out=>out.length≤l.length∧ordL l (l.length-out.length) out=res) (fun out=>l.length-out.length) (fun out=>[(4,.sl 900001 1 [] 0 out.length)]) (fun out=>[(900001,9,1,out.map sC)]) [0] ([]:List ByteArray) (by simp) (by simp) (⟨by simp,by simpa using hres⟩) ?_
 rintro out ⟨ho,hord⟩ s hs
 simp at hs
 subst hs
 have hdz:dzLL (List.take out.length (out.map sC))=out.map sC:=dz_S rfl
 by_cases hlt:out.length<l.length
 ·have hlt':((out.length:Int)<(l.length:Int))=True:=by simp;omega
  obtain⟨f,hf⟩:∃f,l.length-out.length=f+1:=⟨l.length-out.length-1,by omega⟩
  rw[hf,ordL]at hord
  have hb1:(out.length+1)*16≤140737488355328:=by omega
  have hb2:out.length+1≤9223372036854775807:=by omega
  refine go (L:=_∧True) (wa2 @hlt' @hlt) wb0 wb0 wb0 wb0 ⟨fun _=>?_,wb0⟩
  refine WPc.loopV (σ:=Nat×Int) (fun y=>y.1≤l.length∧At l (bestOf l out y.1) y.2) (fun y=>l.length-y.1) (fun y=>[(15,.sc (.int .i64 y.1)),(5,.sc (.int .i64 y.2))]) (fun y=>[(900001,9,1,out.map sC)]) [0,4,13,14] (0,-1) (by simp) (by simp) (⟨by simp,rfl⟩) ?_
  rintro⟨i,k⟩ ⟨hi,hat⟩ s hs
  simp at hs
  subst hs
  dsimp only at hi hat ⊢
  by_cases hlt2:i<l.length
  ·have hn:=bestOf_next (out:=out) hlt2
   have g1:=c_slices_Contains out l[i].name
   have g2:=c_impl_areIn l[i].imports out
   cases hc:isW out l[i].name with
   |true =>
    rw[mayCome,hc]at hn
    simp only[Bool.not_true,Bool.false_and,Bool.false_eq_true,if_false]at hn
    refine go (L:=_∧True) (wa4 @hlt2 @hc @hdz @Sr.cs.eq_1) (wb1 (fun _=>g1)) wb0 wb0 (wb2 wb0 (sch 7 [] ((0,[])::(1,[])::(2,[])::(3,[])::(4,[])::(5,[])::(6,[])::(7,[])::(8,[])::(9,[])::(10,[])::(11,[])::(12,[])::(13,[])::(14,[])::(15,[])::(16,[])::(17,[])::(18,[])::(19,[])::(20,[])::(21,[])::(22,[])::(23,[])::(24,[])::[]))) ⟨fun _=>?_,wb0⟩
    refine⟨(i+1,k),⟨⟨hlt2,by rw[hn];exact hat⟩,by first|omega|(simp only;omega)|assumption⟩,rfl,rfl,?_,?_⟩<;>simp (disch:=omega) [wrap64]
   |false =>
    cases hm:inAll l[i].imports out with
    |false =>
     rw[mayCome,hc,hm]at hn
     simp only[Bool.and_false,Bool.false_eq_true,if_false]at hn
     refine go (L:=_∧True) (wa5 @hlt2 @hc @hm @hdz @Sr.cs.eq_1) (wb2 (fun _=>g2) (fun _=>g1)) wb0 wb0 (wb2 wb0 (sch 7 [] ((0,[])::(1,[])::(2,[])::(3,[])::(4,[])::(5,[])::(6,[])::(7,[])::(8,[])::(9,[])::(10,[])::(11,[])::(12,[])::(13,[])::(14,[])::(15,[])::(16,[])::(17,[])::(18,[])::(19,[])::(20,[])::(21,[])::(22,[])::(23,[])::(24,[])::[]))) ⟨fun _=>?_,wb0⟩
     refine⟨(i+1,k),⟨⟨hlt2,by rw[hn];exact hat⟩,by first|omega|(simp only;omega)|assumption⟩,rfl,rfl,?_,?_⟩<;>simp (disch:=omega) [wrap64]
    |true =>
     rw[mayCome,hc,hm]at hn
     simp only[Bool.not_false,Bool.true_and,if_true]at hn
     cases hb:bestOf l out i with
     |none =>
      rw[hb]at hat hn
      have hk:k = -1:=hat
      subst hk
      refine go (L:=_∧True) (wa5 @hlt2 @hc @hm @hdz @Sr.cs.eq_1) (wb2 (fun _=>g2) (fun _=>g1)) wb0 wb0 (wb2 wb0 (sch 7 [] ((0,[])::(1,[])::(2,[])::(3,[])::(4,[])::(5,[])::(6,[])::(7,[])::(8,[])::(9,[])::(10,[])::(11,[])::(12,[])::(13,[])::(14,[])::(15,[])::(16,[])::(17,[])::(18,[])::(19,[])::(20,[])::(21,[])::(22,[])::(23,[])::(24,[])::[]))) ⟨fun _=>?_,wb0⟩
      refine⟨(i+1,(i:Int)),⟨⟨hlt2,by rw[hn];exact⟨by omega,by simpa using hlt2,by simp⟩⟩,by first|omega|(simp only;omega)|assumption⟩,rfl,rfl,?_,?_⟩<;>simp (disch:=omega) [wrap64]
     |some n =>
      rw[hb]at hat hn
      obtain⟨k0,k1,k2⟩:=hat
      have k3:(k<0)=False:=by simp;omega
      have k4:k<(l.length:Int):=by omega
      dsimp only at hn
      cases hl:lessB l[i].name n with
      |true =>
       rw[hl,if_pos rfl]at hn
       refine go (L:=_∧True) (wa11 @hlt2 @hc @hm @hdz @Sr.cs.eq_1 @k0 @k1 @k2 @k3 @k4 @hl) (wb2 (fun _=>g2) (fun _=>g1)) wb0 wb0 (wb2 wb0 (sch 7 [] ((0,[])::(1,[])::(2,[])::(3,[])::(4,[])::(5,[])::(6,[])::(7,[])::(8,[])::(9,[])::(10,[])::(11,[])::(12,[])::(13,[])::(14,[])::(15,[])::(16,[])::(17,[])::(18,[])::(19,[])::(20,[])::(21,[])::(22,[])::(23,[])::(24,[])::[]))) ⟨fun _=>?_,wb0⟩
       refine⟨(i+1,(i:Int)),⟨⟨hlt2,by rw[hn];exact⟨by omega,by simpa using hlt2,by simp⟩⟩,by first|omega|(simp only;omega)|assumption⟩,rfl,rfl,?_,?_⟩<;>simp (disch:=omega) [wrap64]
      |false =>
       rw[hl,if_neg (by simp)]at hn
       refine go (L:=_∧True) (wa11 @hlt2 @hc @hm @hdz @Sr.cs.eq_1 @k0 @k1 @k2 @k3 @k4 @hl) (wb2 (fun _=>g2) (fun _=>g1)) wb0 wb0 (wb2 wb0 (sch 7 [] ((0,[])::(1,[])::(2,[])::(3,[])::(4,[])::(5,[])::(6,[])::(7,[])::(8,[])::(9,[])::(10,[])::(11,[])::(12,[])::(13,[])::(14,[])::(15,[])::(16,[])::(17,[])::(18,[])::(19,[])::(20,[])::(21,[])::(22,[])::(23,[])::(24,[])::[]))) ⟨fun _=>?_,wb0⟩
       refine⟨(i+1,k),⟨⟨hlt2,by rw[hn];exact⟨k0,k1,k2⟩⟩,by first|omega|(simp only;omega)|assumption⟩,rfl,rfl,?_,?_⟩<;>simp (disch:=omega) [wrap64]
  ·obtain rfl:i=l.length:=by omega
   cases hb:bestOf l out l.length with
   |none =>
    rw[hb]at hat hord
    have hk:k = -1:=hat
    subst hk
    subst hord
    refine gox (L:=_∧True) (wa1 @hlt2) wb0 wb0 wb0 (wb2 (outs [900009]) (nm 6 [900001,900009])) ⟨fun _=>?_,wb0⟩
    all_goals rfl
   |some n =>
    rw[hb]at hat hord
    obtain⟨k0,k1,k2⟩:=hat
    have k3:(k<0)=False:=by simp;omega
    have k4:k<(l.length:Int):=by omega
    dsimp only at hord
    have hm:l.length-(out++[n]).length<l.length-out.length:=by rw[List.length_append,List.length_singleton];omega
    refine go (L:=_∧True) (wa9 @hlt2 @Sr.cs.eq_1 @k0 @k1 @k2 @k3 @k4 @hb1 @hb2) wb0 wb0 wb0 wb0 ⟨fun _=>?_,wb0⟩
    refine⟨out++[n],⟨⟨by simp;omega,by rw[List.length_append,List.length_singleton,show l.length-(out.length+1)=f by omega];exact hord⟩,by first|omega|(simp only;omega)|assumption⟩,rfl,rfl,?_,?_⟩<;>simp (disch:=omega) [wrap64,sC]
 ·have hlt':((out.length:Int)<(l.length:Int))=False:=by simp;omega
  rw[show l.length-out.length=0 by omega,ordL]at hord
  subst hord
  refine gox (L:=_∧True) (wa2 @hlt' @hlt) wb0 wb0 wb0 (wb2 (outs [900009]) (nm 6 [900001,900009])) ⟨fun _=>?_,wb0⟩
  all_goals (simp[ordP,strR])
end Go.Own
set_option maxRecDepth 1000000
set_option maxHeartbeats 4000000
namespace Go.Own
attribute [local irreducible] WPc WPL WPS WPS1 WPS2 HAny endP
variable [Laid]
open Go.Lib Go.RowKit
theorem c_spec_l11DefNames(l:List Df)(h1:l.length≤1000000000):Con PP 124 [.fz (l.map Df.cs)] [] [] (fun r o=>r=.sl 900009 1 [] 0 l.length∧o=[(900009,strR (dfNames l))]):=by
 refine cof 21 Go.Proofs.Tryz.func124 fun G=>?_
 simp only[entSt,tmOf,List.append_nil,List.cons_append,List.nil_append]
 refine go (L:=_∧True) wb0 wb0 wb0 wb0 wb0 ⟨fun _=>?_,wb0⟩
 refine WPc.renC 5 900001 fun K hK=>?_
 simp -implicitDefEqProofs
 refine hK _ ?_;clear hK K
 refine WPc.loopV (σ:=Nat) (fun i=>i≤l.length) (fun i=>l.length-i) (fun i=>[(4,.sc (.int .i64 i)),(3,.sl 900001 1 [] 0 i)]) (fun i=>[(900001,9,1,(mapT Df.name l i).map sC)]) [0] 0 (by simp[mapT_zero]) (by simp[mapT_zero]) (by simp) ?_
 rintro i hi s hs
 simp at hs
 subst hs
 by_cases hlt:i<l.length
 ·have hb1:(i+1)*16≤140737488355328:=by omega
  have hb2:i+1≤9223372036854775807:=by omega
  have hn:=mapT_next Df.name hlt
  have hll:=mapT_len Df.name hi
  refine go (L:=_∧True) (wa5 @Df.cs.eq_1 @hlt @hb1 @hb2 @hll) wb0 wb0 wb0 wb0 ⟨fun _=>?_,wb0⟩
  refine⟨i+1,⟨hlt,by first|omega|(simp only;omega)|assumption⟩,rfl,rfl,?_,?_⟩<;>simp (disch:=omega) [wrap64,hn,sC]
 ·obtain rfl:i=l.length:=by omega
  refine gox (L:=_∧True) (wa1 @hlt) wb0 wb0 wb0 (wb2 (outs [900009]) (nm 6 [900001,900009])) ⟨fun _=>?_,wb0⟩
  all_goals (simp[strR,mapT_df])
theorem c_spec_l11TypeNames(l:List Ty)(h1:l.length≤1000000000):Con PP 123 [.fz (l.map Ty.cs)] [] [] (fun r o=>r=.sl 900009 1 [] 0 l.length∧o=[(900009,strR (tyNames l))]):=by
 refine cof 21 Go.Proofs.Tryz.func123 fun G=>?_
 simp only[entSt,tmOf,List.append_nil,List.cons_append,List.nil_append]
 refine go (L:=_∧True) wb0 wb0 wb0 wb0 wb0 ⟨fun _=>?_,wb0⟩
 refine WPc.renC 5 900001 fun K hK=>?_
 simp -implicitDefEqProofs
 refine hK _ ?_;clear hK K
 refine WPc.loopV (σ:=Nat) (fun i=>i≤l.length) (fun i=>l.length-i) (fun i=>[(4,.sc (.int .i64 i)),(3,.sl 900001 1 [] 0 i)]) (fun i=>[(900001,9,1,(mapT Ty.name l i).map sC)]) [0] 0 (by simp[mapT_zero]) (by simp[mapT_zero]) (by simp) ?_
 rintro i hi s hs
 simp at hs
 subst hs
 by_cases hlt:i<l.length
 ·have hb1:(i+1)*16≤140737488355328:=by omega
  have hb2:i+1≤9223372036854775807:=by omega
  have hn:=mapT_next Ty.name hlt
  have hll:=mapT_len Ty.name hi
  refine go (L:=_∧True) (wa5 @Ty.cs.eq_1 @hlt @hb1 @hb2 @hll) wb0 wb0 wb0 wb0 ⟨fun _=>?_,wb0⟩
  refine⟨i+1,⟨hlt,by first|omega|(simp only;omega)|assumption⟩,rfl,rfl,?_,?_⟩<;>simp (disch:=omega) [wrap64,hn,sC]
 ·obtain rfl:i=l.length:=by omega
  refine gox (L:=_∧True) (wa1 @hlt) wb0 wb0 wb0 (wb2 (outs [900009]) (nm 6 [900001,900009])) ⟨fun _=>?_,wb0⟩
  all_goals (simp[strR,mapT_ty])
theorem c_spec_l11Twice(l:List ByteArray):Con PP 198 [.fz (l.map sC)] [] [] (fun r o=>r=.sc (.bool (!onceL l))):=by
 refine Con.lenOf 0 Go.Proofs.Tryz.func198 (by kernel_rfl) (by kernel_rfl) rfl fun hlen=>?_
 simp at hlen
 refine cof 18 Go.Proofs.Tryz.func198 fun G=>?_
 simp only[entSt,tmOf,List.append_nil,List.cons_append,List.nil_append]
 refine go (L:=_∧True) wb0 wb0 wb0 wb0 wb0 ⟨fun _=>?_,wb0⟩
 refine WPc.loopK (σ:=Nat) (fun i=>i≤l.length∧(∀j,(h:j<l.length)→j<i→isW (l.take j) l[j]=false)) (fun i=>l.length-i) (fun i=>[(3,.sc (.int .i64 i))]) [0] 0 (by simp) (by simp) (by simp) ?_
 rintro i ⟨hi,hall⟩ s hs
 simp at hs
 subst hs
 by_cases hlt:i<l.length
 ·cases hw:isW (l.take i) l[i]with
  |false =>
   have u:=c_spec_l3In_tk l i l[i]
   rw[hw]at u
   refine go (L:=_∧True) (wa3 @sC.eq_1 @hlt @hi) (wb1 (fun _=>u)) wb0 wb0 (wb2 wb0 (sch 4 [] [(0,[]),(1,[]),(2,[]),(3,[]),(4,[]),(5,[]),(6,[]),(7,[])])) ⟨fun _=>?_,wb0⟩
   all_goals
    refine⟨i+1,⟨⟨hlt,fun j hj hji=>(Nat.lt_succ_iff_lt_or_eq.1 hji).elim (hall j hj) (fun e=>by subst e;exact hw)⟩,by first|omega|(simp only;omega)|assumption⟩,rfl,rfl,?_,?_⟩<;>simp (disch:=omega) [wrap64]
  |true =>
   rw[onceL_at hlt hw]
   have u:=c_spec_l3In_tk l i l[i]
   rw[hw]at u
   refine go (L:=_∧True) (wa3 @sC.eq_1 @hlt @hi) (wb1 (fun _=>u)) wb0 wb0 (wb2 wb0 (sch 4 [] [(0,[]),(1,[]),(2,[]),(3,[]),(4,[]),(5,[]),(6,[]),(7,[])])) ⟨fun _=>?_,wb0⟩
   all_goals rfl
 ·obtain rfl:i=l.length:=by omega
  have e:onceL l=true:=allI_iff.2 fun j hj=>by rw[hall j hj hj];rfl
  rw[e]
  refine go (L:=_∧True) (wa1 @hlt) wb0 wb0 wb0 wb0 ⟨fun _=>?_,wb0⟩
  all_goals rfl
theorem c_spec_l11Many(s:Sr):Con PP 119 [s.av] [] [] (fun r o=>r=.sc (.bool (!srFew s))):=by
 refine cof 31 Go.Proofs.Tryz.func119 fun G=>?_
 simp only[entSt,tmOf,List.append_nil,List.cons_append,List.nil_append,Sr.av]
 cases h:srFew s with
 |true =>
  have h':=h
  simp only[srFew,Bool.and_eq_true,decide_eq_true_eq]at h'
  obtain⟨g1,g2,g3,g4,g5⟩:=h'
  have e1:((30:Int)<(s.imports.length:Int))=False:=by simp;omega
  have e2:((30:Int)<(s.exports.length:Int))=False:=by simp;omega
  have e3:((30:Int)<(s.defs.length:Int))=False:=by simp;omega
  have e4:((8:Int)<(s.types.length:Int))=False:=by simp;omega
  have e5:((8:Int)<(s.convs.length:Int))=False:=by simp;omega
  refine go (L:=_∧True) (wa5 @e1 @e2 @e3 @e4 @e5) wb0 wb0 wb0 wb0 ⟨fun _=>?_,wb0⟩
  all_goals rfl
 |false =>
  refine go (L:=_∧_∧_∧_∧_∧True) wb0 wb0 wb0 wb0 wb0 ⟨fun _ _ _ _ _=>?_,fun _ _ _ _ _=>?_,fun _ _ _ _=>?_,fun _ _ _=>?_,fun _ _=>?_,wb0⟩
  all_goals first
   |rfl
   |(exfalso;simp_all[srFew];omega)
   |(simp_all[srFew];omega)
theorem c_spec_l11All(l:List ByteArray)(hs:∀v,v∈l→v.size<4294967000):Con PP 122 [.fz (l.map sC)] [] [] (fun r o=>r=.sc (.bool (l.all isName))):=by
 refine Con.lenOf 0 Go.Proofs.Tryz.func122 (by kernel_rfl) (by kernel_rfl) rfl fun hlen=>?_
 simp at hlen
 refine cof 16 Go.Proofs.Tryz.func122 fun G=>?_
 simp only[entSt,tmOf,List.append_nil,List.cons_append,List.nil_append]
 refine go (L:=_∧True) wb0 wb0 wb0 wb0 wb0 ⟨fun _=>?_,wb0⟩
 refine WPc.loopK (σ:=Nat) (fun i=>i≤l.length∧(l.take i).all isName=true) (fun i=>l.length-i) (fun i=>[(3,.sc (.int .i64 i))]) [0] 0 (by simp) (by simp) (by simp) ?_
 rintro i ⟨hi,hall⟩ s hs
 simp at hs
 subst hs
 by_cases hlt:i<l.length
 ·have hv:=List.getElem?_eq_getElem hlt
  have hz:=hs _ (List.getElem_mem hlt)
  cases hw:isName l[i]with
  |true =>
   refine go (L:=_∧True) (wa3 @sC.eq_1 @hlt @hw) (wb1 (fun v0 (h:_)=>c_spec_IsName v0 h)) wb0 wb0 wb0 ⟨fun _=>?_,wb0⟩
   all_goals
    refine⟨i+1,⟨⟨hlt,all_next hv hw hall⟩,by first|omega|(simp only;omega)|assumption⟩,rfl,rfl,?_,?_⟩<;>simp (disch:=omega) [wrap64]
  |false =>
   rw[all_at hv hw]
   refine go (L:=_∧True) (wa3 @sC.eq_1 @hlt @hw) (wb1 (fun v0 (h:_)=>c_spec_IsName v0 h)) wb0 wb0 wb0 ⟨fun _=>?_,wb0⟩
   all_goals rfl
 ·obtain rfl:i=l.length:=by omega
  rw[List.take_length]at hall
  rw[hall]
  refine go (L:=_∧True) (wa1 @hlt) wb0 wb0 wb0 wb0 ⟨fun _=>?_,wb0⟩
  all_goals rfl
end Go.Own
set_option maxRecDepth 1000000
set_option maxHeartbeats 4000000
namespace Go.Own
attribute [local irreducible] WPc WPL WPS WPS1 WPS2 HAny endP
variable [Laid]
open Go.Lib Go.RowKit
theorem c_spec_l11Dup(s:Sr)(hr:s.rm):Con PP 120 [s.av] [] [] (fun r o=>r=.sc (.bool (!srUnlike s))):=by
 have r1:=hr.types
 have r2:=hr.defs
 have r3:=hr.convs
 have d1:=dz_S (tyNames_len s.types)
 have d2:=dz_S (dfNames_len s.defs)
 have d3:=dz_S (dfNames_len s.convs)
 have n1:=tyNames_len s.types
 have n2:=dfNames_len s.defs
 have n3:=dfNames_len s.convs
 refine cof 36 Go.Proofs.Tryz.func120 fun G=>?_
 simp only[entSt,tmOf,List.append_nil,List.cons_append,List.nil_append,Sr.av]
 cases h1:onceL s.imports with
 |false =>
  have e:srUnlike s=false:=by simp[srUnlike,h1]
  rw[e]
  refine go (L:=_∧True) (wa8 @h1 @strR.eq_1 @d1 @n1 @d2 @n2 @d3 @n3) (wb1 (fun v0 (_:True)=>c_spec_l11Twice v0)) wb0 wb0 wb0 ⟨fun _=>?_,wb0⟩
  all_goals rfl
 |true =>
 cases h2:onceL s.exports with
 |false =>
  have e:srUnlike s=false:=by simp[srUnlike,h2]
  rw[e]
  refine go (L:=_∧True) (wa9 @h1 @h2 @strR.eq_1 @d1 @n1 @d2 @n2 @d3 @n3) (wb1 (fun v0 (_:True)=>c_spec_l11Twice v0)) wb0 wb0 wb0 ⟨fun _=>?_,wb0⟩
  all_goals rfl
 |true =>
 cases h3:onceL (tyNames s.types) with
 |false =>
  have e:srUnlike s=false:=by simp[srUnlike,h3]
  rw[e]
  refine go (L:=_∧True) (wa10 @h1 @h2 @h3 @strR.eq_1 @d1 @n1 @d2 @n2 @d3 @n3) (wb1 (fun v0 (_:True)=>c_spec_l11Twice v0)) (wb1 (fun v0 (h:_)=>c_spec_l11TypeNames v0 h)) wb0 wb0 ⟨fun _=>?_,wb0⟩
  all_goals rfl
 |true =>
 cases h4:onceL (dfNames s.defs) with
 |false =>
  have e:srUnlike s=false:=by simp[srUnlike,h4]
  rw[e]
  refine go (L:=_∧True) (wa11 @h1 @h2 @h3 @h4 @strR.eq_1 @d1 @n1 @d2 @n2 @d3 @n3) (wb1 (fun v0 (_:True)=>c_spec_l11Twice v0)) (wb2 (fun v0 (h:_)=>c_spec_l11TypeNames v0 h) (fun v0 (h:_)=>c_spec_l11DefNames v0 h)) wb0 wb0 ⟨fun _=>?_,wb0⟩
  all_goals rfl
 |true =>
 cases h5:onceL (dfNames s.convs) with
 |false =>
  have e:srUnlike s=false:=by simp[srUnlike,h5]
  rw[e]
  refine go (L:=_∧True) (wa12 @h1 @h2 @h3 @h4 @h5 @strR.eq_1 @d1 @n1 @d2 @n2 @d3 @n3) (wb1 (fun v0 (_:True)=>c_spec_l11Twice v0)) (wb2 (fun v0 (h:_)=>c_spec_l11TypeNames v0 h) (fun v0 (h:_)=>c_spec_l11DefNames v0 h)) wb0 wb0 ⟨fun _=>?_,wb0⟩
  all_goals rfl
 |true =>
 have e:srUnlike s = !isW s.imports s.name:=by simp[srUnlike,h1,h2,h3,h4,h5]
 rw[e]
 refine go (L:=_∧True) (wa12 @h1 @h2 @h3 @h4 @h5 @strR.eq_1 @d1 @n1 @d2 @n2 @d3 @n3) (wb2 (fun v0 (_:True)=>c_spec_l11Twice v0) (fun v0 v1 (_:True)=>c_spec_l3In v0 v1)) (wb2 (fun v0 (h:_)=>c_spec_l11TypeNames v0 h) (fun v0 (h:_)=>c_spec_l11DefNames v0 h)) wb0 wb0 ⟨fun _=>?_,wb0⟩
 all_goals (simp)
theorem c_spec_l11Lacks(s:Sr)(hr:s.rm):Con PP 121 [s.av] [] [] (fun r o=>r=.sc (.bool (!srFit s))):=by
 have r0:=hr.exports
 have r1:=hr.types
 have r2:=hr.defs
 have r3:=hr.convs
 have d1:=dz_S (tyNames_len s.types)
 have d2:=dz_S (dfNames_len s.defs)
 have n1:=tyNames_len s.types
 have n2:=dfNames_len s.defs
 refine cof 40 Go.Proofs.Tryz.func121 fun G=>?_
 simp only[entSt,tmOf,List.append_nil,List.cons_append,List.nil_append,Sr.av]
 refine go (L:=_∧True) wb0 wb0 wb0 wb0 wb0 ⟨fun _=>?_,wb0⟩
 refine WPc.loopV (σ:=Nat) (fun i=>i≤s.exports.length∧(s.exports.take i).all (isW (dfNames s.defs))=true) (fun i=>s.exports.length-i) (fun i=>[(3,.sc (.int .i64 i))]) (fun i=>[(1,110,6,[s.cs])]) [1] 0 (by simp[Sr.cs]) (by simp[Sr.cs]) (by simp) ?_
 rintro i ⟨hi,hall⟩ s hs
 simp at hs
 subst hs
 by_cases hlt:i<s.exports.length
 ·have hv:=List.getElem?_eq_getElem hlt
  cases hw:isW (dfNames s.defs) s.exports[i]with
  |true =>
   refine go (L:=_∧True) (wa7 @sC.eq_1 @hlt @hw @strR.eq_1 @d2 @n2 @Sr.cs.eq_1) (wb1 (fun v0 v1 (_:True)=>c_spec_l3In v0 v1)) (wb1 (fun v0 (h:_)=>c_spec_l11DefNames v0 h)) wb0 (wb2 wb0 (sch 4 [(2,[14,1014,2014])] [(0,[]),(1,[]),(3,[14,1014,2014]),(4,[14,1014,2014]),(5,[14,1014,2014]),(6,[14,1014,2014]),(7,[14,1014,2014]),(2,[14,1014,2014]),(8,[]),(9,[])])) ⟨fun _=>?_,wb0⟩
   refine⟨i+1,⟨⟨hlt,all_next hv hw hall⟩,by first|omega|(simp only;omega)|assumption⟩,rfl,rfl,?_,?_⟩<;>simp (disch:=omega) [wrap64,Sr.cs]
  |false =>
   have e:srFit s=false:=by rw[srFit,inAll,all_at hv hw,Bool.false_and]
   rw[e]
   refine go (L:=_∧True) (wa7 @sC.eq_1 @hlt @hw @strR.eq_1 @d2 @n2 @Sr.cs.eq_1) (wb1 (fun v0 v1 (_:True)=>c_spec_l3In v0 v1)) (wb1 (fun v0 (h:_)=>c_spec_l11DefNames v0 h)) wb0 (wb2 wb0 (sch 4 [(2,[14,1014,2014])] [(0,[]),(1,[]),(3,[14,1014,2014]),(4,[14,1014,2014]),(5,[14,1014,2014]),(6,[14,1014,2014]),(7,[14,1014,2014]),(2,[14,1014,2014]),(8,[]),(9,[])])) ⟨fun _=>?_,wb0⟩
   all_goals rfl
 ·obtain rfl:i=s.exports.length:=by omega
  rw[List.take_length]at hall
  have hE:inAll s.exports (dfNames s.defs)=true:=hall
  clear hall
  have e:srFit s=inAll (dfNames s.convs) (tyNames s.types):=by rw[srFit,hE,Bool.true_and]
  rw[e]
  refine go (L:=_∧True) (wa2 @hlt @Sr.cs.eq_1) wb0 wb0 wb0 wb0 ⟨fun _=>?_,wb0⟩
  refine WPc.loopV (σ:=Nat) (fun k=>k≤s.convs.length∧(s.convs.take k).all (fun d=>isW (tyNames s.types) d.name)=true) (fun k=>s.convs.length-k) (fun k=>[(4,.sc (.int .i64 k))]) (fun k=>[(1,110,6,[s.cs])]) [1] 0 (by simp[Sr.cs]) (by simp[Sr.cs]) (by simp) ?_
  rintro k ⟨hk,hall⟩ s hs
  simp at hs
  subst hs
  have ec:inAll (dfNames s.convs) (tyNames s.types)=s.convs.all (fun d=>isW (tyNames s.types) d.name):=by rw[inAll,dfNames,List.all_map];rfl
  rw[ec]
  by_cases hlt2:k<s.convs.length
  ·have hv:=List.getElem?_eq_getElem hlt2
   cases hw:isW (tyNames s.types) s.convs[k].name with
   |true =>
    refine go (L:=_∧True) (wa7 @Df.cs.eq_1 @hlt2 @hw @strR.eq_1 @d1 @n1 @Sr.cs.eq_1) (wb1 (fun v0 v1 (_:True)=>c_spec_l3In v0 v1)) (wb1 (fun v0 (h:_)=>c_spec_l11TypeNames v0 h)) wb0 (wb2 wb0 (sch 9 [(2,[31,1031,2031])] [(0,[]),(1,[]),(3,[31,1031,2031]),(4,[31,1031,2031]),(5,[31,1031,2031]),(6,[31,1031,2031]),(7,[31,1031,2031]),(8,[31,1031,2031]),(2,[31,1031,2031]),(9,[]),(10,[])])) ⟨fun _=>?_,wb0⟩
    refine⟨k+1,⟨⟨hlt2,all_next hv hw hall⟩,by first|omega|(simp only;omega)|assumption⟩,rfl,rfl,?_,?_⟩<;>simp (disch:=omega) [wrap64,Sr.cs]
   |false =>
    rw[all_at hv hw]
    refine go (L:=_∧True) (wa7 @Df.cs.eq_1 @hlt2 @hw @strR.eq_1 @d1 @n1 @Sr.cs.eq_1) (wb1 (fun v0 v1 (_:True)=>c_spec_l3In v0 v1)) (wb1 (fun v0 (h:_)=>c_spec_l11TypeNames v0 h)) wb0 (wb2 wb0 (sch 9 [(2,[31,1031,2031])] [(0,[]),(1,[]),(3,[31,1031,2031]),(4,[31,1031,2031]),(5,[31,1031,2031]),(6,[31,1031,2031]),(7,[31,1031,2031]),(8,[31,1031,2031]),(2,[31,1031,2031]),(9,[]),(10,[])])) ⟨fun _=>?_,wb0⟩
    all_goals rfl
  ·obtain rfl:k=s.convs.length:=by omega
   rw[List.take_length]at hall
   rw[hall]
   refine go (L:=_∧True) (wa2 @hlt2 @Sr.cs.eq_1) wb0 wb0 wb0 wb0 ⟨fun _=>?_,wb0⟩
   all_goals rfl
theorem tyOk2(l:List Ty):tyOk l=(decide (l.length≤8)&&(onceL (tyNames l)&&((tyNames l).all isName&&l.all fun t=>inRange t.size 0 8))):=by
 have e1:namesOk (tyNames l) 8=(decide (l.length≤8)&&((tyNames l).all isName&&onceL (tyNames l))):=by
  rw[namesOk_allI,all_get,onceL,allI_and,tyNames_len]
  congr 1
  simp;omega
 have e2:tyOk l=(l.all (fun t=>inRange t.size 0 8)&&namesOk (tyNames l) 8):=rfl
 rw[e2,e1]
 cases l.all (fun t=>inRange t.size 0 8)<;>cases decide (l.length≤8)<;>cases (tyNames l).all isName<;>cases onceL (tyNames l)<;>rfl
theorem srcOk2(s:Sr):srcOk s=(isName s.name&&(srFew s&&(srUnlike s&&(srFit s&&(s.imports.all isName&&(s.exports.all isName&&((tyNames s.types).all isName&&((dfNames s.defs).all isName&&((dfNames s.convs).all isName&&(s.types.all (fun t=>inRange t.size 0 8)&&(prgsOk s.defs&&prgsOk s.convs))))))))))):=by
 rw[srcOk,srNames,tyOk2]
 cases h2:srFew s with
 |false=>simp
 |true =>
  cases h3:srUnlike s with
  |false=>simp
  |true =>
   have e1:decide (s.types.length≤8)=true:=by
    simp only[srFew,Bool.and_eq_true]at h2
    exact h2.2.2.2.1
   have e2:onceL (tyNames s.types)=true:=by
    simp only[srUnlike,Bool.and_eq_true]at h3
    exact h3.2.2.1
   rw[e1,e2]
   cases isName s.name<;>cases srFit s<;>cases s.imports.all isName<;>cases s.exports.all isName<;>cases (tyNames s.types).all isName<;>cases (dfNames s.defs).all isName<;>cases (dfNames s.convs).all isName<;>cases s.types.all (fun t=>inRange t.size 0 8)<;>rfl
end Go.Own
set_option maxRecDepth 1000000
set_option maxHeartbeats 4000000
namespace Go.Own
attribute [local irreducible] WPc WPL WPS WPS1 WPS2 HAny endP
variable [Laid]
open Go.Lib Go.RowKit
theorem tyNames_sm{l:List Ty}(hs:∀d,d∈l→d.sm):∀v,v∈tyNames l→v.size<4294967000:=fun v hv=>by
 obtain⟨d,hd,rfl⟩:=List.mem_map.1 hv
 exact(hs d hd).name
theorem c_spec_SrcOk(s:Sr)(hs:s.sm)(hr:s.rm):Con PP 60 [s.av] [] [] (fun r o=>r=.sc (.bool (srcOk s))):=by
 have r1:=hr.types
 have r2:=hr.defs
 have r3:=hr.convs
 have d1:=dz_S (tyNames_len s.types)
 have d2:=dz_S (dfNames_len s.defs)
 have d3:=dz_S (dfNames_len s.convs)
 have n1:=tyNames_len s.types
 have n2:=dfNames_len s.defs
 have n3:=dfNames_len s.convs
 have s1:=hs.name
 have s2:=hs.imports
 have s3:=hs.exports
 have s4:=dfNames_sm hs.defs
 have s5:=dfNames_sm hs.convs
 have s6:=tyNames_sm hs.types
 have u1:=c_spec_l11Many s
 have u2:=c_spec_l11Dup s hr
 have u3:=c_spec_l11Lacks s hr
 simp only[Sr.av]at u1 u2 u3
 refine cof 100 Go.Proofs.Tryz.func60 fun G=>?_
 simp only[entSt,tmOf,List.append_nil,List.cons_append,List.nil_append,Sr.av]
 cases g1:isName s.name with
 |false =>
  have e:srcOk s=false:=by rw[srcOk2,g1];simp
  rw[e]
  refine go (L:=_∧True) (wa8 @g1 @strR.eq_1 @d1 @n1 @d2 @n2 @d3 @n3) (wb1 (fun v0 (h:_)=>c_spec_IsName v0 h)) wb0 wb0 wb0 ⟨fun _=>?_,wb0⟩
  all_goals rfl
 |true =>
 cases g2:srFew s with
 |false =>
  have e:srcOk s=false:=by rw[srcOk2,g2];simp
  rw[e]
  refine go (L:=_∧True) (wa9 @g1 @g2 @strR.eq_1 @d1 @n1 @d2 @n2 @d3 @n3) (wb2 (fun v0 (h:_)=>c_spec_IsName v0 h) (fun _=>u1)) wb0 wb0 wb0 ⟨fun _=>?_,wb0⟩
  all_goals rfl
 |true =>
 cases g3:srUnlike s with
 |false =>
  have e:srcOk s=false:=by rw[srcOk2,g3];simp
  rw[e]
  refine go (L:=_∧True) (wa10 @g1 @g2 @g3 @strR.eq_1 @d1 @n1 @d2 @n2 @d3 @n3) (wb3 (fun v0 (h:_)=>c_spec_IsName v0 h) (fun _=>u1) (fun _=>u2)) wb0 wb0 wb0 ⟨fun _=>?_,wb0⟩
  all_goals rfl
 |true =>
 cases g4:srFit s with
 |false =>
  have e:srcOk s=false:=by rw[srcOk2,g4];simp
  rw[e]
  refine go (L:=_∧True) (wa11 @g1 @g2 @g3 @g4 @strR.eq_1 @d1 @n1 @d2 @n2 @d3 @n3) (wb4 (fun v0 (h:_)=>c_spec_IsName v0 h) (fun _=>u1) (fun _=>u2) (fun _=>u3)) wb0 wb0 wb0 ⟨fun _=>?_,wb0⟩
  all_goals rfl
 |true =>
 cases p1:s.imports.all isName with
 |false =>
  have e:srcOk s=false:=by rw[srcOk2,p1];simp
  rw[e]
  refine go (L:=_∧True) (wa12 @g1 @g2 @g3 @g4 @p1 @strR.eq_1 @d1 @n1 @d2 @n2 @d3 @n3) (wb5 (fun v0 (h:_)=>c_spec_IsName v0 h) (fun _=>u1) (fun _=>u2) (fun _=>u3) (fun v0 (h:_)=>c_spec_l11All v0 h)) wb0 wb0 wb0 ⟨fun _=>?_,wb0⟩
  all_goals rfl
 |true =>
 cases p2:s.exports.all isName with
 |false =>
  have e:srcOk s=false:=by rw[srcOk2,p2];simp
  rw[e]
  refine go (L:=_∧True) (wa13 @g1 @g2 @g3 @g4 @p1 @p2 @strR.eq_1 @d1 @n1 @d2 @n2 @d3 @n3) (wb5 (fun v0 (h:_)=>c_spec_IsName v0 h) (fun _=>u1) (fun _=>u2) (fun _=>u3) (fun v0 (h:_)=>c_spec_l11All v0 h)) wb0 wb0 wb0 ⟨fun _=>?_,wb0⟩
  all_goals rfl
 |true =>
 cases p3:(tyNames s.types).all isName with
 |false =>
  have e:srcOk s=false:=by rw[srcOk2,p3];simp
  rw[e]
  refine go (L:=_∧True) (wa14 @g1 @g2 @g3 @g4 @p1 @p2 @p3 @strR.eq_1 @d1 @n1 @d2 @n2 @d3 @n3) (wb5 (fun v0 (h:_)=>c_spec_IsName v0 h) (fun _=>u1) (fun _=>u2) (fun _=>u3) (fun v0 (h:_)=>c_spec_l11All v0 h)) (wb1 (fun v0 (h:_)=>c_spec_l11TypeNames v0 h)) wb0 wb0 ⟨fun _=>?_,wb0⟩
  all_goals rfl
 |true =>
 cases p4:(dfNames s.defs).all isName with
 |false =>
  have e:srcOk s=false:=by rw[srcOk2,p4];simp
  rw[e]
  refine go (L:=_∧True) (wa15 @g1 @g2 @g3 @g4 @p1 @p2 @p3 @p4 @strR.eq_1 @d1 @n1 @d2 @n2 @d3 @n3) (wb5 (fun v0 (h:_)=>c_spec_IsName v0 h) (fun _=>u1) (fun _=>u2) (fun _=>u3) (fun v0 (h:_)=>c_spec_l11All v0 h)) (wb2 (fun v0 (h:_)=>c_spec_l11TypeNames v0 h) (fun v0 (h:_)=>c_spec_l11DefNames v0 h)) wb0 wb0 ⟨fun _=>?_,wb0⟩
  all_goals rfl
 |true =>
 cases p5:(dfNames s.convs).all isName with
 |false =>
  have e:srcOk s=false:=by rw[srcOk2,p5];simp
  rw[e]
  refine go (L:=_∧True) (wa16 @g1 @g2 @g3 @g4 @p1 @p2 @p3 @p4 @p5 @strR.eq_1 @d1 @n1 @d2 @n2 @d3 @n3) (wb5 (fun v0 (h:_)=>c_spec_IsName v0 h) (fun _=>u1) (fun _=>u2) (fun _=>u3) (fun v0 (h:_)=>c_spec_l11All v0 h)) (wb2 (fun v0 (h:_)=>c_spec_l11TypeNames v0 h) (fun v0 (h:_)=>c_spec_l11DefNames v0 h)) wb0 wb0 ⟨fun _=>?_,wb0⟩
  all_goals rfl
 |true =>
 have e:srcOk s=(s.types.all (fun t=>inRange t.size 0 8)&&(prgsOk s.defs&&prgsOk s.convs)):=by rw[srcOk2,g1,g2,g3,g4,p1,p2,p3,p4,p5];rfl
 rw[e]
 refine go (L:=_∧True) (wa16 @g1 @g2 @g3 @g4 @p1 @p2 @p3 @p4 @p5 @strR.eq_1 @d1 @n1 @d2 @n2 @d3 @n3) (wb5 (fun v0 (h:_)=>c_spec_IsName v0 h) (fun _=>u1) (fun _=>u2) (fun _=>u3) (fun v0 (h:_)=>c_spec_l11All v0 h)) (wb2 (fun v0 (h:_)=>c_spec_l11TypeNames v0 h) (fun v0 (h:_)=>c_spec_l11DefNames v0 h)) wb0 wb0 ⟨fun _=>?_,wb0⟩
 refine WPc.loopV (σ:=Nat) (fun i=>i≤s.types.length∧(s.types.take i).all (fun t=>inRange t.size 0 8)=true) (fun i=>s.types.length-i) (fun i=>[(3,.sc (.int .i64 i))]) (fun i=>[(1,110,6,[s.cs])]) [1] 0 (by simp[Sr.cs]) (by simp[Sr.cs]) (by simp) ?_
 rintro i ⟨hi,hall⟩ s hs
 simp at hs
 subst hs
 by_cases hlt:i<s.types.length
 ·have hv:=List.getElem?_eq_getElem hlt
  cases hw:inRange s.types[i].size 0 8 with
  |true =>
   refine go (L:=_∧True) (wa4 @Ty.cs.eq_1 @hlt @hw @Sr.cs.eq_1) (wb1 (fun v0 v1 v2 (_:True)=>c_spec_l1In v0 v1 v2)) wb0 wb0 wb0 ⟨fun _=>?_,wb0⟩
   refine⟨i+1,⟨⟨hlt,all_next hv hw hall⟩,by first|omega|(simp only;omega)|assumption⟩,rfl,rfl,?_,?_⟩<;>simp (disch:=omega) [wrap64,Sr.cs]
  |false =>
   rw[all_at hv hw,Bool.false_and]
   refine go (L:=_∧True) (wa4 @Ty.cs.eq_1 @hlt @hw @Sr.cs.eq_1) (wb1 (fun v0 v1 v2 (_:True)=>c_spec_l1In v0 v1 v2)) wb0 wb0 wb0 ⟨fun _=>?_,wb0⟩
   all_goals rfl
 obtain rfl:i=s.types.length:=by omega
 rw[List.take_length]at hall
 rw[hall,Bool.true_and]
 clear hall
 refine go (L:=_∧True) (wa2 @hlt @Sr.cs.eq_1) wb0 wb0 wb0 wb0 ⟨fun _=>?_,wb0⟩
 refine WPc.loopV (σ:=Nat) (fun i=>i≤s.defs.length∧(s.defs.take i).all (fun d=>progOk d.prog)=true) (fun i=>s.defs.length-i) (fun i=>[(4,.sc (.int .i64 i))]) (fun i=>[(1,110,6,[s.cs])]) [1] 0 (by simp[Sr.cs]) (by simp[Sr.cs]) (by simp) ?_
 rintro i ⟨hi2,hall⟩ s hs
 simp at hs
 subst hs
 by_cases hlt2:i<s.defs.length
 ·have hv:=List.getElem?_eq_getElem hlt2
  have u:=c_spec_ProgOk s.defs[i].prog (hs.defs _ (List.getElem_mem hlt2)).prog (fun c hc=>((hr.defs1 _ (List.getElem_mem hlt2)).prog.nodes1 c hc).args)
  simp only[Pg.av]at u
  cases hw:progOk s.defs[i].prog with
  |true =>
   refine go (L:=_∧True) (wa4 @Df.cs.eq_1 @hlt2 @hw @Sr.cs.eq_1) (wb1 (fun _=>u)) wb0 wb0 wb0 ⟨fun _=>?_,wb0⟩
   refine⟨i+1,⟨⟨hlt2,all_next hv hw hall⟩,by first|omega|(simp only;omega)|assumption⟩,rfl,rfl,?_,?_⟩<;>simp (disch:=omega) [wrap64,Sr.cs]
  |false =>
   rw[prgsOk,all_at hv hw,Bool.false_and]
   refine go (L:=_∧True) (wa4 @Df.cs.eq_1 @hlt2 @hw @Sr.cs.eq_1) (wb1 (fun _=>u)) wb0 wb0 wb0 ⟨fun _=>?_,wb0⟩
   all_goals rfl
 obtain rfl:i=s.defs.length:=by omega
 rw[List.take_length]at hall
 rw[prgsOk,hall,Bool.true_and]
 clear hall
 refine go (L:=_∧True) (wa2 @hlt2 @Sr.cs.eq_1) wb0 wb0 wb0 wb0 ⟨fun _=>?_,wb0⟩
 refine WPc.loopV (σ:=Nat) (fun i=>i≤s.convs.length∧(s.convs.take i).all (fun d=>progOk d.prog)=true) (fun i=>s.convs.length-i) (fun i=>[(5,.sc (.int .i64 i))]) (fun i=>[(1,110,6,[s.cs])]) [1] 0 (by simp[Sr.cs]) (by simp[Sr.cs]) (by simp) ?_
 rintro i ⟨hi3,hall⟩ s hs
 simp at hs
 subst hs
 by_cases hlt3:i<s.convs.length
 ·have hv:=List.getElem?_eq_getElem hlt3
  have u:=c_spec_ProgOk s.convs[i].prog (hs.convs _ (List.getElem_mem hlt3)).prog (fun c hc=>((hr.convs1 _ (List.getElem_mem hlt3)).prog.nodes1 c hc).args)
  simp only[Pg.av]at u
  cases hw:progOk s.convs[i].prog with
  |true =>
   refine go (L:=_∧True) (wa4 @Df.cs.eq_1 @hlt3 @hw @Sr.cs.eq_1) (wb1 (fun _=>u)) wb0 wb0 wb0 ⟨fun _=>?_,wb0⟩
   refine⟨i+1,⟨⟨hlt3,all_next hv hw hall⟩,by first|omega|(simp only;omega)|assumption⟩,rfl,rfl,?_,?_⟩<;>simp (disch:=omega) [wrap64,Sr.cs]
  |false =>
   rw[prgsOk,all_at hv hw]
   refine go (L:=_∧True) (wa4 @Df.cs.eq_1 @hlt3 @hw @Sr.cs.eq_1) (wb1 (fun _=>u)) wb0 wb0 wb0 ⟨fun _=>?_,wb0⟩
   all_goals rfl
 obtain rfl:i=s.convs.length:=by omega
 rw[List.take_length]at hall
 rw[prgsOk,hall]
 refine go (L:=_∧True) (wa2 @hlt3 @Sr.cs.eq_1) wb0 wb0 wb0 wb0 ⟨fun _=>?_,wb0⟩
 all_goals rfl
end Go.Own
set_option maxRecDepth 1000000
set_option maxHeartbeats 4000000
namespace Go.Own
attribute [local irreducible] WPc WPL WPS WPS1 WPS2 HAny endP
variable [Laid]
open Go.Lib Go.RowKit
def srNm(l:List Sr):List ByteArray:=mapT Sr.name l l.length
theorem srNm_len(l:List Sr):(srNm l).length=l.length:=mapT_len _ (Nat.le_refl _)
theorem srNm_get{l:List Sr}{i:Nat}(hi:i<l.length):(srNm l)[i]'(by rw[srNm_len];exact hi)=l[i].name:=by simp[srNm,mapT]
def okS(l:List Sr)(i:Nat)(s:Sr):Bool:=srcOk s&&(!isW ((srNm l).take i) s.name&&inAll s.imports (srNm l))
def ordOk(l:List Sr):Bool:=l.all (fun s=>srcOk s&&inAll s.imports (srNm l))&&onceL (srNm l)
theorem ordOk_eq(l:List Sr):ordOk l=allI l (okS l):=by
 have e:onceL (srNm l)=allI l fun k s => !isW ((srNm l).take k) s.name:=by
  have e2:srNm l=l.map Sr.name:=mapT_all _ _
  conv=>lhs;rw[onceL,e2,allI_map]
  rw[e2]
 rw[ordOk,e,all_get,allI_and]
 congr 1
 funext k s
 unfold okS
 cases srcOk s<;>cases inAll s.imports (srNm l)<;>cases isW ((srNm l).take k) s.name<;>rfl
def orderO(l:List Sr):Option (List ByteArray):=if ordOk l=true then ordL l l.length [] else none
theorem order_no{l:List Sr}(h:ordOk l=false):orderO l=none:=by simp[orderO,h]
theorem order_yes{l:List Sr}(h:ordOk l=true):orderO l=ordL l l.length []:=by simp[orderO,h]
theorem c_impl_Order[F:Facts.Of](l:List Sr)(h1:l.length≤1000000000)(hs:∀s,s∈l→s.sm)(hr:∀s,s∈l→s.rm):Con PP 77 [.fz (l.map Sr.cs)] [] [] (ordP (orderO l)):=by
 have d1:=dz_S (srNm_len l)
 have n1:=srNm_len l
 have u0:=c_impl_namesOfSrcs l h1
 have e0:mapT Sr.name l l.length=srNm l:=rfl
 rw[e0]at u0
 simp only[strR]at u0
 refine cof 33 Go.Proofs.Tryz.func77 fun G=>?_
 simp only[entSt,tmOf,List.append_nil,List.cons_append,List.nil_append]
 refine go (L:=_∧True) wb0 wb0 (wb1 (fun _=>u0)) wb0 wb0 ⟨fun _=>?_,wb0⟩
 refine WPc.renC 8 900001 fun K hK=>?_
 simp -implicitDefEqProofs
 refine hK _ ?_;clear hK K
 refine WPc.loopV (σ:=Nat) (fun i=>i≤l.length∧(l.take i).all (fun s=>srcOk s&&inAll s.imports (srNm l))=true) (fun i=>l.length-i) (fun i=>[(11,.sc (.int .i64 i)),(4,.sl 900001 1 [] 0 l.length)]) (fun i=>[(900001,9,1,(srNm l).map sC)]) [0,9,10] 0 (by simp) (by simp) (by simp) ?_
 rintro i ⟨hi,hall⟩ s hs
 simp at hs
 subst hs
 by_cases hlt:i<l.length
 ·have hv:=List.getElem?_eq_getElem hlt
  have g1:=c_impl_SrcOk l[i] (hs _ (List.getElem_mem hlt)) (hr _ (List.getElem_mem hlt))
  have g2:=c_impl_areIn l[i].imports (srNm l)
  simp only[Sr.av]at g1
  cases hw:srcOk l[i]with
  |false =>
   rw[order_no (by rw[ordOk,all_at hv (by rw[hw];rfl),Bool.false_and])]
   refine go (L:=_∧True) (wa5 @hlt @hw @d1 @n1 @Sr.cs.eq_1) (wb1 (fun _=>g1)) wb0 wb0 wb0 ⟨fun _=>?_,wb0⟩
   all_goals rfl
  |true =>
   cases hw2:inAll l[i].imports (srNm l) with
   |false =>
    rw[order_no (by rw[ordOk,all_at hv (by rw[hw,hw2];rfl),Bool.false_and])]
    refine go (L:=_∧True) (wa6 @hlt @hw @hw2 @d1 @n1 @Sr.cs.eq_1) (wb2 (fun _=>g1) (fun _=>g2)) wb0 wb0 wb0 ⟨fun _=>?_,wb0⟩
    all_goals rfl
   |true =>
    refine go (L:=_∧True) (wa6 @hlt @hw @hw2 @d1 @n1 @Sr.cs.eq_1) (wb2 (fun _=>g1) (fun _=>g2)) wb0 wb0 wb0 ⟨fun _=>?_,wb0⟩
    refine⟨i+1,⟨⟨hlt,all_next hv (by rw[hw,hw2];rfl) hall⟩,by first|omega|(simp only;omega)|assumption⟩,rfl,rfl,?_,?_⟩<;>simp (disch:=omega) [wrap64]
 obtain rfl:i=l.length:=by omega
 rw[List.take_length]at hall
 have g3:=c_impl_isOnce (srNm l)
 cases ho:onceL (srNm l) with
 |false =>
  rw[ho]at g3
  rw[order_no (by rw[ordOk,ho,Bool.and_false])]
  refine go (L:=_∧True) (wa3 @hlt @d1 @n1) (wb1 (fun _=>g3)) wb0 wb0 wb0 ⟨fun _=>?_,wb0⟩
  all_goals rfl
 |true =>
  rw[ho]at g3
  rw[order_yes (by rw[ordOk,ho,hall];rfl)]
  cases hres:ordL l l.length []with
  |none =>
   have g4:Con PP 151 [.fz (l.map Sr.cs)] [] [] (fun r o=>r=.tup [.sc (.slice none 0 0),.sc (.bool false)]):=order_con l h1 none hres
   refine go (L:=_∧True) (wa3 @hlt @d1 @n1) (wb2 (fun _=>g3) (fun _=>g4)) wb0 wb0 wb0 ⟨fun _=>?_,wb0⟩
   all_goals rfl
  |some y =>
   have g4:Con PP 151 [.fz (l.map Sr.cs)] [] [] (fun r o=>r=.tup [.sl 900009 1 [] 0 y.length,.sc (.bool true)]∧o=[(900009,strR y)]):=order_con l h1 (some y) hres
   simp only[strR]at g4
   refine gox (L:=_∧True) (wa3 @hlt @d1 @n1) (wb1 (fun _=>g3)) (wb1 (fun _=>g4)) wb0 (wb2 (outs [900009]) (nm 6 [30,900009])) ⟨fun _=>?_,wb0⟩
   all_goals (simp[ordP,strR])
end Go.Own
set_option maxRecDepth 1000000
set_option maxHeartbeats 4000000
namespace Go.Own
attribute [local irreducible] WPc WPL WPS WPS1 WPS2 HAny endP
variable [Laid]
open Go.Lib Go.RowKit
def srcsL(l:List En):List Sr:=mapT En.src l l.length
theorem srcsL_len(l:List En):(srcsL l).length=l.length:=mapT_len _ (Nat.le_refl _)
def srcRt(l:List Sr):Root:=(110,6,l.map Sr.cs)
theorem dz_SrT{l:List Sr}{n:Nat}(h:l.length=n):dzLL (List.take n (l.map Sr.cs))=l.map Sr.cs:=by rw[List.take_of_length_le (by simp[h]),dzc_Sr]
theorem c_impl_srcsOf(l:List En)(h1:l.length≤1000000000):Con PP 78 [.fz (l.map En.cs)] [] [] (fun r o=>r=.sl 900009 6 [] 0 l.length∧o=[(900009,srcRt (srcsL l))]):=by
 refine cof 19 Go.Proofs.Tryz.func78 fun G=>?_
 simp only[entSt,tmOf,List.append_nil,List.cons_append,List.nil_append]
 refine go (L:=_∧True) wb0 wb0 wb0 wb0 wb0 ⟨fun _=>?_,wb0⟩
 refine WPc.adoptK 3 900001 110 6 fun K hK=>?_
 simp -implicitDefEqProofs
 refine hK _ ?_;clear hK K
 refine WPc.loopV (σ:=Nat) (fun i=>i≤l.length) (fun i=>l.length-i) (fun i=>[(8,.sc (.int .i64 i)),(3,.sl 900001 6 [] 0 i)]) (fun i=>[(900001,110,6,(mapT En.src l i).map Sr.cs)]) [6,7] 0 (by simp[mapT_zero]) (by simp[mapT_zero]) (by simp) ?_
 rintro i hi s hs
 simp at hs
 subst hs
 by_cases hlt:i<l.length
 ·have hb1:(i+1)*136≤140737488355328:=by omega
  have hb2:i+1≤9223372036854775807:=by omega
  have hn:=mapT_next En.src hlt
  have hll:=mapT_len En.src hi
  refine go (L:=_∧True) (wa5 @En.cs.eq_1 @hlt @hb1 @hb2 @hll) wb0 wb0 wb0 wb0 ⟨fun _=>?_,wb0⟩
  refine⟨i+1,⟨hlt,by first|omega|(simp only;omega)|assumption⟩,rfl,rfl,?_,?_⟩<;>simp (disch:=omega) [wrap64,hn,Sr.cs]
 ·obtain rfl:i=l.length:=by omega
  refine gox (L:=_∧True) (wa1 @hlt) wb0 wb0 wb0 (wb2 (outs [900009]) (nm 6 [900001,900009])) ⟨fun _=>?_,wb0⟩
  all_goals (simp[srcRt,srcsL])
def hasV(x:In)(s:ByteArray):Bool:=isW x.names s && !decide (arg x.vals (fidx x.names s 0).toNat=noV)
def entOk(y:Sy)(e:En):Bool:=srcOk e.src&&(inRange e.ver 1 1000&&(inRange e.inst 0 ((y.insts.length:Int)-1)&&(match y.insts[e.inst.toNat]? with
 |some x=>decide (x.lib=e.src.name)&&(decide (x.ver=e.ver)&&e.src.exports.all (hasV x))
 |none=>false)))
theorem fidx_lt{s:ByteArray}:∀{l:List ByteArray} {k:Nat},isW l s=true→fidx l s k<((k+l.length:Nat):Int)
 |[],_,h=>by simp[isW]at h
 |x::l,k,h=>by
  simp only[fidx]
  split
  ·simp;omega
  ·rename_i hx
   have h':isW l s=true:=by
    rw[isW_cons,Bool.or_eq_true]at h
    rcases h with h|h
    ·exact absurd (of_decide_eq_true h) hx
    ·exact h
   have:=fidx_lt (l:=l) (k:=k+1) h'
   simp only[List.length_cons];omega
theorem sysOk_vals{y:Sy}(h:sysOk y=true){i:Nat}(hi:i<y.insts.length):y.insts[i].vals.length=y.insts[i].names.length:=by
 simp only[sysOk,Bool.and_eq_true]at h
 have:=allI_iff.1 h.2.2.2.2.1 i hi
 simp only[inOk,Bool.and_eq_true,decide_eq_true_eq]at this
 exact this.2.2.2.1
theorem c_impl_entOk[F:Facts.Of](w:Wd)(e:En)(hs:e.sm)(hr:e.rm)(hw:w.sys.insts.length≤1000000000)(hok:sysOk w.sys=true):Con PP 75 [.fp w.cs,e.av] [] [] (fun r o=>r=.sc (.bool (entOk w.sys e))):=by
 have g1:=c_impl_SrcOk e.src hs.src hr.src
 simp only[Sr.av]at g1
 have hwr:IntKind.i64.wrap ((w.sys.insts.length:Int)-1)=(w.sys.insts.length:Int)-1:=wrap64 (by omega) (by omega)
 refine cof 78 Go.Proofs.Tryz.func75 fun G=>?_
 simp only[entSt,tmOf,List.append_nil,List.cons_append,List.nil_append,Wd.cs,En.av]
 cases h1:srcOk e.src with
 |false =>
  have ee:entOk w.sys e=false:=by rw[entOk,h1,Bool.false_and]
  rw[ee]
  refine go (L:=_∧True) (wa2 @h1 @hwr) (wb1 (fun _=>g1)) wb0 wb0 (wb2 wb0 (sch 1 [] [(0,[]),(1,[]),(2,[]),(3,[]),(4,[]),(5,[]),(6,[]),(7,[]),(8,[]),(9,[]),(10,[]),(11,[]),(12,[]),(13,[]),(14,[]),(15,[]),(16,[]),(17,[]),(18,[]),(19,[]),(20,[]),(21,[]),(22,[])])) ⟨fun _=>?_,wb0⟩
  all_goals rfl
 |true =>
 cases h2:inRange e.ver 1 1000 with
 |false =>
  have ee:entOk w.sys e=false:=by rw[entOk,h2,Bool.false_and,Bool.and_false]
  rw[ee]
  refine go (L:=_∧True) (wa3 @h1 @h2 @hwr) (wb2 (fun v0 v1 v2 (_:True)=>c_impl_inRange v0 v1 v2) (fun _=>g1)) wb0 wb0 (wb2 wb0 (sch 1 [] [(0,[]),(1,[]),(2,[]),(3,[]),(4,[]),(5,[]),(6,[]),(7,[]),(8,[]),(9,[]),(10,[]),(11,[]),(12,[]),(13,[]),(14,[]),(15,[]),(16,[]),(17,[]),(18,[]),(19,[]),(20,[]),(21,[]),(22,[])])) ⟨fun _=>?_,wb0⟩
  all_goals rfl
 |true =>
 cases h3:inRange e.inst 0 ((w.sys.insts.length:Int)-1) with
 |false =>
  have ee:entOk w.sys e=false:=by rw[entOk,h3];simp
  rw[ee]
  refine go (L:=_∧True) (wa4 @h1 @h2 @h3 @hwr) (wb2 (fun v0 v1 v2 (_:True)=>c_impl_inRange v0 v1 v2) (fun _=>g1)) wb0 wb0 (wb2 wb0 (sch 1 [] [(0,[]),(1,[]),(2,[]),(3,[]),(4,[]),(5,[]),(6,[]),(7,[]),(8,[]),(9,[]),(10,[]),(11,[]),(12,[]),(13,[]),(14,[]),(15,[]),(16,[]),(17,[]),(18,[]),(19,[]),(20,[]),(21,[]),(22,[])])) ⟨fun _=>?_,wb0⟩
  all_goals rfl
 |true =>
 have h3':=h3
 simp only[inRange,Bool.and_eq_true,decide_eq_true_eq]at h3'
 obtain⟨a0,a1⟩:=h3'
 have a2:e.inst.toNat<w.sys.insts.length:=by omega
 have a3:e.inst<(w.sys.insts.length:Int):=by omega
 have ee:entOk w.sys e=(decide (w.sys.insts[e.inst.toNat].lib=e.src.name)&&(decide (w.sys.insts[e.inst.toNat].ver=e.ver)&&e.src.exports.all (hasV w.sys.insts[e.inst.toNat]))):=by
  rw[entOk,h1,h2,h3,List.getElem?_eq_getElem a2];rfl
 have hvl:=sysOk_vals hok a2
 rw[ee]
 generalize hx:w.sys.insts[e.inst.toNat]=x at hvl ⊢
 by_cases h4:x.lib=e.src.name
 rotate_left
 ·have h4':(x.lib=e.src.name)=False:=by simp[h4]
  rw[decide_eq_false h4,Bool.false_and]
  refine go (L:=_∧True) (wa10 @h1 @h2 @h3 @hwr @a0 @a2 @a3 @hx @In.cs.eq_1 @h4') (wb2 (fun v0 v1 v2 (_:True)=>c_impl_inRange v0 v1 v2) (fun _=>g1)) wb0 wb0 (wb3 wb0 (sch 1 [] [(0,[]),(1,[]),(2,[]),(3,[]),(4,[]),(5,[]),(6,[]),(7,[]),(8,[]),(9,[]),(10,[]),(11,[]),(12,[]),(13,[]),(14,[]),(15,[]),(16,[]),(17,[]),(18,[]),(19,[]),(20,[]),(21,[]),(22,[])]) (sch 3 [(9,[5]),(10,[3,5])] [(0,[5]),(1,[5]),(2,[5]),(3,[5]),(4,[5]),(5,[5]),(6,[5]),(7,[5]),(8,[5]),(9,[5]),(10,[3,5])])) ⟨fun _=>?_,wb0⟩
  all_goals rfl
 by_cases h5:x.ver=e.ver
 rotate_left
 ·have h4':(x.lib=e.src.name)=True:=by simp[h4]
  have h5':(x.ver=e.ver)=False:=by simp[h5]
  rw[decide_eq_false h5,Bool.false_and,Bool.and_false]
  refine go (L:=_∧True) (wa11 @h1 @h2 @h3 @hwr @a0 @a2 @a3 @hx @In.cs.eq_1 @h4' @h5') (wb2 (fun v0 v1 v2 (_:True)=>c_impl_inRange v0 v1 v2) (fun _=>g1)) wb0 wb0 (wb3 wb0 (sch 1 [] [(0,[]),(1,[]),(2,[]),(3,[]),(4,[]),(5,[]),(6,[]),(7,[]),(8,[]),(9,[]),(10,[]),(11,[]),(12,[]),(13,[]),(14,[]),(15,[]),(16,[]),(17,[]),(18,[]),(19,[]),(20,[]),(21,[]),(22,[])]) (sch 3 [(9,[5]),(10,[3,5])] [(0,[5]),(1,[5]),(2,[5]),(3,[5]),(4,[5]),(5,[5]),(6,[5]),(7,[5]),(8,[5]),(9,[5]),(10,[3,5])])) ⟨fun _=>?_,wb0⟩
  all_goals rfl
 have h4':(x.lib=e.src.name)=True:=by simp[h4]
 have h5':(x.ver=e.ver)=True:=by simp[h5]
 rw[decide_eq_true h4,decide_eq_true h5,Bool.true_and,Bool.true_and]
 refine go (L:=_∧True) (wa11 @h1 @h2 @h3 @hwr @a0 @a2 @a3 @hx @In.cs.eq_1 @h4' @h5') (wb2 (fun v0 v1 v2 (_:True)=>c_impl_inRange v0 v1 v2) (fun _=>g1)) wb0 wb0 (wb3 wb0 (sch 1 [] [(0,[]),(1,[]),(2,[]),(3,[]),(4,[]),(5,[]),(6,[]),(7,[]),(8,[]),(9,[]),(10,[]),(11,[]),(12,[]),(13,[]),(14,[]),(15,[]),(16,[]),(17,[]),(18,[]),(19,[]),(20,[]),(21,[]),(22,[])]) (sch 3 [(9,[5]),(10,[3,5])] [(0,[5]),(1,[5]),(2,[5]),(3,[5]),(4,[5]),(5,[5]),(6,[5]),(7,[5]),(8,[5]),(9,[5]),(10,[3,5])])) ⟨fun _=>?_,wb0⟩
 have hel:=hr.src.exports
 refine WPc.loopK (σ:=Nat) (fun i=>i≤e.src.exports.length∧(e.src.exports.take i).all (hasV x)=true) (fun i=>e.src.exports.length-i) (fun i=>[(58,.sc (.int .i64 i))]) [5,56,57] 0 (by simp) (by simp) (by simp) ?_
 rintro i ⟨hi,hall⟩ s hs
 simp at hs
 subst hs
 by_cases hlt:i<e.src.exports.length
 ·have hv:=List.getElem?_eq_getElem hlt
  have hb:i+1≤9223372036854775807:=by omega
  cases hm:isW x.names e.src.exports[i]with
  |false =>
   have hw:hasV x e.src.exports[i]=false:=by rw[hasV,hm,Bool.false_and]
   have hn:=fidx_none (k:=0) hm
   have u:=c_slices_IndexS x.names e.src.exports[i]
   rw[hn]at u
   rw[all_at hv hw]
   refine go (L:=_∧True) (wa3 @sC.eq_1 @In.cs.eq_1 @hlt) (wb1 (fun _=>u)) wb0 wb0 wb0 ⟨fun _=>?_,wb0⟩
   all_goals rfl
  |true =>
   have hk0:=fidx_ge (k:=0) hm
   have hk1:=fidx_lt (k:=0) hm
   have u:=c_slices_IndexS x.names e.src.exports[i]
   generalize hk:fidx x.names e.src.exports[i] 0=k at hk0 hk1 u
   have b0:¬k<0:=by omega
   have b1:k<(x.vals.length:Int):=by omega
   have b2:k.toNat<x.vals.length:=by omega
   have b3:0≤k:=by omega
   have ha:arg x.vals k.toNat=x.vals[k.toNat]:=by simp[arg,List.getElem?_eq_getElem b2]
   cases hz:V.eqb x.vals[k.toNat] noV with
   |true =>
    have hz':V.eqb ⟨x.vals[k.toNat].k,x.vals[k.toNat].n,x.vals[k.toNat].s⟩ ⟨0,0,⟨#[]⟩⟩=true:=hz
    have hw:hasV x e.src.exports[i]=false:=by
     rw[hasV,hm,hk,ha];simp only[V.eqb,decide_eq_true_eq]at hz;simp[hz]
    rw[all_at hv hw]
    refine go (L:=_∧True) (wa11 @sC.eq_1 @In.cs.eq_1 @hlt @hb @b0 @b1 @b2 @b3 @V.cs.eq_1 @V.av.eq_1 @hz') (wb1 (fun _=>u)) wb0 wb0 wb0 ⟨fun _=>?_,wb0⟩
    all_goals rfl
   |false =>
    have hz':V.eqb ⟨x.vals[k.toNat].k,x.vals[k.toNat].n,x.vals[k.toNat].s⟩ ⟨0,0,⟨#[]⟩⟩=false:=hz
    have hw:hasV x e.src.exports[i]=true:=by
     rw[hasV,hm,hk,ha];simp only[V.eqb,decide_eq_false_iff_not]at hz;simp[hz]
    refine go (L:=_∧True) (wa11 @sC.eq_1 @In.cs.eq_1 @hlt @hb @b0 @b1 @b2 @b3 @V.cs.eq_1 @V.av.eq_1 @hz') (wb1 (fun _=>u)) wb0 wb0 wb0 ⟨fun _=>?_,wb0⟩
    all_goals
     refine⟨i+1,⟨⟨hlt,all_next hv hw hall⟩,by first|omega|(simp only;omega)|assumption⟩,rfl,rfl,?_,?_⟩<;>simp (disch:=omega) [wrap64]
 ·obtain rfl:i=e.src.exports.length:=by omega
  rw[List.take_length]at hall
  rw[hall]
  refine go (L:=_∧True) (wa1 @hlt) wb0 wb0 wb0 wb0 ⟨fun _=>?_,wb0⟩
  all_goals rfl
end Go.Own
