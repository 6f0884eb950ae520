import Derived.Test.YtmbiikbjkcnnaaaGreatDoorTl
/- Lemmas for the proof in the last text of this claim. -/
set_option linter.unusedVariables false
set_option linter.unusedSimpArgs false
set_option linter.unusedSectionVars false
set_option maxRecDepth 1000000
set_option maxHeartbeats 8000000
namespace Go.Own
attribute [local irreducible] WPc WPL WPS WPS1 WPS2 HAny endP
variable [Laid]
open Go.Lib Go.RowKit
theorem dz_B{l:List Bool}{n:Nat}(h:l.length=n):dzLL (List.take n (l.map boC))=l.map boC:=by subst h;exact dz_boC1 l
theorem c_laws_FnExactReach[F:Facts.Of](w:Wd)(tw:w.tx):Con PP 5 [w.av] [] [] (fun r o=>r=.sc (.bool true)):=by
 have u1:=c_laws_szWorld w 1048576 (by omega) (by omega) tw
 by_cases g1:(costWd w:Int)≤1048576
 ·have e1:szR 1048576 (costWd w)=1048576-costWd w:=szR_ok g1
  rw[e1]at u1
  obtain⟨s1,r1⟩:=smallWd (c:=w) (by omega)
  have hle:=leWd w
  have u3:=c_laws_toWorld w r1
  have u7:=c_laws_eqWorld w
  have u8:=c_laws_markWorld w 1 (by omega) (by omega)
  have hp0:¬(1+(mkWd w:Int)<0):=by omega
  simp only[Wd.av]at u1 u3 u7
  cases hb:worldOk w with
  |false =>
   have u5:=c_spec_Reach0 w s1 r1 hb
   have u6:=c_impl_Reach0 w s1 r1 hb
   have v1:=eqLive0
   have v2:=markLive0 1
   have v3:=heldLive0 1 (by omega)
   simp only[Wd.av]at u5 u6
   clear tw s1 r1 hb
   refine cof 69 Go.Proofs.Tryz.func5 fun G=>?_
   simp only[entSt,tmOf,List.append_nil,List.cons_append,List.nil_append,Wd.av]
   refine gox (L:=_∧True) (wa2 @Wd.ow.eq_1 @hp0) (wb7 (fun _=>u1) (fun _=>u5) (fun _=>u6) (fun _=>v1) (fun _=>v2) (fun _=>v3) (fun _=>u7)) (wb2 (fun _=>u3) (fun _=>u8)) wb0 (wb8 wb0 (nm 1 [20,20,900001,0,0]) (nm 1 [20,20,900002,0,1]) (nm 1 [20,20,900003,0,2]) (nm 1 [20,20,900004,0,3]) (nm 1 [20,20,900005,0,4]) (nm 1 [20,20,900006,0,5]) (sch 10 [(2,[29,1029,2029])] [(0,[29,1029,2029]),(1,[]),(2,[29,1029,2029]),(3,[]),(4,[])])) ⟨fun _ hq=>?_,wb0⟩
   all_goals first|rfl|(exfalso;omega)|(simp_all;done)
  |true =>
   have u5:=c_spec_Reach1 w s1 r1 hb
   have u6:=c_impl_Reach1 w s1 r1 hb
   have q1:=r1.sys.heap
   have q2:=r1.sys.insts
   have q3:=r1.sys.units
   have z1:(liveW w).a.length+(liveW w).b.length+(liveW w).c.length≤10000000:=by
    have:=liveW_a w;have:=liveW_b w;have:=liveW_c w
    have:=costWd_len w
    omega
   generalize liveW w=L at u5 u6 z1
   obtain⟨a,b,c⟩:=L
   simp only at u5 u6 z1
   have v1:=c_laws_eqLive a b c
   have v2:=c_laws_markLive a b c 1 (by omega) (by omega)
   have v4:=c_laws_heldLive a.length b.length c.length 1 (by omega) (by omega)
   have hp1:¬(1+(a.length:Int)+b.length+c.length<0):=by omega
   have d1:=dz_B (marksB_len 1 a.length)
   have d2:=dz_B (marksB_len (1+a.length) b.length)
   have d3:=dz_B (marksB_len (1+a.length+b.length) c.length)
   simp only[Wd.av]at u5 u6
   simp only[lvO]at u5 u6
   clear tw s1 r1 hb
   refine cof 69 Go.Proofs.Tryz.func5 fun G=>?_
   simp only[entSt,tmOf,List.append_nil,List.cons_append,List.nil_append,Wd.av]
   repeat' (first
    |(refine WPL.detSt 20 20 900001 [] 0 0 ?_ ?_;(focus(simp;done));refine fun K hK=>?_;simp -implicitDefEqProofs +contextual [-Int.not_le,-Int.not_lt,-Nat.not_le,-Nat.not_lt,-List.all_eq_true,-List.all_eq_false,-List.any_eq_true,-List.any_eq_false,Wd.ow,hp0,hp1,marksB_len,d1,d2,d3];(repeat1' (first|apply hK|apply And.intro|intro _))<;>clear hK K)
    |(refine WPL.rnToSt tok 20 _ (by simp[isFn];rfl) fun K hK=>?_;simp -implicitDefEqProofs +contextual [-Int.not_le,-Int.not_lt,-Nat.not_le,-Nat.not_lt,-List.all_eq_true,-List.all_eq_false,-List.any_eq_true,-List.any_eq_false,Wd.ow,hp0,hp1,marksB_len,d1,d2,d3];(repeat1' (first|apply hK|apply And.intro|intro _))<;>clear hK K<;>(try dsimp only[List.drop]))
    |(refine WPL.detSt 20 20 900002 [] 0 1 ?_ ?_;(focus(simp;done));refine fun K hK=>?_;simp -implicitDefEqProofs +contextual [-Int.not_le,-Int.not_lt,-Nat.not_le,-Nat.not_lt,-List.all_eq_true,-List.all_eq_false,-List.any_eq_true,-List.any_eq_false,Wd.ow,hp0,hp1,marksB_len,d1,d2,d3];(repeat1' (first|apply hK|apply And.intro|intro _))<;>clear hK K)
    |(refine WPL.detSt 20 20 900003 [] 0 2 ?_ ?_;(focus(simp;done));refine fun K hK=>?_;simp -implicitDefEqProofs +contextual [-Int.not_le,-Int.not_lt,-Nat.not_le,-Nat.not_lt,-List.all_eq_true,-List.all_eq_false,-List.any_eq_true,-List.any_eq_false,Wd.ow,hp0,hp1,marksB_len,d1,d2,d3];(repeat1' (first|apply hK|apply And.intro|intro _))<;>clear hK K)
    |(refine WPL.detSt 20 20 900004 [] 0 3 ?_ ?_;(focus(simp;done));refine fun K hK=>?_;simp -implicitDefEqProofs +contextual [-Int.not_le,-Int.not_lt,-Nat.not_le,-Nat.not_lt,-List.all_eq_true,-List.all_eq_false,-List.any_eq_true,-List.any_eq_false,Wd.ow,hp0,hp1,marksB_len,d1,d2,d3];(repeat1' (first|apply hK|apply And.intro|intro _))<;>clear hK K)
    |(refine WPL.detSt 20 20 900005 [] 0 4 ?_ ?_;(focus(simp;done));refine fun K hK=>?_;simp -implicitDefEqProofs +contextual [-Int.not_le,-Int.not_lt,-Nat.not_le,-Nat.not_lt,-List.all_eq_true,-List.all_eq_false,-List.any_eq_true,-List.any_eq_false,Wd.ow,hp0,hp1,marksB_len,d1,d2,d3];(repeat1' (first|apply hK|apply And.intro|intro _))<;>clear hK K)
    |(refine WPL.detSt 20 20 900006 [] 0 5 ?_ ?_;(focus(simp;done));refine fun K hK=>?_;simp -implicitDefEqProofs +contextual [-Int.not_le,-Int.not_lt,-Nat.not_le,-Nat.not_lt,-List.all_eq_true,-List.all_eq_false,-List.any_eq_true,-List.any_eq_false,Wd.ow,hp0,hp1,marksB_len,d1,d2,d3];(repeat1' (first|apply hK|apply And.intro|intro _))<;>clear hK K)
    |(refine WPL.detSt 18 18 900021 [] 0 0 ?_ ?_;(focus(simp;done));refine fun K hK=>?_;simp -implicitDefEqProofs +contextual [-Int.not_le,-Int.not_lt,-Nat.not_le,-Nat.not_lt,-List.all_eq_true,-List.all_eq_false,-List.any_eq_true,-List.any_eq_false,Wd.ow,hp0,hp1,marksB_len,d1,d2,d3];(repeat1' (first|apply hK|apply And.intro|intro _))<;>clear hK K)
    |(refine WPL.rnToSt tok 18 _ (by simp[isFn];rfl) fun K hK=>?_;simp -implicitDefEqProofs +contextual [-Int.not_le,-Int.not_lt,-Nat.not_le,-Nat.not_lt,-List.all_eq_true,-List.all_eq_false,-List.any_eq_true,-List.any_eq_false,Wd.ow,hp0,hp1,marksB_len,d1,d2,d3];(repeat1' (first|apply hK|apply And.intro|intro _))<;>clear hK K<;>(try dsimp only[List.drop]))
    |(refine WPL.detSt 18 18 900022 [] 0 1 ?_ ?_;(focus(simp;done));refine fun K hK=>?_;simp -implicitDefEqProofs +contextual [-Int.not_le,-Int.not_lt,-Nat.not_le,-Nat.not_lt,-List.all_eq_true,-List.all_eq_false,-List.any_eq_true,-List.any_eq_false,Wd.ow,hp0,hp1,marksB_len,d1,d2,d3];(repeat1' (first|apply hK|apply And.intro|intro _))<;>clear hK K)
    |(refine WPL.detSt 18 18 900023 [] 0 2 ?_ ?_;(focus(simp;done));refine fun K hK=>?_;simp -implicitDefEqProofs +contextual [-Int.not_le,-Int.not_lt,-Nat.not_le,-Nat.not_lt,-List.all_eq_true,-List.all_eq_false,-List.any_eq_true,-List.any_eq_false,Wd.ow,hp0,hp1,marksB_len,d1,d2,d3];(repeat1' (first|apply hK|apply And.intro|intro _))<;>clear hK K)
    |apply WPc.sq
    |apply WPc.skip
    |refine WPL.nil ?_
    |(apply WPL.cL u1;(case q=>(repeat' (first|refine And.intro ?_ ?_|intro _|(with_reducible exact cleanOut_nil)|(refine Eqv.mk ?_;first|rfl|(simp -implicitDefEqProofs [Wd.ow,hp0,hp1,marksB_len,d1,d2,d3];done))|(simp -implicitDefEqProofs [Wd.ow,hp0,hp1,marksB_len,d1,d2,d3];done)|(simp -implicitDefEqProofs [Wd.ow,hp0,hp1,marksB_len,d1,d2,d3];rfl)|(simp;done)|(simp;rfl)|rfl))))
    |(apply WPL.cU u3;(case q=>(repeat' (first|refine And.intro ?_ ?_|intro _|(with_reducible exact cleanOut_nil)|(refine Eqv.mk ?_;first|rfl|(simp -implicitDefEqProofs [Wd.ow,hp0,hp1,marksB_len,d1,d2,d3];done))|(simp -implicitDefEqProofs [Wd.ow,hp0,hp1,marksB_len,d1,d2,d3];done)|(simp -implicitDefEqProofs [Wd.ow,hp0,hp1,marksB_len,d1,d2,d3];rfl)|(simp;done)|(simp;rfl)|rfl))))
    |(apply WPL.cU u5;(case q=>(repeat' (first|refine And.intro ?_ ?_|intro _|(with_reducible exact cleanOut_nil)|(refine Eqv.mk ?_;first|rfl|(simp -implicitDefEqProofs [Wd.ow,hp0,hp1,marksB_len,d1,d2,d3];done))|(simp -implicitDefEqProofs [Wd.ow,hp0,hp1,marksB_len,d1,d2,d3];done)|(simp -implicitDefEqProofs [Wd.ow,hp0,hp1,marksB_len,d1,d2,d3];rfl)|(simp;done)|(simp;rfl)|rfl))))
    |(apply WPL.cU u6;(case q=>(repeat' (first|refine And.intro ?_ ?_|intro _|(with_reducible exact cleanOut_nil)|(refine Eqv.mk ?_;first|rfl|(simp -implicitDefEqProofs [Wd.ow,hp0,hp1,marksB_len,d1,d2,d3];done))|(simp -implicitDefEqProofs [Wd.ow,hp0,hp1,marksB_len,d1,d2,d3];done)|(simp -implicitDefEqProofs [Wd.ow,hp0,hp1,marksB_len,d1,d2,d3];rfl)|(simp;done)|(simp;rfl)|rfl))))
    |((first|refine WPc.rq tok rfl fun K hK=>?_|refine WPL.rn tok _ (by simp[ahead,isFn];rfl) fun K hK=>?_);simp -implicitDefEqProofs +contextual [-Int.not_le,-Int.not_lt,-Nat.not_le,-Nat.not_lt,-List.all_eq_true,-List.all_eq_false,-List.any_eq_true,-List.any_eq_false,Wd.ow,hp0,hp1,marksB_len,d1,d2,d3];(repeat1' (first|apply hK|apply And.intro|intro _))<;>clear hK K<;>(try dsimp only[List.drop]))
    |(refine WPc.region ?_;simp only[List.toList_toArray])
    |(refine WPc.cond (by simp[-Bool.not_eq_eq_eq_not];rfl) (fun hq=>?_) (fun hq=>?_)<;>simp only[hq]<;>(try(exfalso;(simp only[decide_eq_true_eq,decide_eq_false_iff_not]at hq);omega))))
   skip
   repeat' (first
    |(refine WPc.detgRg (r:=17) 6 900051 2100 0 0 fun v0 K hK=>?_;simp -implicitDefEqProofs +contextual [-Int.not_le,-Int.not_lt,-Nat.not_le,-Nat.not_lt,-List.all_eq_true,-List.all_eq_false,-List.any_eq_true,-List.any_eq_false,Wd.ow,hp0,hp1,marksB_len,d1,d2,d3];(repeat1' (first|apply hK|apply And.intro|intro _))<;>clear hK K)
    |(refine WPc.detgRg (r:=17) 6 900052 2101 0 1 fun v1 K hK=>?_;simp -implicitDefEqProofs +contextual [-Int.not_le,-Int.not_lt,-Nat.not_le,-Nat.not_lt,-List.all_eq_true,-List.all_eq_false,-List.any_eq_true,-List.any_eq_false,Wd.ow,hp0,hp1,marksB_len,d1,d2,d3];(repeat1' (first|apply hK|apply And.intro|intro _))<;>clear hK K)
    |(refine WPc.detgRg (r:=17) 6 900053 2102 0 2 fun v2 K hK=>?_;simp -implicitDefEqProofs +contextual [-Int.not_le,-Int.not_lt,-Nat.not_le,-Nat.not_lt,-List.all_eq_true,-List.all_eq_false,-List.any_eq_true,-List.any_eq_false,Wd.ow,hp0,hp1,marksB_len,d1,d2,d3];(repeat1' (first|apply hK|apply And.intro|intro _))<;>clear hK K)
    |(refine WPL.detSt 22 22 900031 [] 0 0 ?_ ?_;(focus(simp;done));refine fun K hK=>?_;simp -implicitDefEqProofs +contextual [-Int.not_le,-Int.not_lt,-Nat.not_le,-Nat.not_lt,-List.all_eq_true,-List.all_eq_false,-List.any_eq_true,-List.any_eq_false,Wd.ow,hp0,hp1,marksB_len,d1,d2,d3];(repeat1' (first|apply hK|apply And.intro|intro _))<;>clear hK K)
    |(refine WPL.rnToSt tok 22 _ (by simp[isFn];rfl) fun K hK=>?_;simp -implicitDefEqProofs +contextual [-Int.not_le,-Int.not_lt,-Nat.not_le,-Nat.not_lt,-List.all_eq_true,-List.all_eq_false,-List.any_eq_true,-List.any_eq_false,Wd.ow,hp0,hp1,marksB_len,d1,d2,d3];(repeat1' (first|apply hK|apply And.intro|intro _))<;>clear hK K<;>(try dsimp only[List.drop]))
    |(refine WPL.detSt 22 22 900032 [] 0 1 ?_ ?_;(focus(simp;done));refine fun K hK=>?_;simp -implicitDefEqProofs +contextual [-Int.not_le,-Int.not_lt,-Nat.not_le,-Nat.not_lt,-List.all_eq_true,-List.all_eq_false,-List.any_eq_true,-List.any_eq_false,Wd.ow,hp0,hp1,marksB_len,d1,d2,d3];(repeat1' (first|apply hK|apply And.intro|intro _))<;>clear hK K)
    |(refine WPL.detSt 22 22 900033 [] 0 2 ?_ ?_;(focus(simp;done));refine fun K hK=>?_;simp -implicitDefEqProofs +contextual [-Int.not_le,-Int.not_lt,-Nat.not_le,-Nat.not_lt,-List.all_eq_true,-List.all_eq_false,-List.any_eq_true,-List.any_eq_false,Wd.ow,hp0,hp1,marksB_len,d1,d2,d3];(repeat1' (first|apply hK|apply And.intro|intro _))<;>clear hK K)
    |apply WPc.sq
    |apply WPc.skip
    |refine WPL.nil ?_
    |(apply WPL.cL v1;(case q=>(repeat' (first|refine And.intro ?_ ?_|intro _|(with_reducible exact cleanOut_nil)|(refine Eqv.mk ?_;first|rfl|(simp -implicitDefEqProofs [Wd.ow,hp0,hp1,marksB_len,d1,d2,d3];done))|(simp -implicitDefEqProofs [Wd.ow,hp0,hp1,marksB_len,d1,d2,d3];done)|(simp -implicitDefEqProofs [Wd.ow,hp0,hp1,marksB_len,d1,d2,d3];rfl)|(simp;done)|(simp;rfl)|rfl))))
    |(apply WPL.cU u8;(case q=>(repeat' (first|refine And.intro ?_ ?_|intro _|(with_reducible exact cleanOut_nil)|(refine Eqv.mk ?_;first|rfl|(simp -implicitDefEqProofs [Wd.ow,hp0,hp1,marksB_len,d1,d2,d3];done))|(simp -implicitDefEqProofs [Wd.ow,hp0,hp1,marksB_len,d1,d2,d3];done)|(simp -implicitDefEqProofs [Wd.ow,hp0,hp1,marksB_len,d1,d2,d3];rfl)|(simp;done)|(simp;rfl)|rfl))))
    |(apply WPS.cU (hc:=u3);(case ho=>exact rfl);(case q=>(repeat' (first|refine And.intro ?_ ?_|intro _|(with_reducible exact cleanOut_nil)|(refine Eqv.mk ?_;first|rfl|(simp -implicitDefEqProofs [Wd.ow,hp0,hp1,marksB_len,d1,d2,d3];done))|(simp -implicitDefEqProofs [Wd.ow,hp0,hp1,marksB_len,d1,d2,d3];done)|(simp -implicitDefEqProofs [Wd.ow,hp0,hp1,marksB_len,d1,d2,d3];rfl)|(simp;done)|(simp;rfl)|rfl))))
    |(apply WPS.cL (hc:=u7);(case ho=>exact rfl);(case q=>(repeat' (first|refine And.intro ?_ ?_|intro _|(with_reducible exact cleanOut_nil)|(refine Eqv.mk ?_;first|rfl|(simp -implicitDefEqProofs [Wd.ow,hp0,hp1,marksB_len,d1,d2,d3];done))|(simp -implicitDefEqProofs [Wd.ow,hp0,hp1,marksB_len,d1,d2,d3];done)|(simp -implicitDefEqProofs [Wd.ow,hp0,hp1,marksB_len,d1,d2,d3];rfl)|(simp;done)|(simp;rfl)|rfl))))
    |((first|refine WPc.rq tok rfl fun K hK=>?_|refine WPL.rn tok _ (by simp[ahead,isFn];rfl) fun K hK=>?_|refine WPS.rn tok _ (by simp[aheadS];rfl) fun K hK=>?_);simp -implicitDefEqProofs +contextual [-Int.not_le,-Int.not_lt,-Nat.not_le,-Nat.not_lt,-List.all_eq_true,-List.all_eq_false,-List.any_eq_true,-List.any_eq_false,Wd.ow,hp0,hp1,marksB_len,d1,d2,d3];(repeat1' (first|apply hK|apply And.intro|intro _))<;>clear hK K<;>(try dsimp only[List.drop]))
    |(refine WPc.sched (id:=10) tok [(2,[29,1029,2029])] [(0,[29,1029,2029]),(1,[]),(2,[29,1029,2029]),(3,[]),(4,[])] (by kernel_rfl) ?_)
    |(refine WPS.nil ?_)
    |(refine WPc.region ?_;simp only[List.toList_toArray])
    |(refine WPc.condF ?_ ?_;(focus(simp;done))))
   refine gox (L:=_∧True) (wa7 @Wd.ow.eq_1 @hp0 @hp1 @marksB_len @d1 @d2 @d3) wb0 (wb1 (fun v0 v1 v2 v3 (h:_∧_)=>c_laws_markLive v0 v1 v2 v3 h.1 h.2)) wb0 (wb4 wb0 (nm 12 [45,43,2100,0]) (nm 12 [45,43,2101,1]) (nm 12 [45,43,2102,2])) ⟨fun _=>?_,wb0⟩
   refine gox (L:=_∧True) (wa7 @Wd.ow.eq_1 @hp0 @hp1 @marksB_len @d1 @d2 @d3) (wb1 (fun _=>v4)) (wb2 (fun _=>u3) (fun _=>u6)) wb0 (wb4 wb0 (nm 12 [48,46,2100,0]) (nm 12 [48,46,2101,1]) (nm 12 [48,46,2102,2])) ⟨fun _=>?_,wb0⟩
   refine gox (L:=_∧True) (wa7 @Wd.ow.eq_1 @hp0 @hp1 @marksB_len @d1 @d2 @d3) (wb1 (fun v0 v1 v2 (_:True)=>c_laws_eqLive v0 v1 v2)) wb0 wb0 (wb4 wb0 (nm 1 [56,56,900041,0,0]) (nm 1 [56,56,900042,0,1]) (nm 1 [56,56,900043,0,2])) ⟨fun _=>?_,wb0⟩
   refine gox (L:=_∧True) (wa7 @Wd.ow.eq_1 @hp0 @hp1 @marksB_len @d1 @d2 @d3) (wb1 (fun _=>v4)) wb0 wb0 (wb5 wb0 (nm 12 [63,61,2100,0]) (nm 12 [63,61,2101,1]) (nm 12 [63,61,2102,2]) (nm 9 [])) ⟨fun _=>?_,wb0⟩
   all_goals first|rfl|(exfalso;omega)|(simp_all;done)
 ·have e1:szR 1048576 (costWd w) = -1:=szR_no (by omega)
  rw[e1]at u1
  simp only[Wd.av]at u1
  refine cof 69 Go.Proofs.Tryz.func5 fun G=>?_
  simp only[entSt,tmOf,List.append_nil,List.cons_append,List.nil_append,Wd.av]
  refine go (L:=_∧True) (wa1 @Wd.av.eq_1) (wb1 (fun _=>u1)) wb0 wb0 wb0 ⟨fun _=>?_,wb0⟩
  all_goals first|rfl|(exfalso;omega)|(simp_all;done)
end Go.Own
