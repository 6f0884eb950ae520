import Derived.Test.YtmbiikbjkcnnaaaGreatDoorTd
/- Lemmas for the proof in the last text of this claim. -/
set_option linter.unusedVariables false
set_option linter.unusedSimpArgs false
set_option linter.unusedSectionVars false
set_option maxRecDepth 1000000
set_option maxHeartbeats 4000000
namespace Go.Own
attribute [local irreducible] WPc WPL WPS WPS1 WPS2 HAny endP
variable [Laid]
open Go.Lib Go.RowKit
def szR(left:Int)(c:Nat):Int:=if (c:Int)≤left then left-c else -1
def costS(l:List ByteArray):Nat:=l.length+(l.map ByteArray.size).sum
def costV(l:List V):Nat:=l.length+(l.map fun v=>v.s.size).sum
def costC(c:Cl):Nat:=c.s.size+costS c.names+costV c.vals
def costH(h:List Cl):Nat:=h.length+(h.map costC).sum
theorem fit_int{a b:Int}(h:a=b):Fit (.sc (.int .i64 a)) (.sc (.int .i64 b)):=by subst h;simp
def sumTo{α:Type}(f:α→Nat)(l:List α)(i:Nat):Nat:=((l.take i).map f).sum
theorem sumTo_zero{α:Type}(f:α→Nat)(l:List α):sumTo f l 0=0:=by simp[sumTo]
theorem sumTo_all{α:Type}(f:α→Nat)(l:List α):sumTo f l l.length=(l.map f).sum:=by simp[sumTo]
theorem sumTo_next{α:Type}{f:α→Nat}{l:List α}{i:Nat}(hi:i<l.length):sumTo f l (i+1)=sumTo f l i+f l[i]:=by
 unfold sumTo
 rw[List.take_add_one,List.getElem?_eq_getElem hi,List.map_append,List.sum_append]
 simp
theorem sumTo_le{α:Type}(f:α→Nat)(l:List α)(i:Nat):sumTo f l i≤(l.map f).sum:=by
 unfold sumTo
 conv=>rhs;rw[←List.take_append_drop i l,List.map_append,List.sum_append]
 omega
theorem szR_no{left:Int}{c:Nat}(h:left<c):szR left c = -1:=by unfold szR;rw[if_neg (by omega)]
theorem szR_ok{left:Int}{c:Nat}(h:(c:Int)≤left):szR left c=left-c:=by unfold szR;rw[if_pos h]
theorem c_laws_szStringS(l:List ByteArray)(left:Int)(h0:0≤left)(h1:left≤1073741824)(hs:∀s,s∈l→s.size≤9223372036854775807):Con PP 55 [.fz (l.map sC),.sc (.int .i64 left)] [] [] (fun r o=>r=.sc (.int .i64 (szR left (costS l)))):=by
 refine Con.lenOf 0 Go.Proofs.Tryz.func55 (by kernel_rfl) (by kernel_rfl) rfl fun hlen=>?_
 simp at hlen
 refine cof 28 Go.Proofs.Tryz.func55 fun G=>?_
 simp only[entSt,tmOf,List.append_nil,List.cons_append,List.nil_append]
 have e1:IntKind.i64.wrap (left-l.length)=left-l.length:=wrap64 (by omega) (by omega)
 refine go (L:=_∧_∧True) (wa1 @e1) wb0 wb0 wb0 wb0 ⟨fun _ hq=>?_,fun _ hq=>?_,wb0⟩
 ·rw[szR_no (by unfold costS;simp at hq;omega)]
 simp only[decide_eq_false_iff_not]at hq
 refine WPc.loopK (σ:=Nat) (fun i=>i≤l.length∧l.length+sumTo ByteArray.size l i≤left) (fun i=>l.length-i) (fun i=>[(5,.sc (.int .i64 i)),(1,.sc (.int .i64 (left-l.length-sumTo ByteArray.size l i)))]) [0] 0 (by simp[sumTo_zero]) (by simp[sumTo_zero]) (⟨by omega,by rw[sumTo_zero];omega⟩) ?_
 rintro i ⟨hi,hle⟩ s hs
 simp at hs
 subst hs
 by_cases hlt:i<l.length
 ·have hz:=hs _ (List.getElem_mem hlt)
  have e2:IntKind.i64.wrap (left-l.length-sumTo ByteArray.size l i-l[i].size)=left-l.length-sumTo ByteArray.size l i-l[i].size:=wrap64 (by omega) (by omega)
  have e3:=sumTo_next (f:=ByteArray.size) hlt
  have e4:=sumTo_le ByteArray.size l (i+1)
  refine go (L:=_∧_∧True) (wa3 @sC.eq_1 @hlt @e2) wb0 wb0 wb0 wb0 ⟨fun _ hq=>?_,fun _ hq=>?_,wb0⟩
  ·rw[szR_no (by unfold costS;simp at hq;omega)]
  all_goals
   simp at hq
   refine⟨i+1,⟨⟨by omega,by omega⟩,by first|omega|(simp only;omega)|assumption⟩,rfl,rfl,?_,?_⟩<;>simp (disch:=omega) [wrap64,e3]
  all_goals (try rw[e2])
  all_goals (refine fit_int ?_;omega)
 ·obtain rfl:i=l.length:=by omega
  refine go (L:=_∧True) wb0 wb0 wb0 wb0 wb0 ⟨fun _=>?_,wb0⟩
  rw[sumTo_all]at hle
  rw[szR_ok (by unfold costS;omega),sumTo_all]
  simp only[costS,AV.sc.injEq,Value.int.injEq,true_and]
  omega
theorem c_laws_szValue(v:V)(left:Int)(h0:0≤left)(h1:left≤1073741824)(hs:v.s.size≤9223372036854775807):Con PP 189 [v.av,.sc (.int .i64 left)] [] [] (fun r o=>r=.sc (.int .i64 (szR left v.s.size))):=by
 have e1:IntKind.i64.wrap (left-v.s.size)=left-v.s.size:=wrap64 (by omega) (by omega)
 refine cof 13 Go.Proofs.Tryz.func189 fun G=>?_
 simp only[entSt,tmOf,List.append_nil,List.cons_append,List.nil_append,V.av]
 refine go (L:=_∧_∧True) (wa1 @e1) wb0 wb0 wb0 wb0 ⟨fun _ hq=>?_,fun _ hq=>?_,wb0⟩
 ·rw[szR_no (by simp at hq;omega)]
 ·rw[szR_ok (by simp at hq;omega)]
theorem c_laws_szValueS(l:List V)(left:Int)(h0:0≤left)(h1:left≤1073741824)(hs:∀v,v∈l→v.s.size≤9223372036854775807):Con PP 183 [.fz (l.map V.cs),.sc (.int .i64 left)] [] [] (fun r o=>r=.sc (.int .i64 (szR left (costV l)))):=by
 refine Con.lenOf 0 Go.Proofs.Tryz.func183 (by kernel_rfl) (by kernel_rfl) rfl fun hlen=>?_
 simp at hlen
 refine cof 27 Go.Proofs.Tryz.func183 fun G=>?_
 simp only[entSt,tmOf,List.append_nil,List.cons_append,List.nil_append]
 have e1:IntKind.i64.wrap (left-l.length)=left-l.length:=wrap64 (by omega) (by omega)
 refine go (L:=_∧_∧True) (wa1 @e1) wb0 wb0 wb0 wb0 ⟨fun _ hq=>?_,fun _ hq=>?_,wb0⟩
 ·rw[szR_no (by unfold costV;simp at hq;omega)]
 simp only[decide_eq_false_iff_not]at hq
 refine WPc.loopK (σ:=Nat) (fun i=>i≤l.length∧l.length+sumTo (fun v=>v.s.size) l i≤left) (fun i=>l.length-i) (fun i=>[(5,.sc (.int .i64 i)),(1,.sc (.int .i64 (left-l.length-sumTo (fun v=>v.s.size) l i)))]) [0] 0 (by simp[sumTo_zero]) (by simp[sumTo_zero]) (⟨by omega,by rw[sumTo_zero];omega⟩) ?_
 rintro i ⟨hi,hle⟩ s hs
 simp at hs
 subst hs
 by_cases hlt:i<l.length
 ·have hz:=hs _ (List.getElem_mem hlt)
  have e3:=sumTo_next (f:=fun v:V=>v.s.size) hlt
  have e4:=sumTo_le (fun v:V=>v.s.size) l (i+1)
  refine go (L:=_∧_∧True) (wa2 @V.cs.eq_1 @hlt) (wb1 (fun v0 v1 v2 v3 (h:_∧_∧_)=>c_laws_szValue ⟨v0,v1,v2⟩ v3 h.1 h.2.1 h.2.2)) wb0 wb0 wb0 ⟨fun _ hq=>?_,fun _ hq=>?_,wb0⟩
  ·simp only[decide_eq_true_eq]at hq
   have:¬((l[i].s.size:Int)≤left-l.length-sumTo (fun v=>v.s.size) l i):=fun h=>by rw[szR_ok h]at hq;omega
   rw[szR_no (by unfold costV;omega)]
  all_goals
   simp only[decide_eq_false_iff_not]at hq
   have hle2:(l[i].s.size:Int)≤left-l.length-sumTo (fun v=>v.s.size) l i:=by
    by_cases h:(l[i].s.size:Int)≤left-l.length-sumTo (fun v=>v.s.size) l i
    ·exact h
    ·rw[szR_no (by omega)]at hq;omega
   refine⟨i+1,⟨⟨by omega,by omega⟩,by first|omega|(simp only;omega)|assumption⟩,rfl,rfl,?_,?_⟩<;>simp (disch:=omega) [wrap64,e3,szR_ok hle2]
  all_goals (refine fit_int ?_;omega)
 ·obtain rfl:i=l.length:=by omega
  refine go (L:=_∧True) wb0 wb0 wb0 wb0 wb0 ⟨fun _=>?_,wb0⟩
  rw[sumTo_all]at hle
  rw[szR_ok (by unfold costV;omega),sumTo_all]
  simp only[costV,AV.sc.injEq,Value.int.injEq,true_and]
  omega
end Go.Own
set_option maxRecDepth 1000000
set_option maxHeartbeats 4000000
namespace Go.Own
attribute [local irreducible] WPc WPL WPS WPS1 WPS2 HAny endP
variable [Laid]
open Go.Lib Go.RowKit
def V.tx(v:V):Prop:=v.s.size≤9223372036854775807
structure Cl.tx(c:Cl):Prop where
 s:c.s.size≤9223372036854775807
 names:∀x,x∈c.names→x.size≤9223372036854775807
 vals:∀v,v∈c.vals→v.s.size≤9223372036854775807
theorem szR_neg{left:Int}{c:Nat}(h0:0≤left)(hq:szR left c<0):left<c:=by
 by_cases h:(c:Int)≤left
 ·rw[szR_ok h]at hq;omega
 ·omega
theorem szR_pos{left:Int}{c:Nat}(hq:¬szR left c<0):(c:Int)≤left:=by
 by_cases h:(c:Int)≤left
 ·exact h
 ·rw[szR_no (by omega)]at hq;omega
theorem c_laws_szCell(c:Cl)(left:Int)(h0:0≤left)(h1:left≤1073741824)(hs:c.tx):Con PP 110 [c.av,.sc (.int .i64 left)] [] [] (fun r o=>r=.sc (.int .i64 (szR left (costC c)))):=by
 have t1:=hs.s
 have t2:=hs.names
 have t3:=hs.vals
 have e1:IntKind.i64.wrap (left-c.s.size)=left-c.s.size:=wrap64 (by omega) (by omega)
 refine cof 25 Go.Proofs.Tryz.func110 fun G=>?_
 simp only[entSt,tmOf,List.append_nil,List.cons_append,List.nil_append,Cl.av]
 by_cases g1:(c.s.size:Int)≤left
 ·by_cases g2:(costS c.names:Int)≤left-c.s.size
  ·have e2:=szR_ok g2
   by_cases g3:(costV c.vals:Int)≤left-c.s.size-costS c.names
   ·have e3:=szR_ok g3
    refine go (L:=_∧True) (wa3 @e1 @e2 @e3) (wb2 (fun v0 v1 (h:_∧_∧_)=>c_laws_szStringS v0 v1 h.1 h.2.1 h.2.2) (fun v0 v1 (h:_∧_∧_)=>c_laws_szValueS v0 v1 h.1 h.2.1 h.2.2)) wb0 wb0 wb0 ⟨fun _ hq hq hq=>?_,wb0⟩
    all_goals (simp only[decide_eq_true_eq,decide_eq_false_iff_not]at *)
    all_goals first
     |(exfalso;omega)
     |(rw[szR_ok (by unfold costC;omega)];simp only[costC,AV.sc.injEq,Value.int.injEq,true_and];omega)
   ·have e3:szR (left-c.s.size-costS c.names) (costV c.vals) = -1:=szR_no (by omega)
    refine go (L:=_∧True) (wa3 @e1 @e2 @e3) (wb2 (fun v0 v1 (h:_∧_∧_)=>c_laws_szStringS v0 v1 h.1 h.2.1 h.2.2) (fun v0 v1 (h:_∧_∧_)=>c_laws_szValueS v0 v1 h.1 h.2.1 h.2.2)) wb0 wb0 wb0 ⟨fun _ hq hq=>?_,wb0⟩
    all_goals (simp only[decide_eq_true_eq,decide_eq_false_iff_not]at *)
    all_goals first
     |(exfalso;omega)
     |(rw[szR_no (by unfold costC;omega)])
  ·have e2:szR (left-c.s.size) (costS c.names) = -1:=szR_no (by omega)
   refine go (L:=_∧True) (wa2 @e1 @e2) (wb1 (fun v0 v1 (h:_∧_∧_)=>c_laws_szStringS v0 v1 h.1 h.2.1 h.2.2)) wb0 wb0 wb0 ⟨fun _ hq=>?_,wb0⟩
   all_goals (simp only[decide_eq_true_eq,decide_eq_false_iff_not]at *)
   all_goals first
    |(exfalso;omega)
    |(rw[szR_no (by unfold costC;omega)])
 ·refine go (L:=_∧True) (wa1 @e1) wb0 wb0 wb0 wb0 ⟨fun _ hq=>?_,wb0⟩
  all_goals (simp only[decide_eq_true_eq,decide_eq_false_iff_not]at *)
  all_goals first
   |(exfalso;omega)
   |(rw[szR_no (by unfold costC;omega)])
theorem c_laws_szCellS(l:List Cl)(left:Int)(h0:0≤left)(h1:left≤1073741824)(hs:∀c,c∈l→c.tx):Con PP 52 [.fz (l.map Cl.cs),.sc (.int .i64 left)] [] [] (fun r o=>r=.sc (.int .i64 (szR left (costH l)))):=by
 refine Con.lenOf 0 Go.Proofs.Tryz.func52 (by kernel_rfl) (by kernel_rfl) rfl fun hlen=>?_
 simp at hlen
 refine cof 27 Go.Proofs.Tryz.func52 fun G=>?_
 simp only[entSt,tmOf,List.append_nil,List.cons_append,List.nil_append]
 have e1:IntKind.i64.wrap (left-l.length)=left-l.length:=wrap64 (by omega) (by omega)
 refine go (L:=_∧_∧True) (wa1 @e1) wb0 wb0 wb0 wb0 ⟨fun _ hq=>?_,fun _ hq=>?_,wb0⟩
 ·rw[szR_no (by unfold costH;simp at hq;omega)]
 simp only[decide_eq_false_iff_not]at hq
 refine WPc.loopK (σ:=Nat) (fun i=>i≤l.length∧l.length+sumTo costC l i≤left) (fun i=>l.length-i) (fun i=>[(5,.sc (.int .i64 i)),(1,.sc (.int .i64 (left-l.length-sumTo costC l i)))]) [0] 0 (by simp[sumTo_zero]) (by simp[sumTo_zero]) (⟨by omega,by rw[sumTo_zero];omega⟩) ?_
 rintro i ⟨hi,hle⟩ s hs
 simp at hs
 subst hs
 by_cases hlt:i<l.length
 ·have hz:=hs _ (List.getElem_mem hlt)
  have e3:=sumTo_next (f:=costC) hlt
  have e4:=sumTo_le costC l (i+1)
  have ee:costC ⟨l[i].k,l[i].s,l[i].a,l[i].b,l[i].names,l[i].vals⟩=costC l[i]:=rfl
  refine go (L:=_∧_∧True) (wa3 @Cl.cs.eq_1 @hlt @ee) (wb1 (fun v0 v1 v2 v3 v4 v5 v6 (h:_∧_∧_)=>c_laws_szCell ⟨v0,v1,v2,v3,v4,v5⟩ v6 h.1 h.2.1 h.2.2)) wb0 wb0 wb0 ⟨fun _ hq=>?_,fun _ hq=>?_,wb0⟩
  all_goals try rw[ee]at hq
  ·simp only[decide_eq_true_eq]at hq
   have:=szR_neg (by omega) hq
   rw[szR_no (by unfold costH;omega)]
  all_goals
   try simp only[decide_eq_false_iff_not]at hq
   have hle2:=szR_pos hq
   refine⟨i+1,⟨⟨by omega,by omega⟩,by first|omega|(simp only;omega)|assumption⟩,rfl,rfl,?_,?_⟩<;>simp (disch:=omega) [wrap64,e3,ee,szR_ok hle2]
  all_goals (refine fit_int ?_;omega)
 ·obtain rfl:i=l.length:=by omega
  refine go (L:=_∧True) wb0 wb0 wb0 wb0 wb0 ⟨fun _=>?_,wb0⟩
  rw[sumTo_all]at hle
  rw[szR_ok (by unfold costH;omega),sumTo_all]
  simp only[costH,AV.sc.injEq,Value.int.injEq,true_and]
  omega
end Go.Own
set_option maxRecDepth 1000000
set_option maxHeartbeats 4000000
namespace Go.Own
attribute [local irreducible] WPc WPL WPS WPS1 WPS2 HAny endP
variable [Laid]
open Go.Lib Go.RowKit
theorem c_laws_eqStringS(l:List ByteArray):Con PP 85 [.fz (l.map sC),.fz (l.map sC)] [] [] (fun r o=>r=.sc (.bool true)):=by
 refine Con.lenOf 0 Go.Proofs.Tryz.func85 (by kernel_rfl) (by kernel_rfl) rfl fun hlen=>?_
 simp at hlen
 refine cof 26 Go.Proofs.Tryz.func85 fun G=>?_
 simp only[entSt,tmOf,List.append_nil,List.cons_append,List.nil_append]
 refine go (L:=_∧True) wb0 wb0 wb0 wb0 wb0 ⟨fun _=>?_,wb0⟩
 refine WPc.loopK (σ:=Nat) (fun i=>i≤l.length) (fun i=>l.length-i) (fun i=>[(5,.sc (.int .i64 i))]) [0,1] 0 (by simp) (by simp) (by simp) ?_
 rintro i hi s hs
 simp at hs
 subst hs
 by_cases hlt:i<l.length
 ·refine go (L:=_∧True) (wa2 @sC.eq_1 @hlt) wb0 wb0 wb0 (wb2 wb0 (sch 6 [] [(0,[]),(1,[]),(2,[]),(3,[]),(4,[]),(5,[]),(6,[]),(7,[]),(8,[])])) ⟨fun _=>?_,wb0⟩
  all_goals
   refine⟨i+1,⟨hlt,by first|omega|(simp only;omega)|assumption⟩,rfl,rfl,?_,?_⟩<;>simp (disch:=omega) [wrap64]
 ·refine go (L:=_∧True) (wa1 @hlt) wb0 wb0 wb0 wb0 ⟨fun _=>?_,wb0⟩
  all_goals rfl
theorem c_laws_eqValue(v:V):Con PP 236 [v.av,v.av] [] [] (fun r o=>r=.sc (.bool true)):=by
 refine cof 20 Go.Proofs.Tryz.func236 fun G=>?_
 simp only[entSt,tmOf,List.append_nil,List.cons_append,List.nil_append,V.av]
 refine go (L:=_∧True) wb0 wb0 wb0 wb0 wb0 ⟨fun _=>?_,wb0⟩
 all_goals rfl
theorem c_laws_eqValueS(l:List V):Con PP 230 [.fz (l.map V.cs),.fz (l.map V.cs)] [] [] (fun r o=>r=.sc (.bool true)):=by
 refine Con.lenOf 0 Go.Proofs.Tryz.func230 (by kernel_rfl) (by kernel_rfl) rfl fun hlen=>?_
 simp at hlen
 refine cof 27 Go.Proofs.Tryz.func230 fun G=>?_
 simp only[entSt,tmOf,List.append_nil,List.cons_append,List.nil_append]
 refine go (L:=_∧True) wb0 wb0 wb0 wb0 wb0 ⟨fun _=>?_,wb0⟩
 refine WPc.loopK (σ:=Nat) (fun i=>i≤l.length) (fun i=>l.length-i) (fun i=>[(5,.sc (.int .i64 i))]) [0,1] 0 (by simp) (by simp) (by simp) ?_
 rintro i hi s hs
 simp at hs
 subst hs
 by_cases hlt:i<l.length
 ·refine go (L:=_∧True) (wa3 @V.cs.eq_1 @V.av.eq_1 @hlt) (wb1 (fun v0 v1 v2 (_:True)=>c_laws_eqValue ⟨v0,v1,v2⟩)) wb0 wb0 (wb2 wb0 (sch 6 [] [(0,[]),(1,[]),(2,[]),(3,[]),(4,[]),(5,[]),(6,[]),(7,[]),(8,[]),(9,[])])) ⟨fun _=>?_,wb0⟩
  all_goals
   refine⟨i+1,⟨hlt,by first|omega|(simp only;omega)|assumption⟩,rfl,rfl,?_,?_⟩<;>simp (disch:=omega) [wrap64]
 ·refine go (L:=_∧True) (wa1 @hlt) wb0 wb0 wb0 wb0 ⟨fun _=>?_,wb0⟩
  all_goals rfl
theorem c_laws_eqCell(c:Cl):Con PP 158 [c.av,c.av] [] [] (fun r o=>r=.sc (.bool true)):=by
 refine cof 37 Go.Proofs.Tryz.func158 fun G=>?_
 simp only[entSt,tmOf,List.append_nil,List.cons_append,List.nil_append,Cl.av]
 refine go (L:=_∧True) wb0 (wb2 (fun v0 (_:True)=>c_laws_eqStringS v0) (fun v0 (_:True)=>c_laws_eqValueS v0)) wb0 wb0 wb0 ⟨fun _=>?_,wb0⟩
 all_goals rfl
theorem c_laws_eqCellS(l:List Cl):Con PP 82 [.fz (l.map Cl.cs),.fz (l.map Cl.cs)] [] [] (fun r o=>r=.sc (.bool true)):=by
 refine Con.lenOf 0 Go.Proofs.Tryz.func82 (by kernel_rfl) (by kernel_rfl) rfl fun hlen=>?_
 simp at hlen
 refine cof 27 Go.Proofs.Tryz.func82 fun G=>?_
 simp only[entSt,tmOf,List.append_nil,List.cons_append,List.nil_append]
 refine go (L:=_∧True) wb0 wb0 wb0 wb0 wb0 ⟨fun _=>?_,wb0⟩
 refine WPc.loopK (σ:=Nat) (fun i=>i≤l.length) (fun i=>l.length-i) (fun i=>[(5,.sc (.int .i64 i))]) [0,1] 0 (by simp) (by simp) (by simp) ?_
 rintro i hi s hs
 simp at hs
 subst hs
 by_cases hlt:i<l.length
 ·refine go (L:=_∧True) (wa3 @Cl.cs.eq_1 @Cl.av.eq_1 @hlt) (wb1 (fun v0 v1 v2 v3 v4 v5 (_:True)=>c_laws_eqCell ⟨v0,v1,v2,v3,v4,v5⟩)) wb0 wb0 (wb2 wb0 (sch 6 [] [(0,[]),(1,[]),(2,[]),(3,[]),(4,[]),(5,[]),(6,[]),(7,[]),(8,[]),(9,[])])) ⟨fun _=>?_,wb0⟩
  all_goals
   refine⟨i+1,⟨hlt,by first|omega|(simp only;omega)|assumption⟩,rfl,rfl,?_,?_⟩<;>simp (disch:=omega) [wrap64]
 ·refine go (L:=_∧True) (wa1 @hlt) wb0 wb0 wb0 wb0 ⟨fun _=>?_,wb0⟩
  all_goals rfl
end Go.Own
set_option maxRecDepth 1000000
set_option maxHeartbeats 4000000
namespace Go.Own
attribute [local irreducible] WPc WPL WPS WPS1 WPS2 HAny endP
variable [Laid]
open Go.Lib Go.RowKit
def nC(x:Int):List C:=[.sc (.int .i64 x)]
@[simp] theorem nC.len(c:Int):(nC c).length=1:=rfl
@[simp] theorem nC.frz(c:Int):(nC c).map Own.frz=nC c:=rfl
@[simp] theorem nC.pln(c:Int):(nC c).all plainC=true:=rfl
@[simp] theorem nC.lenA(l:List Int):lenAll 1 (l.map nC)=true:=lenAll_map nC.len l
@[simp] theorem nC.frzA(l:List Int):frzAll (l.map nC)=l.map nC:=frzAll_map nC.frz l
@[simp] theorem nC.plnA(l:List Int):plainAll (l.map nC)=true:=plainAll_map nC.pln l
structure Nd where
 k:Int
 n:Int
 s:ByteArray
 names:List ByteArray
 args:List Int
 deriving DecidableEq
def Nd.cs(c:Nd):List C:=[.sc (.int .i64 c.k),.sc (.int .i64 c.n),.sc (.string c.s),.fz (c.names.map sC),.fz (c.args.map nC)]
def Nd.av(c:Nd):AV:=.agg [.sc (.int .i64 c.k),.sc (.int .i64 c.n),.sc (.string c.s),.fz (c.names.map sC),.fz (c.args.map nC)]
def Nd.ow(c:Nd):List C:=[.sc (.int .i64 c.k),.sc (.int .i64 c.n),.sc (.string c.s),.sl 9 1 (c.names.map sC),.sl 3 1 (c.args.map nC)]
@[simp] theorem Nd.len(c:Nd):c.cs.length=5:=rfl
@[simp] theorem Nd.frz(c:Nd):c.cs.map Own.frz=c.cs:=rfl
@[simp] theorem Nd.pln(c:Nd):c.cs.all plainC=true:=rfl
@[simp] theorem Nd.lenA(l:List Nd):lenAll 5 (l.map Nd.cs)=true:=lenAll_map Nd.len l
@[simp] theorem Nd.frzA(l:List Nd):frzAll (l.map Nd.cs)=l.map Nd.cs:=frzAll_map Nd.frz l
@[simp] theorem Nd.plnA(l:List Nd):plainAll (l.map Nd.cs)=true:=plainAll_map Nd.pln l
@[simp] theorem Nd.lenO(c:Nd):c.ow.length=5:=rfl
@[simp] theorem Nd.lenOA(l:List Nd):lenAll 5 (l.map Nd.ow)=true:=lenAll_map Nd.lenO l
theorem dz_nC(l:List Int):dzLL (l.map nC)=l.map nC:=by rw[dzLL_map,List.map_map];rfl
attribute [simp] dz_nC
@[simp] theorem dz_nC1(l:List Int):dzLL (List.take l.length (l.map nC))=l.map nC:=by
 rw[List.take_of_length_le (by simp),dz_nC]
@[simp] theorem dz_nd(h:List Nd):dzLL (h.map Nd.ow)=h.map Nd.cs:=by
 rw[dzLL_map,List.map_map]
 refine List.map_congr_left fun c _=>?_
 simp[Nd.ow,Nd.cs,dzL,deepFz,dz_sC]
@[simp] theorem dz_nd1(h:List Nd):dzLL (List.take h.length (h.map Nd.ow))=h.map Nd.cs:=by
 rw[List.take_of_length_le (by simp),dz_nd]
@[simp] theorem sc_nC(l:List Int):scLL (l.map nC)=true:=by
 induction l with
 |nil=>rfl
 |cons x l ih=>simp only[List.map_cons,scLL,ih];rfl
@[simp] theorem sc_nd(l:List Nd):scLL (l.map Nd.ow)=true:=by
 induction l with
 |nil=>rfl
 |cons x l ih=>simp only[List.map_cons,scLL,ih,Nd.ow,scL,scC,sc_sC,sc_nC];rfl
structure Pg where
 nodes:List Nd
 root:Int
 deriving DecidableEq
def Pg.av(p:Pg):AV:=.agg [.fz (p.nodes.map Nd.cs),.sc (.int .i64 p.root)]
def nodesR(h:List Nd):Root:=(206,5,h.map Nd.ow)
structure Nd.tx(c:Nd):Prop where
 s:c.s.size≤9223372036854775807
 names:∀x,x∈c.names→x.size≤9223372036854775807
def costN(c:Nd):Nat:=c.s.size+costS c.names+c.args.length
def costP(h:List Nd):Nat:=h.length+(h.map costN).sum
theorem c_laws_szIntS(l:List Int)(left:Int)(h0:0≤left)(h1:left≤1073741824):Con PP 293 [.fz (l.map nC),.sc (.int .i64 left)] [] [] (fun r o=>r=.sc (.int .i64 (szR left l.length))):=by
 refine Con.lenOf 0 Go.Proofs.Tryz.func293 (by kernel_rfl) (by kernel_rfl) rfl fun hlen=>?_
 simp at hlen
 refine cof 12 Go.Proofs.Tryz.func293 fun G=>?_
 simp only[entSt,tmOf,List.append_nil,List.cons_append,List.nil_append]
 have e1:IntKind.i64.wrap (left-l.length)=left-l.length:=wrap64 (by omega) (by omega)
 refine go (L:=_∧_∧True) (wa1 @e1) wb0 wb0 wb0 wb0 ⟨fun _ hq=>?_,fun _ hq=>?_,wb0⟩
 ·rw[szR_no (by simp at hq;omega)]
 ·rw[szR_ok (by simp at hq;omega)]
theorem c_laws_szNode(c:Nd)(left:Int)(h0:0≤left)(h1:left≤1073741824)(hs:c.tx):Con PP 280 [c.av,.sc (.int .i64 left)] [] [] (fun r o=>r=.sc (.int .i64 (szR left (costN c)))):=by
 have t1:=hs.s
 have t2:=hs.names
 have e1:IntKind.i64.wrap (left-c.s.size)=left-c.s.size:=wrap64 (by omega) (by omega)
 refine cof 25 Go.Proofs.Tryz.func280 fun G=>?_
 simp only[entSt,tmOf,List.append_nil,List.cons_append,List.nil_append,Nd.av]
 by_cases g1:(c.s.size:Int)≤left
 ·by_cases g2:(costS c.names:Int)≤left-c.s.size
  ·have e2:=szR_ok g2
   by_cases g3:(c.args.length:Int)≤left-c.s.size-costS c.names
   ·have e3:=szR_ok g3
    refine go (L:=_∧True) (wa3 @e1 @e2 @e3) (wb2 (fun v0 v1 (h:_∧_∧_)=>c_laws_szStringS v0 v1 h.1 h.2.1 h.2.2) (fun v0 v1 (h:_∧_)=>c_laws_szIntS v0 v1 h.1 h.2)) wb0 wb0 wb0 ⟨fun _ hq hq hq=>?_,wb0⟩
    all_goals (simp only[decide_eq_true_eq,decide_eq_false_iff_not]at *)
    all_goals first
     |(exfalso;omega)
     |(rw[szR_ok (by unfold costN;omega)];simp only[costN,AV.sc.injEq,Value.int.injEq,true_and];omega)
   ·have e3:szR (left-c.s.size-costS c.names) c.args.length = -1:=szR_no (by omega)
    refine go (L:=_∧True) (wa3 @e1 @e2 @e3) (wb2 (fun v0 v1 (h:_∧_∧_)=>c_laws_szStringS v0 v1 h.1 h.2.1 h.2.2) (fun v0 v1 (h:_∧_)=>c_laws_szIntS v0 v1 h.1 h.2)) wb0 wb0 wb0 ⟨fun _ hq hq=>?_,wb0⟩
    all_goals (simp only[decide_eq_true_eq,decide_eq_false_iff_not]at *)
    all_goals first
     |(exfalso;omega)
     |(rw[szR_no (by unfold costN;omega)])
  ·have e2:szR (left-c.s.size) (costS c.names) = -1:=szR_no (by omega)
   refine go (L:=_∧True) (wa2 @e1 @e2) (wb1 (fun v0 v1 (h:_∧_∧_)=>c_laws_szStringS v0 v1 h.1 h.2.1 h.2.2)) wb0 wb0 wb0 ⟨fun _ hq=>?_,wb0⟩
   all_goals (simp only[decide_eq_true_eq,decide_eq_false_iff_not]at *)
   all_goals first
    |(exfalso;omega)
    |(rw[szR_no (by unfold costN;omega)])
 ·refine go (L:=_∧True) (wa1 @e1) wb0 wb0 wb0 wb0 ⟨fun _ hq=>?_,wb0⟩
  all_goals (simp only[decide_eq_true_eq,decide_eq_false_iff_not]at *)
  all_goals first
   |(exfalso;omega)
   |(rw[szR_no (by unfold costN;omega)])
theorem c_laws_szNodeS(l:List Nd)(left:Int)(h0:0≤left)(h1:left≤1073741824)(hs:∀c,c∈l→c.tx):Con PP 252 [.fz (l.map Nd.cs),.sc (.int .i64 left)] [] [] (fun r o=>r=.sc (.int .i64 (szR left (costP l)))):=by
 refine Con.lenOf 0 Go.Proofs.Tryz.func252 (by kernel_rfl) (by kernel_rfl) rfl fun hlen=>?_
 simp at hlen
 refine cof 27 Go.Proofs.Tryz.func252 fun G=>?_
 simp only[entSt,tmOf,List.append_nil,List.cons_append,List.nil_append]
 have e1:IntKind.i64.wrap (left-l.length)=left-l.length:=wrap64 (by omega) (by omega)
 refine go (L:=_∧_∧True) (wa1 @e1) wb0 wb0 wb0 wb0 ⟨fun _ hq=>?_,fun _ hq=>?_,wb0⟩
 ·rw[szR_no (by unfold costP;simp at hq;omega)]
 simp only[decide_eq_false_iff_not]at hq
 refine WPc.loopK (σ:=Nat) (fun i=>i≤l.length∧l.length+sumTo costN l i≤left) (fun i=>l.length-i) (fun i=>[(5,.sc (.int .i64 i)),(1,.sc (.int .i64 (left-l.length-sumTo costN l i)))]) [0] 0 (by simp[sumTo_zero]) (by simp[sumTo_zero]) (⟨by omega,by rw[sumTo_zero];omega⟩) ?_
 rintro i ⟨hi,hle⟩ s hs
 simp at hs
 subst hs
 by_cases hlt:i<l.length
 ·have hz:=hs _ (List.getElem_mem hlt)
  have e3:=sumTo_next (f:=costN) hlt
  have e4:=sumTo_le costN l (i+1)
  have ee:costN ⟨l[i].k,l[i].n,l[i].s,l[i].names,l[i].args⟩=costN l[i]:=rfl
  refine go (L:=_∧_∧True) (wa3 @Nd.cs.eq_1 @hlt @ee) (wb1 (fun v0 v1 v2 v3 v4 v5 (h:_∧_∧_)=>c_laws_szNode ⟨v0,v1,v2,v3,v4⟩ v5 h.1 h.2.1 h.2.2)) wb0 wb0 wb0 ⟨fun _ hq=>?_,fun _ hq=>?_,wb0⟩
  all_goals try rw[ee]at hq
  ·simp only[decide_eq_true_eq]at hq
   have:=szR_neg (by omega) hq
   rw[szR_no (by unfold costP;omega)]
  all_goals
   try simp only[decide_eq_false_iff_not]at hq
   have hle2:=szR_pos hq
   refine⟨i+1,⟨⟨by omega,by omega⟩,by first|omega|(simp only;omega)|assumption⟩,rfl,rfl,?_,?_⟩<;>simp (disch:=omega) [wrap64,e3,ee,szR_ok hle2]
  all_goals (refine fit_int ?_;omega)
 ·obtain rfl:i=l.length:=by omega
  refine go (L:=_∧True) wb0 wb0 wb0 wb0 wb0 ⟨fun _=>?_,wb0⟩
  rw[sumTo_all]at hle
  rw[szR_ok (by unfold costP;omega),sumTo_all]
  simp only[costP,AV.sc.injEq,Value.int.injEq,true_and]
  omega
theorem c_laws_szProg(p:Pg)(left:Int)(h0:0≤left)(h1:left≤1073741824)(hs:∀c,c∈p.nodes→c.tx):Con PP 186 [p.av,.sc (.int .i64 left)] [] [] (fun r o=>r=.sc (.int .i64 (szR left (costP p.nodes)))):=by
 refine cof 12 Go.Proofs.Tryz.func186 fun G=>?_
 simp only[entSt,tmOf,List.append_nil,List.cons_append,List.nil_append,Pg.av]
 by_cases g1:(costP p.nodes:Int)≤left
 ·have e:=szR_ok g1
  refine go (L:=_∧True) (wa1 @e) (wb1 (fun v0 v1 (h:_∧_∧_)=>c_laws_szNodeS v0 v1 h.1 h.2.1 h.2.2)) wb0 wb0 wb0 ⟨fun _ hq=>?_,wb0⟩
  all_goals (try simp only[decide_eq_true_eq,decide_eq_false_iff_not]at *)
  all_goals first
   |(exfalso;omega)
   |(rw[e])
 ·have e:szR left (costP p.nodes) = -1:=szR_no (by omega)
  refine go (L:=_∧True) (wa1 @e) (wb1 (fun v0 v1 (h:_∧_∧_)=>c_laws_szNodeS v0 v1 h.1 h.2.1 h.2.2)) wb0 wb0 wb0 ⟨fun _=>?_,wb0⟩
  all_goals (try simp only[decide_eq_true_eq,decide_eq_false_iff_not]at *)
  all_goals first
   |(exfalso;omega)
   |(rw[e])
theorem c_laws_eqIntS(l:List Int):Con PP 22 [.fz (l.map nC),.fz (l.map nC)] [] [] (fun r o=>r=.sc (.bool true)):=by
 refine Con.lenOf 0 Go.Proofs.Tryz.func22 (by kernel_rfl) (by kernel_rfl) rfl fun hlen=>?_
 simp at hlen
 refine cof 26 Go.Proofs.Tryz.func22 fun G=>?_
 simp only[entSt,tmOf,List.append_nil,List.cons_append,List.nil_append]
 refine go (L:=_∧True) wb0 wb0 wb0 wb0 wb0 ⟨fun _=>?_,wb0⟩
 refine WPc.loopK (σ:=Nat) (fun i=>i≤l.length) (fun i=>l.length-i) (fun i=>[(5,.sc (.int .i64 i))]) [0,1] 0 (by simp) (by simp) (by simp) ?_
 rintro i hi s hs
 simp at hs
 subst hs
 by_cases hlt:i<l.length
 ·refine go (L:=_∧True) (wa2 @nC.eq_1 @hlt) wb0 wb0 wb0 (wb2 wb0 (sch 6 [] [(0,[]),(1,[]),(2,[]),(3,[]),(4,[]),(5,[]),(6,[]),(7,[]),(8,[])])) ⟨fun _=>?_,wb0⟩
  all_goals
   refine⟨i+1,⟨hlt,by first|omega|(simp only;omega)|assumption⟩,rfl,rfl,?_,?_⟩<;>simp (disch:=omega) [wrap64]
 ·refine go (L:=_∧True) (wa1 @hlt) wb0 wb0 wb0 wb0 ⟨fun _=>?_,wb0⟩
  all_goals rfl
theorem c_laws_eqNode(c:Nd):Con PP 288 [c.av,c.av] [] [] (fun r o=>r=.sc (.bool true)):=by
 refine cof 32 Go.Proofs.Tryz.func288 fun G=>?_
 simp only[entSt,tmOf,List.append_nil,List.cons_append,List.nil_append,Nd.av]
 refine go (L:=_∧True) wb0 (wb2 (fun v0 (_:True)=>c_laws_eqStringS v0) (fun v0 (_:True)=>c_laws_eqIntS v0)) wb0 wb0 wb0 ⟨fun _=>?_,wb0⟩
 all_goals rfl
theorem c_laws_eqNodeS(l:List Nd):Con PP 274 [.fz (l.map Nd.cs),.fz (l.map Nd.cs)] [] [] (fun r o=>r=.sc (.bool true)):=by
 refine Con.lenOf 0 Go.Proofs.Tryz.func274 (by kernel_rfl) (by kernel_rfl) rfl fun hlen=>?_
 simp at hlen
 refine cof 27 Go.Proofs.Tryz.func274 fun G=>?_
 simp only[entSt,tmOf,List.append_nil,List.cons_append,List.nil_append]
 refine go (L:=_∧True) wb0 wb0 wb0 wb0 wb0 ⟨fun _=>?_,wb0⟩
 refine WPc.loopK (σ:=Nat) (fun i=>i≤l.length) (fun i=>l.length-i) (fun i=>[(5,.sc (.int .i64 i))]) [0,1] 0 (by simp) (by simp) (by simp) ?_
 rintro i hi s hs
 simp at hs
 subst hs
 by_cases hlt:i<l.length
 ·refine go (L:=_∧True) (wa3 @Nd.cs.eq_1 @Nd.av.eq_1 @hlt) (wb1 (fun v0 v1 v2 v3 v4 (_:True)=>c_laws_eqNode ⟨v0,v1,v2,v3,v4⟩)) wb0 wb0 (wb2 wb0 (sch 6 [] [(0,[]),(1,[]),(2,[]),(3,[]),(4,[]),(5,[]),(6,[]),(7,[]),(8,[]),(9,[])])) ⟨fun _=>?_,wb0⟩
  all_goals
   refine⟨i+1,⟨hlt,by first|omega|(simp only;omega)|assumption⟩,rfl,rfl,?_,?_⟩<;>simp (disch:=omega) [wrap64]
 ·refine go (L:=_∧True) (wa1 @hlt) wb0 wb0 wb0 wb0 ⟨fun _=>?_,wb0⟩
  all_goals rfl
theorem c_laws_eqProg(p:Pg):Con PP 233 [p.av,p.av] [] [] (fun r o=>r=.sc (.bool true)):=by
 refine cof 16 Go.Proofs.Tryz.func233 fun G=>?_
 simp only[entSt,tmOf,List.append_nil,List.cons_append,List.nil_append,Pg.av]
 refine go (L:=_∧True) wb0 (wb1 (fun v0 (_:True)=>c_laws_eqNodeS v0)) wb0 wb0 wb0 ⟨fun _=>?_,wb0⟩
 all_goals rfl
end Go.Own
set_option maxRecDepth 1000000
set_option maxHeartbeats 4000000
namespace Go.Own
attribute [local irreducible] WPc WPL WPS WPS1 WPS2 HAny endP
variable [Laid]
open Go.Lib Go.RowKit
def part{α:Type}(z:List C)(f:α→List C)(l:List α)(i:Nat):List (List C):=(l.take i).map f++List.replicate (l.length-i) z
section
variable {α:Type}{z:List C}{f:α→List C}{l:List α}{i:Nat}
theorem part_len(hi:i≤l.length):(part z f l i).length=l.length:=by simp[part];omega
theorem part_zero:part z f l 0=List.replicate l.length z:=by simp[part]
theorem part_all:part z f l l.length=l.map f:=by simp[part]
theorem part_get(hi:i<l.length):(part z f l i)[i]?=some z:=by
 unfold part
 rw[List.getElem?_append_right (by simp;omega),List.getElem?_replicate]
 simp[Nat.min_eq_left (Nat.le_of_lt hi)]
 omega
theorem part_ge(hi:i<l.length)(p:i<(part z f l i).length):(part z f l i)[i]=z:=by
 have:=part_get (z:=z) (f:=f) hi
 rw[List.getElem?_eq_getElem p]at this
 exact Option.some.inj this
theorem part_next{g:List C→List C}(hi:i<l.length)(hg:g z=f l[i]):(part z f l i).modify i g=part z f l (i+1):=by
 apply List.ext_getElem?
 intro j
 rw[List.getElem?_modify]
 by_cases hj:i=j
 ·subst hj
  rw[part_get hi]
  unfold part
  rw[List.getElem?_append_left (by simp;omega)]
  simp[hi,hg]
 ·simp only[hj,if_false]
  unfold part
  by_cases h1:j<i
  ·rw[List.getElem?_append_left (by simp;omega),List.getElem?_append_left (by simp;omega)]
   simp[h1,show j<i+1 by omega]
  ·rw[List.getElem?_append_right (by simp;omega),List.getElem?_append_right (by simp;omega),List.getElem?_replicate,List.getElem?_replicate]
   simp[Nat.min_eq_left (Nat.le_of_lt hi),Nat.min_eq_left (Nat.succ_le_of_lt hi)]
   split<;>split<;>first|rfl|omega
end
theorem c_laws_toStringS(l:List ByteArray)(h1:l.length≤1000000000):Con PP 70 [.fz (l.map sC)] [] [] (fun r o=>r=.sl 7 1 [] 0 l.length∧o=[(7,9,1,l.map sC)]):=by
 have hb1:(16:Int)*(l.length:Int)≤281474976710656:=by omega
 have hb2:(l.length:Int)≤9223372036854775807:=by omega
 refine cof 22 Go.Proofs.Tryz.func70 fun G=>?_
 simp only[entSt,tmOf,List.append_nil,List.cons_append,List.nil_append]
 refine go (L:=_∧True) (wa2 @hb1 @hb2) wb0 wb0 wb0 wb0 ⟨fun _=>?_,wb0⟩
 refine WPc.loopV (σ:=Nat) (fun i=>i≤l.length) (fun i=>l.length-i) (fun i=>[(4,.sc (.int .i64 i))]) (fun i=>[(7,9,1,part [.sc (.string zs)] sC l i)]) [0,3] 0 (by simp[part_zero]) (by simp[part_zero]) (by simp) ?_
 rintro i hi s hs
 simp at hs
 subst hs
 by_cases hlt:i<l.length
 ·have hl:=part_len (z:=[.sc (.string zs)]) (f:=sC) hi
  have hn:=part_next (z:=[.sc (.string zs)]) (f:=sC) (g:=fun r=>r.set 0 (.sc (.string l[i]))) hlt rfl
  have hge:=part_ge (z:=[.sc (.string zs)]) (f:=sC) hlt
  refine go (L:=_∧True) (wa4 @sC.eq_1 @hlt @hl @hge) wb0 wb0 wb0 wb0 ⟨fun _=>?_,wb0⟩
  refine⟨i+1,⟨hlt,by first|omega|(simp only;omega)|assumption⟩,rfl,rfl,?_,?_⟩<;>simp (disch:=omega) [wrap64,hn]
 ·obtain rfl:i=l.length:=by omega
  refine gox (L:=_∧_∧True) wb0 wb0 wb0 wb0 (wb1 (outO [(7,9,1,l.map sC)])) ⟨fun _=>?_,fun _=>?_,wb0⟩
  ·simp[part_all]
  ·exact⟨rfl,rfl⟩
theorem c_laws_toValue(v:V):Con PP 209 [v.av] [] [] (fun r o=>r=v.av):=by
 refine cof 14 Go.Proofs.Tryz.func209 fun G=>?_
 simp only[entSt,tmOf,List.append_nil,List.cons_append,List.nil_append,V.av]
 refine go (L:=_∧True) wb0 wb0 wb0 wb0 wb0 ⟨fun _=>?_,wb0⟩
 all_goals rfl
end Go.Own
set_option maxRecDepth 1000000
set_option maxHeartbeats 4000000
namespace Go.Own
attribute [local irreducible] WPc WPL WPS WPS1 WPS2 HAny endP
variable [Laid]
open Go.Lib Go.RowKit
structure Nd.rm(c:Nd):Prop where
 names:c.names.length≤1000000000
 args:c.args.length≤1000000000
def progB(p:Pg):Root:=(135,2,[[.sl 206 5 (p.nodes.map Nd.ow),.sc (.int .i64 p.root)]])
theorem c_laws_toIntS(l:List Int)(h1:l.length≤1000000000):Con PP 294 [.fz (l.map nC)] [] [] (fun r o=>r=.sl 7 1 [] 0 l.length∧o=[(7,3,1,l.map nC)]):=by
 have hb1:(8:Int)*(l.length:Int)≤281474976710656:=by omega
 have hb2:(l.length:Int)≤9223372036854775807:=by omega
 refine cof 22 Go.Proofs.Tryz.func294 fun G=>?_
 simp only[entSt,tmOf,List.append_nil,List.cons_append,List.nil_append]
 refine go (L:=_∧True) (wa2 @hb1 @hb2) wb0 wb0 wb0 wb0 ⟨fun _=>?_,wb0⟩
 refine WPc.loopV (σ:=Nat) (fun i=>i≤l.length) (fun i=>l.length-i) (fun i=>[(4,.sc (.int .i64 i))]) (fun i=>[(7,3,1,part [.sc (.int .i64 0)] nC l i)]) [0,3] 0 (by simp[part_zero]) (by simp[part_zero]) (by simp) ?_
 rintro i hi s hs
 simp at hs
 subst hs
 by_cases hlt:i<l.length
 ·have hl:=part_len (z:=[.sc (.int .i64 0)]) (f:=nC) hi
  have hn:=part_next (z:=[.sc (.int .i64 0)]) (f:=nC) (g:=fun r=>r.set 0 (.sc (.int .i64 l[i]))) hlt rfl
  have hge:=part_ge (z:=[.sc (.int .i64 0)]) (f:=nC) hlt
  refine go (L:=_∧True) (wa4 @nC.eq_1 @hlt @hl @hge) wb0 wb0 wb0 wb0 ⟨fun _=>?_,wb0⟩
  refine⟨i+1,⟨hlt,by first|omega|(simp only;omega)|assumption⟩,rfl,rfl,?_,?_⟩<;>simp (disch:=omega) [wrap64,hn]
 ·obtain rfl:i=l.length:=by omega
  refine gox (L:=_∧_∧True) wb0 wb0 wb0 wb0 (wb1 (outO [(7,3,1,l.map nC)])) ⟨fun _=>?_,fun _=>?_,wb0⟩
  ·simp[part_all]
  ·exact⟨rfl,rfl⟩
theorem c_laws_toNode(c:Nd)(h1:c.names.length≤1000000000)(h2:c.args.length≤1000000000):Con PP 282 [c.av] [] [] (fun r o=>r=.agg [.sc (.int .i64 c.k),.sc (.int .i64 c.n),.sc (.string c.s),.sl 2 1 [(0,3)] 0 c.names.length,.sl 2 1 [(0,4)] 0 c.args.length]∧o=[(2,206,5,[c.ow])]):=by
 refine cof 22 Go.Proofs.Tryz.func282 fun G=>?_
 simp only[entSt,tmOf,List.append_nil,List.cons_append,List.nil_append,Nd.av]
 refine gox (L:=_∧_∧True) wb0 wb0 (wb2 (fun v0 (h:_)=>c_laws_toStringS v0 h) (fun v0 (h:_)=>c_laws_toIntS v0 h)) wb0 (wb3 (outO [(2,206,5,[c.ow])]) (nm 1 [21,3,900001,0,3]) (nm 1 [21,3,900002,0,4])) ⟨fun _=>?_,fun _=>?_,wb0⟩
 ·simp[Nd.ow]
 ·exact⟨rfl,rfl⟩
theorem c_laws_toNodeS(l:List Nd)(h1:l.length≤1000000000)(h2:∀c,c∈l→c.rm):Con PP 262 [.fz (l.map Nd.cs)] [] [] (fun r o=>r=.sl 7 5 [] 0 l.length∧o=[(7,nodesR l)]):=by
 have hb1:(80:Int)*(l.length:Int)≤281474976710656:=by omega
 have hb2:(l.length:Int)≤9223372036854775807:=by omega
 refine cof 23 Go.Proofs.Tryz.func262 fun G=>?_
 simp only[entSt,tmOf,List.append_nil,List.cons_append,List.nil_append]
 refine go (L:=_∧True) (wa2 @hb1 @hb2) wb0 wb0 wb0 wb0 ⟨fun _=>?_,wb0⟩
 refine WPc.loopV (σ:=Nat) (fun i=>i≤l.length) (fun i=>l.length-i) (fun i=>[(4,.sc (.int .i64 i))]) (fun i=>[(7,206,5,part [.sc (.int .i64 0),.sc (.int .i64 0),.sc (.string zs),.sc (.slice none 0 0),.sc (.slice none 0 0)] Nd.ow l i)]) [0,3] 0 (by simp[part_zero]) (by simp[part_zero]) (by simp) ?_
 rintro i hi s hs
 simp at hs
 subst hs
 by_cases hlt:i<l.length
 ·have hr:=h2 _ (List.getElem_mem hlt)
  have hr1:=hr.names
  have hr2:=hr.args
  have hl:=part_len (z:=[.sc (.int .i64 0),.sc (.int .i64 0),.sc (.string zs),.sc (.slice none 0 0),.sc (.slice none 0 0)]) (f:=Nd.ow) hi
  have hge:=part_ge (z:=[.sc (.int .i64 0),.sc (.int .i64 0),.sc (.string zs),.sc (.slice none 0 0),.sc (.slice none 0 0)]) (f:=Nd.ow) hlt
  have hn:(((((part [.sc (.int .i64 0),.sc (.int .i64 0),.sc (.string zs),.sc (.slice none 0 0),.sc (.slice none 0 0)] Nd.ow l i).modify i fun r=>r.set 0 (.sc (.int .i64 l[i].k))).modify i fun r=>r.set 1 (.sc (.int .i64 l[i].n))).modify i fun r=>r.set 2 (.sc (.string l[i].s))).modify i fun r=>r.set 3 (.sl 9 1 (l[i].names.map sC))).modify i (fun r=>r.set 4 (.sl 3 1 (l[i].args.map nC)))=part [.sc (.int .i64 0),.sc (.int .i64 0),.sc (.string zs),.sc (.slice none 0 0),.sc (.slice none 0 0)] Nd.ow l (i+1):=by
   rw[List.modify_modify_eq,List.modify_modify_eq,List.modify_modify_eq,List.modify_modify_eq]
   exact part_next hlt rfl
  refine gox (L:=_∧True) (wa6 @Nd.cs.eq_1 @Nd.av.eq_1 @hlt @hl @hge @Nd.ow.eq_1) wb0 (wb1 (fun v0 v1 v2 v3 v4 (h:_∧_)=>c_laws_toNode ⟨v0,v1,v2,v3,v4⟩ h.1 h.2)) wb0 (wb3 wb0 (nm 1 [20,20,900001,0,3]) (nm 1 [20,20,900002,0,4])) ⟨fun _=>?_,wb0⟩
  refine⟨i+1,⟨hlt,by first|omega|(simp only;omega)|assumption⟩,rfl,rfl,?_,?_⟩<;>simp (disch:=omega) [wrap64,hn]
 ·obtain rfl:i=l.length:=by omega
  refine gox (L:=_∧_∧True) wb0 wb0 wb0 wb0 (wb1 (outO [(7,nodesR l)])) ⟨fun _=>?_,fun _=>?_,wb0⟩
  ·simp[part_all,nodesR]
  ·exact⟨rfl,rfl⟩
theorem c_laws_toProg(p:Pg)(h1:p.nodes.length≤1000000000)(h2:∀c,c∈p.nodes→c.rm):Con PP 206 [p.av] [] [] (fun r o=>r=.agg [.sl 2 5 [(0,0)] 0 p.nodes.length,.sc (.int .i64 p.root)]∧o=[(2,progB p)]):=by
 refine cof 12 Go.Proofs.Tryz.func206 fun G=>?_
 simp only[entSt,tmOf,List.append_nil,List.cons_append,List.nil_append,Pg.av]
 refine gox (L:=_∧_∧True) (wa1 @nodesR.eq_1) wb0 (wb1 (fun v0 (h:_∧_)=>c_laws_toNodeS v0 h.1 h.2)) wb0 (wb2 (outO [(2,progB p)]) (nm 1 [11,3,900001,0,0])) ⟨fun _=>?_,fun _=>?_,wb0⟩
 ·simp[progB]
 ·exact⟨rfl,rfl⟩
end Go.Own
set_option maxRecDepth 1000000
set_option maxHeartbeats 4000000
namespace Go.Own
attribute [local irreducible] WPc WPL WPS WPS1 WPS2 HAny endP
variable [Laid]
open Go.Lib Go.RowKit
theorem isW_cons(x:ByteArray)(l:List ByteArray)(s:ByteArray):isW (x::l) s=(decide (s=x)||isW l s):=rfl
def fidx:List ByteArray→ByteArray→Nat→Int
 |[],_,_ => -1
 |x::l,s,i=>if s=x then i else fidx l s (i+1)
theorem fidx_hit{s:ByteArray}:∀{l:List ByteArray} {i k:Nat} (hi:i<l.length),isW (l.take i) s=false→s=l[i]→fidx l s k=((i+k:Nat):Int)
 |x::l,0,k,_,_,he=>by simp[fidx,show s=x from he]
 |x::l,i+1,k,hi,hn,he=>by
  have hn':¬s=x∧isW (l.take i) s=false:=by
   rw[List.take_succ_cons,isW_cons,Bool.or_eq_false_iff,decide_eq_false_iff_not]at hn;exact hn
  simp only[fidx,if_neg hn'.1]
  rw[fidx_hit (l:=l) (i:=i) (k:=k+1) (by simpa using hi) hn'.2 he]
  omega
theorem fidx_none{s:ByteArray}:∀{l:List ByteArray} {k:Nat},isW l s=false→fidx l s k = -1
 |[],_,_=>rfl
 |x::l,k,h=>by
  have hn':¬s=x∧isW l s=false:=by
   rw[isW_cons,Bool.or_eq_false_iff,decide_eq_false_iff_not]at h;exact h
  simp only[fidx,if_neg hn'.1]
  exact fidx_none hn'.2
theorem isW_next{l:List ByteArray}{s:ByteArray}{i:Nat}(hi:i<l.length)(h:isW (l.take i) s=false)(hn:¬s=l[i]):isW (l.take (i+1)) s=false:=by
 unfold isW at h ⊢
 rw[List.take_add_one,List.getElem?_eq_getElem hi]
 simp only[Option.toList_some,List.any_append,h,List.any_cons,List.any_nil,Bool.or_false,Bool.false_or]
 simpa using hn
theorem c_slices_IndexS(l:List ByteArray)(s:ByteArray):Con PP 143 [.fz (l.map sC),.sc (.string s)] [] [] (fun r o=>r=.sc (.int .i64 (fidx l s 0))):=by
 refine Con.lenOf 0 Go.Proofs.Tryz.func143 (by kernel_rfl) (by kernel_rfl) rfl fun hlen=>?_
 simp at hlen
 refine cof 19 Go.Proofs.Tryz.func143 fun G=>?_
 simp only[entSt,tmOf,List.append_nil,List.cons_append,List.nil_append]
 refine go (L:=_∧True) wb0 wb0 wb0 wb0 wb0 ⟨fun _=>?_,wb0⟩
 refine WPc.loopK (σ:=Nat) (fun i=>i≤l.length∧isW (l.take i) s=false) (fun i=>l.length-i) (fun i=>[(8,.sc (.int .i64 i))]) [0,1,7] 0 (by simp) (by simp) (⟨by omega,by simp[isW]⟩) ?_
 rintro i ⟨hi,hn⟩ s hs
 simp at hs
 subst hs
 by_cases hlt:i<l.length
 ·by_cases he:s=l[i]
  ·have:=fidx_hit (k:=0) hlt hn he
   have he':(s=l[i])=True:=by simp[he]
   rw[this]
   refine go (L:=_∧True) (wa3 @sC.eq_1 @hlt @he') wb0 wb0 wb0 wb0 ⟨fun _=>?_,wb0⟩
   all_goals rfl
  ·have he':(s=l[i])=False:=by simp[he]
   refine go (L:=_∧True) (wa3 @sC.eq_1 @hlt @he') wb0 wb0 wb0 wb0 ⟨fun _=>?_,wb0⟩
   all_goals
    refine⟨i+1,⟨⟨hlt,isW_next hlt hn he⟩,by first|omega|(simp only;omega)|assumption⟩,rfl,rfl,?_,?_⟩<;>simp (disch:=omega) [wrap64]
 ·obtain rfl:i=l.length:=by omega
  rw[List.take_length]at hn
  rw[fidx_none hn]
  refine go (L:=_∧True) (wa1 @hlt) wb0 wb0 wb0 wb0 ⟨fun _=>?_,wb0⟩
  all_goals rfl
def okName(l:List ByteArray)(i:Nat):Bool:=match l[i]? with
 |some s=>isName s && !isW (l.take i) s
 |none=>true
def namesOk(l:List ByteArray)(most:Int):Bool:=(List.range l.length).all (okName l)&&decide ((l.length:Int)≤most)
theorem okName_eq{l:List ByteArray}{i:Nat}(hi:i<l.length):okName l i=(isName l[i] && !isW (l.take i) l[i]):=by simp[okName,hi]
theorem fidx_self{l:List ByteArray}{i:Nat}(hi:i<l.length):decide (fidx l l[i] 0=(i:Int)) = !isW (l.take i) l[i]:=by
 cases h:isW (l.take i) l[i]with
 |false=>simp[fidx_hit (k:=0) hi h rfl]
 |true =>
  simp only[Bool.not_true,decide_eq_false_iff_not]
  intro he
  have key:∀(l:List ByteArray) (s:ByteArray) (i k:Nat),i≤l.length→isW (l.take i) s=true→fidx l s k<((i+k:Nat):Int):=by
   intro l s
   induction l with
   |nil=>intro i k hi h;simp[isW]at h
   |cons x l ih =>
    intro i k hi h
    cases i with
    |zero=>simp[isW]at h
    |succ i =>
     simp only[fidx]
     split
     ·omega
     ·rename_i hx
      have h':isW (l.take i) s=true:=by
       simp only[List.take_succ_cons,isW,List.any_cons,Bool.or_eq_true]at h
       rcases h with h|h
       ·exact absurd (of_decide_eq_true h) (fun e=>hx (by first|exact e|exact e.symm))
       ·exact h
      have:=ih i (k+1) (by simpa using hi) h'
      omega
  have:=key l l[i] i 0 (by omega) h
  omega
theorem namesOk_no{l:List ByteArray}{i:Nat}{most:Int}(hi:i<l.length)(ho:okName l i=false):namesOk l most=false:=by
 have hv:(List.range l.length)[i]?=some i:=List.getElem?_range hi
 rw[namesOk,all_at hv ho,Bool.false_and]
theorem c_impl_namesOk[F:Facts.Of](l:List ByteArray)(most:Int)(hs:∀v,v∈l→v.size<4294967000):Con PP 215 [.fz (l.map sC),.sc (.int .i64 most)] [] [] (fun r o=>r=.sc (.bool (namesOk l most))):=by
 refine Con.lenOf 0 Go.Proofs.Tryz.func215 (by kernel_rfl) (by kernel_rfl) rfl fun hlen=>?_
 simp at hlen
 refine cof 29 Go.Proofs.Tryz.func215 fun G=>?_
 simp only[entSt,tmOf,List.append_nil,List.cons_append,List.nil_append]
 refine go (L:=_∧True) wb0 wb0 wb0 wb0 wb0 ⟨fun _=>?_,wb0⟩
 refine WPc.loopK (σ:=Nat) (fun i=>i≤l.length∧((List.range l.length).take i).all (okName l)=true) (fun i=>l.length-i) (fun i=>[(9,.sc (.int .i64 i))]) [0,1,7,8] 0 (by simp) (by simp) (by simp) ?_
 rintro i ⟨hi,hall⟩ s hs
 simp at hs
 subst hs
 by_cases hlt:i<l.length
 ·have hv:(List.range l.length)[i]?=some i:=List.getElem?_range hlt
  have hz:=hs _ (List.getElem_mem hlt)
  have hf:=fidx_self hlt
  by_cases hn:isName l[i]=true
  ·cases hw:isW (l.take i) l[i]with
   |false =>
    have hf':(fidx l l[i] 0=(i:Int))=True:=by rw[hw]at hf;simpa using hf
    refine go (L:=_∧True) (wa4 @sC.eq_1 @hlt @hn @hf') (wb2 (fun v0 (h:_)=>c_impl_IsName v0 h) (fun v0 v1 (_:True)=>c_slices_IndexS v0 v1)) wb0 wb0 wb0 ⟨fun _=>?_,wb0⟩
    all_goals
     refine⟨i+1,⟨⟨hlt,all_next hv (by rw[okName_eq hlt,hn,hw];rfl) hall⟩,by first|omega|(simp only;omega)|assumption⟩,rfl,rfl,?_,?_⟩<;>simp (disch:=omega) [wrap64]
   |true =>
    have hf':(fidx l l[i] 0=(i:Int))=False:=by rw[hw]at hf;simpa using hf
    rw[namesOk_no hlt (by rw[okName_eq hlt,hw];simp)]
    refine go (L:=_∧True) (wa4 @sC.eq_1 @hlt @hn @hf') (wb2 (fun v0 (h:_)=>c_impl_IsName v0 h) (fun v0 v1 (_:True)=>c_slices_IndexS v0 v1)) wb0 wb0 wb0 ⟨fun _=>?_,wb0⟩
    all_goals rfl
  ·rw[namesOk_no hlt (by rw[okName_eq hlt];simp[hn])]
   refine go (L:=_∧True) (wa3 @sC.eq_1 @hlt @hn) (wb1 (fun v0 (h:_)=>c_impl_IsName v0 h)) wb0 wb0 wb0 ⟨fun _=>?_,wb0⟩
   all_goals rfl
 ·obtain rfl:i=l.length:=by omega
  refine go (L:=_∧True) (wa1 @hlt) wb0 wb0 wb0 wb0 ⟨fun _=>?_,wb0⟩
  rw[List.take_of_length_le (by simp)]at hall
  simp[namesOk,hall]
theorem c_spec_l3In_tk(ws:List ByteArray)(i:Nat)(s:ByteArray):Con PP 193 [.fz (List.take i (ws.map sC)),.sc (.string s)] [] [] (fun r o=>r=.sc (.bool (isW (ws.take i) s))):=by
 rw[←List.map_take];exact c_spec_l3In _ s
theorem c_spec_l3Names(l:List ByteArray)(most:Int)(hs:∀v,v∈l→v.size<4294967000):Con PP 192 [.fz (l.map sC),.sc (.int .i64 most)] [] [] (fun r o=>r=.sc (.bool (namesOk l most))):=by
 refine Con.lenOf 0 Go.Proofs.Tryz.func192 (by kernel_rfl) (by kernel_rfl) rfl fun hlen=>?_
 simp at hlen
 by_cases hm:(l.length:Int)≤most
 ·have hm':¬most<(l.length:Int):=by omega
  refine cof 32 Go.Proofs.Tryz.func192 fun G=>?_
  simp only[entSt,tmOf,List.append_nil,List.cons_append,List.nil_append]
  refine go (L:=_∧True) (wa1 @hm') wb0 wb0 wb0 wb0 ⟨fun _=>?_,wb0⟩
  refine WPc.loopK (σ:=Nat) (fun i=>i≤l.length∧((List.range l.length).take i).all (okName l)=true) (fun i=>l.length-i) (fun i=>[(5,.sc (.int .i64 i))]) [0] 0 (by simp) (by simp) (by simp) ?_
  rintro i ⟨hi,hall⟩ s hs
  simp at hs
  subst hs
  by_cases hlt:i<l.length
  ·have hv:(List.range l.length)[i]?=some i:=List.getElem?_range hlt
   have hz:=hs _ (List.getElem_mem hlt)
   by_cases hn:isName l[i]=true
   ·cases hw:isW (l.take i) l[i]with
    |false =>
     refine go (L:=_∧True) (wa5 @sC.eq_1 @hlt @hn @hw @hi) (wb2 (fun v0 (h:_)=>c_spec_IsName v0 h) (fun v0 v1 v2 (_:True)=>c_spec_l3In_tk v0 v1 v2)) wb0 wb0 (wb2 wb0 (sch 6 [] [(0,[]),(1,[]),(2,[]),(3,[]),(4,[]),(5,[]),(6,[]),(7,[]),(8,[]),(9,[]),(10,[]),(11,[]),(12,[]),(13,[]),(14,[]),(15,[])])) ⟨fun _=>?_,wb0⟩
     all_goals
      refine⟨i+1,⟨⟨hlt,all_next hv (by rw[okName_eq hlt,hn,hw];rfl) hall⟩,by first|omega|(simp only;omega)|assumption⟩,rfl,rfl,?_,?_⟩<;>simp (disch:=omega) [wrap64]
    |true =>
     rw[namesOk_no hlt (by rw[okName_eq hlt,hw];simp)]
     refine go (L:=_∧True) (wa5 @sC.eq_1 @hlt @hn @hw @hi) (wb2 (fun v0 (h:_)=>c_spec_IsName v0 h) (fun v0 v1 v2 (_:True)=>c_spec_l3In_tk v0 v1 v2)) wb0 wb0 (wb2 wb0 (sch 6 [] [(0,[]),(1,[]),(2,[]),(3,[]),(4,[]),(5,[]),(6,[]),(7,[]),(8,[]),(9,[]),(10,[]),(11,[]),(12,[]),(13,[]),(14,[]),(15,[])])) ⟨fun _=>?_,wb0⟩
     all_goals rfl
   ·rw[namesOk_no hlt (by rw[okName_eq hlt];simp[hn])]
    refine go (L:=_∧True) (wa3 @sC.eq_1 @hlt @hn) (wb1 (fun v0 (h:_)=>c_spec_IsName v0 h)) wb0 wb0 (wb2 wb0 (sch 6 [] [(0,[]),(1,[]),(2,[]),(3,[]),(4,[]),(5,[]),(6,[]),(7,[]),(8,[]),(9,[]),(10,[]),(11,[]),(12,[]),(13,[]),(14,[]),(15,[])])) ⟨fun _=>?_,wb0⟩
    all_goals rfl
  ·obtain rfl:i=l.length:=by omega
   refine go (L:=_∧True) (wa1 @hlt) wb0 wb0 wb0 wb0 ⟨fun _=>?_,wb0⟩
   rw[List.take_of_length_le (by simp)]at hall
   simp[namesOk,hall,hm]
 ·have hm':most<(l.length:Int):=by omega
  have:namesOk l most=false:=by simp[namesOk,hm]
  rw[this]
  refine cof 32 Go.Proofs.Tryz.func192 fun G=>?_
  simp only[entSt,tmOf,List.append_nil,List.cons_append,List.nil_append]
  refine go (L:=_∧True) (wa1 @hm') wb0 wb0 wb0 wb0 ⟨fun _=>?_,wb0⟩
  all_goals rfl
end Go.Own
set_option maxRecDepth 1000000
set_option maxHeartbeats 4000000
namespace Go.Own
attribute [local irreducible] WPc WPL WPS WPS1 WPS2 HAny endP
variable [Laid]
open Go.Lib Go.RowKit
def sMake:ByteArray:=⟨#[109,97,107,101]⟩
def sField:ByteArray:=⟨#[102,105,101,108,100]⟩
def sIs:ByteArray:=⟨#[105,115]⟩
def oneName(l:List ByteArray):Bool:=match l with
 |[x]=>isName x
 |_=>false
theorem oneName_eq{l:List ByteArray}(h:l.length=1):oneName l=isName l[0]:=by
 match l,h with
 |[x],_=>rfl
theorem oneName_no{l:List ByteArray}(h:¬l.length=1):oneName l=false:=by
 match l,h with
 |[],_=>rfl
 |[x],h=>exact absurd rfl h
 |x::y::r,_=>rfl
def primOk(c:Nd):Bool :=
 if c.s=sMake then decide (c.n=0)&&decide (c.args.length≤8)&&oneName c.names
 else if c.s=sField then oneName c.names&&decide (c.args.length=1)&&inRange c.n 0 7
 else if c.s=sIs then oneName c.names&&decide (c.args.length=1)&&decide (c.n=0)
 else decide (c.names.length=0)&&decide (arity c.s=c.args.length)&&decide (c.n=0)
structure Nd.sm(c:Nd):Prop where
 s:c.s.size<4294967000
 names:∀x,x∈c.names→x.size<4294967000
theorem c_impl_isTyped(s:ByteArray):Con PP 284 [.sc (.string s)] [] [] (fun r o=>r=.sc (.bool (decide (s=⟨#[109,97,107,101]⟩)||decide (s=⟨#[102,105,101,108,100]⟩)||decide (s=⟨#[105,115]⟩)))):=by
 refine cof 13 Go.Proofs.Tryz.func284 fun G=>?_
 simp only[entSt,tmOf,List.append_nil,List.cons_append,List.nil_append]
 refine go (L:=_∧_∧_∧True) wb0 wb0 wb0 wb0 wb0 ⟨fun _ _ _=>?_,fun _ _ _=>?_,fun _ _=>?_,wb0⟩
 all_goals (first|rfl|(simp_all;done))
theorem c_impl_primOk[F:Facts.Of](c:Nd)(hs:c.sm):Con PP 268 [c.av] [] [] (fun r o=>r=.sc (.bool (primOk c))):=by
 obtain⟨k,n,s,names,args⟩:=c
 obtain⟨g1,g2⟩:=hs
 dsimp only at g1 g2
 by_cases hm:s=sMake
 ·subst hm
  have e:primOk ⟨k,n,sMake,names,args⟩=(decide (n=0)&&decide (args.length≤8)&&oneName names):=by simp[primOk]
  rw[e]
  by_cases h1:names.length=1
  ·have h0:0<names.length:=by omega
   have h1':((names.length:Int)=1)=True:=by simp[h1]
   have h0':(0:Int)<(names.length:Int):=by omega
   have hz:=g2 _ (List.getElem_mem h0)
   rw[oneName_eq h1]
   refine cof 78 Go.Proofs.Tryz.func268 fun G=>?_
   simp only[entSt,tmOf,List.append_nil,List.cons_append,List.nil_append,Nd.av,sMake]
   refine go (L:=_∧_∧_∧True) (wa4 @sC.eq_1 @h0 @h0' @h1') (wb2 (fun v0 (h:_)=>c_impl_Arity v0 h) (fun v0 (h:_)=>c_impl_IsName v0 h)) wb0 wb0 wb0 ⟨fun _ _ _=>?_,fun _ _ _=>?_,fun _ _=>?_,wb0⟩
   all_goals (simp_all;try omega)
  ·have h1':((names.length:Int)=1)=False:=by simp;omega
   rw[oneName_no h1]
   refine cof 78 Go.Proofs.Tryz.func268 fun G=>?_
   simp only[entSt,tmOf,List.append_nil,List.cons_append,List.nil_append,Nd.av,sMake]
   refine go (L:=_∧_∧_∧True) (wa2 @sC.eq_1 @h1') (wb1 (fun v0 (h:_)=>c_impl_Arity v0 h)) wb0 wb0 wb0 ⟨fun _ _ _=>?_,fun _ _ _=>?_,fun _ _=>?_,wb0⟩
   all_goals (simp_all;try omega)
 ·have hm':(s=⟨#[109,97,107,101]⟩)=False:=by simpa[sMake]using hm
  by_cases hf:s=sField
  ·subst hf
   have e:primOk ⟨k,n,sField,names,args⟩=(oneName names&&decide (args.length=1)&&inRange n 0 7):=by simp[primOk,sField,sMake]
   have ar:arity sField=1:=by decide +kernel
   simp only[sField]at ar
   rw[e]
   by_cases h1:names.length=1
   ·have h0:0<names.length:=by omega
    have h1':((names.length:Int)=1)=True:=by simp[h1]
    have h0':(0:Int)<(names.length:Int):=by omega
    have hz:=g2 _ (List.getElem_mem h0)
    rw[oneName_eq h1]
    refine cof 78 Go.Proofs.Tryz.func268 fun G=>?_
    simp only[entSt,tmOf,List.append_nil,List.cons_append,List.nil_append,Nd.av,sField]
    refine go (L:=_∧_∧_∧True) (wa8 @sC.eq_1 @h0 @h0' @h1' @ar @sMake.eq_1 @sField.eq_1 @sIs.eq_1) (wb4 (fun v0 (h:_)=>c_impl_Arity v0 h) (fun v0 (h:_)=>c_impl_IsName v0 h) (fun v0 v1 v2 (_:True)=>c_impl_inRange v0 v1 v2) (fun v0 (_:True)=>c_impl_isTyped v0)) wb0 wb0 wb0 ⟨fun _ hq=>?_,fun _ _ hq=>?_,fun _ _ hq=>?_,wb0⟩
    all_goals (simp_all;try omega)
   ·have h1':((names.length:Int)=1)=False:=by simp;omega
    rw[oneName_no h1]
    refine cof 78 Go.Proofs.Tryz.func268 fun G=>?_
    simp only[entSt,tmOf,List.append_nil,List.cons_append,List.nil_append,Nd.av,sField]
    refine go (L:=_∧_∧_∧True) (wa6 @sC.eq_1 @h1' @ar @sMake.eq_1 @sField.eq_1 @sIs.eq_1) (wb3 (fun v0 (h:_)=>c_impl_Arity v0 h) (fun v0 v1 v2 (_:True)=>c_impl_inRange v0 v1 v2) (fun v0 (_:True)=>c_impl_isTyped v0)) wb0 wb0 wb0 ⟨fun _ hq=>?_,fun _ _ hq=>?_,fun _ _ hq=>?_,wb0⟩
    all_goals (simp_all;try omega)
  ·have hf':(s=⟨#[102,105,101,108,100]⟩)=False:=by simpa[sField]using hf
   by_cases hi:s=sIs
   ·subst hi
    have e:primOk ⟨k,n,sIs,names,args⟩=(oneName names&&decide (args.length=1)&&decide (n=0)):=by simp[primOk,sField,sMake,sIs]
    have ar:arity sIs=1:=by decide +kernel
    simp only[sIs]at ar
    rw[e]
    by_cases h1:names.length=1
    ·have h0:0<names.length:=by omega
     have h1':((names.length:Int)=1)=True:=by simp[h1]
     have h0':(0:Int)<(names.length:Int):=by omega
     have hz:=g2 _ (List.getElem_mem h0)
     rw[oneName_eq h1]
     refine cof 78 Go.Proofs.Tryz.func268 fun G=>?_
     simp only[entSt,tmOf,List.append_nil,List.cons_append,List.nil_append,Nd.av,sIs]
     refine go (L:=_∧_∧_∧True) (wa8 @sC.eq_1 @h0 @h0' @h1' @ar @sMake.eq_1 @sField.eq_1 @sIs.eq_1) (wb3 (fun v0 (h:_)=>c_impl_Arity v0 h) (fun v0 (h:_)=>c_impl_IsName v0 h) (fun v0 (_:True)=>c_impl_isTyped v0)) wb0 wb0 wb0 ⟨fun _ hq=>?_,fun _ hq hq=>?_,fun _ hq hq=>?_,wb0⟩
     all_goals (simp_all;try omega)
    ·have h1':((names.length:Int)=1)=False:=by simp;omega
     rw[oneName_no h1]
     refine cof 78 Go.Proofs.Tryz.func268 fun G=>?_
     simp only[entSt,tmOf,List.append_nil,List.cons_append,List.nil_append,Nd.av,sIs]
     refine go (L:=_∧_∧_∧True) (wa6 @sC.eq_1 @h1' @ar @sMake.eq_1 @sField.eq_1 @sIs.eq_1) (wb2 (fun v0 (h:_)=>c_impl_Arity v0 h) (fun v0 (_:True)=>c_impl_isTyped v0)) wb0 wb0 wb0 ⟨fun _ hq=>?_,fun _ hq hq=>?_,fun _ hq hq=>?_,wb0⟩
     all_goals (simp_all;try omega)
   ·have hi':(s=⟨#[105,115]⟩)=False:=by simpa[sIs]using hi
    have e:primOk ⟨k,n,s,names,args⟩=(decide (names.length=0)&&decide (arity s=args.length)&&decide (n=0)):=by simp[primOk,hm,hf,hi]
    rw[e]
    refine cof 78 Go.Proofs.Tryz.func268 fun G=>?_
    simp only[entSt,tmOf,List.append_nil,List.cons_append,List.nil_append,Nd.av]
    refine go (L:=_∧_∧_∧_∧_∧True) (wa7 @sC.eq_1 @hm' @hf' @hi' @sMake.eq_1 @sField.eq_1 @sIs.eq_1) (wb2 (fun v0 (h:_)=>c_impl_Arity v0 h) (fun v0 (_:True)=>c_impl_isTyped v0)) wb0 wb0 wb0 ⟨fun _ _ hq=>?_,fun _ _ hq hq=>?_,fun _ _ hq hq hq=>?_,fun _ _ hq hq hq=>?_,fun _ _=>?_,wb0⟩
    all_goals (simp_all;try omega)
theorem c_spec_l3Prim(c:Nd)(hs:c.sm):Con PP 256 [c.av] [] [] (fun r o=>r=.sc (.bool (primOk c))):=by
 obtain⟨k,n,s,names,args⟩:=c
 obtain⟨g1,g2⟩:=hs
 dsimp only at g1 g2
 by_cases hm:s=sMake
 ·subst hm
  have e:primOk ⟨k,n,sMake,names,args⟩=(decide (n=0)&&decide (args.length≤8)&&oneName names):=by simp[primOk]
  rw[e]
  by_cases h1:names.length=1
  ·have h0:0<names.length:=by omega
   have h1':((names.length:Int)=1)=True:=by simp[h1]
   have h0':(0:Int)<(names.length:Int):=by omega
   have hz:=g2 _ (List.getElem_mem h0)
   rw[oneName_eq h1]
   refine cof 91 Go.Proofs.Tryz.func256 fun G=>?_
   simp only[entSt,tmOf,List.append_nil,List.cons_append,List.nil_append,Nd.av,sMake]
   refine go (L:=_∧_∧_∧True) (wa4 @sC.eq_1 @h0 @h0' @h1') (wb1 (fun v0 (h:_)=>c_spec_IsName v0 h)) wb0 wb0 wb0 ⟨fun _ _ _=>?_,fun _ _ _=>?_,fun _ _=>?_,wb0⟩
   all_goals (simp_all;try omega)
  ·have h1':((names.length:Int)=1)=False:=by simp;omega
   rw[oneName_no h1]
   refine cof 91 Go.Proofs.Tryz.func256 fun G=>?_
   simp only[entSt,tmOf,List.append_nil,List.cons_append,List.nil_append,Nd.av,sMake]
   refine go (L:=_∧True) (wa2 @sC.eq_1 @h1') wb0 wb0 wb0 wb0 ⟨fun _=>?_,wb0⟩
   all_goals (simp_all;try omega)
 ·have hm':(s=⟨#[109,97,107,101]⟩)=False:=by simpa[sMake]using hm
  by_cases hf:s=sField
  ·subst hf
   have e:primOk ⟨k,n,sField,names,args⟩=(oneName names&&decide (args.length=1)&&inRange n 0 7):=by simp[primOk,sField,sMake]
   rw[e]
   by_cases h1:names.length=1
   ·have h0:0<names.length:=by omega
    have h1':((names.length:Int)=1)=True:=by simp[h1]
    have h0':(0:Int)<(names.length:Int):=by omega
    have hz:=g2 _ (List.getElem_mem h0)
    rw[oneName_eq h1]
    refine cof 91 Go.Proofs.Tryz.func256 fun G=>?_
    simp only[entSt,tmOf,List.append_nil,List.cons_append,List.nil_append,Nd.av,sField]
    refine go (L:=_∧_∧_∧True) (wa4 @sC.eq_1 @h0 @h0' @h1') (wb2 (fun v0 (h:_)=>c_spec_IsName v0 h) (fun v0 v1 v2 (_:True)=>c_spec_l1In v0 v1 v2)) wb0 wb0 wb0 ⟨fun _ _ _=>?_,fun _ _ _=>?_,fun _ _=>?_,wb0⟩
    all_goals (simp_all;try omega)
   ·have h1':((names.length:Int)=1)=False:=by simp;omega
    rw[oneName_no h1]
    refine cof 91 Go.Proofs.Tryz.func256 fun G=>?_
    simp only[entSt,tmOf,List.append_nil,List.cons_append,List.nil_append,Nd.av,sField]
    refine go (L:=_∧True) (wa2 @sC.eq_1 @h1') wb0 wb0 wb0 wb0 ⟨fun _=>?_,wb0⟩
    all_goals (simp_all;try omega)
  ·have hf':(s=⟨#[102,105,101,108,100]⟩)=False:=by simpa[sField]using hf
   by_cases hi:s=sIs
   ·subst hi
    have e:primOk ⟨k,n,sIs,names,args⟩=(oneName names&&decide (args.length=1)&&decide (n=0)):=by simp[primOk,sField,sMake,sIs]
    rw[e]
    by_cases h1:names.length=1
    ·have h0:0<names.length:=by omega
     have h1':((names.length:Int)=1)=True:=by simp[h1]
     have h0':(0:Int)<(names.length:Int):=by omega
     have hz:=g2 _ (List.getElem_mem h0)
     rw[oneName_eq h1]
     refine cof 91 Go.Proofs.Tryz.func256 fun G=>?_
     simp only[entSt,tmOf,List.append_nil,List.cons_append,List.nil_append,Nd.av,sIs]
     refine go (L:=_∧_∧_∧True) (wa4 @sC.eq_1 @h0 @h0' @h1') (wb1 (fun v0 (h:_)=>c_spec_IsName v0 h)) wb0 wb0 wb0 ⟨fun _ _ _=>?_,fun _ _ _=>?_,fun _ _=>?_,wb0⟩
     all_goals (simp_all;try omega)
    ·have h1':((names.length:Int)=1)=False:=by simp;omega
     rw[oneName_no h1]
     refine cof 91 Go.Proofs.Tryz.func256 fun G=>?_
     simp only[entSt,tmOf,List.append_nil,List.cons_append,List.nil_append,Nd.av,sIs]
     refine go (L:=_∧True) (wa2 @sC.eq_1 @h1') wb0 wb0 wb0 wb0 ⟨fun _=>?_,wb0⟩
     all_goals (simp_all;try omega)
   ·have hi':(s=⟨#[105,115]⟩)=False:=by simpa[sIs]using hi
    have e:primOk ⟨k,n,s,names,args⟩=(decide (names.length=0)&&decide (arity s=args.length)&&decide (n=0)):=by simp[primOk,hm,hf,hi]
    rw[e]
    refine cof 91 Go.Proofs.Tryz.func256 fun G=>?_
    simp only[entSt,tmOf,List.append_nil,List.cons_append,List.nil_append,Nd.av]
    refine go (L:=_∧_∧_∧True) (wa4 @sC.eq_1 @hm' @hf' @hi') (wb1 (fun v0 (_:True)=>c_spec_Arity v0)) wb0 wb0 wb0 ⟨fun _ _ _=>?_,fun _ _ _=>?_,fun _ _=>?_,wb0⟩
    all_goals (simp_all;try omega)
end Go.Own
set_option maxRecDepth 1000000
set_option maxHeartbeats 4000000
namespace Go.Own
attribute [local irreducible] WPc WPL WPS WPS1 WPS2 HAny endP
variable [Laid]
open Go.Lib Go.RowKit
def nodeOk(c:Nd):Bool :=
 if c.k=1 then inRange c.n (-1000000) 1000000&&decide (c.s=zs)&&decide (c.names.length=0)&&decide (c.args.length=0)
 else if c.k=2 then inRange c.n 0 1&&decide (c.s=zs)&&decide (c.names.length=0)&&decide (c.args.length=0)
 else if c.k=3 then decide (c.n=0)&&decide (c.s=zs)&&decide (c.names.length=0)&&decide (c.args.length=0)
 else if c.k=4 then decide (c.n=0)&&sym c.s&&decide (c.names.length=0)&&decide (c.args.length=0)
 else if c.k=5 then decide (c.n=0)&&isName c.s&&decide (c.names.length=0)&&decide (c.args.length=0)
 else if c.k=6 then decide (c.n=0)&&decide (c.s=zs)&&decide (c.names.length=0)&&decide (c.args.length=3)
 else if c.k=7 then decide (c.n=0)&&decide (c.s=zs)&&namesOk c.names 8&&decide (c.args.length=1)
 else if c.k=8 then decide (c.n=0)&&decide (c.s=zs)&&decide (c.names.length=0)&&inRange c.args.length 1 9
 else if c.k=9 then primOk c
 else if c.k=10 then decide (c.n=0)&&isName c.s&&decide (c.names.length=0)&&decide (c.args.length=1)
 else if c.k=11 then decide (c.n=0)&&decide (c.s=zs)&&decide (c.names.length=0)&&decide (2≤c.args.length)
 else false
theorem c_impl_nodeOk[F:Facts.Of](c:Nd)(hs:c.sm):Con PP 218 [c.av] [] [] (fun r o=>r=.sc (.bool (nodeOk c))):=by
 obtain⟨g1,g2⟩:=hs
 have g3:c.s.size≤281474976710656:=by omega
 have ep:primOk ⟨c.k,c.n,c.s,c.names,c.args⟩=primOk c:=rfl
 have gs:Nd.sm ⟨c.k,c.n,c.s,c.names,c.args⟩:=⟨g1,g2⟩
 refine cof 168 Go.Proofs.Tryz.func218 fun G=>?_
 simp only[entSt,tmOf,List.append_nil,List.cons_append,List.nil_append,Nd.av]
 repeat' (first
  |apply WPc.sq
  |apply WPc.block
  |(refine WPc.ret (endP.val (.inr rfl) rfl rfl (by simp;rfl) ?_))
  |apply WPc.skip
  |refine WPL.nil ?_
  |(apply WPL.cL (c_impl_inRange _ _ _);(case q=>(repeat' (first|refine And.intro ?_ ?_|intro _|(with_reducible exact cleanOut_nil)|(refine Eqv.mk ?_;first|rfl|(simp -implicitDefEqProofs [ep];done))|(simp -implicitDefEqProofs [ep];done)|(simp -implicitDefEqProofs [ep];rfl)|(simp;done)|(simp;rfl)|rfl))))
  |(apply WPL.cL (c_impl_symOk _ ?g1);(case q=>(repeat' (first|refine And.intro ?_ ?_|intro _|(with_reducible exact cleanOut_nil)|(refine Eqv.mk ?_;first|rfl|(simp -implicitDefEqProofs [ep];done))|(simp -implicitDefEqProofs [ep];done)|(simp -implicitDefEqProofs [ep];rfl)|(simp;done)|(simp;rfl)|rfl)));(case g1=>(first|assumption|omega)))
  |(apply WPL.cL (c_impl_IsName _ ?g1);(case q=>(repeat' (first|refine And.intro ?_ ?_|intro _|(with_reducible exact cleanOut_nil)|(refine Eqv.mk ?_;first|rfl|(simp -implicitDefEqProofs [ep];done))|(simp -implicitDefEqProofs [ep];done)|(simp -implicitDefEqProofs [ep];rfl)|(simp;done)|(simp;rfl)|rfl)));(case g1=>(first|assumption|omega)))
  |(apply WPL.cL (c_impl_namesOk _ _ ?g1);(case q=>(repeat' (first|refine And.intro ?_ ?_|intro _|(with_reducible exact cleanOut_nil)|(refine Eqv.mk ?_;first|rfl|(simp -implicitDefEqProofs [ep];done))|(simp -implicitDefEqProofs [ep];done)|(simp -implicitDefEqProofs [ep];rfl)|(simp;done)|(simp;rfl)|rfl)));(case g1=>(first|assumption|omega)))
  |(apply WPL.cL (c_impl_primOk ⟨_,_,_,_,_⟩ ?g1);(case q=>(repeat' (first|refine And.intro ?_ ?_|intro _|(with_reducible exact cleanOut_nil)|(refine Eqv.mk ?_;first|rfl|(simp -implicitDefEqProofs [ep];done))|(simp -implicitDefEqProofs [ep];done)|(simp -implicitDefEqProofs [ep];rfl)|(simp;done)|(simp;rfl)|rfl)));(case g1=>(first|assumption|omega)))
  |(refine WPL.call0f ?_ ?_ ?_;(focus(simp;done));(focus(simp;done)))
  |((first|refine WPc.rq tok rfl fun K hK=>?_|refine WPL.rn tok _ (by simp[ahead,isFn];rfl) fun K hK=>?_|refine WPS.rn tok _ (by simp[aheadS];rfl) fun K hK=>?_);simp -implicitDefEqProofs +contextual [-Int.not_le,-Int.not_lt,-Nat.not_le,-Nat.not_lt,-List.all_eq_true,-List.all_eq_false,-List.any_eq_true,-List.any_eq_false,ep];(repeat1' (first|apply hK|apply And.intro|intro _))<;>clear hK K<;>(try dsimp only[List.drop]))
  |(refine WPc.sched (id:=1) tok [] [(0,[]),(1,[]),(2,[]),(3,[]),(4,[]),(5,[]),(6,[]),(7,[]),(8,[]),(9,[]),(10,[]),(11,[]),(12,[]),(13,[]),(14,[]),(15,[]),(16,[])] (by kernel_rfl) ?_)
  |(refine WPS.nil ?_)
  |(refine WPc.region ?_;simp only[List.toList_toArray])
  |(refine WPc.cond (by simp[-Bool.not_eq_eq_eq_not];rfl) (fun hq=>?_) (fun hq=>?_)<;>simp only[hq]<;>(try(exfalso;(simp only[decide_eq_true_eq,decide_eq_false_iff_not]at hq);omega))))
 all_goals (first|(simp_all[nodeOk,zs];done)|(simp_all[nodeOk,zs];omega)|trace_state)
theorem c_spec_l3Node(c:Nd)(hs:c.sm):Con PP 194 [c.av] [] [] (fun r o=>r=.sc (.bool (nodeOk c))):=by
 obtain⟨g1,g2⟩:=hs
 have g3:c.s.size≤281474976710656:=by omega
 have ep:primOk ⟨c.k,c.n,c.s,c.names,c.args⟩=primOk c:=rfl
 have gs:Nd.sm ⟨c.k,c.n,c.s,c.names,c.args⟩:=⟨g1,g2⟩
 refine cof 190 Go.Proofs.Tryz.func194 fun G=>?_
 simp only[entSt,tmOf,List.append_nil,List.cons_append,List.nil_append,Nd.av]
 repeat' (first
  |apply WPc.sq
  |apply WPc.block
  |(refine WPc.ret (endP.val (.inr rfl) rfl rfl (by simp;rfl) ?_))
  |apply WPc.skip
  |refine WPL.nil ?_
  |(apply WPL.cL (c_spec_l1In _ _ _);(case q=>(repeat' (first|refine And.intro ?_ ?_|intro _|(with_reducible exact cleanOut_nil)|(refine Eqv.mk ?_;first|rfl|(simp -implicitDefEqProofs [ep];done))|(simp -implicitDefEqProofs [ep];done)|(simp -implicitDefEqProofs [ep];rfl)|(simp;done)|(simp;rfl)|rfl))))
  |(apply WPL.cL (c_spec_l2Sym _ ?g1);(case q=>(repeat' (first|refine And.intro ?_ ?_|intro _|(with_reducible exact cleanOut_nil)|(refine Eqv.mk ?_;first|rfl|(simp -implicitDefEqProofs [ep];done))|(simp -implicitDefEqProofs [ep];done)|(simp -implicitDefEqProofs [ep];rfl)|(simp;done)|(simp;rfl)|rfl)));(case g1=>(first|assumption|omega)))
  |(apply WPL.cL (c_spec_IsName _ ?g1);(case q=>(repeat' (first|refine And.intro ?_ ?_|intro _|(with_reducible exact cleanOut_nil)|(refine Eqv.mk ?_;first|rfl|(simp -implicitDefEqProofs [ep];done))|(simp -implicitDefEqProofs [ep];done)|(simp -implicitDefEqProofs [ep];rfl)|(simp;done)|(simp;rfl)|rfl)));(case g1=>(first|assumption|omega)))
  |(apply WPL.cL (c_spec_l3Names _ _ ?g1);(case q=>(repeat' (first|refine And.intro ?_ ?_|intro _|(with_reducible exact cleanOut_nil)|(refine Eqv.mk ?_;first|rfl|(simp -implicitDefEqProofs [ep];done))|(simp -implicitDefEqProofs [ep];done)|(simp -implicitDefEqProofs [ep];rfl)|(simp;done)|(simp;rfl)|rfl)));(case g1=>(first|assumption|omega)))
  |(apply WPL.cL (c_spec_l3Prim ⟨_,_,_,_,_⟩ ?g1);(case q=>(repeat' (first|refine And.intro ?_ ?_|intro _|(with_reducible exact cleanOut_nil)|(refine Eqv.mk ?_;first|rfl|(simp -implicitDefEqProofs [ep];done))|(simp -implicitDefEqProofs [ep];done)|(simp -implicitDefEqProofs [ep];rfl)|(simp;done)|(simp;rfl)|rfl)));(case g1=>(first|assumption|omega)))
  |(refine WPL.call0f ?_ ?_ ?_;(focus(simp;done));(focus(simp;done)))
  |((first|refine WPc.rq tok rfl fun K hK=>?_|refine WPL.rn tok _ (by simp[ahead,isFn];rfl) fun K hK=>?_);simp -implicitDefEqProofs +contextual [-Int.not_le,-Int.not_lt,-Nat.not_le,-Nat.not_lt,-List.all_eq_true,-List.all_eq_false,-List.any_eq_true,-List.any_eq_false,ep];(repeat1' (first|apply hK|apply And.intro|intro _))<;>clear hK K<;>(try dsimp only[List.drop]))
  |(refine WPc.region ?_;simp only[List.toList_toArray])
  |(refine WPc.cond (by simp[-Bool.not_eq_eq_eq_not];rfl) (fun hq=>?_) (fun hq=>?_)<;>simp only[hq]<;>(try(exfalso;(simp only[decide_eq_true_eq,decide_eq_false_iff_not]at hq);omega))))
 all_goals (first|(simp_all[nodeOk,zs];done)|(simp_all[nodeOk,zs];omega)|trace_state)
end Go.Own
set_option maxRecDepth 1000000
set_option maxHeartbeats 4000000
namespace Go.Own
variable [Laid]
def bump(l:List Int)(a:Int):List Int:=l.modify a.toNat (·+1)
def bumps(l:List Int)(xs:List Int):List Int:=xs.foldl bump l
def seenTo(ns:List Nd)(i:Nat):List Int:=(ns.take i).foldl (fun l c=>bumps l c.args) (List.replicate ns.length 0)
def argsOk(i:Nat)(xs:List Int):Bool:=xs.all fun a=>inRange a 0 ((i:Int)-1)
def okNode(ns:List Nd)(i:Nat):Bool:=match ns[i]? with
 |some c=>nodeOk c&&argsOk i c.args
 |none=>true
def progOk(p:Pg):Bool:=inRange p.nodes.length 1 400&&decide (p.root=(p.nodes.length:Int)-1)&&(List.range p.nodes.length).all (okNode p.nodes)&&((seenTo p.nodes p.nodes.length).take (p.nodes.length-1)).all fun n=>decide (n=1)
@[simp] theorem bump_len(l:List Int)(a:Int):(bump l a).length=l.length:=by simp[bump]
@[simp] theorem bumps_len:∀(xs:List Int) (l:List Int),(bumps l xs).length=l.length
 |[],l=>rfl
 |a::xs,l=>by rw[bumps,List.foldl_cons];exact(bumps_len xs (bump l a)).trans (bump_len l a)
theorem seen_fold_len:∀(cs:List Nd) (l:List Int),(cs.foldl (fun l c=>bumps l c.args) l).length=l.length
 |[],l=>rfl
 |c::cs,l=>by rw[List.foldl_cons,seen_fold_len cs];simp
@[simp] theorem seenTo_len(ns:List Nd)(i:Nat):(seenTo ns i).length=ns.length:=by rw[seenTo,seen_fold_len];simp
theorem seenTo_zero(ns:List Nd):seenTo ns 0=List.replicate ns.length 0:=by simp[seenTo]
theorem seenTo_next{ns:List Nd}{i:Nat}(hi:i<ns.length):seenTo ns (i+1)=bumps (seenTo ns i) ns[i].args:=by
 rw[seenTo,List.take_add_one,List.getElem?_eq_getElem hi,Option.toList_some,List.foldl_append]
 rfl
theorem bumps_zero(l:List Int):bumps l []=l:=rfl
theorem bumps_next{l xs:List Int}{k:Nat}(hk:k<xs.length):bumps l (xs.take (k+1))=bump (bumps l (xs.take k)) xs[k]:=by
 rw[bumps,List.take_add_one,List.getElem?_eq_getElem hk,Option.toList_some,List.foldl_append]
 rfl
def bnd(B:Int)(l:List Int):Prop:=∀x,x∈l→0≤x∧x≤B
theorem mem_modify{α:Type}{l:List α}{i:Nat}{f:α→α}{x:α}(h:x∈l.modify i f):x∈l∨∃y,y∈l∧x=f y:=by
 obtain⟨j,hj⟩:=List.mem_iff_getElem?.1 h
 rw[List.getElem?_modify]at hj
 cases hl:l[j]? with
 |none=>simp[hl]at hj
 |some y =>
  simp[hl]at hj
  split at hj
  ·exact .inr ⟨y,List.mem_iff_getElem?.2 ⟨j,hl⟩,hj.symm⟩
  ·exact .inl (hj▸List.mem_iff_getElem?.2 ⟨j,hl⟩)
theorem bnd_bump{B:Int}{l:List Int}(h:bnd B l)(a:Int):bnd (B+1) (bump l a):=fun x hx=>by
 rcases mem_modify hx with hx|⟨y,hy,rfl⟩
 ·have:=h x hx;omega
 ·have:=h y hy;omega
theorem bnd_bumps:∀(xs:List Int) {B:Int} {l:List Int} (_:bnd B l),bnd (B+xs.length) (bumps l xs)
 |[],B,l,h=>by simpa[bumps]using h
 |a::xs,B,l,h=>by
  have:=bnd_bumps xs (bnd_bump h a)
  rw[bumps,List.foldl_cons]
  intro x hx
  have:=this x hx
  simp only[List.length_cons]
  omega
theorem bnd_fold(M:Nat):∀(cs:List Nd) {B:Int} {l:List Int} (_:bnd B l) (_:∀c,c∈cs→c.args.length≤M),bnd (B+M*cs.length) (cs.foldl (fun l c=>bumps l c.args) l)
 |[],B,l,h,_=>by simpa using h
 |c::cs,B,l,h,hc=>by
  have h1:=bnd_bumps c.args h
  have h2:=bnd_fold M cs h1 fun d hd=>hc d (by simp[hd])
  have h3:=hc c (by simp)
  rw[List.foldl_cons]
  intro x hx
  have:=h2 x hx
  simp only[List.length_cons]
  refine⟨this.1,Int.le_trans this.2 ?_⟩
  have:(M:Int)*((cs.length+1:Nat):Int)=M*cs.length+M:=by rw[Int.natCast_add,Int.mul_add];simp
  rw[this]
  omega
theorem bnd_seen{ns:List Nd}{i:Nat}(hr:∀c,c∈ns→c.args.length≤1000000000)(hi:i≤400):bnd 400000000000 (seenTo ns i):=by
 have h0:bnd 0 (List.replicate ns.length (0:Int)):=fun x hx=>by
  have:=List.eq_of_mem_replicate hx;omega
 have:=bnd_fold 1000000000 (ns.take i) h0 fun c hc=>hr c (List.mem_of_mem_take hc)
 intro x hx
 have:=this x hx
 have hl:(ns.take i).length≤i:=by simp;omega
 refine⟨this.1,Int.le_trans this.2 ?_⟩
 have h2:((1000000000:Nat):Int)*((ns.take i).length:Int)≤1000000000*400:=by
  have:((ns.take i).length:Int)≤400:=by omega
  have:=Int.mul_le_mul_of_nonneg_left this (show (0:Int)≤((1000000000:Nat):Int) by omega)
  simpa using this
 omega
theorem bump_ne{l:List Int}{a:Int}{j:Nat}(h:a.toNat≠j):(bump l a)[j]?=l[j]?:=by
 rw[bump,List.getElem?_modify]
 cases l[j]? with
 |none=>rfl
 |some x=>simp[h]
theorem bumps_ne{j:Nat}:∀(xs:List Int) (l:List Int),(∀a,a∈xs→a.toNat≠j)→(bumps l xs)[j]?=l[j]?
 |[],l,_=>rfl
 |a::xs,l,h=>by
  rw[bumps,List.foldl_cons]
  exact(bumps_ne xs (bump l a) fun b hb=>h b (by simp[hb])).trans (bump_ne (h a (by simp)))
theorem seen_last{ns:List Nd}(h0:0<ns.length)(hall:∀i,i<ns.length→okNode ns i=true):∀i,i≤ns.length→(seenTo ns i)[ns.length-1]?=some 0
 |0,_=>by rw[seenTo_zero,List.getElem?_replicate,if_pos (by omega)]
 |i+1,hi=>by
  rw[seenTo_next (show i<ns.length by omega),bumps_ne]
  ·exact seen_last h0 hall i (by omega)
  ·intro a ha
   have:=hall i (by omega)
   simp only[okNode,List.getElem?_eq_getElem (show i<ns.length by omega),Bool.and_eq_true]at this
   have:=List.all_eq_true.1 this.2 a ha
   simp only[inRange,Bool.and_eq_true,decide_eq_true_eq]at this
   omega
theorem okNode_eq{ns:List Nd}{i:Nat}(hi:i<ns.length):okNode ns i=(nodeOk ns[i]&&argsOk i ns[i].args):=by simp[okNode,hi]
theorem progOk_node{p:Pg}{i:Nat}(hi:i<p.nodes.length)(h:okNode p.nodes i=false):progOk p=false:=by
 have hv:(List.range p.nodes.length)[i]?=some i:=List.getElem?_range hi
 simp[progOk,all_at hv h]
theorem progOk_len{p:Pg}(h:inRange p.nodes.length 1 400=false):progOk p=false:=by simp[progOk,h]
theorem progOk_root{p:Pg}(h:¬p.root=(p.nodes.length:Int)-1):progOk p=false:=by simp[progOk,h]
theorem progOk_seen{p:Pg}{i:Nat}(hi:i<p.nodes.length-1){x:Int}(hx:(seenTo p.nodes p.nodes.length)[i]?=some x)(h:¬x=1):progOk p=false:=by
 have hv:((seenTo p.nodes p.nodes.length).take (p.nodes.length-1))[i]?=some x:=by rw[List.getElem?_take_of_lt hi,hx]
 rw[progOk,all_at hv (by simp[h]),Bool.and_false]
theorem progOk_yes{p:Pg}(h1:inRange p.nodes.length 1 400=true)(h2:p.root=(p.nodes.length:Int)-1)(h3:∀i,i<p.nodes.length→okNode p.nodes i=true)(h4:((seenTo p.nodes p.nodes.length).take (p.nodes.length-1)).all (fun n=>decide (n=1))=true):progOk p=true:=by
 have:(List.range p.nodes.length).all (okNode p.nodes)=true:=List.all_eq_true.2 fun i hi=>h3 i (List.mem_range.1 hi)
 rw[progOk,h1,this,h4,decide_eq_true h2];rfl
theorem modify_nC{l:List Int}{i:Nat}(hi:i<l.length):(l.map nC).modify i (fun r=>r.set 0 (.sc (.int .i64 (l[i]+1))))=(l.modify i (·+1)).map nC:=by
 apply List.ext_getElem?
 intro j
 rw[List.getElem?_modify,List.getElem?_map,List.getElem?_map,List.getElem?_modify]
 cases hj:l[j]? with
 |none=>rfl
 |some c =>
  simp only[Option.map_some,Option.map_eq_map]
  split
  ·rename_i e;subst e
   rw[List.getElem?_eq_getElem hi]at hj
   injection hj with hj
   subst hj
   rfl
  ·rfl
end Go.Own
set_option maxRecDepth 1000000
set_option maxHeartbeats 4000000
namespace Go.Own
attribute [local irreducible] WPc WPL WPS WPS1 WPS2 HAny endP
variable [Laid]
open Go.Lib Go.RowKit
def Pg.tx(p:Pg):Prop:=∀c,c∈p.nodes→c.tx
structure Pg.rm(p:Pg):Prop where
 nodes:p.nodes.length≤1000000000
 nodes1:∀c,c∈p.nodes→c.rm
theorem szR_cases(x:Int)(c:Nat):((c:Int)≤x∧szR x c=x-c)∨(x<c∧szR x c = -1):=by
 unfold szR
 split<;>omega
@[simp] theorem dzc_Cl(h:List Cl):dzLL (h.map Cl.cs)=h.map Cl.cs:=by
 rw[dzLL_map,List.map_map]
 refine List.map_congr_left fun c _=>?_
 simp[Cl.cs,dzL,deepFz,dz_sC,dz_V]
@[simp] theorem dzc_Nd(h:List Nd):dzLL (h.map Nd.cs)=h.map Nd.cs:=by
 rw[dzLL_map,List.map_map]
 refine List.map_congr_left fun c _=>?_
 simp[Nd.cs,dzL,deepFz,dz_sC]
attribute [simp] dzL deepFz
structure Lk where
 name:ByteArray
 inst:Int
 tgt:ByteArray
 deriving DecidableEq
def Lk.cs(c:Lk):List C:=[.sc (.string c.name),.sc (.int .i64 c.inst),.sc (.string c.tgt)]
def Lk.av(c:Lk):AV:=.agg [.sc (.string c.name),.sc (.int .i64 c.inst),.sc (.string c.tgt)]
@[simp] theorem Lk.len(c:Lk):c.cs.length=3:=rfl
@[simp] theorem Lk.frz(c:Lk):c.cs.map Own.frz=c.cs:=rfl
@[simp] theorem Lk.pln(c:Lk):c.cs.all plainC=true:=rfl
@[simp] theorem Lk.lenA(l:List Lk):lenAll 3 (l.map Lk.cs)=true:=lenAll_map Lk.len l
@[simp] theorem Lk.frzA(l:List Lk):frzAll (l.map Lk.cs)=l.map Lk.cs:=frzAll_map Lk.frz l
@[simp] theorem Lk.plnA(l:List Lk):plainAll (l.map Lk.cs)=true:=plainAll_map Lk.pln l
@[simp] theorem dz_Lk(h:List Lk):dzLL (h.map Lk.cs)=h.map Lk.cs:=by rw[dzLL_map,List.map_map];rfl
@[simp] theorem sc_Lk(l:List Lk):scLL (l.map Lk.cs)=true:=by
 induction l with
 |nil=>rfl
 |cons x l ih=>simp only[List.map_cons,scLL,ih];rfl
@[simp] theorem dz_Lk1(h:List Lk):dzLL (List.take h.length (h.map Lk.cs))=h.map Lk.cs:=by
 rw[List.take_of_length_le (by simp),dz_Lk]
structure Lk.tx(c:Lk):Prop where
 name:c.name.size≤9223372036854775807
 tgt:c.tgt.size≤9223372036854775807
def costLk(c:Lk):Nat:=c.name.size+c.tgt.size
def costLkS(l:List Lk):Nat:=l.length+(l.map costLk).sum
structure Ty where
 name:ByteArray
 size:Int
 deriving DecidableEq
def Ty.cs(c:Ty):List C:=[.sc (.string c.name),.sc (.int .i64 c.size)]
def Ty.av(c:Ty):AV:=.agg [.sc (.string c.name),.sc (.int .i64 c.size)]
@[simp] theorem Ty.len(c:Ty):c.cs.length=2:=rfl
@[simp] theorem Ty.frz(c:Ty):c.cs.map Own.frz=c.cs:=rfl
@[simp] theorem Ty.pln(c:Ty):c.cs.all plainC=true:=rfl
@[simp] theorem Ty.lenA(l:List Ty):lenAll 2 (l.map Ty.cs)=true:=lenAll_map Ty.len l
@[simp] theorem Ty.frzA(l:List Ty):frzAll (l.map Ty.cs)=l.map Ty.cs:=frzAll_map Ty.frz l
@[simp] theorem Ty.plnA(l:List Ty):plainAll (l.map Ty.cs)=true:=plainAll_map Ty.pln l
@[simp] theorem dz_Ty(h:List Ty):dzLL (h.map Ty.cs)=h.map Ty.cs:=by rw[dzLL_map,List.map_map];rfl
@[simp] theorem sc_Ty(l:List Ty):scLL (l.map Ty.cs)=true:=by
 induction l with
 |nil=>rfl
 |cons x l ih=>simp only[List.map_cons,scLL,ih];rfl
@[simp] theorem dz_Ty1(h:List Ty):dzLL (List.take h.length (h.map Ty.cs))=h.map Ty.cs:=by
 rw[List.take_of_length_le (by simp),dz_Ty]
structure Ty.tx(c:Ty):Prop where
 name:c.name.size≤9223372036854775807
def costTy(c:Ty):Nat:=c.name.size
def costTyS(l:List Ty):Nat:=l.length+(l.map costTy).sum
structure In where
 lib:ByteArray
 ver:Int
 names:List ByteArray
 vals:List V
 links:List Lk
 types:List Ty
 deriving DecidableEq
def In.cs(c:In):List C:=[.sc (.string c.lib),.sc (.int .i64 c.ver),.fz (c.names.map sC),.fz (c.vals.map V.cs),.fz (c.links.map Lk.cs),.fz (c.types.map Ty.cs)]
def In.av(c:In):AV:=.agg [.sc (.string c.lib),.sc (.int .i64 c.ver),.fz (c.names.map sC),.fz (c.vals.map V.cs),.fz (c.links.map Lk.cs),.fz (c.types.map Ty.cs)]
@[simp] theorem In.len(c:In):c.cs.length=6:=rfl
@[simp] theorem In.frz(c:In):c.cs.map Own.frz=c.cs:=rfl
@[simp] theorem In.pln(c:In):c.cs.all plainC=true:=rfl
@[simp] theorem In.lenA(l:List In):lenAll 6 (l.map In.cs)=true:=lenAll_map In.len l
@[simp] theorem In.frzA(l:List In):frzAll (l.map In.cs)=l.map In.cs:=frzAll_map In.frz l
@[simp] theorem In.plnA(l:List In):plainAll (l.map In.cs)=true:=plainAll_map In.pln l
def In.ow(c:In):List C:=[.sc (.string c.lib),.sc (.int .i64 c.ver),.sl 9 1 (c.names.map sC),.sl 115 3 (c.vals.map V.cs),.sl 130 3 (c.links.map Lk.cs),.sl 212 2 (c.types.map Ty.cs)]
@[simp] theorem In.lenO(c:In):c.ow.length=6:=rfl
@[simp] theorem In.lenOA(l:List In):lenAll 6 (l.map In.ow)=true:=lenAll_map In.lenO l
@[simp] theorem dz_In(h:List In):dzLL (h.map In.ow)=h.map In.cs:=by
 rw[dzLL_map,List.map_map]
 refine List.map_congr_left fun c _=>?_
 simp[In.ow,In.cs,dzL,deepFz,dz_sC,dz_V]
@[simp] theorem sc_In(l:List In):scLL (l.map In.ow)=true:=by
 induction l with
 |nil=>rfl
 |cons x l ih=>simp[List.map_cons,scLL,ih,In.ow,scL,scC,sc_sC,sc_nC,sc_V]
@[simp] theorem dzc_In(h:List In):dzLL (h.map In.cs)=h.map In.cs:=by
 rw[dzLL_map,List.map_map]
 refine List.map_congr_left fun c _=>?_
 simp[In.cs,dzL,deepFz,dz_sC,dz_V]
@[simp] theorem dz_In1(h:List In):dzLL (List.take h.length (h.map In.ow))=h.map In.cs:=by
 rw[List.take_of_length_le (by simp),dz_In]
structure In.tx(c:In):Prop where
 lib:c.lib.size≤9223372036854775807
 names:∀x,x∈c.names→x.size≤9223372036854775807
 vals:∀x,x∈c.vals→x.s.size≤9223372036854775807
 links:∀x,x∈c.links→x.tx
 types:∀x,x∈c.types→x.tx
structure In.rm(c:In):Prop where
 names:c.names.length≤1000000000
 vals:c.vals.length≤1000000000
 links:c.links.length≤1000000000
 types:c.types.length≤1000000000
def costIn(c:In):Nat:=c.lib.size+costS c.names+costV c.vals+costLkS c.links+costTyS c.types
def costInS(l:List In):Nat:=l.length+(l.map costIn).sum
structure Un where
 home:Int
 prog:Pg
 deriving DecidableEq
def Un.cs(c:Un):List C:=[.sc (.int .i64 c.home),.fz (c.prog.nodes.map Nd.cs),.sc (.int .i64 c.prog.root)]
def Un.av(c:Un):AV:=.agg [.sc (.int .i64 c.home),.fz (c.prog.nodes.map Nd.cs),.sc (.int .i64 c.prog.root)]
@[simp] theorem Un.len(c:Un):c.cs.length=3:=rfl
@[simp] theorem Un.frz(c:Un):c.cs.map Own.frz=c.cs:=rfl
@[simp] theorem Un.pln(c:Un):c.cs.all plainC=true:=rfl
@[simp] theorem Un.lenA(l:List Un):lenAll 3 (l.map Un.cs)=true:=lenAll_map Un.len l
@[simp] theorem Un.frzA(l:List Un):frzAll (l.map Un.cs)=l.map Un.cs:=frzAll_map Un.frz l
@[simp] theorem Un.plnA(l:List Un):plainAll (l.map Un.cs)=true:=plainAll_map Un.pln l
def Un.ow(c:Un):List C:=[.sc (.int .i64 c.home),.sl 206 5 (c.prog.nodes.map Nd.ow),.sc (.int .i64 c.prog.root)]
@[simp] theorem Un.lenO(c:Un):c.ow.length=3:=rfl
@[simp] theorem Un.lenOA(l:List Un):lenAll 3 (l.map Un.ow)=true:=lenAll_map Un.lenO l
@[simp] theorem dz_Un(h:List Un):dzLL (h.map Un.ow)=h.map Un.cs:=by
 rw[dzLL_map,List.map_map]
 refine List.map_congr_left fun c _=>?_
 simp[Un.ow,Un.cs,dzL,deepFz,dz_sC,dz_V]
@[simp] theorem sc_Un(l:List Un):scLL (l.map Un.ow)=true:=by
 induction l with
 |nil=>rfl
 |cons x l ih=>simp[List.map_cons,scLL,ih,Un.ow,scL,scC,sc_sC,sc_nC,sc_V]
@[simp] theorem dzc_Un(h:List Un):dzLL (h.map Un.cs)=h.map Un.cs:=by
 rw[dzLL_map,List.map_map]
 refine List.map_congr_left fun c _=>?_
 simp[Un.cs,dzL,deepFz,dz_sC,dz_V]
@[simp] theorem dz_Un1(h:List Un):dzLL (List.take h.length (h.map Un.ow))=h.map Un.cs:=by
 rw[List.take_of_length_le (by simp),dz_Un]
structure Un.tx(c:Un):Prop where
 prog:c.prog.tx
structure Un.rm(c:Un):Prop where
 prog:c.prog.rm
def costUn(c:Un):Nat:=costP c.prog.nodes
def costUnS(l:List Un):Nat:=l.length+(l.map costUn).sum
structure Sy where
 heap:List Cl
 insts:List In
 units:List Un
 out:List ByteArray
def Sy.cs(c:Sy):List C:=[.fz (c.heap.map Cl.cs),.fz (c.insts.map In.cs),.fz (c.units.map Un.cs),.fz (c.out.map sC)]
def Sy.av(c:Sy):AV:=.agg [.fz (c.heap.map Cl.cs),.fz (c.insts.map In.cs),.fz (c.units.map Un.cs),.fz (c.out.map sC)]
@[simp] theorem Sy.len(c:Sy):c.cs.length=4:=rfl
@[simp] theorem Sy.frz(c:Sy):c.cs.map Own.frz=c.cs:=rfl
@[simp] theorem Sy.pln(c:Sy):c.cs.all plainC=true:=rfl
@[simp] theorem Sy.lenA(l:List Sy):lenAll 4 (l.map Sy.cs)=true:=lenAll_map Sy.len l
@[simp] theorem Sy.frzA(l:List Sy):frzAll (l.map Sy.cs)=l.map Sy.cs:=frzAll_map Sy.frz l
@[simp] theorem Sy.plnA(l:List Sy):plainAll (l.map Sy.cs)=true:=plainAll_map Sy.pln l
def Sy.ow(c:Sy):List C:=[.sl 132 6 (c.heap.map Cl.ow),.sl 83 6 (c.insts.map In.ow),.sl 137 3 (c.units.map Un.ow),.sl 9 1 (c.out.map sC)]
@[simp] theorem Sy.lenO(c:Sy):c.ow.length=4:=rfl
@[simp] theorem Sy.lenOA(l:List Sy):lenAll 4 (l.map Sy.ow)=true:=lenAll_map Sy.lenO l
@[simp] theorem dz_Sy(h:List Sy):dzLL (h.map Sy.ow)=h.map Sy.cs:=by
 rw[dzLL_map,List.map_map]
 refine List.map_congr_left fun c _=>?_
 simp[Sy.ow,Sy.cs,dzL,deepFz,dz_sC,dz_V]
@[simp] theorem sc_Sy(l:List Sy):scLL (l.map Sy.ow)=true:=by
 induction l with
 |nil=>rfl
 |cons x l ih=>simp[List.map_cons,scLL,ih,Sy.ow,scL,scC,sc_sC,sc_nC,sc_V]
@[simp] theorem dzc_Sy(h:List Sy):dzLL (h.map Sy.cs)=h.map Sy.cs:=by
 rw[dzLL_map,List.map_map]
 refine List.map_congr_left fun c _=>?_
 simp[Sy.cs,dzL,deepFz,dz_sC,dz_V]
@[simp] theorem dz_Sy1(h:List Sy):dzLL (List.take h.length (h.map Sy.ow))=h.map Sy.cs:=by
 rw[List.take_of_length_le (by simp),dz_Sy]
structure Sy.tx(c:Sy):Prop where
 heap:∀x,x∈c.heap→x.tx
 insts:∀x,x∈c.insts→x.tx
 units:∀x,x∈c.units→x.tx
 out:∀x,x∈c.out→x.size≤9223372036854775807
structure Sy.rm(c:Sy):Prop where
 heap:c.heap.length≤1000000000
 heap1:∀x,x∈c.heap→x.rm
 insts:c.insts.length≤1000000000
 insts1:∀x,x∈c.insts→x.rm
 units:c.units.length≤1000000000
 units1:∀x,x∈c.units→x.rm
 out:c.out.length≤1000000000
def costSy(c:Sy):Nat:=costH c.heap+costInS c.insts+costUnS c.units+costS c.out
structure Bd where
 name:ByteArray
 val:V
 deriving DecidableEq
def Bd.cs(c:Bd):List C:=[.sc (.string c.name),.sc (.int .i64 c.val.k),.sc (.int .i64 c.val.n),.sc (.string c.val.s)]
def Bd.av(c:Bd):AV:=.agg [.sc (.string c.name),.sc (.int .i64 c.val.k),.sc (.int .i64 c.val.n),.sc (.string c.val.s)]
@[simp] theorem Bd.len(c:Bd):c.cs.length=4:=rfl
@[simp] theorem Bd.frz(c:Bd):c.cs.map Own.frz=c.cs:=rfl
@[simp] theorem Bd.pln(c:Bd):c.cs.all plainC=true:=rfl
@[simp] theorem Bd.lenA(l:List Bd):lenAll 4 (l.map Bd.cs)=true:=lenAll_map Bd.len l
@[simp] theorem Bd.frzA(l:List Bd):frzAll (l.map Bd.cs)=l.map Bd.cs:=frzAll_map Bd.frz l
@[simp] theorem Bd.plnA(l:List Bd):plainAll (l.map Bd.cs)=true:=plainAll_map Bd.pln l
@[simp] theorem dz_Bd(h:List Bd):dzLL (h.map Bd.cs)=h.map Bd.cs:=by rw[dzLL_map,List.map_map];rfl
@[simp] theorem sc_Bd(l:List Bd):scLL (l.map Bd.cs)=true:=by
 induction l with
 |nil=>rfl
 |cons x l ih=>simp only[List.map_cons,scLL,ih];rfl
@[simp] theorem dz_Bd1(h:List Bd):dzLL (List.take h.length (h.map Bd.cs))=h.map Bd.cs:=by
 rw[List.take_of_length_le (by simp),dz_Bd]
structure Bd.tx(c:Bd):Prop where
 name:c.name.size≤9223372036854775807
 val:c.val.s.size≤9223372036854775807
def costBd(c:Bd):Nat:=c.name.size+c.val.s.size
def costBdS(l:List Bd):Nat:=l.length+(l.map costBd).sum
structure Fm where
 unit:Int
 node:Int
 vals:List V
 env:List Bd
 deriving DecidableEq
def Fm.cs(c:Fm):List C:=[.sc (.int .i64 c.unit),.sc (.int .i64 c.node),.fz (c.vals.map V.cs),.fz (c.env.map Bd.cs)]
def Fm.av(c:Fm):AV:=.agg [.sc (.int .i64 c.unit),.sc (.int .i64 c.node),.fz (c.vals.map V.cs),.fz (c.env.map Bd.cs)]
@[simp] theorem Fm.len(c:Fm):c.cs.length=4:=rfl
@[simp] theorem Fm.frz(c:Fm):c.cs.map Own.frz=c.cs:=rfl
@[simp] theorem Fm.pln(c:Fm):c.cs.all plainC=true:=rfl
@[simp] theorem Fm.lenA(l:List Fm):lenAll 4 (l.map Fm.cs)=true:=lenAll_map Fm.len l
@[simp] theorem Fm.frzA(l:List Fm):frzAll (l.map Fm.cs)=l.map Fm.cs:=frzAll_map Fm.frz l
@[simp] theorem Fm.plnA(l:List Fm):plainAll (l.map Fm.cs)=true:=plainAll_map Fm.pln l
def Fm.ow(c:Fm):List C:=[.sc (.int .i64 c.unit),.sc (.int .i64 c.node),.sl 115 3 (c.vals.map V.cs),.sl 257 4 (c.env.map Bd.cs)]
@[simp] theorem Fm.lenO(c:Fm):c.ow.length=4:=rfl
@[simp] theorem Fm.lenOA(l:List Fm):lenAll 4 (l.map Fm.ow)=true:=lenAll_map Fm.lenO l
@[simp] theorem dz_Fm(h:List Fm):dzLL (h.map Fm.ow)=h.map Fm.cs:=by
 rw[dzLL_map,List.map_map]
 refine List.map_congr_left fun c _=>?_
 simp[Fm.ow,Fm.cs,dzL,deepFz,dz_sC,dz_V]
@[simp] theorem sc_Fm(l:List Fm):scLL (l.map Fm.ow)=true:=by
 induction l with
 |nil=>rfl
 |cons x l ih=>simp[List.map_cons,scLL,ih,Fm.ow,scL,scC,sc_sC,sc_nC,sc_V]
@[simp] theorem dzc_Fm(h:List Fm):dzLL (h.map Fm.cs)=h.map Fm.cs:=by
 rw[dzLL_map,List.map_map]
 refine List.map_congr_left fun c _=>?_
 simp[Fm.cs,dzL,deepFz,dz_sC,dz_V]
@[simp] theorem dz_Fm1(h:List Fm):dzLL (List.take h.length (h.map Fm.ow))=h.map Fm.cs:=by
 rw[List.take_of_length_le (by simp),dz_Fm]
structure Fm.tx(c:Fm):Prop where
 vals:∀x,x∈c.vals→x.s.size≤9223372036854775807
 env:∀x,x∈c.env→x.tx
structure Fm.rm(c:Fm):Prop where
 vals:c.vals.length≤1000000000
 env:c.env.length≤1000000000
def costFm(c:Fm):Nat:=costV c.vals+costBdS c.env
def costFmS(l:List Fm):Nat:=l.length+(l.map costFm).sum
structure Mc where
 mode:Int
 unit:Int
 node:Int
 env:List Bd
 val:V
 stack:List Fm
 fin:Int
 deriving DecidableEq
def Mc.cs(c:Mc):List C:=[.sc (.int .i64 c.mode),.sc (.int .i64 c.unit),.sc (.int .i64 c.node),.fz (c.env.map Bd.cs),.sc (.int .i64 c.val.k),.sc (.int .i64 c.val.n),.sc (.string c.val.s),.fz (c.stack.map Fm.cs),.sc (.int .i64 c.fin)]
def Mc.av(c:Mc):AV:=.agg [.sc (.int .i64 c.mode),.sc (.int .i64 c.unit),.sc (.int .i64 c.node),.fz (c.env.map Bd.cs),.sc (.int .i64 c.val.k),.sc (.int .i64 c.val.n),.sc (.string c.val.s),.fz (c.stack.map Fm.cs),.sc (.int .i64 c.fin)]
@[simp] theorem Mc.len(c:Mc):c.cs.length=9:=rfl
@[simp] theorem Mc.frz(c:Mc):c.cs.map Own.frz=c.cs:=rfl
@[simp] theorem Mc.pln(c:Mc):c.cs.all plainC=true:=rfl
@[simp] theorem Mc.lenA(l:List Mc):lenAll 9 (l.map Mc.cs)=true:=lenAll_map Mc.len l
@[simp] theorem Mc.frzA(l:List Mc):frzAll (l.map Mc.cs)=l.map Mc.cs:=frzAll_map Mc.frz l
@[simp] theorem Mc.plnA(l:List Mc):plainAll (l.map Mc.cs)=true:=plainAll_map Mc.pln l
def Mc.ow(c:Mc):List C:=[.sc (.int .i64 c.mode),.sc (.int .i64 c.unit),.sc (.int .i64 c.node),.sl 257 4 (c.env.map Bd.cs),.sc (.int .i64 c.val.k),.sc (.int .i64 c.val.n),.sc (.string c.val.s),.sl 220 4 (c.stack.map Fm.ow),.sc (.int .i64 c.fin)]
@[simp] theorem Mc.lenO(c:Mc):c.ow.length=9:=rfl
@[simp] theorem Mc.lenOA(l:List Mc):lenAll 9 (l.map Mc.ow)=true:=lenAll_map Mc.lenO l
@[simp] theorem dz_Mc(h:List Mc):dzLL (h.map Mc.ow)=h.map Mc.cs:=by
 rw[dzLL_map,List.map_map]
 refine List.map_congr_left fun c _=>?_
 simp[Mc.ow,Mc.cs,dzL,deepFz,dz_sC,dz_V]
@[simp] theorem sc_Mc(l:List Mc):scLL (l.map Mc.ow)=true:=by
 induction l with
 |nil=>rfl
 |cons x l ih=>simp[List.map_cons,scLL,ih,Mc.ow,scL,scC,sc_sC,sc_nC,sc_V]
@[simp] theorem dzc_Mc(h:List Mc):dzLL (h.map Mc.cs)=h.map Mc.cs:=by
 rw[dzLL_map,List.map_map]
 refine List.map_congr_left fun c _=>?_
 simp[Mc.cs,dzL,deepFz,dz_sC,dz_V]
@[simp] theorem dz_Mc1(h:List Mc):dzLL (List.take h.length (h.map Mc.ow))=h.map Mc.cs:=by
 rw[List.take_of_length_le (by simp),dz_Mc]
structure Mc.tx(c:Mc):Prop where
 env:∀x,x∈c.env→x.tx
 val:c.val.s.size≤9223372036854775807
 stack:∀x,x∈c.stack→x.tx
structure Mc.rm(c:Mc):Prop where
 env:c.env.length≤1000000000
 stack:c.stack.length≤1000000000
 stack1:∀x,x∈c.stack→x.rm
def costMc(c:Mc):Nat:=costBdS c.env+c.val.s.size+costFmS c.stack
structure Df where
 name:ByteArray
 prog:Pg
 deriving DecidableEq
def Df.cs(c:Df):List C:=[.sc (.string c.name),.fz (c.prog.nodes.map Nd.cs),.sc (.int .i64 c.prog.root)]
def Df.av(c:Df):AV:=.agg [.sc (.string c.name),.fz (c.prog.nodes.map Nd.cs),.sc (.int .i64 c.prog.root)]
@[simp] theorem Df.len(c:Df):c.cs.length=3:=rfl
@[simp] theorem Df.frz(c:Df):c.cs.map Own.frz=c.cs:=rfl
@[simp] theorem Df.pln(c:Df):c.cs.all plainC=true:=rfl
@[simp] theorem Df.lenA(l:List Df):lenAll 3 (l.map Df.cs)=true:=lenAll_map Df.len l
@[simp] theorem Df.frzA(l:List Df):frzAll (l.map Df.cs)=l.map Df.cs:=frzAll_map Df.frz l
@[simp] theorem Df.plnA(l:List Df):plainAll (l.map Df.cs)=true:=plainAll_map Df.pln l
def Df.ow(c:Df):List C:=[.sc (.string c.name),.sl 206 5 (c.prog.nodes.map Nd.ow),.sc (.int .i64 c.prog.root)]
@[simp] theorem Df.lenO(c:Df):c.ow.length=3:=rfl
@[simp] theorem Df.lenOA(l:List Df):lenAll 3 (l.map Df.ow)=true:=lenAll_map Df.lenO l
@[simp] theorem dz_Df(h:List Df):dzLL (h.map Df.ow)=h.map Df.cs:=by
 rw[dzLL_map,List.map_map]
 refine List.map_congr_left fun c _=>?_
 simp[Df.ow,Df.cs,dzL,deepFz,dz_sC,dz_V]
@[simp] theorem sc_Df(l:List Df):scLL (l.map Df.ow)=true:=by
 induction l with
 |nil=>rfl
 |cons x l ih=>simp[List.map_cons,scLL,ih,Df.ow,scL,scC,sc_sC,sc_nC,sc_V]
@[simp] theorem dzc_Df(h:List Df):dzLL (h.map Df.cs)=h.map Df.cs:=by
 rw[dzLL_map,List.map_map]
 refine List.map_congr_left fun c _=>?_
 simp[Df.cs,dzL,deepFz,dz_sC,dz_V]
@[simp] theorem dz_Df1(h:List Df):dzLL (List.take h.length (h.map Df.ow))=h.map Df.cs:=by
 rw[List.take_of_length_le (by simp),dz_Df]
structure Df.tx(c:Df):Prop where
 name:c.name.size≤9223372036854775807
 prog:c.prog.tx
structure Df.rm(c:Df):Prop where
 prog:c.prog.rm
def costDf(c:Df):Nat:=c.name.size+costP c.prog.nodes
def costDfS(l:List Df):Nat:=l.length+(l.map costDf).sum
structure Sr where
 name:ByteArray
 imports:List ByteArray
 exports:List ByteArray
 types:List Ty
 defs:List Df
 convs:List Df
 deriving DecidableEq
def Sr.cs(c:Sr):List C:=[.sc (.string c.name),.fz (c.imports.map sC),.fz (c.exports.map sC),.fz (c.types.map Ty.cs),.fz (c.defs.map Df.cs),.fz (c.convs.map Df.cs)]
def Sr.av(c:Sr):AV:=.agg [.sc (.string c.name),.fz (c.imports.map sC),.fz (c.exports.map sC),.fz (c.types.map Ty.cs),.fz (c.defs.map Df.cs),.fz (c.convs.map Df.cs)]
@[simp] theorem Sr.len(c:Sr):c.cs.length=6:=rfl
@[simp] theorem Sr.frz(c:Sr):c.cs.map Own.frz=c.cs:=rfl
@[simp] theorem Sr.pln(c:Sr):c.cs.all plainC=true:=rfl
@[simp] theorem Sr.lenA(l:List Sr):lenAll 6 (l.map Sr.cs)=true:=lenAll_map Sr.len l
@[simp] theorem Sr.frzA(l:List Sr):frzAll (l.map Sr.cs)=l.map Sr.cs:=frzAll_map Sr.frz l
@[simp] theorem Sr.plnA(l:List Sr):plainAll (l.map Sr.cs)=true:=plainAll_map Sr.pln l
def Sr.ow(c:Sr):List C:=[.sc (.string c.name),.sl 9 1 (c.imports.map sC),.sl 9 1 (c.exports.map sC),.sl 212 2 (c.types.map Ty.cs),.sl 214 3 (c.defs.map Df.ow),.sl 214 3 (c.convs.map Df.ow)]
@[simp] theorem Sr.lenO(c:Sr):c.ow.length=6:=rfl
@[simp] theorem Sr.lenOA(l:List Sr):lenAll 6 (l.map Sr.ow)=true:=lenAll_map Sr.lenO l
@[simp] theorem dz_Sr(h:List Sr):dzLL (h.map Sr.ow)=h.map Sr.cs:=by
 rw[dzLL_map,List.map_map]
 refine List.map_congr_left fun c _=>?_
 simp[Sr.ow,Sr.cs,dzL,deepFz,dz_sC,dz_V]
@[simp] theorem sc_Sr(l:List Sr):scLL (l.map Sr.ow)=true:=by
 induction l with
 |nil=>rfl
 |cons x l ih=>simp[List.map_cons,scLL,ih,Sr.ow,scL,scC,sc_sC,sc_nC,sc_V]
@[simp] theorem dzc_Sr(h:List Sr):dzLL (h.map Sr.cs)=h.map Sr.cs:=by
 rw[dzLL_map,List.map_map]
 refine List.map_congr_left fun c _=>?_
 simp[Sr.cs,dzL,deepFz,dz_sC,dz_V]
@[simp] theorem dz_Sr1(h:List Sr):dzLL (List.take h.length (h.map Sr.ow))=h.map Sr.cs:=by
 rw[List.take_of_length_le (by simp),dz_Sr]
structure Sr.tx(c:Sr):Prop where
 name:c.name.size≤9223372036854775807
 imports:∀x,x∈c.imports→x.size≤9223372036854775807
 exports:∀x,x∈c.exports→x.size≤9223372036854775807
 types:∀x,x∈c.types→x.tx
 defs:∀x,x∈c.defs→x.tx
 convs:∀x,x∈c.convs→x.tx
structure Sr.rm(c:Sr):Prop where
 imports:c.imports.length≤1000000000
 exports:c.exports.length≤1000000000
 types:c.types.length≤1000000000
 defs:c.defs.length≤1000000000
 defs1:∀x,x∈c.defs→x.rm
 convs:c.convs.length≤1000000000
 convs1:∀x,x∈c.convs→x.rm
def costSr(c:Sr):Nat:=c.name.size+costS c.imports+costS c.exports+costTyS c.types+costDfS c.defs+costDfS c.convs
structure En where
 src:Sr
 ver:Int
 inst:Int
 deriving DecidableEq
def En.cs(c:En):List C:=[.sc (.string c.src.name),.fz (c.src.imports.map sC),.fz (c.src.exports.map sC),.fz (c.src.types.map Ty.cs),.fz (c.src.defs.map Df.cs),.fz (c.src.convs.map Df.cs),.sc (.int .i64 c.ver),.sc (.int .i64 c.inst)]
def En.av(c:En):AV:=.agg [.sc (.string c.src.name),.fz (c.src.imports.map sC),.fz (c.src.exports.map sC),.fz (c.src.types.map Ty.cs),.fz (c.src.defs.map Df.cs),.fz (c.src.convs.map Df.cs),.sc (.int .i64 c.ver),.sc (.int .i64 c.inst)]
@[simp] theorem En.len(c:En):c.cs.length=8:=rfl
@[simp] theorem En.frz(c:En):c.cs.map Own.frz=c.cs:=rfl
@[simp] theorem En.pln(c:En):c.cs.all plainC=true:=rfl
@[simp] theorem En.lenA(l:List En):lenAll 8 (l.map En.cs)=true:=lenAll_map En.len l
@[simp] theorem En.frzA(l:List En):frzAll (l.map En.cs)=l.map En.cs:=frzAll_map En.frz l
@[simp] theorem En.plnA(l:List En):plainAll (l.map En.cs)=true:=plainAll_map En.pln l
def En.ow(c:En):List C:=[.sc (.string c.src.name),.sl 9 1 (c.src.imports.map sC),.sl 9 1 (c.src.exports.map sC),.sl 212 2 (c.src.types.map Ty.cs),.sl 214 3 (c.src.defs.map Df.ow),.sl 214 3 (c.src.convs.map Df.ow),.sc (.int .i64 c.ver),.sc (.int .i64 c.inst)]
@[simp] theorem En.lenO(c:En):c.ow.length=8:=rfl
@[simp] theorem En.lenOA(l:List En):lenAll 8 (l.map En.ow)=true:=lenAll_map En.lenO l
@[simp] theorem dz_En(h:List En):dzLL (h.map En.ow)=h.map En.cs:=by
 rw[dzLL_map,List.map_map]
 refine List.map_congr_left fun c _=>?_
 simp[En.ow,En.cs,dzL,deepFz,dz_sC,dz_V]
@[simp] theorem sc_En(l:List En):scLL (l.map En.ow)=true:=by
 induction l with
 |nil=>rfl
 |cons x l ih=>simp[List.map_cons,scLL,ih,En.ow,scL,scC,sc_sC,sc_nC,sc_V]
@[simp] theorem dzc_En(h:List En):dzLL (h.map En.cs)=h.map En.cs:=by
 rw[dzLL_map,List.map_map]
 refine List.map_congr_left fun c _=>?_
 simp[En.cs,dzL,deepFz,dz_sC,dz_V]
@[simp] theorem dz_En1(h:List En):dzLL (List.take h.length (h.map En.ow))=h.map En.cs:=by
 rw[List.take_of_length_le (by simp),dz_En]
structure En.tx(c:En):Prop where
 src:c.src.tx
structure En.rm(c:En):Prop where
 src:c.src.rm
def costEn(c:En):Nat:=costSr c.src
def costEnS(l:List En):Nat:=l.length+(l.map costEn).sum
structure Tk where
 id:Int
 mac:Mc
 deriving DecidableEq
def Tk.cs(c:Tk):List C:=[.sc (.int .i64 c.id),.sc (.int .i64 c.mac.mode),.sc (.int .i64 c.mac.unit),.sc (.int .i64 c.mac.node),.fz (c.mac.env.map Bd.cs),.sc (.int .i64 c.mac.val.k),.sc (.int .i64 c.mac.val.n),.sc (.string c.mac.val.s),.fz (c.mac.stack.map Fm.cs),.sc (.int .i64 c.mac.fin)]
def Tk.av(c:Tk):AV:=.agg [.sc (.int .i64 c.id),.sc (.int .i64 c.mac.mode),.sc (.int .i64 c.mac.unit),.sc (.int .i64 c.mac.node),.fz (c.mac.env.map Bd.cs),.sc (.int .i64 c.mac.val.k),.sc (.int .i64 c.mac.val.n),.sc (.string c.mac.val.s),.fz (c.mac.stack.map Fm.cs),.sc (.int .i64 c.mac.fin)]
@[simp] theorem Tk.len(c:Tk):c.cs.length=10:=rfl
@[simp] theorem Tk.frz(c:Tk):c.cs.map Own.frz=c.cs:=rfl
@[simp] theorem Tk.pln(c:Tk):c.cs.all plainC=true:=rfl
@[simp] theorem Tk.lenA(l:List Tk):lenAll 10 (l.map Tk.cs)=true:=lenAll_map Tk.len l
@[simp] theorem Tk.frzA(l:List Tk):frzAll (l.map Tk.cs)=l.map Tk.cs:=frzAll_map Tk.frz l
@[simp] theorem Tk.plnA(l:List Tk):plainAll (l.map Tk.cs)=true:=plainAll_map Tk.pln l
def Tk.ow(c:Tk):List C:=[.sc (.int .i64 c.id),.sc (.int .i64 c.mac.mode),.sc (.int .i64 c.mac.unit),.sc (.int .i64 c.mac.node),.sl 257 4 (c.mac.env.map Bd.cs),.sc (.int .i64 c.mac.val.k),.sc (.int .i64 c.mac.val.n),.sc (.string c.mac.val.s),.sl 220 4 (c.mac.stack.map Fm.ow),.sc (.int .i64 c.mac.fin)]
@[simp] theorem Tk.lenO(c:Tk):c.ow.length=10:=rfl
@[simp] theorem Tk.lenOA(l:List Tk):lenAll 10 (l.map Tk.ow)=true:=lenAll_map Tk.lenO l
@[simp] theorem dz_Tk(h:List Tk):dzLL (h.map Tk.ow)=h.map Tk.cs:=by
 rw[dzLL_map,List.map_map]
 refine List.map_congr_left fun c _=>?_
 simp[Tk.ow,Tk.cs,dzL,deepFz,dz_sC,dz_V]
@[simp] theorem sc_Tk(l:List Tk):scLL (l.map Tk.ow)=true:=by
 induction l with
 |nil=>rfl
 |cons x l ih=>simp[List.map_cons,scLL,ih,Tk.ow,scL,scC,sc_sC,sc_nC,sc_V]
@[simp] theorem dzc_Tk(h:List Tk):dzLL (h.map Tk.cs)=h.map Tk.cs:=by
 rw[dzLL_map,List.map_map]
 refine List.map_congr_left fun c _=>?_
 simp[Tk.cs,dzL,deepFz,dz_sC,dz_V]
@[simp] theorem dz_Tk1(h:List Tk):dzLL (List.take h.length (h.map Tk.ow))=h.map Tk.cs:=by
 rw[List.take_of_length_le (by simp),dz_Tk]
structure Tk.tx(c:Tk):Prop where
 mac:c.mac.tx
structure Tk.rm(c:Tk):Prop where
 mac:c.mac.rm
def costTk(c:Tk):Nat:=costMc c.mac
def costTkS(l:List Tk):Nat:=l.length+(l.map costTk).sum
structure Wd where
 sys:Sy
 libs:List En
 tasks:List Tk
 next:Int
def Wd.cs(c:Wd):List C:=[.fz (c.sys.heap.map Cl.cs),.fz (c.sys.insts.map In.cs),.fz (c.sys.units.map Un.cs),.fz (c.sys.out.map sC),.fz (c.libs.map En.cs),.fz (c.tasks.map Tk.cs),.sc (.int .i64 c.next)]
def Wd.av(c:Wd):AV:=.agg [.fz (c.sys.heap.map Cl.cs),.fz (c.sys.insts.map In.cs),.fz (c.sys.units.map Un.cs),.fz (c.sys.out.map sC),.fz (c.libs.map En.cs),.fz (c.tasks.map Tk.cs),.sc (.int .i64 c.next)]
@[simp] theorem Wd.len(c:Wd):c.cs.length=7:=rfl
@[simp] theorem Wd.frz(c:Wd):c.cs.map Own.frz=c.cs:=rfl
@[simp] theorem Wd.pln(c:Wd):c.cs.all plainC=true:=rfl
@[simp] theorem Wd.lenA(l:List Wd):lenAll 7 (l.map Wd.cs)=true:=lenAll_map Wd.len l
@[simp] theorem Wd.frzA(l:List Wd):frzAll (l.map Wd.cs)=l.map Wd.cs:=frzAll_map Wd.frz l
@[simp] theorem Wd.plnA(l:List Wd):plainAll (l.map Wd.cs)=true:=plainAll_map Wd.pln l
def Wd.ow(c:Wd):List C:=[.sl 132 6 (c.sys.heap.map Cl.ow),.sl 83 6 (c.sys.insts.map In.ow),.sl 137 3 (c.sys.units.map Un.ow),.sl 9 1 (c.sys.out.map sC),.sl 112 8 (c.libs.map En.ow),.sl 125 10 (c.tasks.map Tk.ow),.sc (.int .i64 c.next)]
@[simp] theorem Wd.lenO(c:Wd):c.ow.length=7:=rfl
@[simp] theorem Wd.lenOA(l:List Wd):lenAll 7 (l.map Wd.ow)=true:=lenAll_map Wd.lenO l
@[simp] theorem dz_Wd(h:List Wd):dzLL (h.map Wd.ow)=h.map Wd.cs:=by
 rw[dzLL_map,List.map_map]
 refine List.map_congr_left fun c _=>?_
 simp[Wd.ow,Wd.cs,dzL,deepFz,dz_sC,dz_V]
@[simp] theorem sc_Wd(l:List Wd):scLL (l.map Wd.ow)=true:=by
 induction l with
 |nil=>rfl
 |cons x l ih=>simp[List.map_cons,scLL,ih,Wd.ow,scL,scC,sc_sC,sc_nC,sc_V]
@[simp] theorem dzc_Wd(h:List Wd):dzLL (h.map Wd.cs)=h.map Wd.cs:=by
 rw[dzLL_map,List.map_map]
 refine List.map_congr_left fun c _=>?_
 simp[Wd.cs,dzL,deepFz,dz_sC,dz_V]
@[simp] theorem dz_Wd1(h:List Wd):dzLL (List.take h.length (h.map Wd.ow))=h.map Wd.cs:=by
 rw[List.take_of_length_le (by simp),dz_Wd]
structure Wd.tx(c:Wd):Prop where
 sys:c.sys.tx
 libs:∀x,x∈c.libs→x.tx
 tasks:∀x,x∈c.tasks→x.tx
structure Wd.rm(c:Wd):Prop where
 sys:c.sys.rm
 libs:c.libs.length≤1000000000
 libs1:∀x,x∈c.libs→x.rm
 tasks:c.tasks.length≤1000000000
 tasks1:∀x,x∈c.tasks→x.rm
def costWd(c:Wd):Nat:=costSy c.sys+costEnS c.libs+costTkS c.tasks
end Go.Own
set_option maxRecDepth 1000000
set_option maxHeartbeats 4000000
namespace Go.Own
attribute [local irreducible] WPc WPL WPS WPS1 WPS2 HAny endP
variable [Laid]
open Go.Lib Go.RowKit
theorem c_laws_szLink(c:Lk)(left:Int)(h0:0≤left)(h1:left≤1073741824)(hs:c.tx):Con PP 250 [c.av,.sc (.int .i64 left)] [] [] (fun r o=>r=.sc (.int .i64 (szR left (costLk c)))):=by
 have t_name:=hs.name
 have t_tgt:=hs.tgt
 have hc:costLk c=c.name.size+c.tgt.size:=rfl
 have rt:=szR_cases left (costLk c)
 refine cof 20 Go.Proofs.Tryz.func250 fun G=>?_
 simp only[entSt,tmOf,List.append_nil,List.cons_append,List.nil_append,Lk.av]
 have e0:IntKind.i64.wrap (left-c.name.size)=left-c.name.size:=wrap64 (by omega) (by omega)
 by_cases g0:(c.name.size:Int)≤left
 ·skip
  have e1:IntKind.i64.wrap (left-c.name.size-c.tgt.size)=left-c.name.size-c.tgt.size:=wrap64 (by omega) (by omega)
  refine go (L:=_∧_∧True) (wa2 @e0 @e1) wb0 wb0 wb0 wb0 ⟨fun _ hq hq=>?_,fun _ hq hq=>?_,wb0⟩
  all_goals (try simp only[decide_eq_true_eq,decide_eq_false_iff_not]at *)
  all_goals first
   |(exfalso;omega)
   |(simp only[AV.sc.injEq,Value.int.injEq,true_and];omega)
 ·refine go (L:=_∧True) (wa1 @e0) wb0 wb0 wb0 wb0 ⟨fun _ hq=>?_,wb0⟩
  all_goals (try simp only[decide_eq_true_eq,decide_eq_false_iff_not]at *)
  all_goals first
   |(exfalso;omega)
   |(simp only[AV.sc.injEq,Value.int.injEq,true_and];omega)
theorem c_laws_szLinkS(l:List Lk)(left:Int)(h0:0≤left)(h1:left≤1073741824)(hs:∀c,c∈l→c.tx):Con PP 184 [.fz (l.map Lk.cs),.sc (.int .i64 left)] [] [] (fun r o=>r=.sc (.int .i64 (szR left (costLkS l)))):=by
 refine Con.lenOf 0 Go.Proofs.Tryz.func184 (by kernel_rfl) (by kernel_rfl) rfl fun hlen=>?_
 simp at hlen
 refine cof 27 Go.Proofs.Tryz.func184 fun G=>?_
 simp only[entSt,tmOf,List.append_nil,List.cons_append,List.nil_append]
 have e1:IntKind.i64.wrap (left-l.length)=left-l.length:=wrap64 (by omega) (by omega)
 refine go (L:=_∧_∧True) (wa1 @e1) wb0 wb0 wb0 wb0 ⟨fun _ hq=>?_,fun _ hq=>?_,wb0⟩
 ·rw[szR_no (by unfold costLkS;simp at hq;omega)]
 simp only[decide_eq_false_iff_not]at hq
 refine WPc.loopK (σ:=Nat) (fun i=>i≤l.length∧l.length+sumTo costLk l i≤left) (fun i=>l.length-i) (fun i=>[(5,.sc (.int .i64 i)),(1,.sc (.int .i64 (left-l.length-sumTo costLk l i)))]) [0] 0 (by simp[sumTo_zero]) (by simp[sumTo_zero]) (⟨by omega,by rw[sumTo_zero];omega⟩) ?_
 rintro i ⟨hi,hle⟩ s hs
 simp at hs
 subst hs
 by_cases hlt:i<l.length
 ·have hz:=hs _ (List.getElem_mem hlt)
  have e3:=sumTo_next (f:=costLk) hlt
  have e4:=sumTo_le costLk l (i+1)
  have ee:costLk ⟨l[i].name,l[i].inst,l[i].tgt⟩=costLk l[i]:=rfl
  refine go (L:=_∧_∧True) (wa3 @Lk.cs.eq_1 @hlt @ee) (wb1 (fun v0 v1 v2 v3 (h:_∧_∧_)=>c_laws_szLink ⟨v0,v1,v2⟩ v3 h.1 h.2.1 h.2.2)) wb0 wb0 wb0 ⟨fun _ hq=>?_,fun _ hq=>?_,wb0⟩
  all_goals try rw[ee]at hq
  ·simp only[decide_eq_true_eq]at hq
   have:=szR_neg (by omega) hq
   rw[szR_no (by unfold costLkS;omega)]
  all_goals
   try simp only[decide_eq_false_iff_not]at hq
   have hle2:=szR_pos hq
   refine⟨i+1,⟨⟨by omega,by omega⟩,by first|omega|(simp only;omega)|assumption⟩,rfl,rfl,?_,?_⟩<;>simp (disch:=omega) [wrap64,e3,ee,szR_ok hle2]
  all_goals (refine fit_int ?_;omega)
 ·obtain rfl:i=l.length:=by omega
  refine go (L:=_∧True) wb0 wb0 wb0 wb0 wb0 ⟨fun _=>?_,wb0⟩
  rw[sumTo_all]at hle
  rw[szR_ok (by unfold costLkS;omega),sumTo_all]
  simp only[costLkS,AV.sc.injEq,Value.int.injEq,true_and]
  omega
theorem c_laws_szType(c:Ty)(left:Int)(h0:0≤left)(h1:left≤1073741824)(hs:c.tx):Con PP 251 [c.av,.sc (.int .i64 left)] [] [] (fun r o=>r=.sc (.int .i64 (szR left (costTy c)))):=by
 have t_name:=hs.name
 have hc:costTy c=c.name.size:=rfl
 have rt:=szR_cases left (costTy c)
 refine cof 13 Go.Proofs.Tryz.func251 fun G=>?_
 simp only[entSt,tmOf,List.append_nil,List.cons_append,List.nil_append,Ty.av]
 have e0:IntKind.i64.wrap (left-c.name.size)=left-c.name.size:=wrap64 (by omega) (by omega)
 refine go (L:=_∧_∧True) (wa1 @e0) wb0 wb0 wb0 wb0 ⟨fun _ hq=>?_,fun _ hq=>?_,wb0⟩
 all_goals (try simp only[decide_eq_true_eq,decide_eq_false_iff_not]at *)
 all_goals first
  |(exfalso;omega)
  |(simp only[AV.sc.injEq,Value.int.injEq,true_and];omega)
theorem c_laws_szTypeS(l:List Ty)(left:Int)(h0:0≤left)(h1:left≤1073741824)(hs:∀c,c∈l→c.tx):Con PP 185 [.fz (l.map Ty.cs),.sc (.int .i64 left)] [] [] (fun r o=>r=.sc (.int .i64 (szR left (costTyS l)))):=by
 refine Con.lenOf 0 Go.Proofs.Tryz.func185 (by kernel_rfl) (by kernel_rfl) rfl fun hlen=>?_
 simp at hlen
 refine cof 27 Go.Proofs.Tryz.func185 fun G=>?_
 simp only[entSt,tmOf,List.append_nil,List.cons_append,List.nil_append]
 have e1:IntKind.i64.wrap (left-l.length)=left-l.length:=wrap64 (by omega) (by omega)
 refine go (L:=_∧_∧True) (wa1 @e1) wb0 wb0 wb0 wb0 ⟨fun _ hq=>?_,fun _ hq=>?_,wb0⟩
 ·rw[szR_no (by unfold costTyS;simp at hq;omega)]
 simp only[decide_eq_false_iff_not]at hq
 refine WPc.loopK (σ:=Nat) (fun i=>i≤l.length∧l.length+sumTo costTy l i≤left) (fun i=>l.length-i) (fun i=>[(5,.sc (.int .i64 i)),(1,.sc (.int .i64 (left-l.length-sumTo costTy l i)))]) [0] 0 (by simp[sumTo_zero]) (by simp[sumTo_zero]) (⟨by omega,by rw[sumTo_zero];omega⟩) ?_
 rintro i ⟨hi,hle⟩ s hs
 simp at hs
 subst hs
 by_cases hlt:i<l.length
 ·have hz:=hs _ (List.getElem_mem hlt)
  have e3:=sumTo_next (f:=costTy) hlt
  have e4:=sumTo_le costTy l (i+1)
  have ee:costTy ⟨l[i].name,l[i].size⟩=costTy l[i]:=rfl
  refine go (L:=_∧_∧True) (wa3 @Ty.cs.eq_1 @hlt @ee) (wb1 (fun v0 v1 v2 (h:_∧_∧_)=>c_laws_szType ⟨v0,v1⟩ v2 h.1 h.2.1 h.2.2)) wb0 wb0 wb0 ⟨fun _ hq=>?_,fun _ hq=>?_,wb0⟩
  all_goals try rw[ee]at hq
  ·simp only[decide_eq_true_eq]at hq
   have:=szR_neg (by omega) hq
   rw[szR_no (by unfold costTyS;omega)]
  all_goals
   try simp only[decide_eq_false_iff_not]at hq
   have hle2:=szR_pos hq
   refine⟨i+1,⟨⟨by omega,by omega⟩,by first|omega|(simp only;omega)|assumption⟩,rfl,rfl,?_,?_⟩<;>simp (disch:=omega) [wrap64,e3,ee,szR_ok hle2]
  all_goals (refine fit_int ?_;omega)
 ·obtain rfl:i=l.length:=by omega
  refine go (L:=_∧True) wb0 wb0 wb0 wb0 wb0 ⟨fun _=>?_,wb0⟩
  rw[sumTo_all]at hle
  rw[szR_ok (by unfold costTyS;omega),sumTo_all]
  simp only[costTyS,AV.sc.injEq,Value.int.injEq,true_and]
  omega
theorem c_laws_szInst(c:In)(left:Int)(h0:0≤left)(h1:left≤1073741824)(hs:c.tx):Con PP 111 [c.av,.sc (.int .i64 left)] [] [] (fun r o=>r=.sc (.int .i64 (szR left (costIn c)))):=by
 have t_lib:=hs.lib
 have t_names:=hs.names
 have t_vals:=hs.vals
 have t_links:=hs.links
 have t_types:=hs.types
 have hc:costIn c=c.lib.size+costS c.names+costV c.vals+costLkS c.links+costTyS c.types:=rfl
 have rt:=szR_cases left (costIn c)
 refine cof 37 Go.Proofs.Tryz.func111 fun G=>?_
 simp only[entSt,tmOf,List.append_nil,List.cons_append,List.nil_append,In.av]
 have e0:IntKind.i64.wrap (left-c.lib.size)=left-c.lib.size:=wrap64 (by omega) (by omega)
 by_cases g0:(c.lib.size:Int)≤left
 ·skip
  have r1:=szR_cases (left-c.lib.size) (costS c.names)
  have r2:=szR_cases (szR (left-c.lib.size) (costS c.names)) (costV c.vals)
  have r3:=szR_cases (szR (szR (left-c.lib.size) (costS c.names)) (costV c.vals)) (costLkS c.links)
  have r4:=szR_cases (szR (szR (szR (left-c.lib.size) (costS c.names)) (costV c.vals)) (costLkS c.links)) (costTyS c.types)
  refine go (L:=_∧_∧_∧_∧_∧True) (wa1 @e0) (wb4 (fun v0 v1 (h:_∧_∧_)=>c_laws_szStringS v0 v1 h.1 h.2.1 h.2.2) (fun v0 v1 (h:_∧_∧_)=>c_laws_szValueS v0 v1 h.1 h.2.1 h.2.2) (fun v0 v1 (h:_∧_∧_)=>c_laws_szLinkS v0 v1 h.1 h.2.1 h.2.2) (fun v0 v1 (h:_∧_∧_)=>c_laws_szTypeS v0 v1 h.1 h.2.1 h.2.2)) wb0 wb0 wb0 ⟨fun _ hq hq=>?_,fun _ hq hq hq=>?_,fun _ hq hq hq hq=>?_,fun _ hq hq hq hq hq=>?_,fun _ hq hq hq hq hq=>?_,wb0⟩
  all_goals (try simp only[decide_eq_true_eq,decide_eq_false_iff_not]at *)
  all_goals first
   |(exfalso;omega)
   |(simp only[AV.sc.injEq,Value.int.injEq,true_and];omega)
 ·refine go (L:=_∧True) (wa1 @e0) wb0 wb0 wb0 wb0 ⟨fun _ hq=>?_,wb0⟩
  all_goals (try simp only[decide_eq_true_eq,decide_eq_false_iff_not]at *)
  all_goals first
   |(exfalso;omega)
   |(simp only[AV.sc.injEq,Value.int.injEq,true_and];omega)
theorem c_laws_szInstS(l:List In)(left:Int)(h0:0≤left)(h1:left≤1073741824)(hs:∀c,c∈l→c.tx):Con PP 53 [.fz (l.map In.cs),.sc (.int .i64 left)] [] [] (fun r o=>r=.sc (.int .i64 (szR left (costInS l)))):=by
 refine Con.lenOf 0 Go.Proofs.Tryz.func53 (by kernel_rfl) (by kernel_rfl) rfl fun hlen=>?_
 simp at hlen
 refine cof 27 Go.Proofs.Tryz.func53 fun G=>?_
 simp only[entSt,tmOf,List.append_nil,List.cons_append,List.nil_append]
 have e1:IntKind.i64.wrap (left-l.length)=left-l.length:=wrap64 (by omega) (by omega)
 refine go (L:=_∧_∧True) (wa1 @e1) wb0 wb0 wb0 wb0 ⟨fun _ hq=>?_,fun _ hq=>?_,wb0⟩
 ·rw[szR_no (by unfold costInS;simp at hq;omega)]
 simp only[decide_eq_false_iff_not]at hq
 refine WPc.loopK (σ:=Nat) (fun i=>i≤l.length∧l.length+sumTo costIn l i≤left) (fun i=>l.length-i) (fun i=>[(5,.sc (.int .i64 i)),(1,.sc (.int .i64 (left-l.length-sumTo costIn l i)))]) [0] 0 (by simp[sumTo_zero]) (by simp[sumTo_zero]) (⟨by omega,by rw[sumTo_zero];omega⟩) ?_
 rintro i ⟨hi,hle⟩ s hs
 simp at hs
 subst hs
 by_cases hlt:i<l.length
 ·have hz:=hs _ (List.getElem_mem hlt)
  have e3:=sumTo_next (f:=costIn) hlt
  have e4:=sumTo_le costIn l (i+1)
  have ee:costIn ⟨l[i].lib,l[i].ver,l[i].names,l[i].vals,l[i].links,l[i].types⟩=costIn l[i]:=rfl
  refine go (L:=_∧_∧True) (wa3 @In.cs.eq_1 @hlt @ee) (wb1 (fun v0 v1 v2 v3 v4 v5 v6 (h:_∧_∧_)=>c_laws_szInst ⟨v0,v1,v2,v3,v4,v5⟩ v6 h.1 h.2.1 h.2.2)) wb0 wb0 wb0 ⟨fun _ hq=>?_,fun _ hq=>?_,wb0⟩
  all_goals try rw[ee]at hq
  ·simp only[decide_eq_true_eq]at hq
   have:=szR_neg (by omega) hq
   rw[szR_no (by unfold costInS;omega)]
  all_goals
   try simp only[decide_eq_false_iff_not]at hq
   have hle2:=szR_pos hq
   refine⟨i+1,⟨⟨by omega,by omega⟩,by first|omega|(simp only;omega)|assumption⟩,rfl,rfl,?_,?_⟩<;>simp (disch:=omega) [wrap64,e3,ee,szR_ok hle2]
  all_goals (refine fit_int ?_;omega)
 ·obtain rfl:i=l.length:=by omega
  refine go (L:=_∧True) wb0 wb0 wb0 wb0 wb0 ⟨fun _=>?_,wb0⟩
  rw[sumTo_all]at hle
  rw[szR_ok (by unfold costInS;omega),sumTo_all]
  simp only[costInS,AV.sc.injEq,Value.int.injEq,true_and]
  omega
theorem c_laws_szUnit(c:Un)(left:Int)(h0:0≤left)(h1:left≤1073741824)(hs:c.tx):Con PP 112 [c.av,.sc (.int .i64 left)] [] [] (fun r o=>r=.sc (.int .i64 (szR left (costUn c)))):=by
 have t_prog:=hs.prog
 have hc:costUn c=costP c.prog.nodes:=rfl
 have rt:=szR_cases left (costUn c)
 refine cof 12 Go.Proofs.Tryz.func112 fun G=>?_
 simp only[entSt,tmOf,List.append_nil,List.cons_append,List.nil_append,Un.av]
 have r0:=szR_cases (left) (costP c.prog.nodes)
 have u0:=fun g1 g2=>c_laws_szProg c.prog (left) g1 g2 t_prog
 simp only[Pg.av]at u0
 refine go (L:=_∧_∧True) wb0 (wb1 (fun (h:_∧_)=>u0 h.1 h.2)) wb0 wb0 wb0 ⟨fun _ hq=>?_,fun _ hq=>?_,wb0⟩
 all_goals (try simp only[decide_eq_true_eq,decide_eq_false_iff_not]at *)
 all_goals first
  |(exfalso;omega)
  |(simp only[AV.sc.injEq,Value.int.injEq,true_and];omega)
theorem c_laws_szUnitS(l:List Un)(left:Int)(h0:0≤left)(h1:left≤1073741824)(hs:∀c,c∈l→c.tx):Con PP 54 [.fz (l.map Un.cs),.sc (.int .i64 left)] [] [] (fun r o=>r=.sc (.int .i64 (szR left (costUnS l)))):=by
 refine Con.lenOf 0 Go.Proofs.Tryz.func54 (by kernel_rfl) (by kernel_rfl) rfl fun hlen=>?_
 simp at hlen
 refine cof 27 Go.Proofs.Tryz.func54 fun G=>?_
 simp only[entSt,tmOf,List.append_nil,List.cons_append,List.nil_append]
 have e1:IntKind.i64.wrap (left-l.length)=left-l.length:=wrap64 (by omega) (by omega)
 refine go (L:=_∧_∧True) (wa1 @e1) wb0 wb0 wb0 wb0 ⟨fun _ hq=>?_,fun _ hq=>?_,wb0⟩
 ·rw[szR_no (by unfold costUnS;simp at hq;omega)]
 simp only[decide_eq_false_iff_not]at hq
 refine WPc.loopK (σ:=Nat) (fun i=>i≤l.length∧l.length+sumTo costUn l i≤left) (fun i=>l.length-i) (fun i=>[(5,.sc (.int .i64 i)),(1,.sc (.int .i64 (left-l.length-sumTo costUn l i)))]) [0] 0 (by simp[sumTo_zero]) (by simp[sumTo_zero]) (⟨by omega,by rw[sumTo_zero];omega⟩) ?_
 rintro i ⟨hi,hle⟩ s hs
 simp at hs
 subst hs
 by_cases hlt:i<l.length
 ·have hz:=hs _ (List.getElem_mem hlt)
  have e3:=sumTo_next (f:=costUn) hlt
  have e4:=sumTo_le costUn l (i+1)
  have ee:costUn ⟨l[i].home,⟨l[i].prog.nodes,l[i].prog.root⟩⟩=costUn l[i]:=rfl
  refine go (L:=_∧_∧True) (wa3 @Un.cs.eq_1 @hlt @ee) (wb1 (fun v0 v1 v2 (h:_∧_∧_)=>c_laws_szUnit ⟨v0,v1⟩ v2 h.1 h.2.1 h.2.2)) wb0 wb0 wb0 ⟨fun _ hq=>?_,fun _ hq=>?_,wb0⟩
  all_goals try rw[ee]at hq
  ·simp only[decide_eq_true_eq]at hq
   have:=szR_neg (by omega) hq
   rw[szR_no (by unfold costUnS;omega)]
  all_goals
   try simp only[decide_eq_false_iff_not]at hq
   have hle2:=szR_pos hq
   refine⟨i+1,⟨⟨by omega,by omega⟩,by first|omega|(simp only;omega)|assumption⟩,rfl,rfl,?_,?_⟩<;>simp (disch:=omega) [wrap64,e3,ee,szR_ok hle2]
  all_goals (refine fit_int ?_;omega)
 ·obtain rfl:i=l.length:=by omega
  refine go (L:=_∧True) wb0 wb0 wb0 wb0 wb0 ⟨fun _=>?_,wb0⟩
  rw[sumTo_all]at hle
  rw[szR_ok (by unfold costUnS;omega),sumTo_all]
  simp only[costUnS,AV.sc.injEq,Value.int.injEq,true_and]
  omega
theorem c_laws_szSys(c:Sy)(left:Int)(h0:0≤left)(h1:left≤1073741824)(hs:c.tx):Con PP 25 [c.av,.sc (.int .i64 left)] [] [] (fun r o=>r=.sc (.int .i64 (szR left (costSy c)))):=by
 have t_heap:=hs.heap
 have t_insts:=hs.insts
 have t_units:=hs.units
 have t_out:=hs.out
 have hc:costSy c=costH c.heap+costInS c.insts+costUnS c.units+costS c.out:=rfl
 have rt:=szR_cases left (costSy c)
 refine cof 30 Go.Proofs.Tryz.func25 fun G=>?_
 simp only[entSt,tmOf,List.append_nil,List.cons_append,List.nil_append,Sy.av]
 have r0:=szR_cases (left) (costH c.heap)
 have r1:=szR_cases (szR (left) (costH c.heap)) (costInS c.insts)
 have r2:=szR_cases (szR (szR (left) (costH c.heap)) (costInS c.insts)) (costUnS c.units)
 have r3:=szR_cases (szR (szR (szR (left) (costH c.heap)) (costInS c.insts)) (costUnS c.units)) (costS c.out)
 refine go (L:=_∧_∧_∧_∧_∧True) wb0 (wb4 (fun v0 v1 (h:_∧_∧_)=>c_laws_szCellS v0 v1 h.1 h.2.1 h.2.2) (fun v0 v1 (h:_∧_∧_)=>c_laws_szInstS v0 v1 h.1 h.2.1 h.2.2) (fun v0 v1 (h:_∧_∧_)=>c_laws_szUnitS v0 v1 h.1 h.2.1 h.2.2) (fun v0 v1 (h:_∧_∧_)=>c_laws_szStringS v0 v1 h.1 h.2.1 h.2.2)) wb0 wb0 wb0 ⟨fun _ hq=>?_,fun _ hq hq=>?_,fun _ hq hq hq=>?_,fun _ hq hq hq hq=>?_,fun _ hq hq hq hq=>?_,wb0⟩
 all_goals (try simp only[decide_eq_true_eq,decide_eq_false_iff_not]at *)
 all_goals first
  |(exfalso;omega)
  |(simp only[AV.sc.injEq,Value.int.injEq,true_and];omega)
theorem c_laws_szBind(c:Bd)(left:Int)(h0:0≤left)(h1:left≤1073741824)(hs:c.tx):Con PP 254 [c.av,.sc (.int .i64 left)] [] [] (fun r o=>r=.sc (.int .i64 (szR left (costBd c)))):=by
 have t_name:=hs.name
 have t_val:=hs.val
 have hc:costBd c=c.name.size+c.val.s.size:=rfl
 have rt:=szR_cases left (costBd c)
 refine cof 19 Go.Proofs.Tryz.func254 fun G=>?_
 simp only[entSt,tmOf,List.append_nil,List.cons_append,List.nil_append,Bd.av]
 have e0:IntKind.i64.wrap (left-c.name.size)=left-c.name.size:=wrap64 (by omega) (by omega)
 by_cases g0:(c.name.size:Int)≤left
 ·skip
  have r1:=szR_cases (left-c.name.size) (c.val.s.size)
  have u1:=fun g1 g2=>c_laws_szValue c.val (left-c.name.size) g1 g2 t_val
  simp only[V.av]at u1
  refine go (L:=_∧_∧True) (wa1 @e0) (wb1 (fun (h:_∧_)=>u1 h.1 h.2)) wb0 wb0 wb0 ⟨fun _ hq hq=>?_,fun _ hq hq=>?_,wb0⟩
  all_goals (try simp only[decide_eq_true_eq,decide_eq_false_iff_not]at *)
  all_goals first
   |(exfalso;omega)
   |(simp only[AV.sc.injEq,Value.int.injEq,true_and];omega)
 ·refine go (L:=_∧True) (wa1 @e0) wb0 wb0 wb0 wb0 ⟨fun _ hq=>?_,wb0⟩
  all_goals (try simp only[decide_eq_true_eq,decide_eq_false_iff_not]at *)
  all_goals first
   |(exfalso;omega)
   |(simp only[AV.sc.injEq,Value.int.injEq,true_and];omega)
theorem c_laws_szBindS(l:List Bd)(left:Int)(h0:0≤left)(h1:left≤1073741824)(hs:∀c,c∈l→c.tx):Con PP 188 [.fz (l.map Bd.cs),.sc (.int .i64 left)] [] [] (fun r o=>r=.sc (.int .i64 (szR left (costBdS l)))):=by
 refine Con.lenOf 0 Go.Proofs.Tryz.func188 (by kernel_rfl) (by kernel_rfl) rfl fun hlen=>?_
 simp at hlen
 refine cof 27 Go.Proofs.Tryz.func188 fun G=>?_
 simp only[entSt,tmOf,List.append_nil,List.cons_append,List.nil_append]
 have e1:IntKind.i64.wrap (left-l.length)=left-l.length:=wrap64 (by omega) (by omega)
 refine go (L:=_∧_∧True) (wa1 @e1) wb0 wb0 wb0 wb0 ⟨fun _ hq=>?_,fun _ hq=>?_,wb0⟩
 ·rw[szR_no (by unfold costBdS;simp at hq;omega)]
 simp only[decide_eq_false_iff_not]at hq
 refine WPc.loopK (σ:=Nat) (fun i=>i≤l.length∧l.length+sumTo costBd l i≤left) (fun i=>l.length-i) (fun i=>[(5,.sc (.int .i64 i)),(1,.sc (.int .i64 (left-l.length-sumTo costBd l i)))]) [0] 0 (by simp[sumTo_zero]) (by simp[sumTo_zero]) (⟨by omega,by rw[sumTo_zero];omega⟩) ?_
 rintro i ⟨hi,hle⟩ s hs
 simp at hs
 subst hs
 by_cases hlt:i<l.length
 ·have hz:=hs _ (List.getElem_mem hlt)
  have e3:=sumTo_next (f:=costBd) hlt
  have e4:=sumTo_le costBd l (i+1)
  have ee:costBd ⟨l[i].name,⟨l[i].val.k,l[i].val.n,l[i].val.s⟩⟩=costBd l[i]:=rfl
  refine go (L:=_∧_∧True) (wa3 @Bd.cs.eq_1 @hlt @ee) (wb1 (fun v0 v1 v2 (h:_∧_∧_)=>c_laws_szBind ⟨v0,v1⟩ v2 h.1 h.2.1 h.2.2)) wb0 wb0 wb0 ⟨fun _ hq=>?_,fun _ hq=>?_,wb0⟩
  all_goals try rw[ee]at hq
  ·simp only[decide_eq_true_eq]at hq
   have:=szR_neg (by omega) hq
   rw[szR_no (by unfold costBdS;omega)]
  all_goals
   try simp only[decide_eq_false_iff_not]at hq
   have hle2:=szR_pos hq
   refine⟨i+1,⟨⟨by omega,by omega⟩,by first|omega|(simp only;omega)|assumption⟩,rfl,rfl,?_,?_⟩<;>simp (disch:=omega) [wrap64,e3,ee,szR_ok hle2]
  all_goals (refine fit_int ?_;omega)
 ·obtain rfl:i=l.length:=by omega
  refine go (L:=_∧True) wb0 wb0 wb0 wb0 wb0 ⟨fun _=>?_,wb0⟩
  rw[sumTo_all]at hle
  rw[szR_ok (by unfold costBdS;omega),sumTo_all]
  simp only[costBdS,AV.sc.injEq,Value.int.injEq,true_and]
  omega
theorem c_laws_szFrame(c:Fm)(left:Int)(h0:0≤left)(h1:left≤1073741824)(hs:c.tx):Con PP 255 [c.av,.sc (.int .i64 left)] [] [] (fun r o=>r=.sc (.int .i64 (szR left (costFm c)))):=by
 have t_vals:=hs.vals
 have t_env:=hs.env
 have hc:costFm c=costV c.vals+costBdS c.env:=rfl
 have rt:=szR_cases left (costFm c)
 refine cof 18 Go.Proofs.Tryz.func255 fun G=>?_
 simp only[entSt,tmOf,List.append_nil,List.cons_append,List.nil_append,Fm.av]
 have r0:=szR_cases (left) (costV c.vals)
 have r1:=szR_cases (szR (left) (costV c.vals)) (costBdS c.env)
 refine go (L:=_∧_∧_∧True) wb0 (wb2 (fun v0 v1 (h:_∧_∧_)=>c_laws_szValueS v0 v1 h.1 h.2.1 h.2.2) (fun v0 v1 (h:_∧_∧_)=>c_laws_szBindS v0 v1 h.1 h.2.1 h.2.2)) wb0 wb0 wb0 ⟨fun _ hq=>?_,fun _ hq hq=>?_,fun _ hq hq=>?_,wb0⟩
 all_goals (try simp only[decide_eq_true_eq,decide_eq_false_iff_not]at *)
 all_goals first
  |(exfalso;omega)
  |(simp only[AV.sc.injEq,Value.int.injEq,true_and];omega)
theorem c_laws_szFrameS(l:List Fm)(left:Int)(h0:0≤left)(h1:left≤1073741824)(hs:∀c,c∈l→c.tx):Con PP 190 [.fz (l.map Fm.cs),.sc (.int .i64 left)] [] [] (fun r o=>r=.sc (.int .i64 (szR left (costFmS l)))):=by
 refine Con.lenOf 0 Go.Proofs.Tryz.func190 (by kernel_rfl) (by kernel_rfl) rfl fun hlen=>?_
 simp at hlen
 refine cof 27 Go.Proofs.Tryz.func190 fun G=>?_
 simp only[entSt,tmOf,List.append_nil,List.cons_append,List.nil_append]
 have e1:IntKind.i64.wrap (left-l.length)=left-l.length:=wrap64 (by omega) (by omega)
 refine go (L:=_∧_∧True) (wa1 @e1) wb0 wb0 wb0 wb0 ⟨fun _ hq=>?_,fun _ hq=>?_,wb0⟩
 ·rw[szR_no (by unfold costFmS;simp at hq;omega)]
 simp only[decide_eq_false_iff_not]at hq
 refine WPc.loopK (σ:=Nat) (fun i=>i≤l.length∧l.length+sumTo costFm l i≤left) (fun i=>l.length-i) (fun i=>[(5,.sc (.int .i64 i)),(1,.sc (.int .i64 (left-l.length-sumTo costFm l i)))]) [0] 0 (by simp[sumTo_zero]) (by simp[sumTo_zero]) (⟨by omega,by rw[sumTo_zero];omega⟩) ?_
 rintro i ⟨hi,hle⟩ s hs
 simp at hs
 subst hs
 by_cases hlt:i<l.length
 ·have hz:=hs _ (List.getElem_mem hlt)
  have e3:=sumTo_next (f:=costFm) hlt
  have e4:=sumTo_le costFm l (i+1)
  have ee:costFm ⟨l[i].unit,l[i].node,l[i].vals,l[i].env⟩=costFm l[i]:=rfl
  refine go (L:=_∧_∧True) (wa3 @Fm.cs.eq_1 @hlt @ee) (wb1 (fun v0 v1 v2 v3 v4 (h:_∧_∧_)=>c_laws_szFrame ⟨v0,v1,v2,v3⟩ v4 h.1 h.2.1 h.2.2)) wb0 wb0 wb0 ⟨fun _ hq=>?_,fun _ hq=>?_,wb0⟩
  all_goals try rw[ee]at hq
  ·simp only[decide_eq_true_eq]at hq
   have:=szR_neg (by omega) hq
   rw[szR_no (by unfold costFmS;omega)]
  all_goals
   try simp only[decide_eq_false_iff_not]at hq
   have hle2:=szR_pos hq
   refine⟨i+1,⟨⟨by omega,by omega⟩,by first|omega|(simp only;omega)|assumption⟩,rfl,rfl,?_,?_⟩<;>simp (disch:=omega) [wrap64,e3,ee,szR_ok hle2]
  all_goals (refine fit_int ?_;omega)
 ·obtain rfl:i=l.length:=by omega
  refine go (L:=_∧True) wb0 wb0 wb0 wb0 wb0 ⟨fun _=>?_,wb0⟩
  rw[sumTo_all]at hle
  rw[szR_ok (by unfold costFmS;omega),sumTo_all]
  simp only[costFmS,AV.sc.injEq,Value.int.injEq,true_and]
  omega
theorem c_laws_szMachine(c:Mc)(left:Int)(h0:0≤left)(h1:left≤1073741824)(hs:c.tx):Con PP 114 [c.av,.sc (.int .i64 left)] [] [] (fun r o=>r=.sc (.int .i64 (szR left (costMc c)))):=by
 have t_env:=hs.env
 have t_val:=hs.val
 have t_stack:=hs.stack
 have hc:costMc c=costBdS c.env+c.val.s.size+costFmS c.stack:=rfl
 have rt:=szR_cases left (costMc c)
 refine cof 24 Go.Proofs.Tryz.func114 fun G=>?_
 simp only[entSt,tmOf,List.append_nil,List.cons_append,List.nil_append,Mc.av]
 have r0:=szR_cases (left) (costBdS c.env)
 have r1:=szR_cases (szR (left) (costBdS c.env)) (c.val.s.size)
 have u1:=fun g1 g2=>c_laws_szValue c.val (szR (left) (costBdS c.env)) g1 g2 t_val
 simp only[V.av]at u1
 have r2:=szR_cases (szR (szR (left) (costBdS c.env)) (c.val.s.size)) (costFmS c.stack)
 refine go (L:=_∧_∧_∧_∧True) wb0 (wb3 (fun v0 v1 (h:_∧_∧_)=>c_laws_szBindS v0 v1 h.1 h.2.1 h.2.2) (fun (h:_∧_)=>u1 h.1 h.2) (fun v0 v1 (h:_∧_∧_)=>c_laws_szFrameS v0 v1 h.1 h.2.1 h.2.2)) wb0 wb0 wb0 ⟨fun _ hq=>?_,fun _ hq hq=>?_,fun _ hq hq hq=>?_,fun _ hq hq hq=>?_,wb0⟩
 all_goals (try simp only[decide_eq_true_eq,decide_eq_false_iff_not]at *)
 all_goals first
  |(exfalso;omega)
  |(simp only[AV.sc.injEq,Value.int.injEq,true_and];omega)
theorem c_laws_szDef(c:Df)(left:Int)(h0:0≤left)(h1:left≤1073741824)(hs:c.tx):Con PP 253 [c.av,.sc (.int .i64 left)] [] [] (fun r o=>r=.sc (.int .i64 (szR left (costDf c)))):=by
 have t_name:=hs.name
 have t_prog:=hs.prog
 have hc:costDf c=c.name.size+costP c.prog.nodes:=rfl
 have rt:=szR_cases left (costDf c)
 refine cof 19 Go.Proofs.Tryz.func253 fun G=>?_
 simp only[entSt,tmOf,List.append_nil,List.cons_append,List.nil_append,Df.av]
 have e0:IntKind.i64.wrap (left-c.name.size)=left-c.name.size:=wrap64 (by omega) (by omega)
 by_cases g0:(c.name.size:Int)≤left
 ·skip
  have r1:=szR_cases (left-c.name.size) (costP c.prog.nodes)
  have u1:=fun g1 g2=>c_laws_szProg c.prog (left-c.name.size) g1 g2 t_prog
  simp only[Pg.av]at u1
  refine go (L:=_∧_∧True) (wa1 @e0) (wb1 (fun (h:_∧_)=>u1 h.1 h.2)) wb0 wb0 wb0 ⟨fun _ hq hq=>?_,fun _ hq hq=>?_,wb0⟩
  all_goals (try simp only[decide_eq_true_eq,decide_eq_false_iff_not]at *)
  all_goals first
   |(exfalso;omega)
   |(simp only[AV.sc.injEq,Value.int.injEq,true_and];omega)
 ·refine go (L:=_∧True) (wa1 @e0) wb0 wb0 wb0 wb0 ⟨fun _ hq=>?_,wb0⟩
  all_goals (try simp only[decide_eq_true_eq,decide_eq_false_iff_not]at *)
  all_goals first
   |(exfalso;omega)
   |(simp only[AV.sc.injEq,Value.int.injEq,true_and];omega)
theorem c_laws_szDefS(l:List Df)(left:Int)(h0:0≤left)(h1:left≤1073741824)(hs:∀c,c∈l→c.tx):Con PP 187 [.fz (l.map Df.cs),.sc (.int .i64 left)] [] [] (fun r o=>r=.sc (.int .i64 (szR left (costDfS l)))):=by
 refine Con.lenOf 0 Go.Proofs.Tryz.func187 (by kernel_rfl) (by kernel_rfl) rfl fun hlen=>?_
 simp at hlen
 refine cof 27 Go.Proofs.Tryz.func187 fun G=>?_
 simp only[entSt,tmOf,List.append_nil,List.cons_append,List.nil_append]
 have e1:IntKind.i64.wrap (left-l.length)=left-l.length:=wrap64 (by omega) (by omega)
 refine go (L:=_∧_∧True) (wa1 @e1) wb0 wb0 wb0 wb0 ⟨fun _ hq=>?_,fun _ hq=>?_,wb0⟩
 ·rw[szR_no (by unfold costDfS;simp at hq;omega)]
 simp only[decide_eq_false_iff_not]at hq
 refine WPc.loopK (σ:=Nat) (fun i=>i≤l.length∧l.length+sumTo costDf l i≤left) (fun i=>l.length-i) (fun i=>[(5,.sc (.int .i64 i)),(1,.sc (.int .i64 (left-l.length-sumTo costDf l i)))]) [0] 0 (by simp[sumTo_zero]) (by simp[sumTo_zero]) (⟨by omega,by rw[sumTo_zero];omega⟩) ?_
 rintro i ⟨hi,hle⟩ s hs
 simp at hs
 subst hs
 by_cases hlt:i<l.length
 ·have hz:=hs _ (List.getElem_mem hlt)
  have e3:=sumTo_next (f:=costDf) hlt
  have e4:=sumTo_le costDf l (i+1)
  have ee:costDf ⟨l[i].name,⟨l[i].prog.nodes,l[i].prog.root⟩⟩=costDf l[i]:=rfl
  refine go (L:=_∧_∧True) (wa3 @Df.cs.eq_1 @hlt @ee) (wb1 (fun v0 v1 v2 (h:_∧_∧_)=>c_laws_szDef ⟨v0,v1⟩ v2 h.1 h.2.1 h.2.2)) wb0 wb0 wb0 ⟨fun _ hq=>?_,fun _ hq=>?_,wb0⟩
  all_goals try rw[ee]at hq
  ·simp only[decide_eq_true_eq]at hq
   have:=szR_neg (by omega) hq
   rw[szR_no (by unfold costDfS;omega)]
  all_goals
   try simp only[decide_eq_false_iff_not]at hq
   have hle2:=szR_pos hq
   refine⟨i+1,⟨⟨by omega,by omega⟩,by first|omega|(simp only;omega)|assumption⟩,rfl,rfl,?_,?_⟩<;>simp (disch:=omega) [wrap64,e3,ee,szR_ok hle2]
  all_goals (refine fit_int ?_;omega)
 ·obtain rfl:i=l.length:=by omega
  refine go (L:=_∧True) wb0 wb0 wb0 wb0 wb0 ⟨fun _=>?_,wb0⟩
  rw[sumTo_all]at hle
  rw[szR_ok (by unfold costDfS;omega),sumTo_all]
  simp only[costDfS,AV.sc.injEq,Value.int.injEq,true_and]
  omega
theorem c_laws_szSrc(c:Sr)(left:Int)(h0:0≤left)(h1:left≤1073741824)(hs:c.tx):Con PP 113 [c.av,.sc (.int .i64 left)] [] [] (fun r o=>r=.sc (.int .i64 (szR left (costSr c)))):=by
 have t_name:=hs.name
 have t_imports:=hs.imports
 have t_exports:=hs.exports
 have t_types:=hs.types
 have t_defs:=hs.defs
 have t_convs:=hs.convs
 have hc:costSr c=c.name.size+costS c.imports+costS c.exports+costTyS c.types+costDfS c.defs+costDfS c.convs:=rfl
 have rt:=szR_cases left (costSr c)
 refine cof 43 Go.Proofs.Tryz.func113 fun G=>?_
 simp only[entSt,tmOf,List.append_nil,List.cons_append,List.nil_append,Sr.av]
 have e0:IntKind.i64.wrap (left-c.name.size)=left-c.name.size:=wrap64 (by omega) (by omega)
 by_cases g0:(c.name.size:Int)≤left
 ·skip
  have r1:=szR_cases (left-c.name.size) (costS c.imports)
  have r2:=szR_cases (szR (left-c.name.size) (costS c.imports)) (costS c.exports)
  have r3:=szR_cases (szR (szR (left-c.name.size) (costS c.imports)) (costS c.exports)) (costTyS c.types)
  have r4:=szR_cases (szR (szR (szR (left-c.name.size) (costS c.imports)) (costS c.exports)) (costTyS c.types)) (costDfS c.defs)
  have r5:=szR_cases (szR (szR (szR (szR (left-c.name.size) (costS c.imports)) (costS c.exports)) (costTyS c.types)) (costDfS c.defs)) (costDfS c.convs)
  refine go (L:=_∧_∧_∧_∧_∧_∧True) (wa1 @e0) (wb3 (fun v0 v1 (h:_∧_∧_)=>c_laws_szStringS v0 v1 h.1 h.2.1 h.2.2) (fun v0 v1 (h:_∧_∧_)=>c_laws_szTypeS v0 v1 h.1 h.2.1 h.2.2) (fun v0 v1 (h:_∧_∧_)=>c_laws_szDefS v0 v1 h.1 h.2.1 h.2.2)) wb0 wb0 wb0 ⟨fun _ hq hq=>?_,fun _ hq hq hq=>?_,fun _ hq hq hq hq=>?_,fun _ hq hq hq hq hq=>?_,fun _ hq hq hq hq hq hq=>?_,fun _ hq hq hq hq hq hq=>?_,wb0⟩
  all_goals (try simp only[decide_eq_true_eq,decide_eq_false_iff_not]at *)
  all_goals first
   |(exfalso;omega)
   |(simp only[AV.sc.injEq,Value.int.injEq,true_and];omega)
 ·refine go (L:=_∧True) (wa1 @e0) wb0 wb0 wb0 wb0 ⟨fun _ hq=>?_,wb0⟩
  all_goals (try simp only[decide_eq_true_eq,decide_eq_false_iff_not]at *)
  all_goals first
   |(exfalso;omega)
   |(simp only[AV.sc.injEq,Value.int.injEq,true_and];omega)
theorem c_laws_szEnt(c:En)(left:Int)(h0:0≤left)(h1:left≤1073741824)(hs:c.tx):Con PP 56 [c.av,.sc (.int .i64 left)] [] [] (fun r o=>r=.sc (.int .i64 (szR left (costEn c)))):=by
 have t_src:=hs.src
 have hc:costEn c=costSr c.src:=rfl
 have rt:=szR_cases left (costEn c)
 refine cof 12 Go.Proofs.Tryz.func56 fun G=>?_
 simp only[entSt,tmOf,List.append_nil,List.cons_append,List.nil_append,En.av]
 have r0:=szR_cases (left) (costSr c.src)
 have u0:=fun g1 g2=>c_laws_szSrc c.src (left) g1 g2 t_src
 simp only[Sr.av]at u0
 refine go (L:=_∧_∧True) wb0 (wb1 (fun (h:_∧_)=>u0 h.1 h.2)) wb0 wb0 wb0 ⟨fun _ hq=>?_,fun _ hq=>?_,wb0⟩
 all_goals (try simp only[decide_eq_true_eq,decide_eq_false_iff_not]at *)
 all_goals first
  |(exfalso;omega)
  |(simp only[AV.sc.injEq,Value.int.injEq,true_and];omega)
theorem c_laws_szEntS(l:List En)(left:Int)(h0:0≤left)(h1:left≤1073741824)(hs:∀c,c∈l→c.tx):Con PP 26 [.fz (l.map En.cs),.sc (.int .i64 left)] [] [] (fun r o=>r=.sc (.int .i64 (szR left (costEnS l)))):=by
 refine Con.lenOf 0 Go.Proofs.Tryz.func26 (by kernel_rfl) (by kernel_rfl) rfl fun hlen=>?_
 simp at hlen
 refine cof 27 Go.Proofs.Tryz.func26 fun G=>?_
 simp only[entSt,tmOf,List.append_nil,List.cons_append,List.nil_append]
 have e1:IntKind.i64.wrap (left-l.length)=left-l.length:=wrap64 (by omega) (by omega)
 refine go (L:=_∧_∧True) (wa1 @e1) wb0 wb0 wb0 wb0 ⟨fun _ hq=>?_,fun _ hq=>?_,wb0⟩
 ·rw[szR_no (by unfold costEnS;simp at hq;omega)]
 simp only[decide_eq_false_iff_not]at hq
 refine WPc.loopK (σ:=Nat) (fun i=>i≤l.length∧l.length+sumTo costEn l i≤left) (fun i=>l.length-i) (fun i=>[(5,.sc (.int .i64 i)),(1,.sc (.int .i64 (left-l.length-sumTo costEn l i)))]) [0] 0 (by simp[sumTo_zero]) (by simp[sumTo_zero]) (⟨by omega,by rw[sumTo_zero];omega⟩) ?_
 rintro i ⟨hi,hle⟩ s hs
 simp at hs
 subst hs
 by_cases hlt:i<l.length
 ·have hz:=hs _ (List.getElem_mem hlt)
  have e3:=sumTo_next (f:=costEn) hlt
  have e4:=sumTo_le costEn l (i+1)
  have ee:costEn ⟨⟨l[i].src.name,l[i].src.imports,l[i].src.exports,l[i].src.types,l[i].src.defs,l[i].src.convs⟩,l[i].ver,l[i].inst⟩=costEn l[i]:=rfl
  refine go (L:=_∧_∧True) (wa3 @En.cs.eq_1 @hlt @ee) (wb1 (fun v0 v1 v2 v3 (h:_∧_∧_)=>c_laws_szEnt ⟨v0,v1,v2⟩ v3 h.1 h.2.1 h.2.2)) wb0 wb0 wb0 ⟨fun _ hq=>?_,fun _ hq=>?_,wb0⟩
  all_goals try rw[ee]at hq
  ·simp only[decide_eq_true_eq]at hq
   have:=szR_neg (by omega) hq
   rw[szR_no (by unfold costEnS;omega)]
  all_goals
   try simp only[decide_eq_false_iff_not]at hq
   have hle2:=szR_pos hq
   refine⟨i+1,⟨⟨by omega,by omega⟩,by first|omega|(simp only;omega)|assumption⟩,rfl,rfl,?_,?_⟩<;>simp (disch:=omega) [wrap64,e3,ee,szR_ok hle2]
  all_goals (refine fit_int ?_;omega)
 ·obtain rfl:i=l.length:=by omega
  refine go (L:=_∧True) wb0 wb0 wb0 wb0 wb0 ⟨fun _=>?_,wb0⟩
  rw[sumTo_all]at hle
  rw[szR_ok (by unfold costEnS;omega),sumTo_all]
  simp only[costEnS,AV.sc.injEq,Value.int.injEq,true_and]
  omega
theorem c_laws_szTask(c:Tk)(left:Int)(h0:0≤left)(h1:left≤1073741824)(hs:c.tx):Con PP 57 [c.av,.sc (.int .i64 left)] [] [] (fun r o=>r=.sc (.int .i64 (szR left (costTk c)))):=by
 have t_mac:=hs.mac
 have hc:costTk c=costMc c.mac:=rfl
 have rt:=szR_cases left (costTk c)
 refine cof 12 Go.Proofs.Tryz.func57 fun G=>?_
 simp only[entSt,tmOf,List.append_nil,List.cons_append,List.nil_append,Tk.av]
 have r0:=szR_cases (left) (costMc c.mac)
 have u0:=fun g1 g2=>c_laws_szMachine c.mac (left) g1 g2 t_mac
 simp only[Mc.av]at u0
 refine go (L:=_∧_∧True) wb0 (wb1 (fun (h:_∧_)=>u0 h.1 h.2)) wb0 wb0 wb0 ⟨fun _ hq=>?_,fun _ hq=>?_,wb0⟩
 all_goals (try simp only[decide_eq_true_eq,decide_eq_false_iff_not]at *)
 all_goals first
  |(exfalso;omega)
  |(simp only[AV.sc.injEq,Value.int.injEq,true_and];omega)
theorem c_laws_szTaskS(l:List Tk)(left:Int)(h0:0≤left)(h1:left≤1073741824)(hs:∀c,c∈l→c.tx):Con PP 27 [.fz (l.map Tk.cs),.sc (.int .i64 left)] [] [] (fun r o=>r=.sc (.int .i64 (szR left (costTkS l)))):=by
 refine Con.lenOf 0 Go.Proofs.Tryz.func27 (by kernel_rfl) (by kernel_rfl) rfl fun hlen=>?_
 simp at hlen
 refine cof 27 Go.Proofs.Tryz.func27 fun G=>?_
 simp only[entSt,tmOf,List.append_nil,List.cons_append,List.nil_append]
 have e1:IntKind.i64.wrap (left-l.length)=left-l.length:=wrap64 (by omega) (by omega)
 refine go (L:=_∧_∧True) (wa1 @e1) wb0 wb0 wb0 wb0 ⟨fun _ hq=>?_,fun _ hq=>?_,wb0⟩
 ·rw[szR_no (by unfold costTkS;simp at hq;omega)]
 simp only[decide_eq_false_iff_not]at hq
 refine WPc.loopK (σ:=Nat) (fun i=>i≤l.length∧l.length+sumTo costTk l i≤left) (fun i=>l.length-i) (fun i=>[(5,.sc (.int .i64 i)),(1,.sc (.int .i64 (left-l.length-sumTo costTk l i)))]) [0] 0 (by simp[sumTo_zero]) (by simp[sumTo_zero]) (⟨by omega,by rw[sumTo_zero];omega⟩) ?_
 rintro i ⟨hi,hle⟩ s hs
 simp at hs
 subst hs
 by_cases hlt:i<l.length
 ·have hz:=hs _ (List.getElem_mem hlt)
  have e3:=sumTo_next (f:=costTk) hlt
  have e4:=sumTo_le costTk l (i+1)
  have ee:costTk ⟨l[i].id,⟨l[i].mac.mode,l[i].mac.unit,l[i].mac.node,l[i].mac.env,⟨l[i].mac.val.k,l[i].mac.val.n,l[i].mac.val.s⟩,l[i].mac.stack,l[i].mac.fin⟩⟩=costTk l[i]:=rfl
  refine go (L:=_∧_∧True) (wa3 @Tk.cs.eq_1 @hlt @ee) (wb1 (fun v0 v1 v2 (h:_∧_∧_)=>c_laws_szTask ⟨v0,v1⟩ v2 h.1 h.2.1 h.2.2)) wb0 wb0 wb0 ⟨fun _ hq=>?_,fun _ hq=>?_,wb0⟩
  all_goals try rw[ee]at hq
  ·simp only[decide_eq_true_eq]at hq
   have:=szR_neg (by omega) hq
   rw[szR_no (by unfold costTkS;omega)]
  all_goals
   try simp only[decide_eq_false_iff_not]at hq
   have hle2:=szR_pos hq
   refine⟨i+1,⟨⟨by omega,by omega⟩,by first|omega|(simp only;omega)|assumption⟩,rfl,rfl,?_,?_⟩<;>simp (disch:=omega) [wrap64,e3,ee,szR_ok hle2]
  all_goals (refine fit_int ?_;omega)
 ·obtain rfl:i=l.length:=by omega
  refine go (L:=_∧True) wb0 wb0 wb0 wb0 wb0 ⟨fun _=>?_,wb0⟩
  rw[sumTo_all]at hle
  rw[szR_ok (by unfold costTkS;omega),sumTo_all]
  simp only[costTkS,AV.sc.injEq,Value.int.injEq,true_and]
  omega
theorem c_laws_szWorld(c:Wd)(left:Int)(h0:0≤left)(h1:left≤1073741824)(hs:c.tx):Con PP 7 [c.av,.sc (.int .i64 left)] [] [] (fun r o=>r=.sc (.int .i64 (szR left (costWd c)))):=by
 have t_sys:=hs.sys
 have t_libs:=hs.libs
 have t_tasks:=hs.tasks
 have hc:costWd c=costSy c.sys+costEnS c.libs+costTkS c.tasks:=rfl
 have rt:=szR_cases left (costWd c)
 refine cof 24 Go.Proofs.Tryz.func7 fun G=>?_
 simp only[entSt,tmOf,List.append_nil,List.cons_append,List.nil_append,Wd.av]
 have r0:=szR_cases (left) (costSy c.sys)
 have u0:=fun g1 g2=>c_laws_szSys c.sys (left) g1 g2 t_sys
 simp only[Sy.av]at u0
 have r1:=szR_cases (szR (left) (costSy c.sys)) (costEnS c.libs)
 have r2:=szR_cases (szR (szR (left) (costSy c.sys)) (costEnS c.libs)) (costTkS c.tasks)
 refine go (L:=_∧_∧_∧_∧True) wb0 (wb3 (fun (h:_∧_)=>u0 h.1 h.2) (fun v0 v1 (h:_∧_∧_)=>c_laws_szEntS v0 v1 h.1 h.2.1 h.2.2) (fun v0 v1 (h:_∧_∧_)=>c_laws_szTaskS v0 v1 h.1 h.2.1 h.2.2)) wb0 wb0 wb0 ⟨fun _ hq=>?_,fun _ hq hq=>?_,fun _ hq hq hq=>?_,fun _ hq hq hq=>?_,wb0⟩
 all_goals (try simp only[decide_eq_true_eq,decide_eq_false_iff_not]at *)
 all_goals first
  |(exfalso;omega)
  |(simp only[AV.sc.injEq,Value.int.injEq,true_and];omega)
end Go.Own
set_option maxRecDepth 1000000
set_option maxHeartbeats 4000000
namespace Go.Own
attribute [local irreducible] WPc WPL WPS WPS1 WPS2 HAny endP
variable [Laid]
open Go.Lib Go.RowKit
theorem c_laws_toValueS(l:List V)(h1:l.length≤1000000000):Con PP 203 [.fz (l.map V.cs)] [] [] (fun r o=>r=.sl 7 3 [] 0 l.length∧o=[(7,115,3,l.map V.cs)]):=by
 have hb1:(32:Int)*(l.length:Int)≤281474976710656:=by omega
 have hb2:(l.length:Int)≤9223372036854775807:=by omega
 refine cof 23 Go.Proofs.Tryz.func203 fun G=>?_
 simp only[entSt,tmOf,List.append_nil,List.cons_append,List.nil_append]
 refine go (L:=_∧True) (wa2 @hb1 @hb2) wb0 wb0 wb0 wb0 ⟨fun _=>?_,wb0⟩
 refine WPc.loopV (σ:=Nat) (fun i=>i≤l.length) (fun i=>l.length-i) (fun i=>[(4,.sc (.int .i64 i))]) (fun i=>[(7,115,3,part [.sc (.int .i64 0),.sc (.int .i64 0),.sc (.string zs)] V.cs l i)]) [0,3] 0 (by simp[part_zero]) (by simp[part_zero]) (by simp) ?_
 rintro i hi s hs
 simp at hs
 subst hs
 by_cases hlt:i<l.length
 ·have hl:=part_len (z:=[.sc (.int .i64 0),.sc (.int .i64 0),.sc (.string zs)]) (f:=V.cs) hi
  have hge:=part_ge (z:=[.sc (.int .i64 0),.sc (.int .i64 0),.sc (.string zs)]) (f:=V.cs) hlt
  have hn:(((part [.sc (.int .i64 0),.sc (.int .i64 0),.sc (.string zs)] V.cs l i).modify i fun r=>r.set 0 (.sc (.int .i64 l[i].k))).modify i fun r=>r.set 1 (.sc (.int .i64 l[i].n))).modify i (fun r=>r.set 2 (.sc (.string l[i].s)))=part [.sc (.int .i64 0),.sc (.int .i64 0),.sc (.string zs)] V.cs l (i+1):=by
   rw[List.modify_modify_eq,List.modify_modify_eq]
   exact part_next hlt rfl
  refine go (L:=_∧True) (wa5 @V.cs.eq_1 @V.av.eq_1 @hlt @hl @hge) (wb1 (fun v0 v1 v2 (_:True)=>c_laws_toValue ⟨v0,v1,v2⟩)) wb0 wb0 wb0 ⟨fun _=>?_,wb0⟩
  refine⟨i+1,⟨hlt,by first|omega|(simp only;omega)|assumption⟩,rfl,rfl,?_,?_⟩<;>simp (disch:=omega) [wrap64,hn]
 ·obtain rfl:i=l.length:=by omega
  refine gox (L:=_∧_∧True) wb0 wb0 wb0 wb0 (wb1 (outO [(7,115,3,l.map V.cs)])) ⟨fun _=>?_,fun _=>?_,wb0⟩
  ·simp[part_all]
  ·exact⟨rfl,rfl⟩
theorem c_laws_toCell(c:Cl)(h1:c.names.length≤1000000000)(h2:c.vals.length≤1000000000):Con PP 133 [c.av] [] [] (fun r o=>r=.agg [.sc (.int .i64 c.k),.sc (.string c.s),.sc (.int .i64 c.a),.sc (.int .i64 c.b),.sl 2 1 [(0,4)] 0 c.names.length,.sl 2 3 [(0,5)] 0 c.vals.length]∧o=[(2,132,6,[c.ow])]):=by
 refine cof 25 Go.Proofs.Tryz.func133 fun G=>?_
 simp only[entSt,tmOf,List.append_nil,List.cons_append,List.nil_append,Cl.av]
 refine gox (L:=_∧_∧True) wb0 wb0 (wb2 (fun v0 (h:_)=>c_laws_toStringS v0 h) (fun v0 (h:_)=>c_laws_toValueS v0 h)) wb0 (wb3 (outO [(2,132,6,[c.ow])]) (nm 1 [24,3,900001,0,4]) (nm 1 [24,3,900002,0,5])) ⟨fun _=>?_,fun _=>?_,wb0⟩
 ·simp[Cl.ow]
 ·exact⟨rfl,rfl⟩
def zC:List C:=[.sc (.int .i64 0),.sc (.string zs),.sc (.int .i64 0),.sc (.int .i64 0),.sc (.slice none 0 0),.sc (.slice none 0 0)]
theorem c_laws_toCellS(l:List Cl)(h1:l.length≤1000000000)(h2:∀c,c∈l→c.rm):Con PP 67 [.fz (l.map Cl.cs)] [] [] (fun r o=>r=.sl 7 6 [] 0 l.length∧o=[(7,heapR l)]):=by
 have hb1:(88:Int)*(l.length:Int)≤281474976710656:=by omega
 have hb2:(l.length:Int)≤9223372036854775807:=by omega
 refine cof 23 Go.Proofs.Tryz.func67 fun G=>?_
 simp only[entSt,tmOf,List.append_nil,List.cons_append,List.nil_append]
 refine go (L:=_∧True) (wa2 @hb1 @hb2) wb0 wb0 wb0 wb0 ⟨fun _=>?_,wb0⟩
 refine WPc.loopV (σ:=Nat) (fun i=>i≤l.length) (fun i=>l.length-i) (fun i=>[(4,.sc (.int .i64 i))]) (fun i=>[(7,132,6,part [.sc (.int .i64 0),.sc (.string zs),.sc (.int .i64 0),.sc (.int .i64 0),.sc (.slice none 0 0),.sc (.slice none 0 0)] Cl.ow l i)]) [0,3] 0 (by simp[part_zero]) (by simp[part_zero]) (by simp) ?_
 rintro i hi s hs
 simp at hs
 subst hs
 by_cases hlt:i<l.length
 ·have hr:=h2 _ (List.getElem_mem hlt)
  have hr1:=hr.names
  have hr2:=hr.vals
  have hl:=part_len (z:=[.sc (.int .i64 0),.sc (.string zs),.sc (.int .i64 0),.sc (.int .i64 0),.sc (.slice none 0 0),.sc (.slice none 0 0)]) (f:=Cl.ow) hi
  have hge:=part_ge (z:=[.sc (.int .i64 0),.sc (.string zs),.sc (.int .i64 0),.sc (.int .i64 0),.sc (.slice none 0 0),.sc (.slice none 0 0)]) (f:=Cl.ow) hlt
  have hn:((((((part [.sc (.int .i64 0),.sc (.string zs),.sc (.int .i64 0),.sc (.int .i64 0),.sc (.slice none 0 0),.sc (.slice none 0 0)] Cl.ow l i).modify i fun r=>r.set 0 (.sc (.int .i64 l[i].k))).modify i fun r=>r.set 1 (.sc (.string l[i].s))).modify i fun r=>r.set 2 (.sc (.int .i64 l[i].a))).modify i fun r=>r.set 3 (.sc (.int .i64 l[i].b))).modify i fun r=>r.set 4 (.sl 9 1 (l[i].names.map sC))).modify i (fun r=>r.set 5 (.sl 115 3 (l[i].vals.map V.cs)))=part [.sc (.int .i64 0),.sc (.string zs),.sc (.int .i64 0),.sc (.int .i64 0),.sc (.slice none 0 0),.sc (.slice none 0 0)] Cl.ow l (i+1):=by
   rw[List.modify_modify_eq,List.modify_modify_eq,List.modify_modify_eq,List.modify_modify_eq,List.modify_modify_eq]
   exact part_next hlt rfl
  refine gox (L:=_∧True) (wa6 @Cl.cs.eq_1 @Cl.av.eq_1 @hlt @hl @hge @Cl.ow.eq_1) wb0 (wb1 (fun v0 v1 v2 v3 v4 v5 (h:_∧_)=>c_laws_toCell ⟨v0,v1,v2,v3,v4,v5⟩ h.1 h.2)) wb0 (wb3 wb0 (nm 1 [20,20,900001,0,4]) (nm 1 [20,20,900002,0,5])) ⟨fun _=>?_,wb0⟩
  refine⟨i+1,⟨hlt,by first|omega|(simp only;omega)|assumption⟩,rfl,rfl,?_,?_⟩<;>simp (disch:=omega) [wrap64,hn]
 ·obtain rfl:i=l.length:=by omega
  refine gox (L:=_∧_∧True) wb0 wb0 wb0 wb0 (wb1 (outO [(7,heapR l)])) ⟨fun _=>?_,fun _=>?_,wb0⟩
  ·simp[part_all,heapR]
  ·exact⟨rfl,rfl⟩
end Go.Own
set_option maxRecDepth 1000000
set_option maxHeartbeats 4000000
namespace Go.Own
attribute [local irreducible] WPc WPL WPS WPS1 WPS2 HAny endP
variable [Laid]
open Go.Lib Go.RowKit
theorem c_laws_toLink(c:Lk):Con PP 260 [c.av] [] [] (fun r o=>r=c.av):=by
 refine cof 14 Go.Proofs.Tryz.func260 fun G=>?_
 simp only[entSt,tmOf,List.append_nil,List.cons_append,List.nil_append,Lk.av]
 refine go (L:=_∧True) wb0 wb0 wb0 wb0 wb0 ⟨fun _=>?_,wb0⟩
 rfl
theorem c_laws_toLinkS(l:List Lk)(h1:l.length≤1000000000):Con PP 204 [.fz (l.map Lk.cs)] [] [] (fun r o=>r=.sl 7 3 [] 0 l.length∧o=[(7,130,3,l.map Lk.cs)]):=by
 have hb1:(40:Int)*(l.length:Int)≤281474976710656:=by omega
 have hb2:(l.length:Int)≤9223372036854775807:=by omega
 refine cof 23 Go.Proofs.Tryz.func204 fun G=>?_
 simp only[entSt,tmOf,List.append_nil,List.cons_append,List.nil_append]
 refine go (L:=_∧True) (wa2 @hb1 @hb2) wb0 wb0 wb0 wb0 ⟨fun _=>?_,wb0⟩
 refine WPc.loopV (σ:=Nat) (fun i=>i≤l.length) (fun i=>l.length-i) (fun i=>[(4,.sc (.int .i64 i))]) (fun i=>[(7,130,3,part [.sc (.string zs),.sc (.int .i64 0),.sc (.string zs)] Lk.cs l i)]) [0,3] 0 (by simp[part_zero]) (by simp[part_zero]) (by simp) ?_
 rintro i hi s hs
 simp at hs
 subst hs
 by_cases hlt:i<l.length
 ·have hl:=part_len (z:=[.sc (.string zs),.sc (.int .i64 0),.sc (.string zs)]) (f:=Lk.cs) hi
  have hge:=part_ge (z:=[.sc (.string zs),.sc (.int .i64 0),.sc (.string zs)]) (f:=Lk.cs) hlt
  have hn:(((part [.sc (.string zs),.sc (.int .i64 0),.sc (.string zs)] Lk.cs l i).modify i (fun r=>r.set 0 (.sc (.string l[i].name)))).modify i (fun r=>r.set 1 (.sc (.int .i64 l[i].inst)))).modify i (fun r=>r.set 2 (.sc (.string l[i].tgt)))=part [.sc (.string zs),.sc (.int .i64 0),.sc (.string zs)] Lk.cs l (i+1):=by
   rw[List.modify_modify_eq,List.modify_modify_eq]
   exact part_next hlt rfl
  refine go (L:=_∧True) (wa6 @Lk.cs.eq_1 @Lk.av.eq_1 @hlt @hl @hge @Lk.cs.eq_1) (wb1 (fun v0 v1 v2 (_:True)=>c_laws_toLink ⟨v0,v1,v2⟩)) wb0 wb0 wb0 ⟨fun _=>?_,wb0⟩
  refine⟨i+1,⟨hlt,by first|omega|(simp only;omega)|assumption⟩,rfl,rfl,?_,?_⟩<;>simp (disch:=omega) [wrap64,hn]
 ·obtain rfl:i=l.length:=by omega
  refine gox (L:=_∧_∧True) wb0 wb0 wb0 wb0 (wb1 (outO [(7,130,3,l.map Lk.cs)])) ⟨fun _=>?_,fun _=>?_,wb0⟩
  ·simp[part_all]
  ·exact⟨rfl,rfl⟩
theorem c_laws_toType(c:Ty):Con PP 261 [c.av] [] [] (fun r o=>r=c.av):=by
 refine cof 11 Go.Proofs.Tryz.func261 fun G=>?_
 simp only[entSt,tmOf,List.append_nil,List.cons_append,List.nil_append,Ty.av]
 refine go (L:=_∧True) wb0 wb0 wb0 wb0 wb0 ⟨fun _=>?_,wb0⟩
 rfl
theorem c_laws_toTypeS(l:List Ty)(h1:l.length≤1000000000):Con PP 205 [.fz (l.map Ty.cs)] [] [] (fun r o=>r=.sl 7 2 [] 0 l.length∧o=[(7,212,2,l.map Ty.cs)]):=by
 have hb1:(24:Int)*(l.length:Int)≤281474976710656:=by omega
 have hb2:(l.length:Int)≤9223372036854775807:=by omega
 refine cof 23 Go.Proofs.Tryz.func205 fun G=>?_
 simp only[entSt,tmOf,List.append_nil,List.cons_append,List.nil_append]
 refine go (L:=_∧True) (wa2 @hb1 @hb2) wb0 wb0 wb0 wb0 ⟨fun _=>?_,wb0⟩
 refine WPc.loopV (σ:=Nat) (fun i=>i≤l.length) (fun i=>l.length-i) (fun i=>[(4,.sc (.int .i64 i))]) (fun i=>[(7,212,2,part [.sc (.string zs),.sc (.int .i64 0)] Ty.cs l i)]) [0,3] 0 (by simp[part_zero]) (by simp[part_zero]) (by simp) ?_
 rintro i hi s hs
 simp at hs
 subst hs
 by_cases hlt:i<l.length
 ·have hl:=part_len (z:=[.sc (.string zs),.sc (.int .i64 0)]) (f:=Ty.cs) hi
  have hge:=part_ge (z:=[.sc (.string zs),.sc (.int .i64 0)]) (f:=Ty.cs) hlt
  have hn:((part [.sc (.string zs),.sc (.int .i64 0)] Ty.cs l i).modify i (fun r=>r.set 0 (.sc (.string l[i].name)))).modify i (fun r=>r.set 1 (.sc (.int .i64 l[i].size)))=part [.sc (.string zs),.sc (.int .i64 0)] Ty.cs l (i+1):=by
   rw[List.modify_modify_eq]
   exact part_next hlt rfl
  refine go (L:=_∧True) (wa6 @Ty.cs.eq_1 @Ty.av.eq_1 @hlt @hl @hge @Ty.cs.eq_1) (wb1 (fun v0 v1 (_:True)=>c_laws_toType ⟨v0,v1⟩)) wb0 wb0 wb0 ⟨fun _=>?_,wb0⟩
  refine⟨i+1,⟨hlt,by first|omega|(simp only;omega)|assumption⟩,rfl,rfl,?_,?_⟩<;>simp (disch:=omega) [wrap64,hn]
 ·obtain rfl:i=l.length:=by omega
  refine gox (L:=_∧_∧True) wb0 wb0 wb0 wb0 (wb1 (outO [(7,212,2,l.map Ty.cs)])) ⟨fun _=>?_,fun _=>?_,wb0⟩
  ·simp[part_all]
  ·exact⟨rfl,rfl⟩
theorem c_laws_toInst(c:In)(h2:c.rm):Con PP 134 [c.av] [] [] (fun r o=>r=.agg [.sc (.string c.lib),.sc (.int .i64 c.ver),.sl 2 1 [(0,2)] 0 c.names.length,.sl 2 3 [(0,3)] 0 c.vals.length,.sl 2 3 [(0,4)] 0 c.links.length,.sl 2 2 [(0,5)] 0 c.types.length]∧o=[(2,83,6,[c.ow])]):=by
 have mnames:=h2.names
 have mvals:=h2.vals
 have mlinks:=h2.links
 have mtypes:=h2.types
 refine cof 27 Go.Proofs.Tryz.func134 fun G=>?_
 simp only[entSt,tmOf,List.append_nil,List.cons_append,List.nil_append,In.av]
 refine gox (L:=_∧_∧True) wb0 wb0 (wb4 (fun v0 (h:_)=>c_laws_toStringS v0 h) (fun v0 (h:_)=>c_laws_toValueS v0 h) (fun v0 (h:_)=>c_laws_toLinkS v0 h) (fun v0 (h:_)=>c_laws_toTypeS v0 h)) wb0 (wb5 (outO [(2,83,6,[c.ow])]) (nm 1 [26,3,900001,0,2]) (nm 1 [26,3,900002,0,3]) (nm 1 [26,3,900003,0,4]) (nm 1 [26,3,900004,0,5])) ⟨fun _=>?_,fun _=>?_,wb0⟩
 ·simp[In.ow]
 ·exact⟨rfl,rfl⟩
theorem c_laws_toInstS(l:List In)(h1:l.length≤1000000000)(h2:∀c,c∈l→c.rm):Con PP 68 [.fz (l.map In.cs)] [] [] (fun r o=>r=.sl 7 6 [] 0 l.length∧o=[(7,83,6,l.map In.ow)]):=by
 have hb1:(120:Int)*(l.length:Int)≤281474976710656:=by omega
 have hb2:(l.length:Int)≤9223372036854775807:=by omega
 refine cof 23 Go.Proofs.Tryz.func68 fun G=>?_
 simp only[entSt,tmOf,List.append_nil,List.cons_append,List.nil_append]
 refine go (L:=_∧True) (wa2 @hb1 @hb2) wb0 wb0 wb0 wb0 ⟨fun _=>?_,wb0⟩
 refine WPc.loopV (σ:=Nat) (fun i=>i≤l.length) (fun i=>l.length-i) (fun i=>[(4,.sc (.int .i64 i))]) (fun i=>[(7,83,6,part [.sc (.string zs),.sc (.int .i64 0),.sc (.slice none 0 0),.sc (.slice none 0 0),.sc (.slice none 0 0),.sc (.slice none 0 0)] In.ow l i)]) [0,3] 0 (by simp[part_zero]) (by simp[part_zero]) (by simp) ?_
 rintro i hi s hs
 simp at hs
 subst hs
 by_cases hlt:i<l.length
 ·have hr:=h2 _ (List.getElem_mem hlt)
  have hl:=part_len (z:=[.sc (.string zs),.sc (.int .i64 0),.sc (.slice none 0 0),.sc (.slice none 0 0),.sc (.slice none 0 0),.sc (.slice none 0 0)]) (f:=In.ow) hi
  have hge:=part_ge (z:=[.sc (.string zs),.sc (.int .i64 0),.sc (.slice none 0 0),.sc (.slice none 0 0),.sc (.slice none 0 0),.sc (.slice none 0 0)]) (f:=In.ow) hlt
  have hn:((((((part [.sc (.string zs),.sc (.int .i64 0),.sc (.slice none 0 0),.sc (.slice none 0 0),.sc (.slice none 0 0),.sc (.slice none 0 0)] In.ow l i).modify i (fun r=>r.set 0 (.sc (.string l[i].lib)))).modify i (fun r=>r.set 1 (.sc (.int .i64 l[i].ver)))).modify i (fun r=>r.set 2 (.sl 9 1 (l[i].names.map sC)))).modify i (fun r=>r.set 3 (.sl 115 3 (l[i].vals.map V.cs)))).modify i (fun r=>r.set 4 (.sl 130 3 (l[i].links.map Lk.cs)))).modify i (fun r=>r.set 5 (.sl 212 2 (l[i].types.map Ty.cs)))=part [.sc (.string zs),.sc (.int .i64 0),.sc (.slice none 0 0),.sc (.slice none 0 0),.sc (.slice none 0 0),.sc (.slice none 0 0)] In.ow l (i+1):=by
   rw[List.modify_modify_eq,List.modify_modify_eq,List.modify_modify_eq,List.modify_modify_eq,List.modify_modify_eq]
   exact part_next hlt rfl
  refine gox (L:=_∧True) (wa6 @In.cs.eq_1 @In.av.eq_1 @hlt @hl @hge @In.ow.eq_1) wb0 (wb1 (fun v0 v1 v2 v3 v4 v5 (h:_)=>c_laws_toInst ⟨v0,v1,v2,v3,v4,v5⟩ h)) wb0 (wb5 wb0 (nm 1 [20,20,900001,0,2]) (nm 1 [20,20,900002,0,3]) (nm 1 [20,20,900003,0,4]) (nm 1 [20,20,900004,0,5])) ⟨fun _=>?_,wb0⟩
  refine⟨i+1,⟨hlt,by first|omega|(simp only;omega)|assumption⟩,rfl,rfl,?_,?_⟩<;>simp (disch:=omega) [wrap64,hn]
 ·obtain rfl:i=l.length:=by omega
  refine gox (L:=_∧_∧True) wb0 wb0 wb0 wb0 (wb1 (outO [(7,83,6,l.map In.ow)])) ⟨fun _=>?_,fun _=>?_,wb0⟩
  ·simp[part_all]
  ·exact⟨rfl,rfl⟩
theorem c_laws_toUnit(c:Un)(h2:c.rm):Con PP 135 [c.av] [] [] (fun r o=>r=.agg [.sc (.int .i64 c.home),.sl 2 5 [(0,1)] 0 c.prog.nodes.length,.sc (.int .i64 c.prog.root)]∧o=[(2,137,3,[c.ow])]):=by
 have mprog:=h2.prog
 have mprognodes:=mprog.nodes
 have mprognodes1:=mprog.nodes1
 have u_prog:=c_laws_toProg c.prog mprognodes mprognodes1
 simp only[Pg.av]at u_prog
 refine cof 12 Go.Proofs.Tryz.func135 fun G=>?_
 simp only[entSt,tmOf,List.append_nil,List.cons_append,List.nil_append,Un.av]
 refine gox (L:=_∧_∧True) (wa1 @progB.eq_1) wb0 (wb1 (fun _=>u_prog)) wb0 (wb3 (outO [(2,137,3,[c.ow])]) (nm 1 [9,9,900001,0,0]) (nm 1 [11,3,900002,0,1])) ⟨fun _=>?_,fun _=>?_,wb0⟩
 ·simp[Un.ow]
 ·exact⟨rfl,rfl⟩
theorem c_laws_toUnitS(l:List Un)(h1:l.length≤1000000000)(h2:∀c,c∈l→c.rm):Con PP 69 [.fz (l.map Un.cs)] [] [] (fun r o=>r=.sl 7 3 [] 0 l.length∧o=[(7,137,3,l.map Un.ow)]):=by
 have hb1:(40:Int)*(l.length:Int)≤281474976710656:=by omega
 have hb2:(l.length:Int)≤9223372036854775807:=by omega
 refine cof 23 Go.Proofs.Tryz.func69 fun G=>?_
 simp only[entSt,tmOf,List.append_nil,List.cons_append,List.nil_append]
 refine go (L:=_∧True) (wa2 @hb1 @hb2) wb0 wb0 wb0 wb0 ⟨fun _=>?_,wb0⟩
 refine WPc.loopV (σ:=Nat) (fun i=>i≤l.length) (fun i=>l.length-i) (fun i=>[(4,.sc (.int .i64 i))]) (fun i=>[(7,137,3,part [.sc (.int .i64 0),.sc (.slice none 0 0),.sc (.int .i64 0)] Un.ow l i)]) [0,3] 0 (by simp[part_zero]) (by simp[part_zero]) (by simp) ?_
 rintro i hi s hs
 simp at hs
 subst hs
 by_cases hlt:i<l.length
 ·have hr:=h2 _ (List.getElem_mem hlt)
  have hl:=part_len (z:=[.sc (.int .i64 0),.sc (.slice none 0 0),.sc (.int .i64 0)]) (f:=Un.ow) hi
  have hge:=part_ge (z:=[.sc (.int .i64 0),.sc (.slice none 0 0),.sc (.int .i64 0)]) (f:=Un.ow) hlt
  have hn:(((part [.sc (.int .i64 0),.sc (.slice none 0 0),.sc (.int .i64 0)] Un.ow l i).modify i (fun r=>r.set 0 (.sc (.int .i64 l[i].home)))).modify i (fun r=>r.set 1 (.sl 206 5 (l[i].prog.nodes.map Nd.ow)))).modify i (fun r=>r.set 2 (.sc (.int .i64 l[i].prog.root)))=part [.sc (.int .i64 0),.sc (.slice none 0 0),.sc (.int .i64 0)] Un.ow l (i+1):=by
   rw[List.modify_modify_eq,List.modify_modify_eq]
   exact part_next hlt rfl
  refine gox (L:=_∧True) (wa6 @Un.cs.eq_1 @Un.av.eq_1 @hlt @hl @hge @Un.ow.eq_1) wb0 (wb1 (fun v0 v1 (h:_)=>c_laws_toUnit ⟨v0,v1⟩ h)) wb0 (wb2 wb0 (nm 1 [20,20,900001,0,1])) ⟨fun _=>?_,wb0⟩
  refine⟨i+1,⟨hlt,by first|omega|(simp only;omega)|assumption⟩,rfl,rfl,?_,?_⟩<;>simp (disch:=omega) [wrap64,hn]
 ·obtain rfl:i=l.length:=by omega
  refine gox (L:=_∧_∧True) wb0 wb0 wb0 wb0 (wb1 (outO [(7,137,3,l.map Un.ow)])) ⟨fun _=>?_,fun _=>?_,wb0⟩
  ·simp[part_all]
  ·exact⟨rfl,rfl⟩
theorem c_laws_toSys(c:Sy)(h2:c.rm):Con PP 32 [c.av] [] [] (fun r o=>r=.agg [.sl 2 6 [(0,0)] 0 c.heap.length,.sl 2 6 [(0,1)] 0 c.insts.length,.sl 2 3 [(0,2)] 0 c.units.length,.sl 2 1 [(0,3)] 0 c.out.length]∧o=[(2,38,4,[c.ow])]):=by
 have mheap:=h2.heap
 have mheap1:=h2.heap1
 have minsts:=h2.insts
 have minsts1:=h2.insts1
 have munits:=h2.units
 have munits1:=h2.units1
 have mout:=h2.out
 refine cof 21 Go.Proofs.Tryz.func32 fun G=>?_
 simp only[entSt,tmOf,List.append_nil,List.cons_append,List.nil_append,Sy.av]
 refine gox (L:=_∧_∧True) (wa1 @heapR.eq_1) wb0 (wb4 (fun v0 (h:_∧_)=>c_laws_toCellS v0 h.1 h.2) (fun v0 (h:_∧_)=>c_laws_toInstS v0 h.1 h.2) (fun v0 (h:_∧_)=>c_laws_toUnitS v0 h.1 h.2) (fun v0 (h:_)=>c_laws_toStringS v0 h)) wb0 (wb5 (outO [(2,38,4,[c.ow])]) (nm 1 [20,3,900001,0,0]) (nm 1 [20,3,900002,0,1]) (nm 1 [20,3,900003,0,2]) (nm 1 [20,3,900004,0,3])) ⟨fun _=>?_,fun _=>?_,wb0⟩
 ·simp[Sy.ow]
 ·exact⟨rfl,rfl⟩
theorem c_laws_toBind(c:Bd):Con PP 264 [c.av] [] [] (fun r o=>r=c.av):=by
 have u_val:=c_laws_toValue c.val
 simp only[V.av]at u_val
 refine cof 12 Go.Proofs.Tryz.func264 fun G=>?_
 simp only[entSt,tmOf,List.append_nil,List.cons_append,List.nil_append,Bd.av]
 refine go (L:=_∧True) wb0 (wb1 (fun _=>u_val)) wb0 wb0 wb0 ⟨fun _=>?_,wb0⟩
 rfl
theorem c_laws_toBindS(l:List Bd)(h1:l.length≤1000000000):Con PP 208 [.fz (l.map Bd.cs)] [] [] (fun r o=>r=.sl 7 4 [] 0 l.length∧o=[(7,257,4,l.map Bd.cs)]):=by
 have hb1:(48:Int)*(l.length:Int)≤281474976710656:=by omega
 have hb2:(l.length:Int)≤9223372036854775807:=by omega
 refine cof 23 Go.Proofs.Tryz.func208 fun G=>?_
 simp only[entSt,tmOf,List.append_nil,List.cons_append,List.nil_append]
 refine go (L:=_∧True) (wa2 @hb1 @hb2) wb0 wb0 wb0 wb0 ⟨fun _=>?_,wb0⟩
 refine WPc.loopV (σ:=Nat) (fun i=>i≤l.length) (fun i=>l.length-i) (fun i=>[(4,.sc (.int .i64 i))]) (fun i=>[(7,257,4,part [.sc (.string zs),.sc (.int .i64 0),.sc (.int .i64 0),.sc (.string zs)] Bd.cs l i)]) [0,3] 0 (by simp[part_zero]) (by simp[part_zero]) (by simp) ?_
 rintro i hi s hs
 simp at hs
 subst hs
 by_cases hlt:i<l.length
 ·have hl:=part_len (z:=[.sc (.string zs),.sc (.int .i64 0),.sc (.int .i64 0),.sc (.string zs)]) (f:=Bd.cs) hi
  have hge:=part_ge (z:=[.sc (.string zs),.sc (.int .i64 0),.sc (.int .i64 0),.sc (.string zs)]) (f:=Bd.cs) hlt
  have hn:((((part [.sc (.string zs),.sc (.int .i64 0),.sc (.int .i64 0),.sc (.string zs)] Bd.cs l i).modify i (fun r=>r.set 0 (.sc (.string l[i].name)))).modify i (fun r=>r.set 1 (.sc (.int .i64 l[i].val.k)))).modify i (fun r=>r.set 2 (.sc (.int .i64 l[i].val.n)))).modify i (fun r=>r.set 3 (.sc (.string l[i].val.s)))=part [.sc (.string zs),.sc (.int .i64 0),.sc (.int .i64 0),.sc (.string zs)] Bd.cs l (i+1):=by
   rw[List.modify_modify_eq,List.modify_modify_eq,List.modify_modify_eq]
   exact part_next hlt rfl
  refine go (L:=_∧True) (wa6 @Bd.cs.eq_1 @Bd.av.eq_1 @hlt @hl @hge @Bd.cs.eq_1) (wb1 (fun v0 v1 (_:True)=>c_laws_toBind ⟨v0,v1⟩)) wb0 wb0 wb0 ⟨fun _=>?_,wb0⟩
  refine⟨i+1,⟨hlt,by first|omega|(simp only;omega)|assumption⟩,rfl,rfl,?_,?_⟩<;>simp (disch:=omega) [wrap64,hn]
 ·obtain rfl:i=l.length:=by omega
  refine gox (L:=_∧_∧True) wb0 wb0 wb0 wb0 (wb1 (outO [(7,257,4,l.map Bd.cs)])) ⟨fun _=>?_,fun _=>?_,wb0⟩
  ·simp[part_all]
  ·exact⟨rfl,rfl⟩
theorem c_laws_toFrame(c:Fm)(h2:c.rm):Con PP 265 [c.av] [] [] (fun r o=>r=.agg [.sc (.int .i64 c.unit),.sc (.int .i64 c.node),.sl 2 3 [(0,2)] 0 c.vals.length,.sl 2 4 [(0,3)] 0 c.env.length]∧o=[(2,220,4,[c.ow])]):=by
 have mvals:=h2.vals
 have menv:=h2.env
 refine cof 19 Go.Proofs.Tryz.func265 fun G=>?_
 simp only[entSt,tmOf,List.append_nil,List.cons_append,List.nil_append,Fm.av]
 refine gox (L:=_∧_∧True) wb0 wb0 (wb2 (fun v0 (h:_)=>c_laws_toValueS v0 h) (fun v0 (h:_)=>c_laws_toBindS v0 h)) wb0 (wb3 (outO [(2,220,4,[c.ow])]) (nm 1 [18,3,900001,0,2]) (nm 1 [18,3,900002,0,3])) ⟨fun _=>?_,fun _=>?_,wb0⟩
 ·simp[Fm.ow]
 ·exact⟨rfl,rfl⟩
theorem c_laws_toFrameS(l:List Fm)(h1:l.length≤1000000000)(h2:∀c,c∈l→c.rm):Con PP 210 [.fz (l.map Fm.cs)] [] [] (fun r o=>r=.sl 7 4 [] 0 l.length∧o=[(7,220,4,l.map Fm.ow)]):=by
 have hb1:(64:Int)*(l.length:Int)≤281474976710656:=by omega
 have hb2:(l.length:Int)≤9223372036854775807:=by omega
 refine cof 23 Go.Proofs.Tryz.func210 fun G=>?_
 simp only[entSt,tmOf,List.append_nil,List.cons_append,List.nil_append]
 refine go (L:=_∧True) (wa2 @hb1 @hb2) wb0 wb0 wb0 wb0 ⟨fun _=>?_,wb0⟩
 refine WPc.loopV (σ:=Nat) (fun i=>i≤l.length) (fun i=>l.length-i) (fun i=>[(4,.sc (.int .i64 i))]) (fun i=>[(7,220,4,part [.sc (.int .i64 0),.sc (.int .i64 0),.sc (.slice none 0 0),.sc (.slice none 0 0)] Fm.ow l i)]) [0,3] 0 (by simp[part_zero]) (by simp[part_zero]) (by simp) ?_
 rintro i hi s hs
 simp at hs
 subst hs
 by_cases hlt:i<l.length
 ·have hr:=h2 _ (List.getElem_mem hlt)
  have hl:=part_len (z:=[.sc (.int .i64 0),.sc (.int .i64 0),.sc (.slice none 0 0),.sc (.slice none 0 0)]) (f:=Fm.ow) hi
  have hge:=part_ge (z:=[.sc (.int .i64 0),.sc (.int .i64 0),.sc (.slice none 0 0),.sc (.slice none 0 0)]) (f:=Fm.ow) hlt
  have hn:((((part [.sc (.int .i64 0),.sc (.int .i64 0),.sc (.slice none 0 0),.sc (.slice none 0 0)] Fm.ow l i).modify i (fun r=>r.set 0 (.sc (.int .i64 l[i].unit)))).modify i (fun r=>r.set 1 (.sc (.int .i64 l[i].node)))).modify i (fun r=>r.set 2 (.sl 115 3 (l[i].vals.map V.cs)))).modify i (fun r=>r.set 3 (.sl 257 4 (l[i].env.map Bd.cs)))=part [.sc (.int .i64 0),.sc (.int .i64 0),.sc (.slice none 0 0),.sc (.slice none 0 0)] Fm.ow l (i+1):=by
   rw[List.modify_modify_eq,List.modify_modify_eq,List.modify_modify_eq]
   exact part_next hlt rfl
  refine gox (L:=_∧True) (wa6 @Fm.cs.eq_1 @Fm.av.eq_1 @hlt @hl @hge @Fm.ow.eq_1) wb0 (wb1 (fun v0 v1 v2 v3 (h:_)=>c_laws_toFrame ⟨v0,v1,v2,v3⟩ h)) wb0 (wb3 wb0 (nm 1 [20,20,900001,0,2]) (nm 1 [20,20,900002,0,3])) ⟨fun _=>?_,wb0⟩
  refine⟨i+1,⟨hlt,by first|omega|(simp only;omega)|assumption⟩,rfl,rfl,?_,?_⟩<;>simp (disch:=omega) [wrap64,hn]
 ·obtain rfl:i=l.length:=by omega
  refine gox (L:=_∧_∧True) wb0 wb0 wb0 wb0 (wb1 (outO [(7,220,4,l.map Fm.ow)])) ⟨fun _=>?_,fun _=>?_,wb0⟩
  ·simp[part_all]
  ·exact⟨rfl,rfl⟩
theorem c_laws_toMachine(c:Mc)(h2:c.rm):Con PP 137 [c.av] [] [] (fun r o=>r=.agg [.sc (.int .i64 c.mode),.sc (.int .i64 c.unit),.sc (.int .i64 c.node),.sl 2 4 [(0,3)] 0 c.env.length,.sc (.int .i64 c.val.k),.sc (.int .i64 c.val.n),.sc (.string c.val.s),.sl 2 4 [(0,7)] 0 c.stack.length,.sc (.int .i64 c.fin)]∧o=[(2,123,9,[c.ow])]):=by
 have menv:=h2.env
 have mstack:=h2.stack
 have mstack1:=h2.stack1
 have u_val:=c_laws_toValue c.val
 simp only[V.av]at u_val
 refine cof 29 Go.Proofs.Tryz.func137 fun G=>?_
 simp only[entSt,tmOf,List.append_nil,List.cons_append,List.nil_append,Mc.av]
 refine gox (L:=_∧_∧True) wb0 (wb1 (fun _=>u_val)) (wb2 (fun v0 (h:_)=>c_laws_toBindS v0 h) (fun v0 (h:_∧_)=>c_laws_toFrameS v0 h.1 h.2)) wb0 (wb3 (outO [(2,123,9,[c.ow])]) (nm 1 [28,3,900001,0,3]) (nm 1 [28,3,900002,0,7])) ⟨fun _=>?_,fun _=>?_,wb0⟩
 ·simp[Mc.ow]
 ·exact⟨rfl,rfl⟩
theorem c_laws_toDef(c:Df)(h2:c.rm):Con PP 263 [c.av] [] [] (fun r o=>r=.agg [.sc (.string c.name),.sl 2 5 [(0,1)] 0 c.prog.nodes.length,.sc (.int .i64 c.prog.root)]∧o=[(2,214,3,[c.ow])]):=by
 have mprog:=h2.prog
 have mprognodes:=mprog.nodes
 have mprognodes1:=mprog.nodes1
 have u_prog:=c_laws_toProg c.prog mprognodes mprognodes1
 simp only[Pg.av]at u_prog
 refine cof 12 Go.Proofs.Tryz.func263 fun G=>?_
 simp only[entSt,tmOf,List.append_nil,List.cons_append,List.nil_append,Df.av]
 refine gox (L:=_∧_∧True) (wa1 @progB.eq_1) wb0 (wb1 (fun _=>u_prog)) wb0 (wb3 (outO [(2,214,3,[c.ow])]) (nm 1 [9,9,900001,0,0]) (nm 1 [11,3,900002,0,1])) ⟨fun _=>?_,fun _=>?_,wb0⟩
 ·simp[Df.ow]
 ·exact⟨rfl,rfl⟩
theorem c_laws_toDefS(l:List Df)(h1:l.length≤1000000000)(h2:∀c,c∈l→c.rm):Con PP 207 [.fz (l.map Df.cs)] [] [] (fun r o=>r=.sl 7 3 [] 0 l.length∧o=[(7,214,3,l.map Df.ow)]):=by
 have hb1:(48:Int)*(l.length:Int)≤281474976710656:=by omega
 have hb2:(l.length:Int)≤9223372036854775807:=by omega
 refine cof 23 Go.Proofs.Tryz.func207 fun G=>?_
 simp only[entSt,tmOf,List.append_nil,List.cons_append,List.nil_append]
 refine go (L:=_∧True) (wa2 @hb1 @hb2) wb0 wb0 wb0 wb0 ⟨fun _=>?_,wb0⟩
 refine WPc.loopV (σ:=Nat) (fun i=>i≤l.length) (fun i=>l.length-i) (fun i=>[(4,.sc (.int .i64 i))]) (fun i=>[(7,214,3,part [.sc (.string zs),.sc (.slice none 0 0),.sc (.int .i64 0)] Df.ow l i)]) [0,3] 0 (by simp[part_zero]) (by simp[part_zero]) (by simp) ?_
 rintro i hi s hs
 simp at hs
 subst hs
 by_cases hlt:i<l.length
 ·have hr:=h2 _ (List.getElem_mem hlt)
  have hl:=part_len (z:=[.sc (.string zs),.sc (.slice none 0 0),.sc (.int .i64 0)]) (f:=Df.ow) hi
  have hge:=part_ge (z:=[.sc (.string zs),.sc (.slice none 0 0),.sc (.int .i64 0)]) (f:=Df.ow) hlt
  have hn:(((part [.sc (.string zs),.sc (.slice none 0 0),.sc (.int .i64 0)] Df.ow l i).modify i (fun r=>r.set 0 (.sc (.string l[i].name)))).modify i (fun r=>r.set 1 (.sl 206 5 (l[i].prog.nodes.map Nd.ow)))).modify i (fun r=>r.set 2 (.sc (.int .i64 l[i].prog.root)))=part [.sc (.string zs),.sc (.slice none 0 0),.sc (.int .i64 0)] Df.ow l (i+1):=by
   rw[List.modify_modify_eq,List.modify_modify_eq]
   exact part_next hlt rfl
  refine gox (L:=_∧True) (wa6 @Df.cs.eq_1 @Df.av.eq_1 @hlt @hl @hge @Df.ow.eq_1) wb0 (wb1 (fun v0 v1 (h:_)=>c_laws_toDef ⟨v0,v1⟩ h)) wb0 (wb2 wb0 (nm 1 [20,20,900001,0,1])) ⟨fun _=>?_,wb0⟩
  refine⟨i+1,⟨hlt,by first|omega|(simp only;omega)|assumption⟩,rfl,rfl,?_,?_⟩<;>simp (disch:=omega) [wrap64,hn]
 ·obtain rfl:i=l.length:=by omega
  refine gox (L:=_∧_∧True) wb0 wb0 wb0 wb0 (wb1 (outO [(7,214,3,l.map Df.ow)])) ⟨fun _=>?_,fun _=>?_,wb0⟩
  ·simp[part_all]
  ·exact⟨rfl,rfl⟩
theorem c_laws_toSrc(c:Sr)(h2:c.rm):Con PP 136 [c.av] [] [] (fun r o=>r=.agg [.sc (.string c.name),.sl 2 1 [(0,1)] 0 c.imports.length,.sl 2 1 [(0,2)] 0 c.exports.length,.sl 2 2 [(0,3)] 0 c.types.length,.sl 2 3 [(0,4)] 0 c.defs.length,.sl 2 3 [(0,5)] 0 c.convs.length]∧o=[(2,110,6,[c.ow])]):=by
 have mimports:=h2.imports
 have mexports:=h2.exports
 have mtypes:=h2.types
 have mdefs:=h2.defs
 have mdefs1:=h2.defs1
 have mconvs:=h2.convs
 have mconvs1:=h2.convs1
 refine cof 28 Go.Proofs.Tryz.func136 fun G=>?_
 simp only[entSt,tmOf,List.append_nil,List.cons_append,List.nil_append,Sr.av]
 refine gox (L:=_∧_∧True) wb0 wb0 (wb3 (fun v0 (h:_)=>c_laws_toStringS v0 h) (fun v0 (h:_)=>c_laws_toTypeS v0 h) (fun v0 (h:_∧_)=>c_laws_toDefS v0 h.1 h.2)) wb0 (wb6 (outO [(2,110,6,[c.ow])]) (nm 1 [27,3,900001,0,1]) (nm 1 [27,3,900002,0,2]) (nm 1 [27,3,900003,0,3]) (nm 1 [27,3,900004,0,4]) (nm 1 [27,3,900005,0,5])) ⟨fun _=>?_,fun _=>?_,wb0⟩
 ·simp[Sr.ow]
 ·exact⟨rfl,rfl⟩
theorem c_laws_toEnt(c:En)(h2:c.rm):Con PP 71 [c.av] [] [] (fun r o=>r=.agg [.sc (.string c.src.name),.sl 2 1 [(0,1)] 0 c.src.imports.length,.sl 2 1 [(0,2)] 0 c.src.exports.length,.sl 2 2 [(0,3)] 0 c.src.types.length,.sl 2 3 [(0,4)] 0 c.src.defs.length,.sl 2 3 [(0,5)] 0 c.src.convs.length,.sc (.int .i64 c.ver),.sc (.int .i64 c.inst)]∧o=[(2,112,8,[c.ow])]):=by
 have msrc:=h2.src
 have msrcimports:=msrc.imports
 have msrcexports:=msrc.exports
 have msrctypes:=msrc.types
 have msrcdefs:=msrc.defs
 have msrcdefs1:=msrc.defs1
 have msrcconvs:=msrc.convs
 have msrcconvs1:=msrc.convs1
 have u_src:=c_laws_toSrc c.src msrc
 simp only[Sr.av]at u_src
 refine cof 15 Go.Proofs.Tryz.func71 fun G=>?_
 simp only[entSt,tmOf,List.append_nil,List.cons_append,List.nil_append,En.av]
 repeat' (first
  |(refine WPL.detSt 6 6 900001 [] 0 1 ?_ ?_;(focus(simp;done));refine fun K hK=>?_;simp -implicitDefEqProofs +contextual [-Int.not_le,-Int.not_lt,-Nat.not_le,-Nat.not_lt,-List.all_eq_true,-List.all_eq_false,-List.any_eq_true,-List.any_eq_false,Sr.ow];(repeat1' (first|apply hK|apply And.intro|intro _))<;>clear hK K)
  |(refine WPL.rnToSt tok 6 _ (by simp[isFn];rfl) fun K hK=>?_;simp -implicitDefEqProofs +contextual [-Int.not_le,-Int.not_lt,-Nat.not_le,-Nat.not_lt,-List.all_eq_true,-List.all_eq_false,-List.any_eq_true,-List.any_eq_false,Sr.ow];(repeat1' (first|apply hK|apply And.intro|intro _))<;>clear hK K<;>(try dsimp only[List.drop]))
  |(refine WPL.detSt 6 6 900002 [] 0 2 ?_ ?_;(focus(simp;done));refine fun K hK=>?_;simp -implicitDefEqProofs +contextual [-Int.not_le,-Int.not_lt,-Nat.not_le,-Nat.not_lt,-List.all_eq_true,-List.all_eq_false,-List.any_eq_true,-List.any_eq_false,Sr.ow];(repeat1' (first|apply hK|apply And.intro|intro _))<;>clear hK K)
  |(refine WPL.detSt 6 6 900003 [] 0 3 ?_ ?_;(focus(simp;done));refine fun K hK=>?_;simp -implicitDefEqProofs +contextual [-Int.not_le,-Int.not_lt,-Nat.not_le,-Nat.not_lt,-List.all_eq_true,-List.all_eq_false,-List.any_eq_true,-List.any_eq_false,Sr.ow];(repeat1' (first|apply hK|apply And.intro|intro _))<;>clear hK K)
  |(refine WPL.detSt 6 6 900004 [] 0 4 ?_ ?_;(focus(simp;done));refine fun K hK=>?_;simp -implicitDefEqProofs +contextual [-Int.not_le,-Int.not_lt,-Nat.not_le,-Nat.not_lt,-List.all_eq_true,-List.all_eq_false,-List.any_eq_true,-List.any_eq_false,Sr.ow];(repeat1' (first|apply hK|apply And.intro|intro _))<;>clear hK K)
  |(refine WPL.detSt 6 6 900005 [] 0 5 ?_ ?_;(focus(simp;done));refine fun K hK=>?_;simp -implicitDefEqProofs +contextual [-Int.not_le,-Int.not_lt,-Nat.not_le,-Nat.not_lt,-List.all_eq_true,-List.all_eq_false,-List.any_eq_true,-List.any_eq_false,Sr.ow];(repeat1' (first|apply hK|apply And.intro|intro _))<;>clear hK K)
  |(refine WPL.detSt 14 3 900006 [] 0 1 ?_ ?_;(focus(simp;done));refine fun K hK=>?_;simp -implicitDefEqProofs +contextual [-Int.not_le,-Int.not_lt,-Nat.not_le,-Nat.not_lt,-List.all_eq_true,-List.all_eq_false,-List.any_eq_true,-List.any_eq_false,Sr.ow];(repeat1' (first|apply hK|apply And.intro|intro _))<;>clear hK K)
  |(refine WPL.rnToSt tok 14 _ (by simp[isFn];rfl) fun K hK=>?_;simp -implicitDefEqProofs +contextual [-Int.not_le,-Int.not_lt,-Nat.not_le,-Nat.not_lt,-List.all_eq_true,-List.all_eq_false,-List.any_eq_true,-List.any_eq_false,Sr.ow];(repeat1' (first|apply hK|apply And.intro|intro _))<;>clear hK K<;>(try dsimp only[List.drop]))
  |(refine WPL.detSt 14 3 900007 [] 0 2 ?_ ?_;(focus(simp;done));refine fun K hK=>?_;simp -implicitDefEqProofs +contextual [-Int.not_le,-Int.not_lt,-Nat.not_le,-Nat.not_lt,-List.all_eq_true,-List.all_eq_false,-List.any_eq_true,-List.any_eq_false,Sr.ow];(repeat1' (first|apply hK|apply And.intro|intro _))<;>clear hK K)
  |(refine WPL.detSt 14 3 900008 [] 0 3 ?_ ?_;(focus(simp;done));refine fun K hK=>?_;simp -implicitDefEqProofs +contextual [-Int.not_le,-Int.not_lt,-Nat.not_le,-Nat.not_lt,-List.all_eq_true,-List.all_eq_false,-List.any_eq_true,-List.any_eq_false,Sr.ow];(repeat1' (first|apply hK|apply And.intro|intro _))<;>clear hK K)
  |(refine WPL.detSt 14 3 900009 [] 0 4 ?_ ?_;(focus(simp;done));refine fun K hK=>?_;simp -implicitDefEqProofs +contextual [-Int.not_le,-Int.not_lt,-Nat.not_le,-Nat.not_lt,-List.all_eq_true,-List.all_eq_false,-List.any_eq_true,-List.any_eq_false,Sr.ow];(repeat1' (first|apply hK|apply And.intro|intro _))<;>clear hK K)
  |(refine WPL.detSt 14 3 900010 [] 0 5 ?_ ?_;(focus(simp;done));refine fun K hK=>?_;simp -implicitDefEqProofs +contextual [-Int.not_le,-Int.not_lt,-Nat.not_le,-Nat.not_lt,-List.all_eq_true,-List.all_eq_false,-List.any_eq_true,-List.any_eq_false,Sr.ow];(repeat1' (first|apply hK|apply And.intro|intro _))<;>clear hK K)
  |apply WPc.sq
  |(refine WPc.ret (endP.own [(2,112,8,[c.ow])] (.inr rfl) rfl rfl (by simp;rfl) ?_ ?_ (by simp)))
  |refine WPL.nil ?_
  |(apply WPL.cU u_src;(case q=>(repeat' (first|refine And.intro ?_ ?_|intro _|(with_reducible exact cleanOut_nil)|(refine Eqv.mk ?_;first|rfl|(simp -implicitDefEqProofs [Sr.ow];done))|(simp -implicitDefEqProofs [Sr.ow];done)|(simp -implicitDefEqProofs [Sr.ow];rfl)|(simp;done)|(simp;rfl)|rfl))))
  |((first|refine WPc.rq tok rfl fun K hK=>?_|refine WPL.rn tok _ (by simp[ahead,isFn];rfl) fun K hK=>?_);simp -implicitDefEqProofs +contextual [-Int.not_le,-Int.not_lt,-Nat.not_le,-Nat.not_lt,-List.all_eq_true,-List.all_eq_false,-List.any_eq_true,-List.any_eq_false,Sr.ow];(repeat1' (first|apply hK|apply And.intro|intro _))<;>clear hK K<;>(try dsimp only[List.drop]))
  |(refine WPc.region ?_;simp only[List.toList_toArray]))
 ·simp[En.ow]
 ·exact⟨rfl,rfl⟩
theorem c_laws_toEntS(l:List En)(h1:l.length≤1000000000)(h2:∀c,c∈l→c.rm):Con PP 33 [.fz (l.map En.cs)] [] [] (fun r o=>r=.sl 7 8 [] 0 l.length∧o=[(7,112,8,l.map En.ow)]):=by
 have hb1:(152:Int)*(l.length:Int)≤281474976710656:=by omega
 have hb2:(l.length:Int)≤9223372036854775807:=by omega
 refine cof 23 Go.Proofs.Tryz.func33 fun G=>?_
 simp only[entSt,tmOf,List.append_nil,List.cons_append,List.nil_append]
 refine go (L:=_∧True) (wa2 @hb1 @hb2) wb0 wb0 wb0 wb0 ⟨fun _=>?_,wb0⟩
 refine WPc.loopV (σ:=Nat) (fun i=>i≤l.length) (fun i=>l.length-i) (fun i=>[(4,.sc (.int .i64 i))]) (fun i=>[(7,112,8,part [.sc (.string zs),.sc (.slice none 0 0),.sc (.slice none 0 0),.sc (.slice none 0 0),.sc (.slice none 0 0),.sc (.slice none 0 0),.sc (.int .i64 0),.sc (.int .i64 0)] En.ow l i)]) [0,3] 0 (by simp[part_zero]) (by simp[part_zero]) (by simp) ?_
 rintro i hi s hs
 simp at hs
 subst hs
 by_cases hlt:i<l.length
 ·have hr:=h2 _ (List.getElem_mem hlt)
  have hl:=part_len (z:=[.sc (.string zs),.sc (.slice none 0 0),.sc (.slice none 0 0),.sc (.slice none 0 0),.sc (.slice none 0 0),.sc (.slice none 0 0),.sc (.int .i64 0),.sc (.int .i64 0)]) (f:=En.ow) hi
  have hge:=part_ge (z:=[.sc (.string zs),.sc (.slice none 0 0),.sc (.slice none 0 0),.sc (.slice none 0 0),.sc (.slice none 0 0),.sc (.slice none 0 0),.sc (.int .i64 0),.sc (.int .i64 0)]) (f:=En.ow) hlt
  have hn:((((((((part [.sc (.string zs),.sc (.slice none 0 0),.sc (.slice none 0 0),.sc (.slice none 0 0),.sc (.slice none 0 0),.sc (.slice none 0 0),.sc (.int .i64 0),.sc (.int .i64 0)] En.ow l i).modify i (fun r=>r.set 0 (.sc (.string l[i].src.name)))).modify i (fun r=>r.set 1 (.sl 9 1 (l[i].src.imports.map sC)))).modify i (fun r=>r.set 2 (.sl 9 1 (l[i].src.exports.map sC)))).modify i (fun r=>r.set 3 (.sl 212 2 (l[i].src.types.map Ty.cs)))).modify i (fun r=>r.set 4 (.sl 214 3 (l[i].src.defs.map Df.ow)))).modify i (fun r=>r.set 5 (.sl 214 3 (l[i].src.convs.map Df.ow)))).modify i (fun r=>r.set 6 (.sc (.int .i64 l[i].ver)))).modify i (fun r=>r.set 7 (.sc (.int .i64 l[i].inst)))=part [.sc (.string zs),.sc (.slice none 0 0),.sc (.slice none 0 0),.sc (.slice none 0 0),.sc (.slice none 0 0),.sc (.slice none 0 0),.sc (.int .i64 0),.sc (.int .i64 0)] En.ow l (i+1):=by
   rw[List.modify_modify_eq,List.modify_modify_eq,List.modify_modify_eq,List.modify_modify_eq,List.modify_modify_eq,List.modify_modify_eq,List.modify_modify_eq]
   exact part_next hlt rfl
  refine gox (L:=_∧True) (wa6 @En.cs.eq_1 @En.av.eq_1 @hlt @hl @hge @En.ow.eq_1) wb0 (wb1 (fun v0 v1 v2 (h:_)=>c_laws_toEnt ⟨v0,v1,v2⟩ h)) wb0 (wb6 wb0 (nm 1 [20,20,900001,0,1]) (nm 1 [20,20,900002,0,2]) (nm 1 [20,20,900003,0,3]) (nm 1 [20,20,900004,0,4]) (nm 1 [20,20,900005,0,5])) ⟨fun _=>?_,wb0⟩
  refine⟨i+1,⟨hlt,by first|omega|(simp only;omega)|assumption⟩,rfl,rfl,?_,?_⟩<;>simp (disch:=omega) [wrap64,hn]
 ·obtain rfl:i=l.length:=by omega
  refine gox (L:=_∧_∧True) wb0 wb0 wb0 wb0 (wb1 (outO [(7,112,8,l.map En.ow)])) ⟨fun _=>?_,fun _=>?_,wb0⟩
  ·simp[part_all]
  ·exact⟨rfl,rfl⟩
theorem c_laws_toTask(c:Tk)(h2:c.rm):Con PP 72 [c.av] [] [] (fun r o=>r=.agg [.sc (.int .i64 c.id),.sc (.int .i64 c.mac.mode),.sc (.int .i64 c.mac.unit),.sc (.int .i64 c.mac.node),.sl 2 4 [(0,4)] 0 c.mac.env.length,.sc (.int .i64 c.mac.val.k),.sc (.int .i64 c.mac.val.n),.sc (.string c.mac.val.s),.sl 2 4 [(0,8)] 0 c.mac.stack.length,.sc (.int .i64 c.mac.fin)]∧o=[(2,125,10,[c.ow])]):=by
 have mmac:=h2.mac
 have mmacenv:=mmac.env
 have mmacstack:=mmac.stack
 have mmacstack1:=mmac.stack1
 have u_mac:=c_laws_toMachine c.mac mmac
 simp only[Mc.av]at u_mac
 refine cof 12 Go.Proofs.Tryz.func72 fun G=>?_
 simp only[entSt,tmOf,List.append_nil,List.cons_append,List.nil_append,Tk.av]
 refine gox (L:=_∧_∧True) (wa1 @Mc.ow.eq_1) wb0 (wb1 (fun _=>u_mac)) wb0 (wb5 (outO [(2,125,10,[c.ow])]) (nm 1 [9,9,900001,0,3]) (nm 1 [9,9,900002,0,7]) (nm 1 [11,3,900003,0,4]) (nm 1 [11,3,900004,0,8])) ⟨fun _=>?_,fun _=>?_,wb0⟩
 ·simp[Tk.ow]
 ·exact⟨rfl,rfl⟩
theorem c_laws_toTaskS(l:List Tk)(h1:l.length≤1000000000)(h2:∀c,c∈l→c.rm):Con PP 34 [.fz (l.map Tk.cs)] [] [] (fun r o=>r=.sl 7 10 [] 0 l.length∧o=[(7,125,10,l.map Tk.ow)]):=by
 have hb1:(120:Int)*(l.length:Int)≤281474976710656:=by omega
 have hb2:(l.length:Int)≤9223372036854775807:=by omega
 refine cof 23 Go.Proofs.Tryz.func34 fun G=>?_
 simp only[entSt,tmOf,List.append_nil,List.cons_append,List.nil_append]
 refine go (L:=_∧True) (wa2 @hb1 @hb2) wb0 wb0 wb0 wb0 ⟨fun _=>?_,wb0⟩
 refine WPc.loopV (σ:=Nat) (fun i=>i≤l.length) (fun i=>l.length-i) (fun i=>[(4,.sc (.int .i64 i))]) (fun i=>[(7,125,10,part [.sc (.int .i64 0),.sc (.int .i64 0),.sc (.int .i64 0),.sc (.int .i64 0),.sc (.slice none 0 0),.sc (.int .i64 0),.sc (.int .i64 0),.sc (.string zs),.sc (.slice none 0 0),.sc (.int .i64 0)] Tk.ow l i)]) [0,3] 0 (by simp[part_zero]) (by simp[part_zero]) (by simp) ?_
 rintro i hi s hs
 simp at hs
 subst hs
 by_cases hlt:i<l.length
 ·have hr:=h2 _ (List.getElem_mem hlt)
  have hl:=part_len (z:=[.sc (.int .i64 0),.sc (.int .i64 0),.sc (.int .i64 0),.sc (.int .i64 0),.sc (.slice none 0 0),.sc (.int .i64 0),.sc (.int .i64 0),.sc (.string zs),.sc (.slice none 0 0),.sc (.int .i64 0)]) (f:=Tk.ow) hi
  have hge:=part_ge (z:=[.sc (.int .i64 0),.sc (.int .i64 0),.sc (.int .i64 0),.sc (.int .i64 0),.sc (.slice none 0 0),.sc (.int .i64 0),.sc (.int .i64 0),.sc (.string zs),.sc (.slice none 0 0),.sc (.int .i64 0)]) (f:=Tk.ow) hlt
  have hn:((((((((((part [.sc (.int .i64 0),.sc (.int .i64 0),.sc (.int .i64 0),.sc (.int .i64 0),.sc (.slice none 0 0),.sc (.int .i64 0),.sc (.int .i64 0),.sc (.string zs),.sc (.slice none 0 0),.sc (.int .i64 0)] Tk.ow l i).modify i (fun r=>r.set 0 (.sc (.int .i64 l[i].id)))).modify i (fun r=>r.set 1 (.sc (.int .i64 l[i].mac.mode)))).modify i (fun r=>r.set 2 (.sc (.int .i64 l[i].mac.unit)))).modify i (fun r=>r.set 3 (.sc (.int .i64 l[i].mac.node)))).modify i (fun r=>r.set 4 (.sl 257 4 (l[i].mac.env.map Bd.cs)))).modify i (fun r=>r.set 5 (.sc (.int .i64 l[i].mac.val.k)))).modify i (fun r=>r.set 6 (.sc (.int .i64 l[i].mac.val.n)))).modify i (fun r=>r.set 7 (.sc (.string l[i].mac.val.s)))).modify i (fun r=>r.set 8 (.sl 220 4 (l[i].mac.stack.map Fm.ow)))).modify i (fun r=>r.set 9 (.sc (.int .i64 l[i].mac.fin)))=part [.sc (.int .i64 0),.sc (.int .i64 0),.sc (.int .i64 0),.sc (.int .i64 0),.sc (.slice none 0 0),.sc (.int .i64 0),.sc (.int .i64 0),.sc (.string zs),.sc (.slice none 0 0),.sc (.int .i64 0)] Tk.ow l (i+1):=by
   rw[List.modify_modify_eq,List.modify_modify_eq,List.modify_modify_eq,List.modify_modify_eq,List.modify_modify_eq,List.modify_modify_eq,List.modify_modify_eq,List.modify_modify_eq,List.modify_modify_eq]
   exact part_next hlt rfl
  refine gox (L:=_∧True) (wa6 @Tk.cs.eq_1 @Tk.av.eq_1 @hlt @hl @hge @Tk.ow.eq_1) wb0 (wb1 (fun v0 v1 (h:_)=>c_laws_toTask ⟨v0,v1⟩ h)) wb0 (wb3 wb0 (nm 1 [20,20,900001,0,4]) (nm 1 [20,20,900002,0,8])) ⟨fun _=>?_,wb0⟩
  refine⟨i+1,⟨hlt,by first|omega|(simp only;omega)|assumption⟩,rfl,rfl,?_,?_⟩<;>simp (disch:=omega) [wrap64,hn]
 ·obtain rfl:i=l.length:=by omega
  refine gox (L:=_∧_∧True) wb0 wb0 wb0 wb0 (wb1 (outO [(7,125,10,l.map Tk.ow)])) ⟨fun _=>?_,fun _=>?_,wb0⟩
  ·simp[part_all]
  ·exact⟨rfl,rfl⟩
theorem c_laws_toWorld(c:Wd)(h2:c.rm):Con PP 9 [c.av] [] [] (fun r o=>r=.agg [.sl 2 6 [(0,0)] 0 c.sys.heap.length,.sl 2 6 [(0,1)] 0 c.sys.insts.length,.sl 2 3 [(0,2)] 0 c.sys.units.length,.sl 2 1 [(0,3)] 0 c.sys.out.length,.sl 2 8 [(0,4)] 0 c.libs.length,.sl 2 10 [(0,5)] 0 c.tasks.length,.sc (.int .i64 c.next)]∧o=[(2,42,7,[c.ow])]):=by
 have msys:=h2.sys
 have msysheap:=msys.heap
 have msysheap1:=msys.heap1
 have msysinsts:=msys.insts
 have msysinsts1:=msys.insts1
 have msysunits:=msys.units
 have msysunits1:=msys.units1
 have msysout:=msys.out
 have mlibs:=h2.libs
 have mlibs1:=h2.libs1
 have mtasks:=h2.tasks
 have mtasks1:=h2.tasks1
 have u_sys:=c_laws_toSys c.sys msys
 simp only[Sy.av]at u_sys
 refine cof 20 Go.Proofs.Tryz.func9 fun G=>?_
 simp only[entSt,tmOf,List.append_nil,List.cons_append,List.nil_append,Wd.av]
 repeat' (first
  |(refine WPL.detSt 6 6 900001 [] 0 0 ?_ ?_;(focus(simp;done));refine fun K hK=>?_;simp -implicitDefEqProofs +contextual [-Int.not_le,-Int.not_lt,-Nat.not_le,-Nat.not_lt,-List.all_eq_true,-List.all_eq_false,-List.any_eq_true,-List.any_eq_false,Sy.ow];(repeat1' (first|apply hK|apply And.intro|intro _))<;>clear hK K)
  |(refine WPL.rnToSt tok 6 _ (by simp[isFn];rfl) fun K hK=>?_;simp -implicitDefEqProofs +contextual [-Int.not_le,-Int.not_lt,-Nat.not_le,-Nat.not_lt,-List.all_eq_true,-List.all_eq_false,-List.any_eq_true,-List.any_eq_false,Sy.ow];(repeat1' (first|apply hK|apply And.intro|intro _))<;>clear hK K<;>(try dsimp only[List.drop]))
  |(refine WPL.detSt 6 6 900002 [] 0 1 ?_ ?_;(focus(simp;done));refine fun K hK=>?_;simp -implicitDefEqProofs +contextual [-Int.not_le,-Int.not_lt,-Nat.not_le,-Nat.not_lt,-List.all_eq_true,-List.all_eq_false,-List.any_eq_true,-List.any_eq_false,Sy.ow];(repeat1' (first|apply hK|apply And.intro|intro _))<;>clear hK K)
  |(refine WPL.detSt 6 6 900003 [] 0 2 ?_ ?_;(focus(simp;done));refine fun K hK=>?_;simp -implicitDefEqProofs +contextual [-Int.not_le,-Int.not_lt,-Nat.not_le,-Nat.not_lt,-List.all_eq_true,-List.all_eq_false,-List.any_eq_true,-List.any_eq_false,Sy.ow];(repeat1' (first|apply hK|apply And.intro|intro _))<;>clear hK K)
  |(refine WPL.detSt 6 6 900004 [] 0 3 ?_ ?_;(focus(simp;done));refine fun K hK=>?_;simp -implicitDefEqProofs +contextual [-Int.not_le,-Int.not_lt,-Nat.not_le,-Nat.not_lt,-List.all_eq_true,-List.all_eq_false,-List.any_eq_true,-List.any_eq_false,Sy.ow];(repeat1' (first|apply hK|apply And.intro|intro _))<;>clear hK K)
  |(refine WPL.detSt 19 3 900005 [] 0 0 ?_ ?_;(focus(simp;done));refine fun K hK=>?_;simp -implicitDefEqProofs +contextual [-Int.not_le,-Int.not_lt,-Nat.not_le,-Nat.not_lt,-List.all_eq_true,-List.all_eq_false,-List.any_eq_true,-List.any_eq_false,Sy.ow];(repeat1' (first|apply hK|apply And.intro|intro _))<;>clear hK K)
  |(refine WPL.rnToSt tok 19 _ (by simp[isFn];rfl) fun K hK=>?_;simp -implicitDefEqProofs +contextual [-Int.not_le,-Int.not_lt,-Nat.not_le,-Nat.not_lt,-List.all_eq_true,-List.all_eq_false,-List.any_eq_true,-List.any_eq_false,Sy.ow];(repeat1' (first|apply hK|apply And.intro|intro _))<;>clear hK K<;>(try dsimp only[List.drop]))
  |(refine WPL.detSt 19 3 900006 [] 0 1 ?_ ?_;(focus(simp;done));refine fun K hK=>?_;simp -implicitDefEqProofs +contextual [-Int.not_le,-Int.not_lt,-Nat.not_le,-Nat.not_lt,-List.all_eq_true,-List.all_eq_false,-List.any_eq_true,-List.any_eq_false,Sy.ow];(repeat1' (first|apply hK|apply And.intro|intro _))<;>clear hK K)
  |(refine WPL.detSt 19 3 900007 [] 0 2 ?_ ?_;(focus(simp;done));refine fun K hK=>?_;simp -implicitDefEqProofs +contextual [-Int.not_le,-Int.not_lt,-Nat.not_le,-Nat.not_lt,-List.all_eq_true,-List.all_eq_false,-List.any_eq_true,-List.any_eq_false,Sy.ow];(repeat1' (first|apply hK|apply And.intro|intro _))<;>clear hK K)
  |(refine WPL.detSt 19 3 900008 [] 0 3 ?_ ?_;(focus(simp;done));refine fun K hK=>?_;simp -implicitDefEqProofs +contextual [-Int.not_le,-Int.not_lt,-Nat.not_le,-Nat.not_lt,-List.all_eq_true,-List.all_eq_false,-List.any_eq_true,-List.any_eq_false,Sy.ow];(repeat1' (first|apply hK|apply And.intro|intro _))<;>clear hK K)
  |(refine WPL.detSt 19 3 900009 [] 0 4 ?_ ?_;(focus(simp;done));refine fun K hK=>?_;simp -implicitDefEqProofs +contextual [-Int.not_le,-Int.not_lt,-Nat.not_le,-Nat.not_lt,-List.all_eq_true,-List.all_eq_false,-List.any_eq_true,-List.any_eq_false,Sy.ow];(repeat1' (first|apply hK|apply And.intro|intro _))<;>clear hK K)
  |(refine WPL.detSt 19 3 900010 [] 0 5 ?_ ?_;(focus(simp;done));refine fun K hK=>?_;simp -implicitDefEqProofs +contextual [-Int.not_le,-Int.not_lt,-Nat.not_le,-Nat.not_lt,-List.all_eq_true,-List.all_eq_false,-List.any_eq_true,-List.any_eq_false,Sy.ow];(repeat1' (first|apply hK|apply And.intro|intro _))<;>clear hK K)
  |apply WPc.sq
  |(refine WPc.ret (endP.own [(2,42,7,[c.ow])] (.inr rfl) rfl rfl (by simp;rfl) ?_ ?_ (by simp)))
  |refine WPL.nil ?_
  |(apply WPL.cU u_sys;(case q=>(repeat' (first|refine And.intro ?_ ?_|intro _|(with_reducible exact cleanOut_nil)|(refine Eqv.mk ?_;first|rfl|(simp -implicitDefEqProofs [Sy.ow];done))|(simp -implicitDefEqProofs [Sy.ow];done)|(simp -implicitDefEqProofs [Sy.ow];rfl)|(simp;done)|(simp;rfl)|rfl))))
  |(apply WPL.cU (c_laws_toEntS _ ?g1 ?g2);(case q=>(repeat' (first|refine And.intro ?_ ?_|intro _|(with_reducible exact cleanOut_nil)|(refine Eqv.mk ?_;first|rfl|(simp -implicitDefEqProofs [Sy.ow];done))|(simp -implicitDefEqProofs [Sy.ow];done)|(simp -implicitDefEqProofs [Sy.ow];rfl)|(simp;done)|(simp;rfl)|rfl)));(case g1=>(first|assumption|omega));(case g2=>(first|assumption|omega)))
  |(apply WPL.cU (c_laws_toTaskS _ ?g1 ?g2);(case q=>(repeat' (first|refine And.intro ?_ ?_|intro _|(with_reducible exact cleanOut_nil)|(refine Eqv.mk ?_;first|rfl|(simp -implicitDefEqProofs [Sy.ow];done))|(simp -implicitDefEqProofs [Sy.ow];done)|(simp -implicitDefEqProofs [Sy.ow];rfl)|(simp;done)|(simp;rfl)|rfl)));(case g1=>(first|assumption|omega));(case g2=>(first|assumption|omega)))
  |((first|refine WPc.rq tok rfl fun K hK=>?_|refine WPL.rn tok _ (by simp[ahead,isFn];rfl) fun K hK=>?_);simp -implicitDefEqProofs +contextual [-Int.not_le,-Int.not_lt,-Nat.not_le,-Nat.not_lt,-List.all_eq_true,-List.all_eq_false,-List.any_eq_true,-List.any_eq_false,Sy.ow];(repeat1' (first|apply hK|apply And.intro|intro _))<;>clear hK K<;>(try dsimp only[List.drop]))
  |(refine WPc.region ?_;simp only[List.toList_toArray]))
 ·simp[Wd.ow]
 ·exact⟨rfl,rfl⟩
end Go.Own
