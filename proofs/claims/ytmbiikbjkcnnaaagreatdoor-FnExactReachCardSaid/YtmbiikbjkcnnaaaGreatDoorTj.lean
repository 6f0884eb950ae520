import Derived.Test.YtmbiikbjkcnnaaaGreatDoorTi
import Derived.Deep.Slices
import Derived.ChangeArms
/- Lemmas for the proof in the last text of this claim. -/
set_option linter.unusedVariables false
set_option linter.unusedSimpArgs false
set_option linter.unusedSectionVars false
set_option maxRecDepth 1000000
set_option maxHeartbeats 8000000
namespace Go.Own
attribute [local irreducible] WPc WPL WPS WPS1 WPS2 HAny endP
variable [Laid]
open Go.Lib Go.RowKit
theorem c_spec_WorldOk[F:Facts.Of](w:Wd)(hs:w.sm)(hr:w.rm):Con PP 28 [w.av] [] [] (fun r o=>r=.sc (.bool (worldOk w))):=by
 have r1:=hr.libs
 have r2:=hr.tasks
 have u1:=c_spec_SysOk w.sys hs.sys hr.sys
 simp only[Sy.av]at u1
 refine cof 204 Go.Proofs.Tryz.func28 fun G=>?_
 simp only[entSt,tmOf,List.append_nil,List.cons_append,List.nil_append,Wd.av]
 cases h4:sysOk w.sys with
 |false =>
  have e:worldOk w=false:=by rw[worldOk,h4];simp
  rw[e]
  refine go (L:=_∧True) (wa1 @h4) (wb1 (fun _=>u1)) wb0 wb0 wb0 ⟨fun _=>?_,wb0⟩
  all_goals rfl
 |true =>
 by_cases h1:w.libs.length≤6
 rotate_left
 ·have h1':(6:Int)<(w.libs.length:Int):=by omega
  have e:worldOk w=false:=by rw[worldOk,decide_eq_false h1,Bool.false_and]
  rw[e]
  refine go (L:=_∧True) (wa2 @h1' @h4) (wb1 (fun _=>u1)) wb0 wb0 wb0 ⟨fun _=>?_,wb0⟩
  all_goals rfl
 by_cases h2:w.tasks.length≤6
 rotate_left
 ·have h1':¬(6:Int)<(w.libs.length:Int):=by omega
  have h2':(6:Int)<(w.tasks.length:Int):=by omega
  have e:worldOk w=false:=by rw[worldOk,decide_eq_false h2,Bool.false_and,Bool.and_false]
  rw[e]
  refine go (L:=_∧True) (wa3 @h1' @h2' @h4) (wb1 (fun _=>u1)) wb0 wb0 wb0 ⟨fun _=>?_,wb0⟩
  all_goals rfl
 have h1':¬(6:Int)<(w.libs.length:Int):=by omega
 have h2':¬(6:Int)<(w.tasks.length:Int):=by omega
 cases h3:inRange w.next 1 100000 with
 |false =>
  have e:worldOk w=false:=by rw[worldOk,h3];simp
  rw[e]
  refine go (L:=_∧True) (wa4 @h1' @h2' @h3 @h4) (wb2 (fun _=>u1) (fun v0 v1 v2 (_:True)=>c_spec_l1In v0 v1 v2)) wb0 wb0 wb0 ⟨fun _=>?_,wb0⟩
  all_goals rfl
 |true =>
 have e:worldOk w=(allI w.libs (libOk w)&&(allI w.tasks (tskOk w)&&(orderO (srcsL w.libs)).isSome)):=by
  rw[worldOk,decide_eq_true h1,decide_eq_true h2,h3,h4];simp only[Bool.true_and]
 rw[e]
 refine go (L:=_∧True) (wa4 @h1' @h2' @h3 @h4) (wb2 (fun _=>u1) (fun v0 v1 v2 (_:True)=>c_spec_l1In v0 v1 v2)) wb0 wb0 wb0 ⟨fun _=>?_,wb0⟩
 refine WPc.loopV (σ:=Nat) (fun i=>i≤w.libs.length∧(∀j,(h:j<w.libs.length)→j<i→libOk w j w.libs[j]=true)) (fun i=>w.libs.length-i) (fun i=>[(3,.sc (.int .i64 i))]) (fun i=>[(1,42,7,[w.cs])]) [1] 0 (by simp[Wd.cs]) (by simp[Wd.cs]) (by simp) ?_
 rintro i ⟨hi,hall⟩ s hs
 simp at hs
 subst hs
 by_cases hlt:i<w.libs.length
 ·have hb:i+1≤9223372036854775807:=by omega
  have u3:=c_spec_SrcOk w.libs[i].src (hs.libs _ (List.getElem_mem hlt)).src (hr.libs1 _ (List.getElem_mem hlt)).src
  simp only[Sr.av]at u3
  cases g1:srcOk w.libs[i].src with
  |false =>
   have e1:libOk w i w.libs[i]=false:=by rw[libOk,entOk,g1];simp
   rw[allI_at hlt e1,Bool.false_and]
   refine go (L:=_∧True) (wa4 @hlt @Wd.cs.eq_1 @En.cs.eq_1 @g1) (wb1 (fun _=>u3)) wb0 wb0 (wb2 wb0 (sch 7 [] ((0,[])::(1,[])::(2,[])::(3,[])::(4,[])::(5,[])::(6,[])::(7,[])::(8,[])::(9,[])::(10,[])::(11,[])::(12,[])::(13,[])::(14,[])::(15,[])::(16,[])::(17,[])::(18,[])::(19,[])::(20,[])::(21,[])::(22,[])::(23,[])::(24,[])::(25,[])::(26,[])::(27,[])::(28,[])::(29,[])::(30,[])::(31,[])::(32,[])::(33,[])::(34,[])::(35,[])::(36,[])::(37,[])::(38,[])::(39,[])::(40,[])::(41,[])::(42,[])::(43,[])::(44,[])::(45,[])::(46,[])::(47,[])::(48,[])::(49,[])::(50,[])::(51,[])::(52,[])::(53,[])::(54,[])::(55,[])::(56,[])::(57,[])::(58,[])::(59,[])::(60,[])::(61,[])::(62,[])::(63,[])::(64,[])::(65,[])::(66,[])::(67,[])::(68,[])::[]))) ⟨fun _=>?_,wb0⟩
   all_goals rfl
  |true =>
   have ew:entOk w.sys w.libs[i]=(inRange w.libs[i].ver 1 1000&&(inRange w.libs[i].inst 0 ((w.sys.insts.length:Int)-1)&&(match w.sys.insts[w.libs[i].inst.toNat]? with
    |some x=>decide (x.lib=w.libs[i].src.name)&&(decide (x.ver=w.libs[i].ver)&&w.libs[i].src.exports.all (hasV x))
    |none=>false))):=by rw[entOk,g1,Bool.true_and];rfl
   by_cases hi0:i=0
   ·have e0:libOk w i w.libs[i]=entOk w.sys w.libs[i]:=by rw[libOk,show (i==0)=true from by simp[hi0]];simp
    subst hi0
    cases g2:inRange w.libs[0].ver 1 1000 with
    |false =>
     have e1:libOk w 0 w.libs[0]=false:=by rw[e0,ew,g2];simp
     rw[allI_at hlt e1,Bool.false_and]
     refine go (L:=_∧True) (wa5 @hlt @Wd.cs.eq_1 @En.cs.eq_1 @g1 @g2) (wb2 (fun v0 v1 v2 (_:True)=>c_spec_l1In v0 v1 v2) (fun _=>u3)) wb0 wb0 (wb2 wb0 (sch 7 [] ((0,[])::(1,[])::(2,[])::(3,[])::(4,[])::(5,[])::(6,[])::(7,[])::(8,[])::(9,[])::(10,[])::(11,[])::(12,[])::(13,[])::(14,[])::(15,[])::(16,[])::(17,[])::(18,[])::(19,[])::(20,[])::(21,[])::(22,[])::(23,[])::(24,[])::(25,[])::(26,[])::(27,[])::(28,[])::(29,[])::(30,[])::(31,[])::(32,[])::(33,[])::(34,[])::(35,[])::(36,[])::(37,[])::(38,[])::(39,[])::(40,[])::(41,[])::(42,[])::(43,[])::(44,[])::(45,[])::(46,[])::(47,[])::(48,[])::(49,[])::(50,[])::(51,[])::(52,[])::(53,[])::(54,[])::(55,[])::(56,[])::(57,[])::(58,[])::(59,[])::(60,[])::(61,[])::(62,[])::(63,[])::(64,[])::(65,[])::(66,[])::(67,[])::(68,[])::[]))) ⟨fun _=>?_,wb0⟩
     all_goals rfl
    |true =>
     as_aux_lemma =>
      have hinst:w.sys.insts.length≤1000000000:=hr.sys.insts
      cases g4:inRange w.libs[0].inst 0 ((w.sys.insts.length:Int)-1) with
      |false =>
       have e1:libOk w 0 w.libs[0]=false:=by rw[e0,ew,g4];simp
       rw[allI_at hlt e1,Bool.false_and]
       by_cases b0:w.libs[0].inst<0
       ·refine go (L:=_∧True) (wa6 @hlt @Wd.cs.eq_1 @En.cs.eq_1 @g1 @g2 @b0) (wb2 (fun v0 v1 v2 (_:True)=>c_spec_l1In v0 v1 v2) (fun _=>u3)) wb0 wb0 (wb2 wb0 (sch 7 [] ((0,[])::(1,[])::(2,[])::(3,[])::(4,[])::(5,[])::(6,[])::(7,[])::(8,[])::(9,[])::(10,[])::(11,[])::(12,[])::(13,[])::(14,[])::(15,[])::(16,[])::(17,[])::(18,[])::(19,[])::(20,[])::(21,[])::(22,[])::(23,[])::(24,[])::(25,[])::(26,[])::(27,[])::(28,[])::(29,[])::(30,[])::(31,[])::(32,[])::(33,[])::(34,[])::(35,[])::(36,[])::(37,[])::(38,[])::(39,[])::(40,[])::(41,[])::(42,[])::(43,[])::(44,[])::(45,[])::(46,[])::(47,[])::(48,[])::(49,[])::(50,[])::(51,[])::(52,[])::(53,[])::(54,[])::(55,[])::(56,[])::(57,[])::(58,[])::(59,[])::(60,[])::(61,[])::(62,[])::(63,[])::(64,[])::(65,[])::(66,[])::(67,[])::(68,[])::[]))) ⟨fun _=>?_,wb0⟩
        all_goals rfl
       ·have b1:(w.sys.insts.length:Int)≤w.libs[0].inst:=by
         simp only[inRange,Bool.and_eq_false_iff,decide_eq_false_iff_not]at g4
         omega
        refine go (L:=_∧True) (wa7 @hlt @Wd.cs.eq_1 @En.cs.eq_1 @g1 @g2 @b0 @b1) (wb2 (fun v0 v1 v2 (_:True)=>c_spec_l1In v0 v1 v2) (fun _=>u3)) wb0 wb0 (wb2 wb0 (sch 7 [] ((0,[])::(1,[])::(2,[])::(3,[])::(4,[])::(5,[])::(6,[])::(7,[])::(8,[])::(9,[])::(10,[])::(11,[])::(12,[])::(13,[])::(14,[])::(15,[])::(16,[])::(17,[])::(18,[])::(19,[])::(20,[])::(21,[])::(22,[])::(23,[])::(24,[])::(25,[])::(26,[])::(27,[])::(28,[])::(29,[])::(30,[])::(31,[])::(32,[])::(33,[])::(34,[])::(35,[])::(36,[])::(37,[])::(38,[])::(39,[])::(40,[])::(41,[])::(42,[])::(43,[])::(44,[])::(45,[])::(46,[])::(47,[])::(48,[])::(49,[])::(50,[])::(51,[])::(52,[])::(53,[])::(54,[])::(55,[])::(56,[])::(57,[])::(58,[])::(59,[])::(60,[])::(61,[])::(62,[])::(63,[])::(64,[])::(65,[])::(66,[])::(67,[])::(68,[])::[]))) ⟨fun _=>?_,wb0⟩
        all_goals rfl
      |true =>
       have g4':=g4
       simp only[inRange,Bool.and_eq_true,decide_eq_true_eq]at g4'
       obtain⟨a0,a1⟩:=g4'
       have a2:w.libs[0].inst.toNat<w.sys.insts.length:=by omega
       have b0:¬w.libs[0].inst<0:=by omega
       have b1:¬(w.sys.insts.length:Int)≤w.libs[0].inst:=by omega
       have a3:w.libs[0].inst<(w.sys.insts.length:Int):=by omega
       have ee:entOk w.sys w.libs[0]=(decide (w.sys.insts[w.libs[0].inst.toNat].lib=w.libs[0].src.name)&&(decide (w.sys.insts[w.libs[0].inst.toNat].ver=w.libs[0].ver)&&w.libs[0].src.exports.all (hasV w.sys.insts[w.libs[0].inst.toNat]))):=by
        rw[ew,g2,g4,List.getElem?_eq_getElem a2];rfl
       have hvl:=sysOk_vals h4 a2
       have hnl:w.sys.insts[w.libs[0].inst.toNat].names.length≤1000000000:=(hr.sys.insts1 _ (List.getElem_mem a2)).names
       rw[←e0]at ee
       generalize hx:w.sys.insts[w.libs[0].inst.toNat]=x at hvl ee hnl
       have hel:=(hr.libs1 _ (List.getElem_mem hlt)).src.exports
       by_cases h5:x.lib=w.libs[0].src.name
       rotate_left
       ·have h5':(x.lib=w.libs[0].src.name)=False:=by simp[h5]
        have e1:libOk w 0 w.libs[0]=false:=by rw[ee,decide_eq_false h5,Bool.false_and]
        rw[allI_at hlt e1,Bool.false_and]
        refine go (L:=_∧True) (wa13 @hlt @Wd.cs.eq_1 @En.cs.eq_1 @g1 @g2 @a0 @a2 @a3 @b0 @b1 @hx @In.cs.eq_1 @h5') (wb2 (fun v0 v1 v2 (_:True)=>c_spec_l1In v0 v1 v2) (fun _=>u3)) wb0 wb0 (wb2 wb0 (sch 7 [] ((0,[])::(1,[])::(2,[])::(3,[])::(4,[])::(5,[])::(6,[])::(7,[])::(8,[])::(9,[])::(10,[])::(11,[])::(12,[])::(13,[])::(14,[])::(15,[])::(16,[])::(17,[])::(18,[])::(19,[])::(20,[])::(21,[])::(22,[])::(23,[])::(24,[])::(25,[])::(26,[])::(27,[])::(28,[])::(29,[])::(30,[])::(31,[])::(32,[])::(33,[])::(34,[])::(35,[])::(36,[])::(37,[])::(38,[])::(39,[])::(40,[])::(41,[])::(42,[])::(43,[])::(44,[])::(45,[])::(46,[])::(47,[])::(48,[])::(49,[])::(50,[])::(51,[])::(52,[])::(53,[])::(54,[])::(55,[])::(56,[])::(57,[])::(58,[])::(59,[])::(60,[])::(61,[])::(62,[])::(63,[])::(64,[])::(65,[])::(66,[])::(67,[])::(68,[])::[]))) ⟨fun _=>?_,wb0⟩
        all_goals rfl
       by_cases h6:x.ver=w.libs[0].ver
       rotate_left
       ·have h5':(x.lib=w.libs[0].src.name)=True:=by simp[h5]
        have h6':(x.ver=w.libs[0].ver)=False:=by simp[h6]
        have e1:libOk w 0 w.libs[0]=false:=by rw[ee,decide_eq_false h6,Bool.false_and,Bool.and_false]
        rw[allI_at hlt e1,Bool.false_and]
        refine go (L:=_∧True) (wa14 @hlt @Wd.cs.eq_1 @En.cs.eq_1 @g1 @g2 @a0 @a2 @a3 @b0 @b1 @hx @In.cs.eq_1 @h5' @h6') (wb2 (fun v0 v1 v2 (_:True)=>c_spec_l1In v0 v1 v2) (fun _=>u3)) wb0 wb0 (wb2 wb0 (sch 7 [] ((0,[])::(1,[])::(2,[])::(3,[])::(4,[])::(5,[])::(6,[])::(7,[])::(8,[])::(9,[])::(10,[])::(11,[])::(12,[])::(13,[])::(14,[])::(15,[])::(16,[])::(17,[])::(18,[])::(19,[])::(20,[])::(21,[])::(22,[])::(23,[])::(24,[])::(25,[])::(26,[])::(27,[])::(28,[])::(29,[])::(30,[])::(31,[])::(32,[])::(33,[])::(34,[])::(35,[])::(36,[])::(37,[])::(38,[])::(39,[])::(40,[])::(41,[])::(42,[])::(43,[])::(44,[])::(45,[])::(46,[])::(47,[])::(48,[])::(49,[])::(50,[])::(51,[])::(52,[])::(53,[])::(54,[])::(55,[])::(56,[])::(57,[])::(58,[])::(59,[])::(60,[])::(61,[])::(62,[])::(63,[])::(64,[])::(65,[])::(66,[])::(67,[])::(68,[])::[]))) ⟨fun _=>?_,wb0⟩
        all_goals rfl
       have h5':(x.lib=w.libs[0].src.name)=True:=by simp[h5]
       have h6':(x.ver=w.libs[0].ver)=True:=by simp[h6]
       rw[decide_eq_true h5,decide_eq_true h6,Bool.true_and,Bool.true_and]at ee
       refine go (L:=_∧True) (wa14 @hlt @Wd.cs.eq_1 @En.cs.eq_1 @g1 @g2 @a0 @a2 @a3 @b0 @b1 @hx @In.cs.eq_1 @h5' @h6') (wb2 (fun v0 v1 v2 (_:True)=>c_spec_l1In v0 v1 v2) (fun _=>u3)) wb0 wb0 (wb2 wb0 (sch 7 [] ((0,[])::(1,[])::(2,[])::(3,[])::(4,[])::(5,[])::(6,[])::(7,[])::(8,[])::(9,[])::(10,[])::(11,[])::(12,[])::(13,[])::(14,[])::(15,[])::(16,[])::(17,[])::(18,[])::(19,[])::(20,[])::(21,[])::(22,[])::(23,[])::(24,[])::(25,[])::(26,[])::(27,[])::(28,[])::(29,[])::(30,[])::(31,[])::(32,[])::(33,[])::(34,[])::(35,[])::(36,[])::(37,[])::(38,[])::(39,[])::(40,[])::(41,[])::(42,[])::(43,[])::(44,[])::(45,[])::(46,[])::(47,[])::(48,[])::(49,[])::(50,[])::(51,[])::(52,[])::(53,[])::(54,[])::(55,[])::(56,[])::(57,[])::(58,[])::(59,[])::(60,[])::(61,[])::(62,[])::(63,[])::(64,[])::(65,[])::(66,[])::(67,[])::(68,[])::[]))) ⟨fun _=>?_,wb0⟩
       refine WPc.loopV (σ:=Nat) (fun k=>k≤w.libs[0].src.exports.length∧(w.libs[0].src.exports.take k).all (hasV x)=true) (fun k=>w.libs[0].src.exports.length-k) (fun k=>[(5,.sc (.int .i64 k))]) (fun k=>[(4,112,8,[En.cs w.libs[0]]),(1,42,7,[w.cs])]) [1,3,4] 0 (by simp[Wd.cs,En.cs]) (by simp[Wd.cs,En.cs]) (by simp) ?_
       rintro k ⟨hk,hev⟩ s hs
       simp at hs
       subst hs
       by_cases hlk:k<w.libs[0].src.exports.length
       ·have hv:=List.getElem?_eq_getElem hlk
        have hkb:k+1≤9223372036854775807:=by omega
        have un:=c_spec_l8Name x w.libs[0].src.exports[k] hnl
        simp only[In.av]at un
        cases hm:isW x.names w.libs[0].src.exports[k]with
        |false =>
         have hw:hasV x w.libs[0].src.exports[k]=false:=by rw[hasV,hm,Bool.false_and]
         have hn:=fidx_none (k:=0) hm
         rw[hn]at un
         have e1:libOk w 0 w.libs[0]=false:=by rw[ee,all_at hv hw]
         rw[allI_at hlt e1,Bool.false_and]
         refine go (L:=_∧True) (wa12 @sC.eq_1 @hlt @Wd.cs.eq_1 @En.cs.eq_1 @g1 @g2 @In.cs.eq_1 @hlk @a0 @a2 @a3 @hx) (wb1 (fun _=>un)) wb0 wb0 (wb2 wb0 (sch 12 [] [(0,[]),(1,[]),(2,[]),(3,[]),(4,[]),(5,[]),(6,[]),(7,[]),(8,[]),(9,[]),(10,[]),(11,[]),(12,[]),(13,[]),(14,[])])) ⟨fun _=>?_,wb0⟩
         all_goals rfl
        |true =>
         have hk0:=fidx_ge (k:=0) hm
         have hk1:=fidx_lt (k:=0) hm
         generalize hkk:fidx x.names w.libs[0].src.exports[k] 0=m at hk0 hk1 un
         have c0:¬m<0:=by omega
         have d1:m<(x.vals.length:Int):=by omega
         have d2:m.toNat<x.vals.length:=by omega
         have d3:0≤m:=by omega
         have ha:arg x.vals m.toNat=x.vals[m.toNat]:=by simp[arg,List.getElem?_eq_getElem d2]
         cases hz:V.eqb x.vals[m.toNat] noV with
         |true =>
          have hz':V.eqb ⟨x.vals[m.toNat].k,x.vals[m.toNat].n,x.vals[m.toNat].s⟩ ⟨0,0,⟨#[]⟩⟩=true:=hz
          have hw:hasV x w.libs[0].src.exports[k]=false:=by
           rw[hasV,hm,hkk,ha];simp only[V.eqb,decide_eq_true_eq]at hz;simp[hz]
          have e1:libOk w 0 w.libs[0]=false:=by rw[ee,all_at hv hw]
          rw[allI_at hlt e1,Bool.false_and]
          refine go (L:=_∧True) (wa20 @sC.eq_1 @hlt @Wd.cs.eq_1 @En.cs.eq_1 @g1 @g2 @In.cs.eq_1 @hlk @hkb @a0 @a2 @a3 @hx @c0 @d1 @d2 @d3 @V.cs.eq_1 @V.av.eq_1 @hz') (wb1 (fun _=>un)) wb0 wb0 (wb2 wb0 (sch 12 [] [(0,[]),(1,[]),(2,[]),(3,[]),(4,[]),(5,[]),(6,[]),(7,[]),(8,[]),(9,[]),(10,[]),(11,[]),(12,[]),(13,[]),(14,[])])) ⟨fun _=>?_,wb0⟩
          all_goals rfl
         |false =>
          have hz':V.eqb ⟨x.vals[m.toNat].k,x.vals[m.toNat].n,x.vals[m.toNat].s⟩ ⟨0,0,⟨#[]⟩⟩=false:=hz
          have hw:hasV x w.libs[0].src.exports[k]=true:=by
           rw[hasV,hm,hkk,ha];simp only[V.eqb,decide_eq_false_iff_not]at hz;simp[hz]
          refine go (L:=_∧True) (wa20 @sC.eq_1 @hlt @Wd.cs.eq_1 @En.cs.eq_1 @g1 @g2 @In.cs.eq_1 @hlk @hkb @a0 @a2 @a3 @hx @c0 @d1 @d2 @d3 @V.cs.eq_1 @V.av.eq_1 @hz') (wb1 (fun _=>un)) wb0 wb0 (wb2 wb0 (sch 12 [] [(0,[]),(1,[]),(2,[]),(3,[]),(4,[]),(5,[]),(6,[]),(7,[]),(8,[]),(9,[]),(10,[]),(11,[]),(12,[]),(13,[]),(14,[])])) ⟨fun _=>?_,wb0⟩
          all_goals
           refine⟨k+1,⟨⟨hlk,all_next hv hw hev⟩,by first|omega|(simp only;omega)|assumption⟩,rfl,rfl,?_,?_⟩<;>simp (disch:=omega) [wrap64,Wd.cs,En.cs]
       ·obtain rfl:k=w.libs[0].src.exports.length:=by omega
        rw[List.take_length]at hev
        have e1:libOk w 0 w.libs[0]=true:=by rw[ee,hev]
        have e2:∀j,(h:j<w.libs.length)→j<1→libOk w j w.libs[j]=true:=fun j hj hji=>by
         obtain rfl:j=0:=by omega
         exact e1
        have wr1:IntKind.i64.wrap 1=1:=rfl
        refine go (L:=_∧True) (wa5 @hlk @hlt @Wd.cs.eq_1 @En.cs.eq_1 @wr1) wb0 wb0 wb0 wb0 ⟨fun _=>?_,wb0⟩
        refine⟨1,⟨⟨hlt,e2⟩,by first|omega|(simp only;omega)|assumption⟩,rfl,rfl,?_,?_⟩<;>simp (disch:=omega) [wrap64,Wd.cs,wr1]
   ·obtain⟨k,hk⟩:∃k,i=k+1:=⟨i-1,by omega⟩
    have c1:k<w.libs.length:=by omega
    have c2:0<i:=by omega
    have c3:IntKind.i64.wrap ((i:Int)-1)=(k:Int):=by rw[wrap64 (by omega) (by omega)];omega
    have e0:libOk w i w.libs[i]=(entOk w.sys w.libs[i]&&lessB w.libs[k].src.name w.libs[i].src.name):=by
     rw[libOk,show i-1=k from by omega,List.getElem?_eq_getElem c1,show (i==0)=false from by simp[hi0]];simp
    cases g3:lessB w.libs[k].src.name w.libs[i].src.name with
    |false =>
     have e1:libOk w i w.libs[i]=false:=by rw[e0,g3,Bool.and_false]
     rw[allI_at hlt e1,Bool.false_and]
     refine go (L:=_∧True) (wa8 @hlt @Wd.cs.eq_1 @En.cs.eq_1 @g1 @g3 @c1 @c2 @c3) (wb1 (fun _=>u3)) wb0 wb0 (wb2 wb0 (sch 7 [] ((0,[])::(1,[])::(2,[])::(3,[])::(4,[])::(5,[])::(6,[])::(7,[])::(8,[])::(9,[])::(10,[])::(11,[])::(12,[])::(13,[])::(14,[])::(15,[])::(16,[])::(17,[])::(18,[])::(19,[])::(20,[])::(21,[])::(22,[])::(23,[])::(24,[])::(25,[])::(26,[])::(27,[])::(28,[])::(29,[])::(30,[])::(31,[])::(32,[])::(33,[])::(34,[])::(35,[])::(36,[])::(37,[])::(38,[])::(39,[])::(40,[])::(41,[])::(42,[])::(43,[])::(44,[])::(45,[])::(46,[])::(47,[])::(48,[])::(49,[])::(50,[])::(51,[])::(52,[])::(53,[])::(54,[])::(55,[])::(56,[])::(57,[])::(58,[])::(59,[])::(60,[])::(61,[])::(62,[])::(63,[])::(64,[])::(65,[])::(66,[])::(67,[])::(68,[])::[]))) ⟨fun _=>?_,wb0⟩
     all_goals rfl
    |true =>
     have e0':libOk w i w.libs[i]=entOk w.sys w.libs[i]:=by rw[e0,g3,Bool.and_true]
     cases g2:inRange w.libs[i].ver 1 1000 with
     |false =>
      have e1:libOk w i w.libs[i]=false:=by rw[e0',ew,g2];simp
      rw[allI_at hlt e1,Bool.false_and]
      refine go (L:=_∧True) (wa9 @hlt @Wd.cs.eq_1 @En.cs.eq_1 @g1 @g3 @c1 @c2 @c3 @g2) (wb2 (fun v0 v1 v2 (_:True)=>c_spec_l1In v0 v1 v2) (fun _=>u3)) wb0 wb0 (wb2 wb0 (sch 7 [] ((0,[])::(1,[])::(2,[])::(3,[])::(4,[])::(5,[])::(6,[])::(7,[])::(8,[])::(9,[])::(10,[])::(11,[])::(12,[])::(13,[])::(14,[])::(15,[])::(16,[])::(17,[])::(18,[])::(19,[])::(20,[])::(21,[])::(22,[])::(23,[])::(24,[])::(25,[])::(26,[])::(27,[])::(28,[])::(29,[])::(30,[])::(31,[])::(32,[])::(33,[])::(34,[])::(35,[])::(36,[])::(37,[])::(38,[])::(39,[])::(40,[])::(41,[])::(42,[])::(43,[])::(44,[])::(45,[])::(46,[])::(47,[])::(48,[])::(49,[])::(50,[])::(51,[])::(52,[])::(53,[])::(54,[])::(55,[])::(56,[])::(57,[])::(58,[])::(59,[])::(60,[])::(61,[])::(62,[])::(63,[])::(64,[])::(65,[])::(66,[])::(67,[])::(68,[])::[]))) ⟨fun _=>?_,wb0⟩
      all_goals rfl
     |true =>
      as_aux_lemma =>
       have hinst:w.sys.insts.length≤1000000000:=hr.sys.insts
       cases g4:inRange w.libs[i].inst 0 ((w.sys.insts.length:Int)-1) with
       |false =>
        have e1:libOk w i w.libs[i]=false:=by rw[e0',ew,g4];simp
        rw[allI_at hlt e1,Bool.false_and]
        by_cases b0:w.libs[i].inst<0
        ·refine go (L:=_∧True) (wa10 @hlt @Wd.cs.eq_1 @En.cs.eq_1 @g1 @g3 @c1 @c2 @c3 @g2 @b0) (wb2 (fun v0 v1 v2 (_:True)=>c_spec_l1In v0 v1 v2) (fun _=>u3)) wb0 wb0 (wb2 wb0 (sch 7 [] ((0,[])::(1,[])::(2,[])::(3,[])::(4,[])::(5,[])::(6,[])::(7,[])::(8,[])::(9,[])::(10,[])::(11,[])::(12,[])::(13,[])::(14,[])::(15,[])::(16,[])::(17,[])::(18,[])::(19,[])::(20,[])::(21,[])::(22,[])::(23,[])::(24,[])::(25,[])::(26,[])::(27,[])::(28,[])::(29,[])::(30,[])::(31,[])::(32,[])::(33,[])::(34,[])::(35,[])::(36,[])::(37,[])::(38,[])::(39,[])::(40,[])::(41,[])::(42,[])::(43,[])::(44,[])::(45,[])::(46,[])::(47,[])::(48,[])::(49,[])::(50,[])::(51,[])::(52,[])::(53,[])::(54,[])::(55,[])::(56,[])::(57,[])::(58,[])::(59,[])::(60,[])::(61,[])::(62,[])::(63,[])::(64,[])::(65,[])::(66,[])::(67,[])::(68,[])::[]))) ⟨fun _=>?_,wb0⟩
         all_goals rfl
        ·have b1:(w.sys.insts.length:Int)≤w.libs[i].inst:=by
          simp only[inRange,Bool.and_eq_false_iff,decide_eq_false_iff_not]at g4
          omega
         refine go (L:=_∧True) (wa11 @hlt @Wd.cs.eq_1 @En.cs.eq_1 @g1 @g3 @c1 @c2 @c3 @g2 @b0 @b1) (wb2 (fun v0 v1 v2 (_:True)=>c_spec_l1In v0 v1 v2) (fun _=>u3)) wb0 wb0 (wb2 wb0 (sch 7 [] ((0,[])::(1,[])::(2,[])::(3,[])::(4,[])::(5,[])::(6,[])::(7,[])::(8,[])::(9,[])::(10,[])::(11,[])::(12,[])::(13,[])::(14,[])::(15,[])::(16,[])::(17,[])::(18,[])::(19,[])::(20,[])::(21,[])::(22,[])::(23,[])::(24,[])::(25,[])::(26,[])::(27,[])::(28,[])::(29,[])::(30,[])::(31,[])::(32,[])::(33,[])::(34,[])::(35,[])::(36,[])::(37,[])::(38,[])::(39,[])::(40,[])::(41,[])::(42,[])::(43,[])::(44,[])::(45,[])::(46,[])::(47,[])::(48,[])::(49,[])::(50,[])::(51,[])::(52,[])::(53,[])::(54,[])::(55,[])::(56,[])::(57,[])::(58,[])::(59,[])::(60,[])::(61,[])::(62,[])::(63,[])::(64,[])::(65,[])::(66,[])::(67,[])::(68,[])::[]))) ⟨fun _=>?_,wb0⟩
         all_goals rfl
       |true =>
        have g4':=g4
        simp only[inRange,Bool.and_eq_true,decide_eq_true_eq]at g4'
        obtain⟨a0,a1⟩:=g4'
        have a2:w.libs[i].inst.toNat<w.sys.insts.length:=by omega
        have b0:¬w.libs[i].inst<0:=by omega
        have b1:¬(w.sys.insts.length:Int)≤w.libs[i].inst:=by omega
        have a3:w.libs[i].inst<(w.sys.insts.length:Int):=by omega
        have ee:entOk w.sys w.libs[i]=(decide (w.sys.insts[w.libs[i].inst.toNat].lib=w.libs[i].src.name)&&(decide (w.sys.insts[w.libs[i].inst.toNat].ver=w.libs[i].ver)&&w.libs[i].src.exports.all (hasV w.sys.insts[w.libs[i].inst.toNat]))):=by
         rw[ew,g2,g4,List.getElem?_eq_getElem a2];rfl
        have hvl:=sysOk_vals h4 a2
        have hnl:w.sys.insts[w.libs[i].inst.toNat].names.length≤1000000000:=(hr.sys.insts1 _ (List.getElem_mem a2)).names
        rw[←e0']at ee
        generalize hx:w.sys.insts[w.libs[i].inst.toNat]=x at hvl ee hnl
        have hel:=(hr.libs1 _ (List.getElem_mem hlt)).src.exports
        by_cases h5:x.lib=w.libs[i].src.name
        rotate_left
        ·have h5':(x.lib=w.libs[i].src.name)=False:=by simp[h5]
         have e1:libOk w i w.libs[i]=false:=by rw[ee,decide_eq_false h5,Bool.false_and]
         rw[allI_at hlt e1,Bool.false_and]
         refine go (L:=_∧True) (wa17 @hlt @Wd.cs.eq_1 @En.cs.eq_1 @g1 @g3 @c1 @c2 @c3 @g2 @a0 @a2 @a3 @b0 @b1 @hx @In.cs.eq_1 @h5') (wb2 (fun v0 v1 v2 (_:True)=>c_spec_l1In v0 v1 v2) (fun _=>u3)) wb0 wb0 (wb2 wb0 (sch 7 [] ((0,[])::(1,[])::(2,[])::(3,[])::(4,[])::(5,[])::(6,[])::(7,[])::(8,[])::(9,[])::(10,[])::(11,[])::(12,[])::(13,[])::(14,[])::(15,[])::(16,[])::(17,[])::(18,[])::(19,[])::(20,[])::(21,[])::(22,[])::(23,[])::(24,[])::(25,[])::(26,[])::(27,[])::(28,[])::(29,[])::(30,[])::(31,[])::(32,[])::(33,[])::(34,[])::(35,[])::(36,[])::(37,[])::(38,[])::(39,[])::(40,[])::(41,[])::(42,[])::(43,[])::(44,[])::(45,[])::(46,[])::(47,[])::(48,[])::(49,[])::(50,[])::(51,[])::(52,[])::(53,[])::(54,[])::(55,[])::(56,[])::(57,[])::(58,[])::(59,[])::(60,[])::(61,[])::(62,[])::(63,[])::(64,[])::(65,[])::(66,[])::(67,[])::(68,[])::[]))) ⟨fun _=>?_,wb0⟩
         all_goals rfl
        by_cases h6:x.ver=w.libs[i].ver
        rotate_left
        ·have h5':(x.lib=w.libs[i].src.name)=True:=by simp[h5]
         have h6':(x.ver=w.libs[i].ver)=False:=by simp[h6]
         have e1:libOk w i w.libs[i]=false:=by rw[ee,decide_eq_false h6,Bool.false_and,Bool.and_false]
         rw[allI_at hlt e1,Bool.false_and]
         refine go (L:=_∧True) (wa18 @hlt @Wd.cs.eq_1 @En.cs.eq_1 @g1 @g3 @c1 @c2 @c3 @g2 @a0 @a2 @a3 @b0 @b1 @hx @In.cs.eq_1 @h5' @h6') (wb2 (fun v0 v1 v2 (_:True)=>c_spec_l1In v0 v1 v2) (fun _=>u3)) wb0 wb0 (wb2 wb0 (sch 7 [] ((0,[])::(1,[])::(2,[])::(3,[])::(4,[])::(5,[])::(6,[])::(7,[])::(8,[])::(9,[])::(10,[])::(11,[])::(12,[])::(13,[])::(14,[])::(15,[])::(16,[])::(17,[])::(18,[])::(19,[])::(20,[])::(21,[])::(22,[])::(23,[])::(24,[])::(25,[])::(26,[])::(27,[])::(28,[])::(29,[])::(30,[])::(31,[])::(32,[])::(33,[])::(34,[])::(35,[])::(36,[])::(37,[])::(38,[])::(39,[])::(40,[])::(41,[])::(42,[])::(43,[])::(44,[])::(45,[])::(46,[])::(47,[])::(48,[])::(49,[])::(50,[])::(51,[])::(52,[])::(53,[])::(54,[])::(55,[])::(56,[])::(57,[])::(58,[])::(59,[])::(60,[])::(61,[])::(62,[])::(63,[])::(64,[])::(65,[])::(66,[])::(67,[])::(68,[])::[]))) ⟨fun _=>?_,wb0⟩
         all_goals rfl
        have h5':(x.lib=w.libs[i].src.name)=True:=by simp[h5]
        have h6':(x.ver=w.libs[i].ver)=True:=by simp[h6]
        rw[decide_eq_true h5,decide_eq_true h6,Bool.true_and,Bool.true_and]at ee
        refine go (L:=_∧True) (wa18 @hlt @Wd.cs.eq_1 @En.cs.eq_1 @g1 @g3 @c1 @c2 @c3 @g2 @a0 @a2 @a3 @b0 @b1 @hx @In.cs.eq_1 @h5' @h6') (wb2 (fun v0 v1 v2 (_:True)=>c_spec_l1In v0 v1 v2) (fun _=>u3)) wb0 wb0 (wb2 wb0 (sch 7 [] ((0,[])::(1,[])::(2,[])::(3,[])::(4,[])::(5,[])::(6,[])::(7,[])::(8,[])::(9,[])::(10,[])::(11,[])::(12,[])::(13,[])::(14,[])::(15,[])::(16,[])::(17,[])::(18,[])::(19,[])::(20,[])::(21,[])::(22,[])::(23,[])::(24,[])::(25,[])::(26,[])::(27,[])::(28,[])::(29,[])::(30,[])::(31,[])::(32,[])::(33,[])::(34,[])::(35,[])::(36,[])::(37,[])::(38,[])::(39,[])::(40,[])::(41,[])::(42,[])::(43,[])::(44,[])::(45,[])::(46,[])::(47,[])::(48,[])::(49,[])::(50,[])::(51,[])::(52,[])::(53,[])::(54,[])::(55,[])::(56,[])::(57,[])::(58,[])::(59,[])::(60,[])::(61,[])::(62,[])::(63,[])::(64,[])::(65,[])::(66,[])::(67,[])::(68,[])::[]))) ⟨fun _=>?_,wb0⟩
        refine WPc.loopV (σ:=Nat) (fun k=>k≤w.libs[i].src.exports.length∧(w.libs[i].src.exports.take k).all (hasV x)=true) (fun k=>w.libs[i].src.exports.length-k) (fun k=>[(5,.sc (.int .i64 k))]) (fun k=>[(4,112,8,[En.cs w.libs[i]]),(1,42,7,[w.cs])]) [1,3,4] 0 (by simp[Wd.cs,En.cs]) (by simp[Wd.cs,En.cs]) (by simp) ?_
        rintro k ⟨hk,hev⟩ s hs
        simp at hs
        subst hs
        by_cases hlk:k<w.libs[i].src.exports.length
        ·have hv:=List.getElem?_eq_getElem hlk
         have hkb:k+1≤9223372036854775807:=by omega
         have un:=c_spec_l8Name x w.libs[i].src.exports[k] hnl
         simp only[In.av]at un
         cases hm:isW x.names w.libs[i].src.exports[k]with
         |false =>
          have hw:hasV x w.libs[i].src.exports[k]=false:=by rw[hasV,hm,Bool.false_and]
          have hn:=fidx_none (k:=0) hm
          rw[hn]at un
          have e1:libOk w i w.libs[i]=false:=by rw[ee,all_at hv hw]
          rw[allI_at hlt e1,Bool.false_and]
          refine go (L:=_∧True) (wa16 @sC.eq_1 @hlt @Wd.cs.eq_1 @En.cs.eq_1 @g1 @g3 @c1 @c2 @c3 @g2 @In.cs.eq_1 @hlk @a0 @a2 @a3 @hx) (wb1 (fun _=>un)) wb0 wb0 (wb2 wb0 (sch 12 [] [(0,[]),(1,[]),(2,[]),(3,[]),(4,[]),(5,[]),(6,[]),(7,[]),(8,[]),(9,[]),(10,[]),(11,[]),(12,[]),(13,[]),(14,[])])) ⟨fun _=>?_,wb0⟩
          all_goals rfl
         |true =>
          have hk0:=fidx_ge (k:=0) hm
          have hk1:=fidx_lt (k:=0) hm
          generalize hkk:fidx x.names w.libs[i].src.exports[k] 0=m at hk0 hk1 un
          have c0:¬m<0:=by omega
          have d1:m<(x.vals.length:Int):=by omega
          have d2:m.toNat<x.vals.length:=by omega
          have d3:0≤m:=by omega
          have ha:arg x.vals m.toNat=x.vals[m.toNat]:=by simp[arg,List.getElem?_eq_getElem d2]
          cases hz:V.eqb x.vals[m.toNat] noV with
          |true =>
           have hz':V.eqb ⟨x.vals[m.toNat].k,x.vals[m.toNat].n,x.vals[m.toNat].s⟩ ⟨0,0,⟨#[]⟩⟩=true:=hz
           have hw:hasV x w.libs[i].src.exports[k]=false:=by
            rw[hasV,hm,hkk,ha];simp only[V.eqb,decide_eq_true_eq]at hz;simp[hz]
           have e1:libOk w i w.libs[i]=false:=by rw[ee,all_at hv hw]
           rw[allI_at hlt e1,Bool.false_and]
           repeat' (first
            |apply WPc.sq
            |apply WPc.block
            |(refine WPc.ret (endP.val (.inr rfl) rfl rfl (by simp;rfl) ?_))
            |apply WPc.skip
            |(apply WPS.cL (hc:=un);(case ho=>exact rfl);(case q=>(repeat' (first|refine And.intro ?_ ?_|intro _|(with_reducible exact cleanOut_nil)|(refine Eqv.mk ?_;first|rfl|(simp -implicitDefEqProofs [sC,hlt,Wd.cs,En.cs,g1,g3,c1,c2,c3,g2,In.cs,hlk,hkb,a0,a2,a3,hx,c0,d1,d2,d3,V.cs,V.av,hz'];done))|(simp -implicitDefEqProofs [sC,hlt,Wd.cs,En.cs,g1,g3,c1,c2,c3,g2,In.cs,hlk,hkb,a0,a2,a3,hx,c0,d1,d2,d3,V.cs,V.av,hz'];done)|(simp -implicitDefEqProofs [sC,hlt,Wd.cs,En.cs,g1,g3,c1,c2,c3,g2,In.cs,hlk,hkb,a0,a2,a3,hx,c0,d1,d2,d3,V.cs,V.av,hz'];rfl)|(simp;done)|(simp;rfl)|rfl))))
            |((first|refine WPc.rq tok rfl fun K hK=>?_|refine WPS.rn tok _ (by simp[aheadS];rfl) fun K hK=>?_);simp -implicitDefEqProofs +contextual [-Int.not_le,-Int.not_lt,-Nat.not_le,-Nat.not_lt,-List.all_eq_true,-List.all_eq_false,-List.any_eq_true,-List.any_eq_false,sC,hlt,Wd.cs,En.cs,g1,g3,c1,c2,c3,g2,In.cs,hlk,hkb,a0,a2,a3,hx,c0,d1,d2,d3,V.cs,V.av,hz'];(repeat1' (first|apply hK|apply And.intro|intro _))<;>clear hK K<;>(try dsimp only[List.drop]))
            |(refine WPc.sched (id:=12) tok [] [(0,[]),(1,[]),(2,[]),(3,[]),(4,[]),(5,[]),(6,[]),(7,[]),(8,[]),(9,[]),(10,[]),(11,[]),(12,[]),(13,[]),(14,[])] (by kernel_rfl) ?_)
            |(refine WPS.nil ?_)
            |(refine WPc.condT ?_ ?_;(focus(simp;done))))
           all_goals rfl
          |false =>
           have hz':V.eqb ⟨x.vals[m.toNat].k,x.vals[m.toNat].n,x.vals[m.toNat].s⟩ ⟨0,0,⟨#[]⟩⟩=false:=hz
           have hw:hasV x w.libs[i].src.exports[k]=true:=by
            rw[hasV,hm,hkk,ha];simp only[V.eqb,decide_eq_false_iff_not]at hz;simp[hz]
           repeat' (first
            |apply WPc.sq
            |apply WPc.block
            |apply WPc.skip
            |(apply WPS.cL (hc:=un);(case ho=>exact rfl);(case q=>(repeat' (first|refine And.intro ?_ ?_|intro _|(with_reducible exact cleanOut_nil)|(refine Eqv.mk ?_;first|rfl|(simp -implicitDefEqProofs [sC,hlt,Wd.cs,En.cs,g1,g3,c1,c2,c3,g2,In.cs,hlk,hkb,a0,a2,a3,hx,c0,d1,d2,d3,V.cs,V.av,hz'];done))|(simp -implicitDefEqProofs [sC,hlt,Wd.cs,En.cs,g1,g3,c1,c2,c3,g2,In.cs,hlk,hkb,a0,a2,a3,hx,c0,d1,d2,d3,V.cs,V.av,hz'];done)|(simp -implicitDefEqProofs [sC,hlt,Wd.cs,En.cs,g1,g3,c1,c2,c3,g2,In.cs,hlk,hkb,a0,a2,a3,hx,c0,d1,d2,d3,V.cs,V.av,hz'];rfl)|(simp;done)|(simp;rfl)|rfl))))
            |((first|refine WPc.rq tok rfl fun K hK=>?_|refine WPS.rn tok _ (by simp[aheadS];rfl) fun K hK=>?_);simp -implicitDefEqProofs +contextual [-Int.not_le,-Int.not_lt,-Nat.not_le,-Nat.not_lt,-List.all_eq_true,-List.all_eq_false,-List.any_eq_true,-List.any_eq_false,sC,hlt,Wd.cs,En.cs,g1,g3,c1,c2,c3,g2,In.cs,hlk,hkb,a0,a2,a3,hx,c0,d1,d2,d3,V.cs,V.av,hz'];(repeat1' (first|apply hK|apply And.intro|intro _))<;>clear hK K<;>(try dsimp only[List.drop]))
            |(refine WPc.sched (id:=12) tok [] [(0,[]),(1,[]),(2,[]),(3,[]),(4,[]),(5,[]),(6,[]),(7,[]),(8,[]),(9,[]),(10,[]),(11,[]),(12,[]),(13,[]),(14,[])] (by kernel_rfl) ?_)
            |(refine WPS.nil ?_)
            |(refine WPc.condT ?_ ?_;(focus(simp;done)))
            |(refine WPc.condF ?_ ?_;(focus(simp;done))))
           all_goals
            refine⟨k+1,⟨⟨hlk,all_next hv hw hev⟩,by first|omega|(simp only;omega)|assumption⟩,rfl,rfl,?_,?_⟩<;>simp (disch:=omega) [wrap64,Wd.cs,En.cs]
        ·obtain rfl:k=w.libs[i].src.exports.length:=by omega
         rw[List.take_length]at hev
         have e1:libOk w i w.libs[i]=true:=by rw[ee,hev]
         refine go (L:=_∧True) (wa5 @hlk @hlt @hb @Wd.cs.eq_1 @En.cs.eq_1) wb0 wb0 wb0 wb0 ⟨fun _=>?_,wb0⟩
         refine⟨i+1,⟨⟨hlt,fun j hj hji=>(Nat.lt_succ_iff_lt_or_eq.1 hji).elim (hall j hj) (fun e=>by subst e;exact e1)⟩,by first|omega|(simp only;omega)|assumption⟩,rfl,rfl,?_,?_⟩<;>simp (disch:=omega) [wrap64,Wd.cs]
 ·obtain rfl:i=w.libs.length:=by omega
  have hI:allI w.libs (libOk w)=true:=allI_iff.2 fun j hj=>hall j hj hj
  clear hall
  rw[hI,Bool.true_and]
  as_aux_lemma =>
   have sm:∀s,s∈srcsL w.libs→s.sm:=fun s hm=>by
    rw[srcsL_eq,List.mem_map]at hm
    obtain⟨x,hx,rfl⟩:=hm
    exact(hs.libs x hx).src
   have rm:∀s,s∈srcsL w.libs→s.rm:=fun s hm=>by
    rw[srcsL_eq,List.mem_map]at hm
    obtain⟨x,hx,rfl⟩:=hm
    exact(hr.libs1 x hx).src
   have hlen:=srcsL_len w.libs
   have d1:=dz_SrT hlen
   have u7:=c_spec_l13Srcs w r1
   have u6:=c_spec_Order (srcsL w.libs) (by omega) sm rm
   simp only[srcRt]at u7
   cases hres:orderO (srcsL w.libs) with
   |none =>
    have g4:Con PP 62 [.fz ((srcsL w.libs).map Sr.cs)] [] [] (fun r o=>r=.tup [.sl 900009 1 [] 0 0,.sc (.bool false)]∧o=[(900009,strR [])]):=by rw[hres]at u6;exact u6
    simp only[strR]at g4
    rw[show (Option.isSome (none:Option (List ByteArray)))=false from rfl,Bool.and_false]
    refine go (L:=_∧True) (wa5 @hlt @Wd.cs.eq_1 @d1 @hlen @srcsL_len) wb0 (wb2 (fun _=>u7) (fun _=>g4)) wb0 wb0 ⟨fun _=>?_,wb0⟩
    all_goals rfl
   |some y =>
    have g4:Con PP 62 [.fz ((srcsL w.libs).map Sr.cs)] [] [] (fun r o=>r=.tup [.sl 900009 1 [] 0 y.length,.sc (.bool true)]∧o=[(900009,strR y)]):=by rw[hres]at u6;exact u6
    simp only[strR]at g4
    rw[show (Option.isSome (some y))=true from rfl,Bool.and_true]
    refine go (L:=_∧True) (wa5 @hlt @Wd.cs.eq_1 @d1 @hlen @srcsL_len) wb0 (wb2 (fun _=>u7) (fun _=>g4)) wb0 wb0 ⟨fun _=>?_,wb0⟩
    refine WPc.loopV (σ:=Nat) (fun i=>i≤w.tasks.length∧(∀j,(h:j<w.tasks.length)→j<i→tskOk w j w.tasks[j]=true)) (fun i=>w.tasks.length-i) (fun i=>[(9,.sc (.int .i64 i))]) (fun i=>[(1,42,7,[w.cs])]) [1] 0 (by simp[Wd.cs]) (by simp[Wd.cs]) (by simp) ?_
    rintro i ⟨hi,hall⟩ s hs
    simp at hs
    subst hs
    by_cases hlt:i<w.tasks.length
    ·have u5:=c_spec_MachineOk w.sys w.tasks[i].mac hs.sys hr.sys (hs.tasks _ (List.getElem_mem hlt)).mac (hr.tasks1 _ (List.getElem_mem hlt)).mac
     simp only[Sy.av,Mc.av,machOk,h4,Bool.true_and]at u5
     have hb:i+1≤9223372036854775807:=by omega
     have wr2:IntKind.i64.wrap (w.next-1)=w.next-1:=by
      simp only[inRange,Bool.and_eq_true,decide_eq_true_eq]at h3
      exact wrap64 (by omega) (by omega)
     cases h5:inRange w.tasks[i].id 1 (w.next-1) with
     |false =>
      have e1:tskOk w i w.tasks[i]=false:=by rw[tskOk,h5,Bool.false_and]
      rw[allI_at hlt e1]
      refine go (L:=_∧True) (wa5 @hlt @Wd.cs.eq_1 @Tk.cs.eq_1 @h5 @wr2) (wb1 (fun v0 v1 v2 (_:True)=>c_spec_l1In v0 v1 v2)) wb0 wb0 (wb2 wb0 (sch 22 [] ((0,[])::(1,[])::(2,[])::(3,[])::(4,[])::(5,[])::(6,[])::(7,[])::(8,[])::(9,[])::(10,[])::(11,[])::(12,[])::(13,[])::(14,[])::(15,[])::(16,[])::(17,[])::(18,[])::(19,[])::(20,[])::(21,[])::(22,[])::(23,[])::(24,[])::(25,[])::(26,[])::(27,[])::(28,[])::(29,[])::(30,[])::[]))) ⟨fun _=>?_,wb0⟩
      all_goals rfl
     |true =>
      by_cases hi0:i=0
      ·subst hi0
       have e1:tskOk w 0 w.tasks[0]=mcOk w.sys w.tasks[0].mac:=by rw[tskOk,h5];rfl
       have wr1:IntKind.i64.wrap 1=1:=rfl
       cases h6:mcOk w.sys w.tasks[0].mac with
       |false =>
        rw[h6]at e1
        rw[allI_at hlt e1]
        refine go (L:=_∧True) (wa7 @hlt @Wd.cs.eq_1 @Tk.cs.eq_1 @h5 @wr1 @wr2 @h6) (wb2 (fun v0 v1 v2 (_:True)=>c_spec_l1In v0 v1 v2) (fun _=>u5)) wb0 wb0 (wb2 wb0 (sch 22 [] ((0,[])::(1,[])::(2,[])::(3,[])::(4,[])::(5,[])::(6,[])::(7,[])::(8,[])::(9,[])::(10,[])::(11,[])::(12,[])::(13,[])::(14,[])::(15,[])::(16,[])::(17,[])::(18,[])::(19,[])::(20,[])::(21,[])::(22,[])::(23,[])::(24,[])::(25,[])::(26,[])::(27,[])::(28,[])::(29,[])::(30,[])::[]))) ⟨fun _=>?_,wb0⟩
        all_goals rfl
       |true =>
        rw[h6]at e1
        have e2:∀j,(h:j<w.tasks.length)→j<1→tskOk w j w.tasks[j]=true:=fun j hj hji=>by
         obtain rfl:j=0:=by omega
         exact e1
        refine go (L:=_∧True) (wa7 @hlt @Wd.cs.eq_1 @Tk.cs.eq_1 @h5 @wr1 @wr2 @h6) (wb2 (fun v0 v1 v2 (_:True)=>c_spec_l1In v0 v1 v2) (fun _=>u5)) wb0 wb0 (wb2 wb0 (sch 22 [] ((0,[])::(1,[])::(2,[])::(3,[])::(4,[])::(5,[])::(6,[])::(7,[])::(8,[])::(9,[])::(10,[])::(11,[])::(12,[])::(13,[])::(14,[])::(15,[])::(16,[])::(17,[])::(18,[])::(19,[])::(20,[])::(21,[])::(22,[])::(23,[])::(24,[])::(25,[])::(26,[])::(27,[])::(28,[])::(29,[])::(30,[])::[]))) ⟨fun _=>?_,wb0⟩
        refine⟨1,⟨⟨hlt,e2⟩,by first|omega|(simp only;omega)|assumption⟩,rfl,rfl,?_,?_⟩<;>simp (disch:=omega) [wrap64,Wd.cs,wr1]
      ·obtain⟨k,hk⟩:∃k,i=k+1:=⟨i-1,by omega⟩
       have c1:k<w.tasks.length:=by omega
       have c2:0<i:=by omega
       have c3:IntKind.i64.wrap ((i:Int)-1)=(k:Int):=by rw[wrap64 (by omega) (by omega)];omega
       have e1:tskOk w i w.tasks[i]=(decide (w.tasks[k].id<w.tasks[i].id)&&mcOk w.sys w.tasks[i].mac):=by
        rw[tskOk,h5,show i-1=k from by omega,List.getElem?_eq_getElem c1,show (i==0)=false from by simp[hi0]];simp
       by_cases h7:w.tasks[k].id<w.tasks[i].id
       rotate_left
       ·have h7':w.tasks[i].id≤w.tasks[k].id:=by omega
        rw[decide_eq_false h7,Bool.false_and]at e1
        rw[allI_at hlt e1]
        refine go (L:=_∧True) (wa10 @hlt @hb @c1 @c2 @c3 @Wd.cs.eq_1 @Tk.cs.eq_1 @h5 @wr2 @h7') (wb1 (fun v0 v1 v2 (_:True)=>c_spec_l1In v0 v1 v2)) wb0 wb0 (wb2 wb0 (sch 22 [] ((0,[])::(1,[])::(2,[])::(3,[])::(4,[])::(5,[])::(6,[])::(7,[])::(8,[])::(9,[])::(10,[])::(11,[])::(12,[])::(13,[])::(14,[])::(15,[])::(16,[])::(17,[])::(18,[])::(19,[])::(20,[])::(21,[])::(22,[])::(23,[])::(24,[])::(25,[])::(26,[])::(27,[])::(28,[])::(29,[])::(30,[])::[]))) ⟨fun _=>?_,wb0⟩
        all_goals rfl
       have h7':¬w.tasks[i].id≤w.tasks[k].id:=by omega
       rw[decide_eq_true h7,Bool.true_and]at e1
       cases h6:mcOk w.sys w.tasks[i].mac with
       |false =>
        rw[h6]at e1
        rw[allI_at hlt e1]
        refine go (L:=_∧True) (wa11 @hlt @hb @c1 @c2 @c3 @Wd.cs.eq_1 @Tk.cs.eq_1 @h5 @wr2 @h6 @h7') (wb2 (fun v0 v1 v2 (_:True)=>c_spec_l1In v0 v1 v2) (fun _=>u5)) wb0 wb0 (wb2 wb0 (sch 22 [] ((0,[])::(1,[])::(2,[])::(3,[])::(4,[])::(5,[])::(6,[])::(7,[])::(8,[])::(9,[])::(10,[])::(11,[])::(12,[])::(13,[])::(14,[])::(15,[])::(16,[])::(17,[])::(18,[])::(19,[])::(20,[])::(21,[])::(22,[])::(23,[])::(24,[])::(25,[])::(26,[])::(27,[])::(28,[])::(29,[])::(30,[])::[]))) ⟨fun _=>?_,wb0⟩
        all_goals rfl
       |true =>
        rw[h6]at e1
        refine go (L:=_∧True) (wa11 @hlt @hb @c1 @c2 @c3 @Wd.cs.eq_1 @Tk.cs.eq_1 @h5 @wr2 @h6 @h7') (wb2 (fun v0 v1 v2 (_:True)=>c_spec_l1In v0 v1 v2) (fun _=>u5)) wb0 wb0 (wb2 wb0 (sch 22 [] ((0,[])::(1,[])::(2,[])::(3,[])::(4,[])::(5,[])::(6,[])::(7,[])::(8,[])::(9,[])::(10,[])::(11,[])::(12,[])::(13,[])::(14,[])::(15,[])::(16,[])::(17,[])::(18,[])::(19,[])::(20,[])::(21,[])::(22,[])::(23,[])::(24,[])::(25,[])::(26,[])::(27,[])::(28,[])::(29,[])::(30,[])::[]))) ⟨fun _=>?_,wb0⟩
        refine⟨i+1,⟨⟨hlt,fun j hj hji=>(Nat.lt_succ_iff_lt_or_eq.1 hji).elim (hall j hj) (fun e=>by subst e;exact e1)⟩,by first|omega|(simp only;omega)|assumption⟩,rfl,rfl,?_,?_⟩<;>simp (disch:=omega) [wrap64,Wd.cs]
    ·obtain rfl:i=w.tasks.length:=by omega
     have hT:allI w.tasks (tskOk w)=true:=allI_iff.2 fun j hj=>hall j hj hj
     clear hall
     rw[hT]
     refine go (L:=_∧True) (wa2 @hlt @Wd.cs.eq_1) wb0 wb0 wb0 wb0 ⟨fun _=>?_,wb0⟩
     all_goals rfl
end Go.Own
set_option maxRecDepth 1000000
set_option maxHeartbeats 4000000
namespace Go.Own
attribute [local irreducible] WPc WPL WPS WPS1 WPS2 HAny endP
variable [Laid]
open Go.Lib Go.RowKit
theorem c_impl_reachW(w:Wd)(hw:inW w)(ht:inT w)(hr:w.rm):Con PP 36 [.fp w.cs] [] [] (fun r o=>r=.agg [.sl 2 1 [(0,0)] 0 (liveW w).a.length,.sl 2 1 [(0,1)] 0 (liveW w).b.length,.sl 2 1 [(0,2)] 0 (liveW w).c.length]∧o=[(2,49,3,[lvO (liveW w).a (liveW w).b (liveW w).c])]):=
 (c_impl_reach w hw ht hr _ (liveW_keeps w) (liveW_start w)).mono fun r o ⟨s,⟨hB,hJ,h1,h2,h3⟩,e1,e2⟩=>by
  have e:=liveW_last hB hJ h1 h2 h3
  rw[←e]
  exact⟨e1,e2⟩
end Go.Own
namespace Go.Own
open Go.ChangeShapes Go.WideShapes Go.Deep
variable {H:Type}{enc:TypeId×Value→H}{P:Program}{w:World}{base:Nat}{spare:Nat→Bool}{held:Bool}{av:Nat→Prop}
theorem add_zero_eq(a:Addr):a.add 0=a:=by simp[Addr.add]
theorem fr_slice{α:Type}(g:α→List C)(good:α→Prop){k:Nat}(hk:∀a,(g a).length=k)(h0:0<k)(hav:∀b,av b){t e fuel:Nat}{v:Value}{x:DataW H×List MemPlace}
  (ht:P.underlying t=some (.slice e)) (hc:P.cellsOf e=k)
  (hel:∀n cs D,cs.length=k→DataW.trod enc P w base spare held n e cs=some D→∃a:α,good a∧∀(j:Nat) (y:C),(g a)[j]?=some y→∃u,cs[j]?=some u∧FR av w y u)
  (h:DataW.trod enc P w base spare held fuel t [v]=some x):∃l:List α,(∀a,a∈l→good a)∧FR av w (.fz (l.map g)) v:=by
 rcases open_slice ht h with ⟨h1,_⟩|⟨ad,len,cap,m,n,D,Pl,h1,hb,hl,hm,hmm,_,hx⟩
 ·obtain rfl:v=.slice none 0 0:=by simpa using h1
  exact⟨[],by simp,.fzE none 0⟩
 ·obtain rfl:v=.slice (some ad) len cap:=by simpa using h1
  have hlm:len≤m:=by rw[hmm];split<;>omega
  by_cases hz:len=0
  ·subst hz
   exact⟨[],by simp,.fzE (some ad) cap⟩
  rw[hc]at hx
  have hel2:∀i:Fin len,∃a:α,good a∧∀(j:Nat) (y:C),(g a)[j]?=some y→∃u,w.cell? ((ad.add (i*k)).add j)=some u∧FR av w y u:=fun i=>by
   obtain⟨cs,g1,g2⟩:=hx i (by omega)
   obtain⟨_,g3,g4⟩:=World.cells?_some g1
   obtain⟨a,ha,hr⟩:=hel n cs _ g3 g2
   refine⟨a,ha,fun j y hj=>?_⟩
   obtain⟨u,hu,hf⟩:=hr j y hj
   have hjk:j<k:=by rw[←hk a];exact(List.getElem?_eq_some_iff.1 hj).1
   exact⟨u,by rw[g4 j hjk,hu],hf⟩
  have hsp:ad.spot=none:=by
   obtain⟨cs,g1,g2⟩:=hx 0 (by omega)
   obtain⟨_,g3,g4⟩:=World.cells?_some g1
   have:=g4 0 h0
   rw[Nat.zero_mul,add_zero_eq,add_zero_eq,List.getElem?_eq_getElem (by omega)]at this
   unfold World.cell? at this
   split at this
   ·split at this
    ·simp at this
    ·rename_i hs;simpa using hs
   ·simp at this
  obtain⟨b,o,sp⟩:=ad
  dsimp only at hsp
  subst hsp
  refine⟨List.ofFn fun i=>Classical.choose (hel2 i),fun a ha=>?_,?_⟩
  ·obtain⟨i,rfl⟩:=List.mem_ofFn.1 ha
   exact(Classical.choose_spec (hel2 i)).1
  ·have key:∀(i j:Nat) (r:List C) (y:C),((List.ofFn fun i=>Classical.choose (hel2 i)).map g)[i]?=some r→r[j]?=some y→∃u,w.cell? ⟨b,o+i*k+j,none⟩=some u∧FR av w y u:=fun i j r y hi hj=>by
    rw[List.getElem?_map,Option.map_eq_some_iff]at hi
    obtain⟨a,ha,rfl⟩:=hi
    obtain⟨hlt,he⟩:=List.getElem?_eq_some_iff.1 ha
    rw[List.getElem_ofFn]at he
    have hi2:i<len:=by simpa using hlt
    obtain⟨u,hu,hf⟩:=(Classical.choose_spec (hel2 ⟨i,hi2⟩)).2 j y (by rw[he];exact hj)
    refine⟨u,?_,hf⟩
    rw[add_plain,add_plain]at hu
    exact hu
   have hlen:((List.ofFn fun i=>Classical.choose (hel2 i)).map g).length=len:=by simp
   have:=FR.fzN (av:=av) (w:=w) ((List.ofFn fun i=>Classical.choose (hel2 i)).map g) b o k cap (fun i j=>(w.cell? ⟨b,o+i*k+j,none⟩).getD undef) (fun h=>by rw[h]at hlen;simp at hlen;omega) h0 (hav b)
    (fun r hr=>by obtain⟨a,_,rfl⟩:=List.mem_map.1 hr;exact hk a) ⟨by rw[hlen];exact hl,hm⟩
    (fun i j r y hi hj=>by obtain⟨u,hu,_⟩:=key i j r y hi hj;rw[hu];rfl)
    (fun i j r y hi hj=>by obtain⟨u,hu,hf⟩:=key i j r y hi hj;rw[hu];exact hf)
   rw[hlen]at this
   exact this
end Go.Own
