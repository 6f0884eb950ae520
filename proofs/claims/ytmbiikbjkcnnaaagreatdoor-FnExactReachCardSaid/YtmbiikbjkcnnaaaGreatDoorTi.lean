import Derived.Test.YtmbiikbjkcnnaaaGreatDoorTh
/- Lemmas for the proof in the last text of this claim. -/
set_option linter.unusedVariables false
set_option linter.unusedSimpArgs false
set_option linter.unusedSectionVars false
set_option maxRecDepth 1000000
set_option maxHeartbeats 4000000
namespace Go.Own
attribute [local irreducible] WPc WPL WPS WPS1 WPS2 HAny endP
variable [Laid]
open Go.Lib Go.RowKit
theorem VR.fpx{β:Blk}{w:World}{cs ext:List C}{u:Value}(h:VR β w (.fp (cs++ext)) u):VR β w (.fp cs) u:=by
 cases h with
 |fp _ b o f hav hlt hc hx =>
  exact .fp cs b o f hav hlt (fun j x hj=>hc j x (by rw[List.getElem?_append_left (List.getElem?_eq_some_iff.1 hj).1];exact hj)) (fun j x hj=>hx j x (by rw[List.getElem?_append_left (List.getElem?_eq_some_iff.1 hj).1];exact hj))
theorem Con.fpx{P:Program}{f:Nat}{cs:List C}(ext:List C){ins:List AV}{ob:List (Nat×Root)}{Φ:AV→List (Nat×Root)→Prop}(h:Con P f (.fp cs::ins) ob [] Φ):Con P f (.fp (cs++ext)::ins) ob [] Φ :=
 ⟨h.fn,fun β w args hl h1 h2 h3 h4 h5=>(h.run β w args hl (by simpa using h1) (fun i v hv=>by
   cases i with
   |zero=>simp only[List.getElem?_cons_zero,Option.some.injEq]at hv;subst hv;exact(h2 0 _ rfl).fpx
   |succ i=>exact h2 (i+1) v (by simpa using hv)) h3 h4 h5).mono fun e w' ⟨u,res,ob',β',he,hp⟩=>⟨u,res,ob',β',he,{ hp with keep:=fun i hi=>by simp at hi }⟩⟩
def libOk(w:Wd)(i:Nat)(e:En):Bool:=entOk w.sys e&&(i==0||match w.libs[i-1]? with
 |some p=>lessB p.src.name e.src.name
 |none=>false)
def tskOk(w:Wd)(i:Nat)(t:Tk):Bool:=inRange t.id 1 (w.next-1)&&((i==0||match w.tasks[i-1]? with
 |some p=>decide (p.id<t.id)
 |none=>false)&&mcOk w.sys t.mac)
def worldOk(w:Wd):Bool:=decide (w.libs.length≤6)&&(decide (w.tasks.length≤6)&&(inRange w.next 1 100000&&(sysOk w.sys&&(allI w.libs (libOk w)&&(allI w.tasks (tskOk w)&&(orderO (srcsL w.libs)).isSome)))))
theorem srcsL_eq(l:List En):srcsL l=l.map En.src:=mapT_all _ _
theorem c_impl_WorldOk[F:Facts.Of](w:Wd)(hs:w.sm)(hr:w.rm):Con PP 35 [w.av] [] [] (fun r o=>r=.sc (.bool (worldOk w))):=by
 have r1:=hr.libs
 have r2:=hr.tasks
 have u1:=c_impl_SysOk w.sys hs.sys hr.sys
 have u2:=c_impl_srcsOf w.libs r1
 simp only[Sy.av,srcRt]at u1 u2
 refine cof 108 Go.Proofs.Tryz.func35 fun G=>?_
 simp only[entSt,tmOf,List.append_nil,List.cons_append,List.nil_append,Wd.av]
 by_cases h1:w.libs.length≤6
 rotate_left
 ·have h1':(6:Int)<(w.libs.length:Int):=by omega
  have e:worldOk w=false:=by rw[worldOk,decide_eq_false h1,Bool.false_and]
  rw[e]
  refine go (L:=_∧True) (wa1 @h1') wb0 wb0 wb0 wb0 ⟨fun _=>?_,wb0⟩
  all_goals rfl
 by_cases h2:w.tasks.length≤6
 rotate_left
 ·have h1':¬(6:Int)<(w.libs.length:Int):=by omega
  have h2':(6:Int)<(w.tasks.length:Int):=by omega
  have e:worldOk w=false:=by rw[worldOk,decide_eq_false h2,Bool.false_and,Bool.and_false]
  rw[e]
  refine go (L:=_∧True) (wa2 @h1' @h2') wb0 wb0 wb0 wb0 ⟨fun _=>?_,wb0⟩
  all_goals rfl
 have h1':¬(6:Int)<(w.libs.length:Int):=by omega
 have h2':¬(6:Int)<(w.tasks.length:Int):=by omega
 cases h3:inRange w.next 1 100000 with
 |false =>
  have e:worldOk w=false:=by rw[worldOk,h3];simp
  rw[e]
  refine go (L:=_∧True) (wa3 @h1' @h2' @h3) (wb1 (fun v0 v1 v2 (_:True)=>c_impl_inRange v0 v1 v2)) wb0 wb0 wb0 ⟨fun _=>?_,wb0⟩
  all_goals rfl
 |true =>
 cases h4:sysOk w.sys with
 |false =>
  have e:worldOk w=false:=by rw[worldOk,h4];simp
  rw[e]
  refine go (L:=_∧True) (wa4 @h1' @h2' @h3 @h4) (wb2 (fun v0 v1 v2 (_:True)=>c_impl_inRange v0 v1 v2) (fun _=>u1)) wb0 wb0 wb0 ⟨fun _=>?_,wb0⟩
  all_goals rfl
 |true =>
 have e:worldOk w=(allI w.libs (libOk w)&&(allI w.tasks (tskOk w)&&(orderO (srcsL w.libs)).isSome)):=by
  rw[worldOk,decide_eq_true h1,decide_eq_true h2,h3,h4];simp only[Bool.true_and]
 rw[e]
 refine go (L:=_∧True) (wa4 @h1' @h2' @h3 @h4) (wb2 (fun v0 v1 v2 (_:True)=>c_impl_inRange v0 v1 v2) (fun _=>u1)) wb0 wb0 wb0 ⟨fun _=>?_,wb0⟩
 have hB:w.sys.insts.length≤1000000000:=hr.sys.insts
 refine WPc.loopV (σ:=Nat) (fun i=>i≤w.libs.length∧(∀j,(h:j<w.libs.length)→j<i→libOk w j w.libs[j]=true)) (fun i=>w.libs.length-i) (fun i=>[(34,.sc (.int .i64 i))]) (fun i=>[(1,42,7,[w.cs])]) [1,32,33] 0 (by simp[Wd.cs]) (by simp[Wd.cs]) (by simp) ?_
 rintro i ⟨hi,hall⟩ s hs
 simp at hs
 subst hs
 by_cases hlt:i<w.libs.length
 ·have u3:=c_impl_entOk w w.libs[i] (hs.libs _ (List.getElem_mem hlt)) (hr.libs1 _ (List.getElem_mem hlt)) hB h4
  simp only[Wd.cs,En.av]at u3
  have hb:i+1≤9223372036854775807:=by omega
  cases h5:entOk w.sys w.libs[i]with
  |false =>
   have e1:libOk w i w.libs[i]=false:=by rw[libOk,h5,Bool.false_and]
   rw[allI_at hlt e1,Bool.false_and]
   refine go (L:=_∧True) (wa4 @hlt @Wd.cs.eq_1 @En.cs.eq_1 @h5) (wb1 (fun _=>u3)) wb0 wb0 (wb2 wb0 (sch 6 [] [(0,[]),(1,[]),(2,[]),(3,[]),(4,[]),(5,[]),(6,[]),(7,[]),(8,[]),(9,[]),(10,[]),(11,[]),(12,[]),(13,[]),(14,[]),(15,[]),(16,[]),(17,[]),(18,[]),(19,[]),(20,[])])) ⟨fun _=>?_,wb0⟩
   all_goals rfl
  |true =>
   by_cases hi0:i=0
   ·subst hi0
    have e1:libOk w 0 w.libs[0]=true:=by rw[libOk,h5];rfl
    have e2:∀j,(h:j<w.libs.length)→j<1→libOk w j w.libs[j]=true:=fun j hj hji=>by
     obtain rfl:j=0:=by omega
     exact e1
    have wr1:IntKind.i64.wrap 1=1:=rfl
    refine go (L:=_∧True) (wa5 @hlt @Wd.cs.eq_1 @En.cs.eq_1 @h5 @wr1) (wb1 (fun _=>u3)) wb0 wb0 (wb2 wb0 (sch 6 [] [(0,[]),(1,[]),(2,[]),(3,[]),(4,[]),(5,[]),(6,[]),(7,[]),(8,[]),(9,[]),(10,[]),(11,[]),(12,[]),(13,[]),(14,[]),(15,[]),(16,[]),(17,[]),(18,[]),(19,[]),(20,[])])) ⟨fun _=>?_,wb0⟩
    refine⟨1,⟨⟨hlt,e2⟩,by first|omega|(simp only;omega)|assumption⟩,rfl,rfl,?_,?_⟩<;>simp (disch:=omega) [wrap64,Wd.cs,wr1]
   ·obtain⟨k,hk⟩:∃k,i=k+1:=⟨i-1,by omega⟩
    have c1:k<w.libs.length:=by omega
    have c2:0<i:=by omega
    have c3:IntKind.i64.wrap ((i:Int)-1)=(k:Int):=by rw[wrap64 (by omega) (by omega)];omega
    have hle:=leB w.libs[i].src.name w.libs[k].src.name
    have e1:libOk w i w.libs[i]=lessB w.libs[k].src.name w.libs[i].src.name:=by
     rw[libOk,h5,show i-1=k from by omega,List.getElem?_eq_getElem c1];simp[hi0]
    cases h6:lessB w.libs[k].src.name w.libs[i].src.name with
    |false =>
     rw[h6]at e1 hle
     rw[allI_at hlt e1,Bool.false_and]
     refine go (L:=_∧True) (wa9 @hlt @hb @c1 @c2 @c3 @Wd.cs.eq_1 @En.cs.eq_1 @h5 @hle) (wb1 (fun _=>u3)) wb0 wb0 (wb2 wb0 (sch 6 [] [(0,[]),(1,[]),(2,[]),(3,[]),(4,[]),(5,[]),(6,[]),(7,[]),(8,[]),(9,[]),(10,[]),(11,[]),(12,[]),(13,[]),(14,[]),(15,[]),(16,[]),(17,[]),(18,[]),(19,[]),(20,[])])) ⟨fun _=>?_,wb0⟩
     all_goals rfl
    |true =>
     rw[h6]at e1 hle
     refine go (L:=_∧True) (wa9 @hlt @hb @c1 @c2 @c3 @Wd.cs.eq_1 @En.cs.eq_1 @h5 @hle) (wb1 (fun _=>u3)) wb0 wb0 (wb2 wb0 (sch 6 [] [(0,[]),(1,[]),(2,[]),(3,[]),(4,[]),(5,[]),(6,[]),(7,[]),(8,[]),(9,[]),(10,[]),(11,[]),(12,[]),(13,[]),(14,[]),(15,[]),(16,[]),(17,[]),(18,[]),(19,[]),(20,[])])) ⟨fun _=>?_,wb0⟩
     refine⟨i+1,⟨⟨hlt,fun j hj hji=>(Nat.lt_succ_iff_lt_or_eq.1 hji).elim (hall j hj) (fun e=>by subst e;exact e1)⟩,by first|omega|(simp only;omega)|assumption⟩,rfl,rfl,?_,?_⟩<;>simp (disch:=omega) [wrap64,Wd.cs]
 ·obtain rfl:i=w.libs.length:=by omega
  have hI:allI w.libs (libOk w)=true:=allI_iff.2 fun j hj=>hall j hj hj
  clear hall
  rw[hI,Bool.true_and]
  refine go (L:=_∧True) (wa2 @hlt @Wd.cs.eq_1) wb0 wb0 wb0 wb0 ⟨fun _=>?_,wb0⟩
  refine WPc.loopV (σ:=Nat) (fun i=>i≤w.tasks.length∧(∀j,(h:j<w.tasks.length)→j<i→tskOk w j w.tasks[j]=true)) (fun i=>w.tasks.length-i) (fun i=>[(64,.sc (.int .i64 i))]) (fun i=>[(1,42,7,[w.cs])]) [1,62,63] 0 (by simp[Wd.cs]) (by simp[Wd.cs]) (by simp) ?_
  rintro i ⟨hi,hall⟩ s hs
  simp at hs
  subst hs
  by_cases hlt:i<w.tasks.length
  ·have u5:=(c_impl_machineOk w.sys w.tasks[i].mac (hs.tasks _ (List.getElem_mem hlt)).mac hr.sys.units hr.sys.units1).fpx [.fz (w.libs.map En.cs),.fz (w.tasks.map Tk.cs),.sc (.int .i64 w.next)]
   simp only[Sy.cs,Mc.av,List.cons_append,List.nil_append]at u5
   have hb:i+1≤9223372036854775807:=by omega
   have wr2:IntKind.i64.wrap (w.next-1)=w.next-1:=by
    simp only[inRange,Bool.and_eq_true,decide_eq_true_eq]at h3
    exact wrap64 (by omega) (by omega)
   cases h5:inRange w.tasks[i].id 1 (w.next-1) with
   |false =>
    have e1:tskOk w i w.tasks[i]=false:=by rw[tskOk,h5,Bool.false_and]
    rw[allI_at hlt e1,Bool.false_and]
    refine go (L:=_∧True) (wa5 @hlt @Wd.cs.eq_1 @Tk.cs.eq_1 @h5 @wr2) (wb1 (fun v0 v1 v2 (_:True)=>c_impl_inRange v0 v1 v2)) wb0 wb0 (wb2 wb0 (sch 12 [] ((0,[])::(1,[])::(2,[])::(3,[])::(4,[])::(5,[])::(6,[])::(7,[])::(8,[])::(9,[])::(10,[])::(11,[])::(12,[])::(13,[])::(14,[])::(15,[])::(16,[])::(17,[])::(18,[])::(19,[])::(20,[])::(21,[])::(22,[])::(23,[])::(24,[])::(25,[])::(26,[])::(27,[])::(28,[])::(29,[])::[]))) ⟨fun _=>?_,wb0⟩
    all_goals rfl
   |true =>
    by_cases hi0:i=0
    ·subst hi0
     have e1:tskOk w 0 w.tasks[0]=mcOk w.sys w.tasks[0].mac:=by rw[tskOk,h5];rfl
     have wr1:IntKind.i64.wrap 1=1:=rfl
     cases h6:mcOk w.sys w.tasks[0].mac with
     |false =>
      rw[h6]at e1
      rw[allI_at hlt e1,Bool.false_and]
      refine go (L:=_∧True) (wa7 @hlt @Wd.cs.eq_1 @Tk.cs.eq_1 @h5 @wr1 @wr2 @h6) (wb2 (fun v0 v1 v2 (_:True)=>c_impl_inRange v0 v1 v2) (fun _=>u5)) wb0 wb0 (wb2 wb0 (sch 12 [] ((0,[])::(1,[])::(2,[])::(3,[])::(4,[])::(5,[])::(6,[])::(7,[])::(8,[])::(9,[])::(10,[])::(11,[])::(12,[])::(13,[])::(14,[])::(15,[])::(16,[])::(17,[])::(18,[])::(19,[])::(20,[])::(21,[])::(22,[])::(23,[])::(24,[])::(25,[])::(26,[])::(27,[])::(28,[])::(29,[])::[]))) ⟨fun _=>?_,wb0⟩
      all_goals rfl
     |true =>
      rw[h6]at e1
      have e2:∀j,(h:j<w.tasks.length)→j<1→tskOk w j w.tasks[j]=true:=fun j hj hji=>by
       obtain rfl:j=0:=by omega
       exact e1
      refine go (L:=_∧True) (wa7 @hlt @Wd.cs.eq_1 @Tk.cs.eq_1 @h5 @wr1 @wr2 @h6) (wb2 (fun v0 v1 v2 (_:True)=>c_impl_inRange v0 v1 v2) (fun _=>u5)) wb0 wb0 (wb2 wb0 (sch 12 [] ((0,[])::(1,[])::(2,[])::(3,[])::(4,[])::(5,[])::(6,[])::(7,[])::(8,[])::(9,[])::(10,[])::(11,[])::(12,[])::(13,[])::(14,[])::(15,[])::(16,[])::(17,[])::(18,[])::(19,[])::(20,[])::(21,[])::(22,[])::(23,[])::(24,[])::(25,[])::(26,[])::(27,[])::(28,[])::(29,[])::[]))) ⟨fun _=>?_,wb0⟩
      refine⟨1,⟨⟨hlt,e2⟩,by first|omega|(simp only;omega)|assumption⟩,rfl,rfl,?_,?_⟩<;>simp (disch:=omega) [wrap64,Wd.cs,wr1]
    ·obtain⟨k,hk⟩:∃k,i=k+1:=⟨i-1,by omega⟩
     have c1:k<w.tasks.length:=by omega
     have c2:0<i:=by omega
     have c3:IntKind.i64.wrap ((i:Int)-1)=(k:Int):=by rw[wrap64 (by omega) (by omega)];omega
     have e1:tskOk w i w.tasks[i]=(decide (w.tasks[k].id<w.tasks[i].id)&&mcOk w.sys w.tasks[i].mac):=by
      rw[tskOk,h5,show i-1=k from by omega,List.getElem?_eq_getElem c1,show (i==0)=false from by simp[hi0]];simp
     by_cases h7:w.tasks[k].id<w.tasks[i].id
     rotate_left
     ·have h7':w.tasks[i].id≤w.tasks[k].id:=by omega
      rw[decide_eq_false h7,Bool.false_and]at e1
      rw[allI_at hlt e1,Bool.false_and]
      refine go (L:=_∧True) (wa10 @hlt @hb @c1 @c2 @c3 @Wd.cs.eq_1 @Tk.cs.eq_1 @h5 @wr2 @h7') (wb1 (fun v0 v1 v2 (_:True)=>c_impl_inRange v0 v1 v2)) wb0 wb0 (wb2 wb0 (sch 12 [] ((0,[])::(1,[])::(2,[])::(3,[])::(4,[])::(5,[])::(6,[])::(7,[])::(8,[])::(9,[])::(10,[])::(11,[])::(12,[])::(13,[])::(14,[])::(15,[])::(16,[])::(17,[])::(18,[])::(19,[])::(20,[])::(21,[])::(22,[])::(23,[])::(24,[])::(25,[])::(26,[])::(27,[])::(28,[])::(29,[])::[]))) ⟨fun _=>?_,wb0⟩
      all_goals rfl
     have h7':¬w.tasks[i].id≤w.tasks[k].id:=by omega
     rw[decide_eq_true h7,Bool.true_and]at e1
     cases h6:mcOk w.sys w.tasks[i].mac with
     |false =>
      rw[h6]at e1
      rw[allI_at hlt e1,Bool.false_and]
      refine go (L:=_∧True) (wa11 @hlt @hb @c1 @c2 @c3 @Wd.cs.eq_1 @Tk.cs.eq_1 @h5 @wr2 @h6 @h7') (wb2 (fun v0 v1 v2 (_:True)=>c_impl_inRange v0 v1 v2) (fun _=>u5)) wb0 wb0 (wb2 wb0 (sch 12 [] ((0,[])::(1,[])::(2,[])::(3,[])::(4,[])::(5,[])::(6,[])::(7,[])::(8,[])::(9,[])::(10,[])::(11,[])::(12,[])::(13,[])::(14,[])::(15,[])::(16,[])::(17,[])::(18,[])::(19,[])::(20,[])::(21,[])::(22,[])::(23,[])::(24,[])::(25,[])::(26,[])::(27,[])::(28,[])::(29,[])::[]))) ⟨fun _=>?_,wb0⟩
      all_goals rfl
     |true =>
      rw[h6]at e1
      refine go (L:=_∧True) (wa11 @hlt @hb @c1 @c2 @c3 @Wd.cs.eq_1 @Tk.cs.eq_1 @h5 @wr2 @h6 @h7') (wb2 (fun v0 v1 v2 (_:True)=>c_impl_inRange v0 v1 v2) (fun _=>u5)) wb0 wb0 (wb2 wb0 (sch 12 [] ((0,[])::(1,[])::(2,[])::(3,[])::(4,[])::(5,[])::(6,[])::(7,[])::(8,[])::(9,[])::(10,[])::(11,[])::(12,[])::(13,[])::(14,[])::(15,[])::(16,[])::(17,[])::(18,[])::(19,[])::(20,[])::(21,[])::(22,[])::(23,[])::(24,[])::(25,[])::(26,[])::(27,[])::(28,[])::(29,[])::[]))) ⟨fun _=>?_,wb0⟩
      refine⟨i+1,⟨⟨hlt,fun j hj hji=>(Nat.lt_succ_iff_lt_or_eq.1 hji).elim (hall j hj) (fun e=>by subst e;exact e1)⟩,by first|omega|(simp only;omega)|assumption⟩,rfl,rfl,?_,?_⟩<;>simp (disch:=omega) [wrap64,Wd.cs]
  ·obtain rfl:i=w.tasks.length:=by omega
   have hT:allI w.tasks (tskOk w)=true:=allI_iff.2 fun j hj=>hall j hj hj
   clear hall
   rw[hT,Bool.true_and]
   have sm:∀s,s∈srcsL w.libs→s.sm:=fun s hm=>by
    rw[srcsL_eq,List.mem_map]at hm
    obtain⟨x,hx,rfl⟩:=hm
    exact(hs.libs x hx).src
   have rm:∀s,s∈srcsL w.libs→s.rm:=fun s hm=>by
    rw[srcsL_eq,List.mem_map]at hm
    obtain⟨x,hx,rfl⟩:=hm
    exact(hr.libs1 x hx).src
   have hlen:=srcsL_len w.libs
   have d1:=dz_SrT hlen
   have u6:=c_impl_Order (srcsL w.libs) (by omega) sm rm
   cases hres:orderO (srcsL w.libs) with
   |none =>
    have g4:Con PP 77 [.fz ((srcsL w.libs).map Sr.cs)] [] [] (fun r o=>r=.tup [.sc (.slice none 0 0),.sc (.bool false)]):=by rw[hres]at u6;exact u6
    refine go (L:=_∧True) (wa5 @hlt @Wd.cs.eq_1 @d1 @hlen @srcsL_len) (wb1 (fun _=>g4)) (wb1 (fun _=>u2)) wb0 wb0 ⟨fun _=>?_,wb0⟩
    all_goals rfl
   |some y =>
    have g4:Con PP 77 [.fz ((srcsL w.libs).map Sr.cs)] [] [] (fun r o=>r=.tup [.sl 900009 1 [] 0 y.length,.sc (.bool true)]∧o=[(900009,strR y)]):=by rw[hres]at u6;exact u6
    simp only[strR]at g4
    refine go (L:=_∧True) (wa5 @hlt @Wd.cs.eq_1 @d1 @hlen @srcsL_len) wb0 (wb2 (fun _=>u2) (fun _=>g4)) wb0 wb0 ⟨fun _=>?_,wb0⟩
    all_goals rfl
end Go.Own
namespace Go.Own
variable [Laid]
open Go.Lib Go.RowKit
theorem cellAt_in{h:List Cl}{n k:Int}(e:cellAt h n k=true):0≤n∧n<(h.length:Int):=by
 unfold cellAt at e
 rw[Bool.and_eq_true,decide_eq_true_eq]at e
 obtain⟨e1,e2⟩:=e
 refine⟨e1,?_⟩
 by_cases hlt:n.toNat<h.length
 ·omega
 ·rw[List.getElem?_eq_none (by omega)]at e2;cases e2
theorem valueOk_in{h:List Cl}{v:V}(e:valueOk h v=true):inV h.length v:=by
 intro hk
 unfold valueOk at e
 split at e
 ·rename_i h4;rw[h4]at hk;exact absurd rfl hk
 ·rw[Bool.and_eq_true]at e
  have e:=e.2
  split at e
  ·rename_i h4;rw[h4]at hk;exact absurd rfl hk
  ·split at e
   ·rename_i h4;rw[h4]at hk;exact absurd rfl hk
   ·split at e
    ·rename_i h4;rw[h4]at hk;exact absurd rfl hk
    ·rw[Bool.and_eq_true]at e;exact cellAt_in e.2
theorem vOk0_in{h:List Cl}{v:V}(e:vOk0 h v=true):inV h.length v:=by
 unfold vOk0 at e
 rw[Bool.or_eq_true,decide_eq_true_eq]at e
 rcases e with rfl|e
 ·intro hk;exact absurd rfl hk
 ·exact valueOk_in e
theorem isNode_in{y:Sy}{u n:Int}(e:isNode y u n=true):0≤u∧u<(y.units.length:Int):=by
 unfold isNode nodeAt at e
 simp only[Bool.and_eq_true,decide_eq_true_eq]at e
 refine⟨e.1.1,?_⟩
 by_cases hlt:u.toNat<y.units.length
 ·have:=e.1.1;omega
 ·have e2:=e.2
  rw[List.getElem?_eq_none (by omega)]at e2;cases e2
theorem inRange_in{n:Int}{k:Nat}(e:inRange n 0 ((k:Int)-1)=true):0≤n∧n<(k:Int):=by
 simp only[inRange,Bool.and_eq_true,decide_eq_true_eq]at e
 omega
theorem sysOk_in{w:Wd}(e:sysOk w.sys=true):inW w:=by
 simp only[sysOk,Bool.and_eq_true]at e
 obtain⟨e1,e2,e3,e4,e5,e6,e7⟩:=e
 refine⟨fun c hc=>⟨fun v hv=>?_,fun hk=>?_⟩,fun x hx=>⟨fun v hv=>?_,fun l hl=>?_⟩,fun u hu=>?_⟩
 ·simp only[heapOk,Bool.and_eq_true]at e4
  obtain⟨i,hi,rfl⟩:=List.mem_iff_getElem.1 hc
  have:=List.all_eq_true.1 e4.2 i (List.mem_range.2 hi)
  rw[okI_eq hi]at this
  simp only[okAt,Bool.and_eq_true]at this
  exact valueOk_in (List.all_eq_true.1 this.1.2 v hv)
 ·have:=List.all_eq_true.1 e7 c hc
  simp only[celOk,isLam,hk,Bool.or_eq_true,decide_eq_true_eq,Bool.and_eq_true]at this
  rcases this with h|h
  ·exact absurd rfl h
  ·exact isNode_in h.1
 ·obtain⟨i,hi,rfl⟩:=List.mem_iff_getElem.1 hx
  have:=allI_iff.1 e5 i hi
  simp only[inOk,Bool.and_eq_true]at this
  exact vOk0_in (List.all_eq_true.1 this.2.1 v hv)
 ·obtain⟨i,hi,rfl⟩:=List.mem_iff_getElem.1 hx
  have:=allI_iff.1 e5 i hi
  simp only[inOk,Bool.and_eq_true]at this
  have h2:=this.2.2.2.2.1
  simp only[lksOk,Bool.and_eq_true]at h2
  have h3:=List.all_eq_true.1 h2.1 l hl
  simp only[lkGood,Bool.and_eq_true]at h3
  exact inRange_in h3.2.1
 ·have:=List.all_eq_true.1 e6 u hu
  simp only[unOk,Bool.and_eq_true]at this
  exact inRange_in this.1
theorem envOk_in{y:Sy}{l:List Bd}(e:envOk y l=true):∀x,x∈l→inV y.heap.length x.val:=fun x hx=>by
 have:=List.all_eq_true.1 e x hx
 simp only[Bool.and_eq_true]at this
 exact valueOk_in this.2
theorem mcOk_in{w:Wd}{m:Mc}(e:mcOk w.sys m=true):inM (zW w) m:=by
 simp only[mcOk,Bool.and_eq_true]at e
 obtain⟨e1,e2,e3,e4,e5,e6,e7⟩:=e
 refine⟨isNode_in e3,envOk_in e5,?_,fun f hf=>?_⟩
 ·split at e7
  ·rw[decide_eq_true_eq]at e7;rw[e7];intro hk;exact absurd rfl hk
  ·split at e7
   ·exact valueOk_in e7
   ·exact vOk0_in e7
 ·have:=List.all_eq_true.1 e6 f hf
  simp only[fmOk,Bool.and_eq_true]at this
  exact⟨isNode_in this.1,fun v hv=>valueOk_in (List.all_eq_true.1 this.2.1 v hv),envOk_in this.2.2.1⟩
theorem worldOk_in{w:Wd}(e:worldOk w=true):sysOk w.sys=true∧inW w∧inT w:=by
 simp only[worldOk,Bool.and_eq_true]at e
 obtain⟨e1,e2,e3,e4,e5,e6,e7⟩:=e
 refine⟨e4,sysOk_in e4,?_,fun x hx=>?_,fun t ht=>?_⟩
 ·simp only[sysOk,inRange,Bool.and_eq_true,decide_eq_true_eq]at e4
  omega
 ·obtain⟨i,hi,rfl⟩:=List.mem_iff_getElem.1 hx
  have:=allI_iff.1 e5 i hi
  simp only[libOk,entOk,Bool.and_eq_true]at this
  exact inRange_in this.1.2.2.1
 ·obtain⟨i,hi,rfl⟩:=List.mem_iff_getElem.1 ht
  have:=allI_iff.1 e6 i hi
  simp only[tskOk,Bool.and_eq_true]at this
  exact mcOk_in this.2.2
end Go.Own
set_option maxRecDepth 1000000
set_option maxHeartbeats 4000000
namespace Go.Own
attribute [local irreducible] WPc WPL WPS WPS1 WPS2 HAny endP
variable [Laid]
open Go.Lib Go.RowKit
theorem c_spec_l13Srcs(w:Wd)(h1:w.libs.length≤1000000000):Con PP 63 [w.av] [] [] (fun r o=>r=.sl 900009 6 [] 0 w.libs.length∧o=[(900009,srcRt (srcsL w.libs))]):=by
 refine cof 23 Go.Proofs.Tryz.func63 fun G=>?_
 simp only[entSt,tmOf,List.append_nil,List.cons_append,List.nil_append,Wd.av]
 refine go (L:=_∧True) wb0 wb0 wb0 wb0 wb0 ⟨fun _=>?_,wb0⟩
 refine WPc.renC 5 900001 fun K hK=>?_
 simp -implicitDefEqProofs
 refine hK _ ?_;clear hK K
 refine WPc.loopV (σ:=Nat) (fun i=>i≤w.libs.length) (fun i=>w.libs.length-i) (fun i=>[(4,.sc (.int .i64 i)),(3,.sl 900001 6 [] 0 i)]) (fun i=>[(900001,110,6,(mapT En.src w.libs i).map Sr.cs),(1,42,7,[w.cs])]) [1] 0 (by simp[mapT_zero,Wd.cs]) (by simp[mapT_zero,Wd.cs]) (by simp) ?_
 rintro i hi s hs
 simp at hs
 subst hs
 by_cases hlt:i<w.libs.length
 ·have hb1:(i+1)*136≤140737488355328:=by omega
  have hb2:i+1≤9223372036854775807:=by omega
  have hn:=mapT_next En.src hlt
  have hll:=mapT_len En.src hi
  refine go (L:=_∧True) (wa6 @En.cs.eq_1 @Wd.cs.eq_1 @hlt @hb1 @hb2 @hll) wb0 wb0 wb0 wb0 ⟨fun _=>?_,wb0⟩
  refine⟨i+1,⟨hlt,by first|omega|(simp only;omega)|assumption⟩,rfl,rfl,?_,?_⟩<;>simp (disch:=omega) [wrap64,hn,Sr.cs,Wd.cs]
 ·obtain rfl:i=w.libs.length:=by omega
  refine gox (L:=_∧True) (wa2 @hlt @Wd.cs.eq_1) wb0 wb0 wb0 (wb2 (outs [900009]) (nm 6 [900001,900009])) ⟨fun _=>?_,wb0⟩
  all_goals (simp[srcRt,srcsL])
theorem c_spec_l8Name(x:In)(s:ByteArray)(h1:x.names.length≤1000000000):Con PP 61 [x.av,.sc (.string s)] [] [] (fun r o=>r=.sc (.int .i64 (fidx x.names s 0))):=by
 refine cof 21 Go.Proofs.Tryz.func61 fun G=>?_
 simp only[entSt,tmOf,List.append_nil,List.cons_append,List.nil_append,In.av]
 refine go (L:=_∧True) wb0 wb0 wb0 wb0 wb0 ⟨fun _=>?_,wb0⟩
 refine WPc.loopV (σ:=Nat) (fun i=>i≤x.names.length∧isW (x.names.take i) s=false) (fun i=>x.names.length-i) (fun i=>[(5,.sc (.int .i64 i))]) (fun i=>[(2,83,6,[x.cs])]) [1,2] 0 (by simp[In.cs]) (by simp[In.cs]) (⟨by omega,by simp[isW]⟩) ?_
 rintro i ⟨hi,hn⟩ s hs
 simp at hs
 subst hs
 by_cases hlt:i<x.names.length
 ·have hb:i+1≤9223372036854775807:=by omega
  by_cases he:s=x.names[i]
  ·have:=fidx_hit (k:=0) hlt hn he
   have he':(x.names[i]=s)=True:=by simp[he]
   rw[this]
   refine go (L:=_∧True) (wa5 @sC.eq_1 @In.cs.eq_1 @hlt @hb @he') wb0 wb0 wb0 wb0 ⟨fun _=>?_,wb0⟩
   all_goals rfl
  ·have he':(x.names[i]=s)=False:=by simp;exact fun e=>he e.symm
   refine go (L:=_∧True) (wa5 @sC.eq_1 @In.cs.eq_1 @hlt @hb @he') wb0 wb0 wb0 wb0 ⟨fun _=>?_,wb0⟩
   all_goals
    refine⟨i+1,⟨⟨hlt,isW_next hlt hn he⟩,by first|omega|(simp only;omega)|assumption⟩,rfl,rfl,?_,?_⟩<;>simp (disch:=omega) [wrap64,In.cs]
 ·obtain rfl:i=x.names.length:=by omega
  rw[List.take_length]at hn
  rw[fidx_none hn]
  refine go (L:=_∧True) (wa2 @hlt @In.cs.eq_1) wb0 wb0 wb0 wb0 ⟨fun _=>?_,wb0⟩
  all_goals rfl
end Go.Own
set_option maxRecDepth 1000000
set_option maxHeartbeats 4000000
namespace Go.Own
attribute [local irreducible] WPc WPL WPS WPS1 WPS2 HAny endP
variable [Laid]
open Go.Lib Go.RowKit
theorem isName_ne{s:ByteArray}(h:isName s=true):s≠⟨#[]⟩:=by
 intro e
 subst e
 revert h
 decide
theorem c_spec_l12At(l:List Sr)(s:ByteArray):Con PP 199 [.fz (l.map Sr.cs),.sc (.string s)] [] [] (fun r o=>r=.sc (.int .i64 (fidx (srNm l) s 0))):=by
 refine Con.lenOf 0 Go.Proofs.Tryz.func199 (by kernel_rfl) (by kernel_rfl) rfl fun hlen=>?_
 simp at hlen
 refine cof 20 Go.Proofs.Tryz.func199 fun G=>?_
 simp only[entSt,tmOf,List.append_nil,List.cons_append,List.nil_append]
 refine go (L:=_∧True) wb0 wb0 wb0 wb0 wb0 ⟨fun _=>?_,wb0⟩
 refine WPc.loopK (σ:=Nat) (fun i=>i≤l.length∧isW ((srNm l).take i) s=false) (fun i=>l.length-i) (fun i=>[(5,.sc (.int .i64 i))]) [0,1] 0 (by simp) (by simp) (⟨by omega,by simp[isW]⟩) ?_
 rintro i ⟨hi,hn⟩ s hs
 simp at hs
 subst hs
 by_cases hlt:i<l.length
 ·have hlt2:i<(srNm l).length:=by rw[srNm_len];exact hlt
  have hg:=srNm_get hlt
  by_cases he:s=l[i].name
  ·have:=fidx_hit (k:=0) hlt2 hn (by rw[hg];exact he)
   have he':(l[i].name=s)=True:=by simp[he]
   rw[this]
   refine go (L:=_∧True) (wa3 @Sr.cs.eq_1 @hlt @he') wb0 wb0 wb0 wb0 ⟨fun _=>?_,wb0⟩
   all_goals rfl
  ·have he':(l[i].name=s)=False:=by simp;exact fun x=>he x.symm
   refine go (L:=_∧True) (wa3 @Sr.cs.eq_1 @hlt @he') wb0 wb0 wb0 wb0 ⟨fun _=>?_,wb0⟩
   all_goals
    refine⟨i+1,⟨⟨hlt,isW_next hlt2 hn (by rw[hg];exact he)⟩,by first|omega|(simp only;omega)|assumption⟩,rfl,rfl,?_,?_⟩<;>simp (disch:=omega) [wrap64]
 ·obtain rfl:i=l.length:=by omega
  rw[List.take_of_length_le (by rw[srNm_len];omega)]at hn
  rw[fidx_none hn]
  refine go (L:=_∧True) (wa1 @hlt) wb0 wb0 wb0 wb0 ⟨fun _=>?_,wb0⟩
  all_goals rfl
theorem srNm_take(l:List Sr)(i:Nat):srNm (l.take i)=(srNm l).take i:=by
 unfold srNm
 rw[mapT_all,mapT_all,List.map_take]
theorem c_spec_l12At_tk(l:List Sr)(i:Nat)(s:ByteArray):Con PP 199 [.fz (List.take i (l.map Sr.cs)),.sc (.string s)] [] [] (fun r o=>r=.sc (.int .i64 (fidx ((srNm l).take i) s 0))):=by
 rw[←List.map_take,←srNm_take];exact c_spec_l12At _ s
theorem c_spec_l12All(l all:List ByteArray):Con PP 200 [.fz (l.map sC),.fz (all.map sC)] [] [] (fun r o=>r=.sc (.bool (inAll l all))):=by
 refine Con.lenOf 0 Go.Proofs.Tryz.func200 (by kernel_rfl) (by kernel_rfl) rfl fun hlen=>?_
 simp at hlen
 refine cof 19 Go.Proofs.Tryz.func200 fun G=>?_
 simp only[entSt,tmOf,List.append_nil,List.cons_append,List.nil_append]
 refine go (L:=_∧True) wb0 wb0 wb0 wb0 wb0 ⟨fun _=>?_,wb0⟩
 refine WPc.loopK (σ:=Nat) (fun i=>i≤l.length∧(l.take i).all (isW all)=true) (fun i=>l.length-i) (fun i=>[(5,.sc (.int .i64 i))]) [0,1] 0 (by simp) (by simp) (by simp) ?_
 rintro i ⟨hi,hall⟩ s hs
 simp at hs
 subst hs
 by_cases hlt:i<l.length
 ·have hv:=List.getElem?_eq_getElem hlt
  cases hw:isW all l[i]with
  |true =>
   refine go (L:=_∧True) (wa3 @sC.eq_1 @hlt @hw) (wb1 (fun v0 v1 (_:True)=>c_spec_l3In v0 v1)) wb0 wb0 wb0 ⟨fun _=>?_,wb0⟩
   all_goals
    refine⟨i+1,⟨⟨hlt,all_next hv hw hall⟩,by first|omega|(simp only;omega)|assumption⟩,rfl,rfl,?_,?_⟩<;>simp (disch:=omega) [wrap64]
  |false =>
   rw[inAll,all_at hv hw]
   refine go (L:=_∧True) (wa3 @sC.eq_1 @hlt @hw) (wb1 (fun v0 v1 (_:True)=>c_spec_l3In v0 v1)) wb0 wb0 wb0 ⟨fun _=>?_,wb0⟩
   all_goals rfl
 ·obtain rfl:i=l.length:=by omega
  rw[List.take_length]at hall
  rw[inAll,hall]
  refine go (L:=_∧True) (wa1 @hlt) wb0 wb0 wb0 wb0 ⟨fun _=>?_,wb0⟩
  all_goals rfl
theorem fidx_neg{l:List ByteArray}{s:ByteArray}(h:isW l s=false):(fidx l s 0<0)=True:=by rw[fidx_none h];simp
theorem fidx_pos{l:List ByteArray}{s:ByteArray}(h:isW l s=true):(fidx l s 0<0)=False:=by have:=fidx_ge (k:=0) h;simp;omega
theorem fidx_le{l:List ByteArray}{s:ByteArray}(h:isW l s=true):(0≤fidx l s 0)=True:=by have:=fidx_ge (k:=0) h;simp;omega
theorem fidx_nle{l:List ByteArray}{s:ByteArray}(h:isW l s=false):(0≤fidx l s 0)=False:=by rw[fidx_none h];simp
theorem c_spec_l12Ok(l:List Sr)(hs:∀s,s∈l→s.sm)(hr:∀s,s∈l→s.rm):Con PP 125 [.fz (l.map Sr.cs)] [] [] (fun r o=>r=.sc (.bool (ordOk l))):=by
 rw[ordOk_eq]
 refine Con.lenOf 0 Go.Proofs.Tryz.func125 (by kernel_rfl) (by kernel_rfl) rfl fun hlen=>?_
 simp at hlen
 refine cof 50 Go.Proofs.Tryz.func125 fun G=>?_
 simp only[entSt,tmOf,List.append_nil,List.cons_append,List.nil_append]
 refine go (L:=_∧True) wb0 wb0 wb0 wb0 wb0 ⟨fun _=>?_,wb0⟩
 refine WPc.loopK (σ:=Nat) (fun i=>i≤l.length∧(∀j,(h:j<l.length)→j<i→okS l j l[j]=true)) (fun i=>l.length-i) (fun i=>[(3,.sc (.int .i64 i))]) [0] 0 (by simp) (by simp) (by simp) ?_
 rintro i ⟨hi,hall⟩ s hs
 simp at hs
 subst hs
 by_cases hlt:i<l.length
 ·have rI:=(hr _ (List.getElem_mem hlt)).imports
  have g1:=c_spec_SrcOk l[i] (hs _ (List.getElem_mem hlt)) (hr _ (List.getElem_mem hlt))
  simp only[Sr.av]at g1
  have g2:=c_spec_l12At_tk l i l[i].name
  cases hw:srcOk l[i]with
  |false =>
   rw[allI_at hlt (by rw[okS,hw,Bool.false_and])]
   refine go (L:=_∧True) (wa4 @hlt @hw @hi @Sr.cs.eq_1) (wb1 (fun _=>g1)) wb0 wb0 (wb2 wb0 (sch 4 [] [(0,[]),(1,[]),(2,[]),(3,[]),(4,[]),(5,[]),(6,[]),(7,[]),(8,[]),(9,[]),(10,[]),(11,[]),(12,[]),(13,[]),(14,[]),(15,[]),(16,[]),(17,[])])) ⟨fun _=>?_,wb0⟩
   all_goals rfl
  |true =>
   cases hw2:isW ((srNm l).take i) l[i].name with
   |true =>
    rw[allI_at hlt (by rw[okS,hw2];simp)]
    have f1:=fidx_le hw2
    refine go (L:=_∧True) (wa5 @hlt @hw @hi @f1 @Sr.cs.eq_1) (wb2 (fun _=>g1) (fun _=>g2)) wb0 wb0 (wb2 wb0 (sch 4 [] [(0,[]),(1,[]),(2,[]),(3,[]),(4,[]),(5,[]),(6,[]),(7,[]),(8,[]),(9,[]),(10,[]),(11,[]),(12,[]),(13,[]),(14,[]),(15,[]),(16,[]),(17,[])])) ⟨fun _=>?_,wb0⟩
    all_goals rfl
   |false =>
    have f1:=fidx_nle hw2
    refine go (L:=_∧True) (wa5 @hlt @hw @hi @f1 @Sr.cs.eq_1) (wb2 (fun _=>g1) (fun _=>g2)) wb0 wb0 (wb2 wb0 (sch 4 [] [(0,[]),(1,[]),(2,[]),(3,[]),(4,[]),(5,[]),(6,[]),(7,[]),(8,[]),(9,[]),(10,[]),(11,[]),(12,[]),(13,[]),(14,[]),(15,[]),(16,[]),(17,[])])) ⟨fun _=>?_,wb0⟩
    refine WPc.loopK (σ:=Nat) (fun k=>k≤l[i].imports.length∧(l[i].imports.take k).all (isW (srNm l))=true) (fun k=>l[i].imports.length-k) (fun k=>[(4,.sc (.int .i64 k))]) [0,3] 0 (by simp) (by simp) (by simp) ?_
    rintro k ⟨hk,hka⟩ s hs
    simp at hs
    subst hs
    by_cases hlt2:k<l[i].imports.length
    ·have hv:=List.getElem?_eq_getElem hlt2
     have g3:=c_spec_l12At l l[i].imports[k]
     cases hw3:isW (srNm l) l[i].imports[k]with
     |true =>
      have f2:=fidx_pos hw3
      refine go (L:=_∧True) (wa5 @hlt @hlt2 @f2 @sC.eq_1 @Sr.cs.eq_1) (wb1 (fun _=>g3)) wb0 wb0 wb0 ⟨fun _=>?_,wb0⟩
      refine⟨k+1,⟨⟨hlt2,all_next hv hw3 hka⟩,by first|omega|(simp only;omega)|assumption⟩,rfl,rfl,?_,?_⟩<;>simp (disch:=omega) [wrap64]
     |false =>
      rw[allI_at hlt (by rw[okS,inAll,all_at hv hw3];simp)]
      have f2:=fidx_neg hw3
      refine go (L:=_∧True) (wa5 @hlt @hlt2 @f2 @sC.eq_1 @Sr.cs.eq_1) (wb1 (fun _=>g3)) wb0 wb0 wb0 ⟨fun _=>?_,wb0⟩
      all_goals rfl
    ·obtain rfl:k=l[i].imports.length:=by omega
     rw[List.take_length]at hka
     have hok:okS l i l[i]=true:=by rw[okS,hw,hw2,inAll,hka];rfl
     refine go (L:=_∧True) (wa3 @hlt @hlt2 @Sr.cs.eq_1) wb0 wb0 wb0 wb0 ⟨fun _=>?_,wb0⟩
     refine⟨i+1,⟨⟨hlt,fun j hj hji=>(Nat.lt_succ_iff_lt_or_eq.1 hji).elim (hall j hj) (fun e=>by subst e;exact hok)⟩,by first|omega|(simp only;omega)|assumption⟩,rfl,rfl,?_,?_⟩<;>simp (disch:=omega) [wrap64]
 obtain rfl:i=l.length:=by omega
 have e:allI l (okS l)=true:=allI_iff.2 fun j hj=>hall j hj hj
 rw[e]
 refine go (L:=_∧True) (wa1 @hlt) wb0 wb0 wb0 wb0 ⟨fun _=>?_,wb0⟩
 all_goals rfl
end Go.Own
set_option maxRecDepth 1000000
set_option maxHeartbeats 4000000
namespace Go.Own
attribute [local irreducible] WPc WPL WPS WPS1 WPS2 HAny endP
variable [Laid]
open Go.Lib Go.RowKit
def AtS(b:Option ByteArray)(t:ByteArray):Prop:=match b with
 |none=>t=⟨#[]⟩
 |some n=>t=n∧n≠⟨#[]⟩
def ordQ(res:Option (List ByteArray))(r:AV)(o:List (Nat×Root)):Prop:=match res with
 |some y=>r=.tup [.sl 900009 1 [] 0 y.length,.sc (.bool true)]∧o=[(900009,strR y)]
 |none=>r=.tup [.sl 900009 1 [] 0 0,.sc (.bool false)]∧o=[(900009,strR [])]
theorem l12Order_con(l:List Sr)(h1:l.length≤1000000000)(hne:∀s,s∈l→s.name≠⟨#[]⟩)(res:Option (List ByteArray))(hres:ordL l l.length []=res) :
  Con PP 126 [.fz (l.map Sr.cs)] [] [] (ordQ res):=by
 refine cof 56 Go.Proofs.Tryz.func126 fun G=>?_
 simp only[entSt,tmOf,List.append_nil,List.cons_append,List.nil_append]
 refine go (L:=_∧True) wb0 wb0 wb0 wb0 wb0 ⟨fun _=>?_,wb0⟩
 refine WPc.renC 8 900001 fun K hK=>?_
 simp -implicitDefEqProofs
 refine hK _ ?_;clear hK K
 refine WPc.loopV (σ:=List ByteArray) (fun out=>out.length≤l.length∧ordL l (l.length-out.length) out=res) (fun out=>l.length-out.length) (fun out=>[(4,.sl 900001 1 [] 0 out.length)]) (fun out=>[(900001,9,1,out.map sC)]) [0] ([]:List ByteArray) (by simp) (by simp) (⟨by simp,by simpa using hres⟩) ?_
 rintro out ⟨ho,hord⟩ s hs
 simp at hs
 subst hs
 have hdz:dzLL (List.take out.length (out.map sC))=out.map sC:=dz_S rfl
 by_cases hlt:out.length<l.length
 ·have hlt':((out.length:Int)<(l.length:Int))=True:=by simp;omega
  obtain⟨f,hf⟩:∃f,l.length-out.length=f+1:=⟨l.length-out.length-1,by omega⟩
  rw[hf,ordL]at hord
  have hb1:(out.length+1)*16≤140737488355328:=by omega
  have hb2:out.length+1≤9223372036854775807:=by omega
  refine go (L:=_∧True) (wa2 @hlt' @hlt) wb0 wb0 wb0 wb0 ⟨fun _=>?_,wb0⟩
  refine WPc.loopV (σ:=Nat×ByteArray) (fun y=>y.1≤l.length∧AtS (bestOf l out y.1) y.2) (fun y=>l.length-y.1) (fun y=>[(6,.sc (.int .i64 y.1)),(5,.sc (.string y.2))]) (fun y=>[(900001,9,1,out.map sC)]) [0,4] (0,⟨#[]⟩) (by simp) (by simp) (⟨by simp,rfl⟩) ?_
  rintro⟨i,t⟩ ⟨hi,hat⟩ s hs
  simp at hs
  subst hs
  dsimp only at hi hat ⊢
  by_cases hlt2:i<l.length
  ·have hn:=bestOf_next (out:=out) hlt2
   have hz:=hne _ (List.getElem_mem hlt2)
   have g1:=c_spec_l3In out l[i].name
   have g2:=c_spec_l12All l[i].imports out
   cases hc:isW out l[i].name with
   |true =>
    rw[mayCome,hc]at hn
    simp only[Bool.not_true,Bool.false_and,Bool.false_eq_true,if_false]at hn
    refine go (L:=_∧True) (wa4 @hlt2 @hc @hdz @Sr.cs.eq_1) (wb1 (fun _=>g1)) wb0 wb0 wb0 ⟨fun _=>?_,wb0⟩
    refine⟨(i+1,t),⟨⟨hlt2,by rw[hn];exact hat⟩,by first|omega|(simp only;omega)|assumption⟩,rfl,rfl,?_,?_⟩<;>simp (disch:=omega) [wrap64]
   |false =>
    cases hm:inAll l[i].imports out with
    |false =>
     rw[mayCome,hc,hm]at hn
     simp only[Bool.and_false,Bool.false_eq_true,if_false]at hn
     refine go (L:=_∧True) (wa5 @hlt2 @hc @hm @hdz @Sr.cs.eq_1) (wb2 (fun _=>g1) (fun _=>g2)) wb0 wb0 wb0 ⟨fun _=>?_,wb0⟩
     refine⟨(i+1,t),⟨⟨hlt2,by rw[hn];exact hat⟩,by first|omega|(simp only;omega)|assumption⟩,rfl,rfl,?_,?_⟩<;>simp (disch:=omega) [wrap64]
    |true =>
     rw[mayCome,hc,hm]at hn
     simp only[Bool.not_false,Bool.true_and,if_true]at hn
     cases hb:bestOf l out i with
     |none =>
      rw[hb]at hat hn
      have hk:t=⟨#[]⟩:=hat
      subst hk
      refine go (L:=_∧True) (wa5 @hlt2 @hc @hm @hdz @Sr.cs.eq_1) (wb2 (fun _=>g1) (fun _=>g2)) wb0 wb0 wb0 ⟨fun _=>?_,wb0⟩
      refine⟨(i+1,l[i].name),⟨⟨hlt2,by rw[hn];exact⟨rfl,hz⟩⟩,by first|omega|(simp only;omega)|assumption⟩,rfl,rfl,?_,?_⟩<;>simp (disch:=omega) [wrap64]
     |some n =>
      rw[hb]at hat hn
      obtain⟨k0,k1⟩:=hat
      subst k0
      have k1':(t=⟨#[]⟩)=False:=by simp[k1]
      dsimp only at hn
      cases hl:lessB l[i].name t with
      |true =>
       rw[hl,if_pos rfl]at hn
       refine go (L:=_∧True) (wa7 @hlt2 @hc @hm @hdz @Sr.cs.eq_1 @k1' @hl) (wb2 (fun _=>g1) (fun _=>g2)) wb0 wb0 wb0 ⟨fun _=>?_,wb0⟩
       refine⟨(i+1,l[i].name),⟨⟨hlt2,by rw[hn];exact⟨rfl,hz⟩⟩,by first|omega|(simp only;omega)|assumption⟩,rfl,rfl,?_,?_⟩<;>simp (disch:=omega) [wrap64]
      |false =>
       rw[hl,if_neg (by simp)]at hn
       refine go (L:=_∧True) (wa7 @hlt2 @hc @hm @hdz @Sr.cs.eq_1 @k1' @hl) (wb2 (fun _=>g1) (fun _=>g2)) wb0 wb0 wb0 ⟨fun _=>?_,wb0⟩
       refine⟨(i+1,t),⟨⟨hlt2,by rw[hn];exact⟨rfl,k1⟩⟩,by first|omega|(simp only;omega)|assumption⟩,rfl,rfl,?_,?_⟩<;>simp (disch:=omega) [wrap64]
  ·obtain rfl:i=l.length:=by omega
   cases hb:bestOf l out l.length with
   |none =>
    rw[hb]at hat hord
    have hk:t=⟨#[]⟩:=hat
    subst hk
    subst hord
    refine gox (L:=_∧True) (wa1 @hlt2) wb0 wb0 wb0 (wb2 (outs [900009]) (nm 6 [50,900009])) ⟨fun _=>?_,wb0⟩
    all_goals (simp[ordQ,strR])
   |some n =>
    rw[hb]at hat hord
    obtain⟨k0,k1⟩:=hat
    subst k0
    have k1':(t=⟨#[]⟩)=False:=by simp[k1]
    dsimp only at hord
    have hm:l.length-(out++[t]).length<l.length-out.length:=by rw[List.length_append,List.length_singleton];omega
    refine go (L:=_∧True) (wa5 @hlt2 @Sr.cs.eq_1 @k1' @hb1 @hb2) wb0 wb0 wb0 wb0 ⟨fun _=>?_,wb0⟩
    refine⟨out++[t],⟨⟨by simp;omega,by rw[List.length_append,List.length_singleton,show l.length-(out.length+1)=f by omega];exact hord⟩,by first|omega|(simp only;omega)|assumption⟩,rfl,rfl,?_,?_⟩<;>simp (disch:=omega) [wrap64,sC]
 ·have hlt':((out.length:Int)<(l.length:Int))=False:=by simp;omega
  rw[show l.length-out.length=0 by omega,ordL]at hord
  subst hord
  refine gox (L:=_∧True) (wa2 @hlt' @hlt) wb0 wb0 wb0 (wb2 (outs [900009]) (nm 6 [900001,900009])) ⟨fun _=>?_,wb0⟩
  all_goals (simp[ordQ,strR])
theorem c_spec_Order(l:List Sr)(h1:l.length≤1000000000)(hs:∀s,s∈l→s.sm)(hr:∀s,s∈l→s.rm):Con PP 62 [.fz (l.map Sr.cs)] [] [] (ordQ (orderO l)):=by
 have u1:=c_spec_l12Ok l hs hr
 cases ho:ordOk l with
 |false =>
  rw[ho]at u1
  rw[order_no ho]
  refine cof 17 Go.Proofs.Tryz.func62 fun G=>?_
  simp only[entSt,tmOf,List.append_nil,List.cons_append,List.nil_append]
  refine gox (L:=_∧True) wb0 (wb1 (fun _=>u1)) wb0 wb0 (wb2 (outs [900009]) (nm 6 [9,900009])) ⟨fun _=>?_,wb0⟩
  all_goals (simp[ordQ,strR])
 |true =>
  rw[ho]at u1
  rw[order_yes ho]
  have hne:∀s,s∈l→s.name≠⟨#[]⟩:=fun s hsm=>by
   rw[ordOk,Bool.and_eq_true]at ho
   have:=List.all_eq_true.1 ho.1 s hsm
   simp only[Bool.and_eq_true]at this
   have h2:=this.1
   rw[srcOk]at h2
   simp only[Bool.and_eq_true]at h2
   exact isName_ne h2.1.1
  cases hres:ordL l l.length []with
  |none =>
   have g4:Con PP 126 [.fz (l.map Sr.cs)] [] [] (fun r o=>r=.tup [.sl 900009 1 [] 0 0,.sc (.bool false)]∧o=[(900009,strR [])]):=l12Order_con l h1 hne none hres
   simp only[strR]at g4
   refine cof 17 Go.Proofs.Tryz.func62 fun G=>?_
   simp only[entSt,tmOf,List.append_nil,List.cons_append,List.nil_append]
   refine gox (L:=_∧True) wb0 (wb1 (fun _=>u1)) (wb1 (fun _=>g4)) wb0 (wb2 (outs [900009]) (nm 6 [12,900009])) ⟨fun _=>?_,wb0⟩
   all_goals (simp[ordQ,strR])
  |some y =>
   have g4:Con PP 126 [.fz (l.map Sr.cs)] [] [] (fun r o=>r=.tup [.sl 900009 1 [] 0 y.length,.sc (.bool true)]∧o=[(900009,strR y)]):=l12Order_con l h1 hne (some y) hres
   simp only[strR]at g4
   refine cof 17 Go.Proofs.Tryz.func62 fun G=>?_
   simp only[entSt,tmOf,List.append_nil,List.cons_append,List.nil_append]
   refine gox (L:=_∧True) wb0 (wb1 (fun _=>u1)) (wb1 (fun _=>g4)) wb0 (wb2 (outs [900009]) (nm 6 [12,900009])) ⟨fun _=>?_,wb0⟩
   all_goals (simp[ordQ,strR])
end Go.Own
