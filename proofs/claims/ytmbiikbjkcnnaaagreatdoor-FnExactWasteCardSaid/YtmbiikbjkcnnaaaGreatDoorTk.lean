import Derived.Test.YtmbiikbjkcnnaaaGreatDoorTj
import Derived.Deep.Slices
import Derived.ChangeArms
/- Lemmas for the proof in the last text of this claim. -/
set_option linter.unusedVariables false
set_option linter.unusedSimpArgs false
set_option linter.unusedSectionVars false
set_option maxRecDepth 1000000
set_option maxHeartbeats 8000000
namespace Go.Own
attribute [local irreducible] WPc WPL WPS WPS1 WPS2 HAny endP
variable [Laid]
open Go.Lib Go.RowKit
theorem c_laws_FnExactWaste[F:Facts.Of](w:Wd)(tw:w.tx):Con PP 3 [w.av] [] [] (fun r o=>r=.sc (.bool true)):=by
 have u1:=c_laws_szWorld w 1048576 (by omega) (by omega) tw
 by_cases g1:(costWd w:Int)≤1048576
 ·have e1:szR 1048576 (costWd w)=1048576-costWd w:=szR_ok g1
  rw[e1]at u1
  obtain⟨s1,r1⟩:=smallWd (c:=w) (by omega)
  have u3:=c_laws_toWorld w r1
  have u5:=c_spec_Waste w s1 r1
  have u6:=c_impl_Waste w s1 r1
  have u7:=c_laws_eqWorld w
  simp only[Wd.av]at u1 u3 u5 u6 u7
  generalize wasteW w=b at u5 u6
  clear tw s1 r1
  refine cof 27 Go.Proofs.Tryz.func3 fun G=>?_
  simp only[entSt,tmOf,List.append_nil,List.cons_append,List.nil_append,Wd.av]
  refine gox (L:=_∧True) (wa1 @Wd.ow.eq_1) (wb4 (fun _=>u1) (fun _=>u5) (fun _=>u6) (fun _=>u7)) (wb1 (fun _=>u3)) wb0 (wb8 wb0 (nm 1 [16,16,900001,0,0]) (nm 1 [16,16,900002,0,1]) (nm 1 [16,16,900003,0,2]) (nm 1 [16,16,900004,0,3]) (nm 1 [16,16,900005,0,4]) (nm 1 [16,16,900006,0,5]) (sch 10 [(2,[24,1024,2024])] [(0,[24,1024,2024]),(1,[]),(2,[24,1024,2024]),(3,[]),(4,[])])) ⟨fun _ hq=>?_,wb0⟩
  all_goals first|rfl|(exfalso;omega)|(simp_all;done)
 ·have e1:szR 1048576 (costWd w) = -1:=szR_no (by omega)
  rw[e1]at u1
  simp only[Wd.av]at u1
  refine cof 27 Go.Proofs.Tryz.func3 fun G=>?_
  simp only[entSt,tmOf,List.append_nil,List.cons_append,List.nil_append,Wd.av]
  refine go (L:=_∧True) (wa1 @Wd.av.eq_1) (wb1 (fun _=>u1)) wb0 wb0 wb0 ⟨fun _=>?_,wb0⟩
  all_goals first|rfl|(exfalso;omega)|(simp_all;done)
end Go.Own
namespace Go.Own
open Go.ChangeShapes Go.WideShapes Go.Deep
variable {H:Type}{enc:TypeId×Value→H}{P:Program}{w:World}{base:Nat}{spare:Nat→Bool}{held:Bool}{av:Nat→Prop}
theorem add_zero_eq(a:Addr):a.add 0=a:=by simp[Addr.add]
theorem fr_slice{α:Type}(g:α→List C)(good:α→Prop){k:Nat}(hk:∀a,(g a).length=k)(h0:0<k)(hav:∀b,av b){t e fuel:Nat}{v:Value}{x:DataW H×List MemPlace}
  (ht:P.underlying t=some (.slice e)) (hc:P.cellsOf e=k)
  (hel:∀n cs D,cs.length=k→DataW.trod enc P w base spare held n e cs=some D→∃a:α,good a∧∀(j:Nat) (y:C),(g a)[j]?=some y→∃u,cs[j]?=some u∧FR av w y u)
  (h:DataW.trod enc P w base spare held fuel t [v]=some x):∃l:List α,(∀a,a∈l→good a)∧FR av w (.fz (l.map g)) v:=by
 rcases open_slice ht h with ⟨h1,_⟩|⟨ad,len,cap,m,n,D,Pl,h1,hb,hl,hm,hmm,_,hx⟩
 ·obtain rfl:v=.slice none 0 0:=by simpa using h1
  exact⟨[],by simp,.fzE none 0⟩
 ·obtain rfl:v=.slice (some ad) len cap:=by simpa using h1
  have hlm:len≤m:=by rw[hmm];split<;>omega
  by_cases hz:len=0
  ·subst hz
   exact⟨[],by simp,.fzE (some ad) cap⟩
  rw[hc]at hx
  have hel2:∀i:Fin len,∃a:α,good a∧∀(j:Nat) (y:C),(g a)[j]?=some y→∃u,w.cell? ((ad.add (i*k)).add j)=some u∧FR av w y u:=fun i=>by
   obtain⟨cs,g1,g2⟩:=hx i (by omega)
   obtain⟨_,g3,g4⟩:=World.cells?_some g1
   obtain⟨a,ha,hr⟩:=hel n cs _ g3 g2
   refine⟨a,ha,fun j y hj=>?_⟩
   obtain⟨u,hu,hf⟩:=hr j y hj
   have hjk:j<k:=by rw[←hk a];exact(List.getElem?_eq_some_iff.1 hj).1
   exact⟨u,by rw[g4 j hjk,hu],hf⟩
  have hsp:ad.spot=none:=by
   obtain⟨cs,g1,g2⟩:=hx 0 (by omega)
   obtain⟨_,g3,g4⟩:=World.cells?_some g1
   have:=g4 0 h0
   rw[Nat.zero_mul,add_zero_eq,add_zero_eq,List.getElem?_eq_getElem (by omega)]at this
   unfold World.cell? at this
   split at this
   ·split at this
    ·simp at this
    ·rename_i hs;simpa using hs
   ·simp at this
  obtain⟨b,o,sp⟩:=ad
  dsimp only at hsp
  subst hsp
  refine⟨List.ofFn fun i=>Classical.choose (hel2 i),fun a ha=>?_,?_⟩
  ·obtain⟨i,rfl⟩:=List.mem_ofFn.1 ha
   exact(Classical.choose_spec (hel2 i)).1
  ·have key:∀(i j:Nat) (r:List C) (y:C),((List.ofFn fun i=>Classical.choose (hel2 i)).map g)[i]?=some r→r[j]?=some y→∃u,w.cell? ⟨b,o+i*k+j,none⟩=some u∧FR av w y u:=fun i j r y hi hj=>by
    rw[List.getElem?_map,Option.map_eq_some_iff]at hi
    obtain⟨a,ha,rfl⟩:=hi
    obtain⟨hlt,he⟩:=List.getElem?_eq_some_iff.1 ha
    rw[List.getElem_ofFn]at he
    have hi2:i<len:=by simpa using hlt
    obtain⟨u,hu,hf⟩:=(Classical.choose_spec (hel2 ⟨i,hi2⟩)).2 j y (by rw[he];exact hj)
    refine⟨u,?_,hf⟩
    rw[add_plain,add_plain]at hu
    exact hu
   have hlen:((List.ofFn fun i=>Classical.choose (hel2 i)).map g).length=len:=by simp
   have:=FR.fzN (av:=av) (w:=w) ((List.ofFn fun i=>Classical.choose (hel2 i)).map g) b o k cap (fun i j=>(w.cell? ⟨b,o+i*k+j,none⟩).getD undef) (fun h=>by rw[h]at hlen;simp at hlen;omega) h0 (hav b)
    (fun r hr=>by obtain⟨a,_,rfl⟩:=List.mem_map.1 hr;exact hk a) ⟨by rw[hlen];exact hl,hm⟩
    (fun i j r y hi hj=>by obtain⟨u,hu,_⟩:=key i j r y hi hj;rw[hu];rfl)
    (fun i j r y hi hj=>by obtain⟨u,hu,hf⟩:=key i j r y hi hj;rw[hu];exact hf)
   rw[hlen]at this
   exact this
end Go.Own
