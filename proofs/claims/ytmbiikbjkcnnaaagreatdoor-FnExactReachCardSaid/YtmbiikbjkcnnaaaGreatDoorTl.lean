import Derived.Test.YtmbiikbjkcnnaaaGreatDoorTk
/- Lemmas for the proof in the last text of this claim. -/
set_option linter.unusedVariables false
set_option linter.unusedSimpArgs false
set_option linter.unusedSectionVars false
set_option maxRecDepth 1000000
set_option maxHeartbeats 4000000
namespace Go.Own
attribute [local irreducible] WPc WPL WPS WPS1 WPS2 HAny endP
variable [Laid]
open Go.Lib Go.RowKit
def mt(k:Int):ByteArray:=if k≤0 then ⟨#[109,48]⟩ else ⟨#[109]⟩++dec k
theorem c_laws_markText(k:Int)(h1:k≤9223372036854775807):Con PP 103 [.sc (.int .i64 k)] [] [] (fun r o=>r=.sc (.string (mt k))):=by
 by_cases hk:k≤0
 ·refine cof 20 Go.Proofs.Tryz.func103 fun G=>?_
  simp only[entSt,tmOf,List.append_nil,List.cons_append,List.nil_append]
  refine go (L:=_∧True) (wa1 @hk) wb0 wb0 wb0 wb0 ⟨fun _=>?_,wb0⟩
  all_goals (simp[mt,hk])
 have hdiv:∀m out,DecI k m out→IntKind.i64.wrap (m.tdiv 10)=m.tdiv 10:=fun m out hI=>by
  have:=hI.le
  have h2:(m.tdiv 10).natAbs=m.natAbs / 10:=by rw[Int.natAbs_tdiv];rfl
  have:=hI.pos (by omega)
  have:=Int.tdiv_nonneg this (show (0:Int)≤10 by omega)
  exact wrap64 (by omega) (by omega)
 refine cof 20 Go.Proofs.Tryz.func103 fun G=>?_
 simp only[entSt,tmOf,List.append_nil,List.cons_append,List.nil_append]
 refine go (L:=_∧True) (wa1 @hk) wb0 wb0 wb0 wb0 ⟨fun _=>?_,wb0⟩
 refine WPc.loopK (σ:=Int×ByteArray) (fun x=>DecI k x.1 x.2) (fun x=>x.1.natAbs) (fun x=>[(0,.sc (.int .i64 x.1)),(3,.sc (.string x.2))]) [] (k,⟨#[]⟩) (by simp) (by simp) (⟨by simp[ddig];omega,by simp,fun h=>by dsimp only;omega,by simp,by simp[ByteArray.size]⟩) ?_
 rintro⟨m,out⟩ hI s hs
 simp at hs
 subst hs
 have hs:=hI.sz
 dsimp only at hs hI
 have hp:=hI.pos (by omega)
 by_cases hm:m=0
 ·subst hm
  have s1:SAdd ⟨#[109]⟩ out:=by unfold SAdd;have:(⟨#[109]⟩:ByteArray).size=1:=rfl;omega
  have he:=hI.eq
  simp only[ddig,if_true,List.nil_append]at he
  have hd:dec k=out:=by
   unfold dec itoa
   rw[if_neg (by omega),show k.toNat=k.natAbs by omega,he]
  refine go (L:=_∧True) (wa1 @s1) wb0 wb0 wb0 wb0 ⟨fun _=>?_,wb0⟩
  all_goals (simp only[mt,if_neg hk,hd])
 ·have hm2:0<m:=by omega
  have s1:∀c:Int,SAdd (strOfNums [c]) out:=fun c=>by unfold SAdd;rw[strOfNums_size];simp;omega
  have hb:=digit_byte m
  have hg:¬m.tmod 10<0:=by have:=Int.tmod_nonneg 10 (show 0≤m by omega);omega
  rw[if_neg hg]at hb
  have hn:=hI.next (by omega) hm
  have hmm:(m.tdiv 10).natAbs<m.natAbs:=by rw[Int.natAbs_tdiv];show m.natAbs / 10<_;omega
  refine go (L:=_∧True) (wa2 @hm2 @s1) wb0 wb0 wb0 wb0 ⟨fun _=>?_,wb0⟩
  all_goals
   refine⟨(m.tdiv 10,nextD m out),⟨hn,by first|omega|(simp only;omega)|assumption⟩,rfl,rfl,?_,?_⟩<;>simp (disch:=omega) [wrap64,nextD,hb,hdiv _ _ hI]
def over(new old:List (List C))(i:Nat):List (List C):=new.take i++old.drop i
section
variable {new old:List (List C)}{i:Nat}
theorem over_zero:over new old 0=old:=by simp[over]
theorem over_all(h:new.length=old.length):over new old old.length=new:=by simp[over,List.take_of_length_le (Nat.le_of_eq h)]
theorem over_len(h:new.length=old.length):(over new old i).length=old.length:=by simp[over];omega
theorem over_get(h:new.length=old.length)(hi:i<old.length):(over new old i)[i]?=some old[i]:=by
 unfold over
 rw[List.getElem?_append_right (by simp;omega),List.getElem?_drop]
 simp only[List.length_take,Nat.min_eq_left (show i≤new.length by omega),Nat.sub_self,Nat.add_zero]
 exact List.getElem?_eq_getElem hi
theorem over_ge(h:new.length=old.length)(hi:i<old.length)(p:i<(over new old i).length):(over new old i)[i]=old[i]:=by
 have:=over_get (new:=new) h hi
 rw[List.getElem?_eq_getElem p]at this
 exact Option.some.inj this
theorem over_next{g:List C→List C}(h:new.length=old.length)(hi:i<old.length)(hg:new[i]?=some (g old[i])):(over new old i).modify i g=over new old (i+1):=by
 apply List.ext_getElem?
 intro j
 rw[List.getElem?_modify]
 by_cases hj:i=j
 ·subst hj
  rw[over_get h hi]
  unfold over
  rw[List.getElem?_append_left (by simp;omega),List.getElem?_take_of_lt (by omega),hg]
  simp
 ·simp only[hj,if_false]
  unfold over
  by_cases h1:j<i
  ·rw[List.getElem?_append_left (by simp;omega),List.getElem?_append_left (by simp;omega),List.getElem?_take_of_lt h1,List.getElem?_take_of_lt (by omega)]
   simp
  ·rw[List.getElem?_append_right (by simp;omega),List.getElem?_append_right (by simp;omega),List.getElem?_drop,List.getElem?_drop]
   simp only[List.length_take,Nat.min_eq_left (show i≤new.length by omega),Nat.min_eq_left (show i+1≤new.length by omega),Option.map_eq_map,Option.map_id']
   rw[show i+(j-i)=j by omega,show i+1+(j-(i+1))=j by omega]
end
def marksS(k:Int)(n:Nat):List ByteArray:=(List.range n).map fun i=>mt (k+(i:Nat))
theorem marksS_len(k:Int)(n:Nat):(marksS k n).length=n:=by simp[marksS]
theorem c_laws_markStringS(l:List ByteArray)(k:Int)(h1 : -1000000000000≤k)(h2:k≤1000000000000)(h3:l.length≤1000000000):Con PP 102 [.sl 0 1 [] 0 l.length,.sc (.int .i64 k)] [(0,9,1,l.map sC)] [0] (fun r o=>r=.sc (.int .i64 (k+l.length))∧o=[(0,9,1,(marksS k l.length).map sC)]):=by
 have hm:((marksS k l.length).map sC).length=(l.map sC).length:=by simp[marksS]
 refine cof 20 Go.Proofs.Tryz.func102 fun G=>?_
 simp only[entSt,tmOf,List.append_nil,List.cons_append,List.nil_append]
 refine go (L:=_∧True) wb0 wb0 wb0 wb0 wb0 ⟨fun _=>?_,wb0⟩
 refine WPc.loopV (σ:=Nat) (fun i=>i≤l.length) (fun i=>l.length-i) (fun i=>[(5,.sc (.int .i64 i)),(1,.sc (.int .i64 (k+i)))]) (fun i=>[(0,9,1,over ((marksS k l.length).map sC) (l.map sC) i)]) [0,20] 0 (by simp[over_zero]) (by simp[over_zero]) (by simp) ?_
 rintro i hi s hs
 simp at hs
 subst hs
 by_cases hlt:i<l.length
 ·have hl:=over_len (i:=i) hm
  have hge:=over_ge (i:=i) hm (by simpa using hlt)
  have hn:=over_next (i:=i) (g:=fun r=>r.set 0 (.sc (.string (mt (k+i))))) hm (by simpa using hlt) (by simp[marksS,sC,hlt])
  simp only[List.length_map,List.getElem_map]at hl hge
  refine go (L:=_∧True) (wa4 @sC.eq_1 @hlt @hl @hge) (wb1 (fun v0 (h:_)=>c_laws_markText v0 h)) wb0 wb0 wb0 ⟨fun _=>?_,wb0⟩
  refine⟨i+1,⟨hlt,by first|omega|(simp only;omega)|assumption⟩,rfl,rfl,?_,?_⟩<;>simp (disch:=omega) [wrap64,hn]
  all_goals (refine fit_int ?_;omega)
 ·obtain rfl:i=l.length:=by omega
  have ha:=over_all hm
  simp only[List.length_map]at ha
  refine gox (L:=_∧_∧True) wb0 wb0 wb0 wb0 (wb1 (outO [(0,9,1,(marksS k l.length).map sC)])) ⟨fun _=>?_,fun _=>?_,wb0⟩
  ·simp[ha]
  ·exact⟨rfl,rfl⟩
def markV(k:Int):V:=⟨k,k+1,mt (k+2)⟩
def marksV(k:Int)(n:Nat):List V:=(List.range n).map fun i=>markV (k+3*(i:Nat))
theorem marksV_len(k:Int)(n:Nat):(marksV k n).length=n:=by simp[marksV]
theorem c_laws_markValueS(l:List V)(k:Int)(h1 : -1000000000000≤k)(h2:k≤1000000000000)(h3:l.length≤1000000000):Con PP 169 [.sl 0 3 [] 0 l.length,.sc (.int .i64 k)] [(0,115,3,l.map V.cs)] [0] (fun r o=>r=.sc (.int .i64 (k+3*l.length))∧o=[(0,115,3,(marksV k l.length).map V.cs)]):=by
 have hm:((marksV k l.length).map V.cs).length=(l.map V.cs).length:=by simp[marksV]
 refine cof 35 Go.Proofs.Tryz.func169 fun G=>?_
 simp only[entSt,tmOf,List.append_nil,List.cons_append,List.nil_append]
 refine go (L:=_∧True) wb0 wb0 wb0 wb0 wb0 ⟨fun _=>?_,wb0⟩
 refine WPc.loopV (σ:=Nat) (fun i=>i≤l.length) (fun i=>l.length-i) (fun i=>[(5,.sc (.int .i64 i)),(1,.sc (.int .i64 (k+3*(i:Nat))))]) (fun i=>[(0,115,3,over ((marksV k l.length).map V.cs) (l.map V.cs) i)]) [0,35] 0 (by simp[over_zero]) (by simp[over_zero]) (by simp) ?_
 rintro i hi s hs
 simp at hs
 subst hs
 by_cases hlt:i<l.length
 ·have hl:=over_len (i:=i) hm
  have hge:=over_ge (i:=i) hm (by simpa using hlt)
  have hn:(((over ((marksV k l.length).map V.cs) (l.map V.cs) i).modify i fun r=>r.set 0 (.sc (.int .i64 (k+3*(i:Nat))))).modify i fun r=>r.set 1 (.sc (.int .i64 (k+3*(i:Nat)+1)))).modify i (fun r=>r.set 2 (.sc (.string (mt (k+3*(i:Nat)+2)))))=over ((marksV k l.length).map V.cs) (l.map V.cs) (i+1):=by
   rw[List.modify_modify_eq,List.modify_modify_eq]
   exact over_next hm (by simpa using hlt) (by simp[marksV,markV,V.cs,hlt])
  simp only[List.length_map,List.getElem_map]at hl hge
  have e1:IntKind.i64.wrap (k+3*(i:Nat)+1)=k+3*(i:Nat)+1:=wrap64 (by omega) (by omega)
  have e2:IntKind.i64.wrap (k+3*(i:Nat)+1+1)=k+3*(i:Nat)+2:=by rw[wrap64 (by omega) (by omega)];omega
  have e3:IntKind.i64.wrap (k+3*(i:Nat)+2+1)=k+3*(i:Nat)+3:=by rw[wrap64 (by omega) (by omega)];omega
  refine go (L:=_∧True) (wa7 @V.cs.eq_1 @hlt @hl @hge @e1 @e2 @e3) (wb1 (fun v0 (h:_)=>c_laws_markText v0 h)) wb0 wb0 wb0 ⟨fun _=>?_,wb0⟩
  refine⟨i+1,⟨hlt,by first|omega|(simp only;omega)|assumption⟩,rfl,rfl,?_,?_⟩<;>simp (disch:=omega) [wrap64,hn]
  all_goals (refine fit_int ?_;omega)
 ·obtain rfl:i=l.length:=by omega
  have ha:=over_all hm
  simp only[List.length_map]at ha
  refine gox (L:=_∧_∧True) wb0 wb0 wb0 wb0 (wb1 (outO [(0,115,3,(marksV k l.length).map V.cs)])) ⟨fun _=>?_,fun _=>?_,wb0⟩
  ·simp[ha]
  ·exact⟨rfl,rfl⟩
end Go.Own
namespace Go.Own
variable {P:Program}{tt:Nat→Option TI}{st:St}{o:Oper}[Laid]
theorem Val.boolEq(tok:TOk P tt){t t2:Nat}{x y:Operand}{p q:Bool}{op:BinOp}{T:List Nat}(hop:op=.eql∨op=.neq)(ho:o.op=.binOp op t x y t2)(hk:kd tt t=some .bool)(hx:ev st x=.sc (.bool p))(hy:ev st y=.sc (.bool q)) :
  Val P o st (.sc (.bool (if op=.eql then decide (p=q) else decide (p≠q)))) T:=by
 intro β a w hev huq hob
 obtain⟨d,g1,rfl⟩:=tok.kd hk
 have hv:=hev x
 have hv2:=hev y
 rw[hx]at hv
 rw[hy]at hv2
 have h1:=hv.sc_inv
 have h2:=hv2.sc_inv
 refine⟨_,fun w2 _=>?_,.sc _⟩
 have e1:(Op.equal t (.bool p) (.bool q)).run P w2=.ok (p==q) w2:=run_eqBool g1 9999 p q
 rcases hop with rfl|rfl
 ·simp[execOp,ho,h1,h2,eqGuard,binOp,e1];cases p<;>cases q<;>rfl
 ·simp[execOp,ho,h1,h2,eqGuard,binOp,e1];cases p<;>cases q<;>rfl
theorem WPS.boolC(tok:TOk P tt){ops:Array Oper}{l:List (Nat×List Nat)}{k:Nat}{T:List Nat}{Ψ:St→Prop}{op:BinOp}{d t t2 tid:Nat}{x y:Operand}{pos:String}{af:Array Edge}
  (ho:ops[k]?=some { dst:=some d,op:=.binOp op t x y t2,type:=tid,pos:=pos,after:=af,guard:=none })
  (h:∀K:St→Prop,(∀s,WPS P ops l s Ψ→K s)→∃s,boolS tt st d op t x y=some s∧K s):WPS P ops ((k,T)::l) st Ψ:=by
 obtain⟨s,h1,h2⟩:=h (fun s=>WPS P ops l s Ψ) fun _ h=>h
 simp only[boolS]at h1
 split at h1
 ·rename_i p q hk hx hy
  split at h1
  ·rename_i hd
   have hdk:dstOk st { dst:=some d,op:=.binOp op t x y t2,type:=tid,pos:=pos,after:=af,guard:=none }=true:=by simpa[dstOk]using hd
   split at h1
   ·injection h1 with h1
    subst h1
    exact WPS.take ho rfl hdk (.inl ⟨rfl,Val.boolEq tok (.inl rfl) rfl hk hx hy⟩) h2
   ·injection h1 with h1
    subst h1
    exact WPS.take ho rfl hdk (.inl ⟨rfl,Val.boolEq tok (.inr rfl) rfl hk hx hy⟩) h2
   ·cases h1
  ·cases h1
 ·cases h1
end Go.Own
set_option maxRecDepth 1000000
set_option maxHeartbeats 4000000
namespace Go.Own
attribute [local irreducible] WPc WPL WPS WPS1 WPS2 HAny endP
variable [Laid]
open Go.Lib Go.RowKit
theorem c_laws_eqBoolS(l:List Bool):Con PP 43 [.fz (l.map boC),.fz (l.map boC)] [] [] (fun r o=>r=.sc (.bool true)):=by
 refine Con.lenOf 0 Go.Proofs.Tryz.func43 (by kernel_rfl) (by kernel_rfl) rfl fun hlen=>?_
 simp at hlen
 refine cof 26 Go.Proofs.Tryz.func43 fun G=>?_
 simp only[entSt,tmOf,List.append_nil,List.cons_append,List.nil_append]
 refine go (L:=_∧True) wb0 wb0 wb0 wb0 wb0 ⟨fun _=>?_,wb0⟩
 refine WPc.loopK (σ:=Nat) (fun i=>i≤l.length) (fun i=>l.length-i) (fun i=>[(5,.sc (.int .i64 i))]) [0,1] 0 (by simp) (by simp) (by simp) ?_
 rintro i hi s hs
 simp at hs
 subst hs
 by_cases hlt:i<l.length
 ·repeat' (first
   |(refine WPS.boolC tok (ho:=rfl) fun K hK=>?_;simp -implicitDefEqProofs +contextual [-Int.not_le,-Int.not_lt,-Nat.not_le,-Nat.not_lt,-List.all_eq_true,-List.all_eq_false,-List.any_eq_true,-List.any_eq_false,boC,hlt];(repeat1' (first|apply hK|apply And.intro|intro _))<;>clear hK K)
   |((first|refine WPS.rnTo tok 25 _ (by simp;rfl) fun K hK=>?_|refine WPc.rq tok rfl fun K hK=>?_);simp -implicitDefEqProofs +contextual [-Int.not_le,-Int.not_lt,-Nat.not_le,-Nat.not_lt,-List.all_eq_true,-List.all_eq_false,-List.any_eq_true,-List.any_eq_false,boC,hlt];(repeat1' (first|apply hK|apply And.intro|intro _))<;>clear hK K<;>(try dsimp only[List.drop]))
   |apply WPc.sq
   |apply WPc.block
   |apply WPc.skip
   |(refine WPc.sched (id:=6) tok [] [(0,[]),(1,[]),(2,[]),(3,[]),(4,[]),(5,[]),(6,[]),(7,[]),(8,[])] (by kernel_rfl) ?_)
   |(refine WPS.nil ?_)
   |(refine WPc.condT ?_ ?_;(focus(simp;done)))
   |(refine WPc.condF ?_ ?_;(focus(simp;done))))
  all_goals
   refine⟨i+1,⟨hlt,by first|omega|(simp only;omega)|assumption⟩,rfl,rfl,?_,?_⟩<;>simp (disch:=omega) [wrap64]
 ·refine go (L:=_∧True) (wa1 @hlt) wb0 wb0 wb0 wb0 ⟨fun _=>?_,wb0⟩
  all_goals rfl
theorem c_laws_eqLive(a b c:List Bool):Con PP 16 [.agg [.fz (a.map boC),.fz (b.map boC),.fz (c.map boC)],.agg [.fz (a.map boC),.fz (b.map boC),.fz (c.map boC)]] [] [] (fun r o=>r=.sc (.bool true)):=by
 refine cof 23 Go.Proofs.Tryz.func16 fun G=>?_
 simp only[entSt,tmOf,List.append_nil,List.cons_append,List.nil_append]
 refine go (L:=_∧True) wb0 (wb1 (fun v0 (_:True)=>c_laws_eqBoolS v0)) wb0 wb0 wb0 ⟨fun _=>?_,wb0⟩
 all_goals rfl
def m3(k:Int):Bool:=decide (k.tmod 3=0)
def marksB(k:Int)(n:Nat):List Bool:=(List.range n).map fun i=>m3 (k+(i:Nat))
theorem marksB_len(k:Int)(n:Nat):(marksB k n).length=n:=by simp[marksB]
theorem marksB_get(k:Int)(n i:Nat)(hi:i<(marksB k n).length):(marksB k n)[i]=m3 (k+i):=by simp[marksB]
theorem c_laws_markBoolS(l:List Bool)(k:Int)(h1 : -1000000000000≤k)(h2:k≤1000000000000)(h3:l.length≤1000000000):Con PP 47 [.sl 0 1 [] 0 l.length,.sc (.int .i64 k)] [(0,4,1,l.map boC)] [0] (fun r o=>r=.sc (.int .i64 (k+l.length))∧o=[(0,4,1,(marksB k l.length).map boC)]):=by
 have hm:((marksB k l.length).map boC).length=(l.map boC).length:=by simp[marksB]
 refine cof 21 Go.Proofs.Tryz.func47 fun G=>?_
 simp only[entSt,tmOf,List.append_nil,List.cons_append,List.nil_append]
 refine go (L:=_∧True) wb0 wb0 wb0 wb0 wb0 ⟨fun _=>?_,wb0⟩
 refine WPc.loopV (σ:=Nat) (fun i=>i≤l.length) (fun i=>l.length-i) (fun i=>[(5,.sc (.int .i64 i)),(1,.sc (.int .i64 (k+i)))]) (fun i=>[(0,4,1,over ((marksB k l.length).map boC) (l.map boC) i)]) [0,21] 0 (by simp[over_zero]) (by simp[over_zero]) (by simp) ?_
 rintro i hi s hs
 simp at hs
 subst hs
 by_cases hlt:i<l.length
 ·have hl:=over_len (i:=i) hm
  have hge:=over_ge (i:=i) hm (by simpa using hlt)
  have hn:=over_next (i:=i) (g:=fun r=>r.set 0 (.sc (.bool (m3 (k+i))))) hm (by simpa using hlt) (by simp[marksB,boC,hlt])
  simp only[List.length_map,List.getElem_map]at hl hge
  refine go (L:=_∧True) (wa5 @boC.eq_1 @hlt @hl @hge @m3.eq_1) wb0 wb0 wb0 wb0 ⟨fun _=>?_,wb0⟩
  refine⟨i+1,⟨hlt,by first|omega|(simp only;omega)|assumption⟩,rfl,rfl,?_,?_⟩<;>simp (disch:=omega) [wrap64,hn]
  all_goals first|(refine fit_int ?_;omega)|(simp only[m3]at hn;exact .inl hn)
 ·obtain rfl:i=l.length:=by omega
  have ha:=over_all hm
  simp only[List.length_map]at ha
  refine gox (L:=_∧_∧True) wb0 wb0 wb0 wb0 (wb1 (outO [(0,4,1,(marksB k l.length).map boC)])) ⟨fun _=>?_,fun _=>?_,wb0⟩
  ·simp[ha]
  ·exact⟨rfl,rfl⟩
theorem c_laws_heldBoolS(n:Nat)(k:Int)(h1 : -1000000000000≤k)(h2:k≤1000000000000)(h3:n≤1000000000):Con PP 48 [.fz ((marksB k n).map boC),.sc (.int .i64 k)] [] [] (fun r o=>r=.sc (.int .i64 (k+n))):=by
 have hml:=marksB_len k n
 refine cof 23 Go.Proofs.Tryz.func48 fun G=>?_
 simp only[entSt,tmOf,List.append_nil,List.cons_append,List.nil_append]
 refine go (L:=_∧True) wb0 wb0 wb0 wb0 wb0 ⟨fun _=>?_,wb0⟩
 refine WPc.loopK (σ:=Nat) (fun i=>i≤n) (fun i=>n-i) (fun i=>[(5,.sc (.int .i64 i)),(1,.sc (.int .i64 (k+i)))]) [0] 0 (by simp) (by simp) (by simp) ?_
 rintro i hi s hs
 simp at hs
 subst hs
 by_cases hlt:i<n
 ·have hg:=marksB_get k n i
  repeat' (first
   |(refine WPL.boolC tok fun K hK=>?_;simp -implicitDefEqProofs +contextual [-Int.not_le,-Int.not_lt,-Nat.not_le,-Nat.not_lt,-List.all_eq_true,-List.all_eq_false,-List.any_eq_true,-List.any_eq_false,boC,hlt,hml,hg,m3];(repeat1' (first|apply hK|apply And.intro|intro _))<;>clear hK K)
   |((first|refine WPL.rnTo tok 19 _ (by simp[isFn];rfl) fun K hK=>?_|refine WPc.rq tok rfl fun K hK=>?_);simp -implicitDefEqProofs +contextual [-Int.not_le,-Int.not_lt,-Nat.not_le,-Nat.not_lt,-List.all_eq_true,-List.all_eq_false,-List.any_eq_true,-List.any_eq_false,boC,hlt,hml,hg,m3];(repeat1' (first|apply hK|apply And.intro|intro _))<;>clear hK K<;>(try dsimp only[List.drop]))
   |apply WPc.sq
   |apply WPc.block
   |apply WPc.skip
   |refine WPL.nil ?_
   |(refine WPc.region ?_;simp only[List.toList_toArray])
   |(refine WPc.condT ?_ ?_;(focus(simp;done)))
   |(refine WPc.condF ?_ ?_;(focus(simp;done))))
  all_goals
   refine⟨i+1,⟨hlt,by first|omega|(simp only;omega)|assumption⟩,rfl,rfl,?_,?_⟩<;>simp (disch:=omega) [wrap64]
  all_goals (refine fit_int ?_;omega)
 ·obtain rfl:i=n:=by omega
  refine go (L:=_∧True) (wa1 @hml) wb0 wb0 wb0 wb0 ⟨fun _=>?_,wb0⟩
  all_goals rfl
theorem c_laws_markLive(a b c:List Bool)(k:Int)(h1:0≤k)(h2:k+a.length+b.length+c.length≤1000000000):Con PP 18 [.agg [.sl 0 1 [] 0 a.length,.sl 1 1 [] 0 b.length,.sl 2 1 [] 0 c.length],.sc (.int .i64 k)]
  [(0,4,1,a.map boC),(1,4,1,b.map boC),(2,4,1,c.map boC)] [0] (fun r o=>r=.sc (.int .i64 (k+a.length+b.length+c.length))∧o=[(0,4,1,(marksB k a.length).map boC),(1,4,1,(marksB (k+a.length) b.length).map boC),(2,4,1,(marksB (k+a.length+b.length) c.length).map boC)]):=by
 refine cof 18 Go.Proofs.Tryz.func18 fun G=>?_
 simp only[entSt,tmOf,List.append_nil,List.cons_append,List.nil_append]
 refine WPc.renC 2 900033 fun K hK=>?_
 simp -implicitDefEqProofs
 refine hK _ ?_;clear hK K
 refine WPc.ghS 0 2018 0 fun u0 hu0 K hK=>?_
 simp -implicitDefEqProofs
 refine hK _ ?_;clear hK K
 refine WPc.ghS 0 2019 1 fun u1 hu1 K hK=>?_
 simp -implicitDefEqProofs
 refine hK _ ?_;clear hK K
 refine WPc.ghS 0 2020 2 fun u2 hu2 K hK=>?_
 simp -implicitDefEqProofs
 refine hK _ ?_;clear hK K
 refine gox (L:=_∧True) (wa3 @hu0 @hu1 @hu2) wb0 (wb1 (fun v0 v1 (h:_∧_∧_)=>c_laws_markBoolS v0 v1 h.1 h.2.1 h.2.2)) wb0 (wb6 (outs [0,1,2]) (nm 14 [8,6,2018]) (nm 14 [12,10,2019]) (nm 14 [16,14,2020]) (nm 6 [900033,2]) (nm 9 [])) ⟨fun _=>?_,wb0⟩
 all_goals exact⟨rfl,rfl⟩
theorem c_laws_heldLive(na nb nc:Nat)(k:Int)(h1:0≤k)(h2:k+na+nb+nc≤1000000000):Con PP 19 [.agg [.fz ((marksB k na).map boC),.fz ((marksB (k+na) nb).map boC),.fz ((marksB (k+na+nb) nc).map boC)],.sc (.int .i64 k)] [] [] (fun r o=>r=.sc (.int .i64 (k+na+nb+nc))):=by
 have e1:¬(k+(na:Int)<0):=by omega
 have e2:¬(k+(na:Int)+nb<0):=by omega
 have e3:¬(k+(na:Int)+nb+nc<0):=by omega
 refine cof 24 Go.Proofs.Tryz.func19 fun G=>?_
 simp only[entSt,tmOf,List.append_nil,List.cons_append,List.nil_append]
 refine go (L:=_∧True) (wa3 @e1 @e2 @e3) (wb1 (fun v0 v1 (h:_∧_∧_)=>c_laws_heldBoolS v0 v1 h.1 h.2.1 h.2.2)) wb0 wb0 wb0 ⟨fun _=>?_,wb0⟩
 all_goals rfl
theorem eqBool0:Con PP 43 [.sc (.slice none 0 0),.sc (.slice none 0 0)] [] [] (fun r o=>r=.sc (.bool true)):=by
 refine cof 26 Go.Proofs.Tryz.func43 fun G=>?_
 simp only[entSt,tmOf,List.append_nil,List.cons_append,List.nil_append]
 refine go (L:=_∧True) wb0 wb0 wb0 wb0 wb0 ⟨fun _=>?_,wb0⟩
 refine WPc.loopK (σ:=Nat) (fun i=>i=0) (fun i=>0) (fun i=>[(5,.sc (.int .i64 i))]) [0,1] 0 (by simp) (by simp) (rfl) ?_
 rintro i rfl s hs
 simp at hs
 subst hs
 refine go (L:=_∧True) wb0 wb0 wb0 wb0 wb0 ⟨fun _=>?_,wb0⟩
 all_goals rfl
theorem markBool0(k:Int):Con PP 47 [.sc (.slice none 0 0),.sc (.int .i64 k)] [] [] (fun r o=>r=.sc (.int .i64 k)):=by
 refine cof 21 Go.Proofs.Tryz.func47 fun G=>?_
 simp only[entSt,tmOf,List.append_nil,List.cons_append,List.nil_append]
 refine go (L:=_∧True) wb0 wb0 wb0 wb0 wb0 ⟨fun _=>?_,wb0⟩
 refine WPc.loopK (σ:=Nat) (fun i=>i=0) (fun i=>0) (fun i=>[(5,.sc (.int .i64 i)),(1,.sc (.int .i64 k))]) [0] 0 (by simp) (by simp) (rfl) ?_
 rintro i rfl s hs
 simp at hs
 subst hs
 refine go (L:=_∧True) wb0 wb0 wb0 wb0 wb0 ⟨fun _=>?_,wb0⟩
 all_goals rfl
theorem heldBool0(k:Int):Con PP 48 [.sc (.slice none 0 0),.sc (.int .i64 k)] [] [] (fun r o=>r=.sc (.int .i64 k)):=by
 refine cof 23 Go.Proofs.Tryz.func48 fun G=>?_
 simp only[entSt,tmOf,List.append_nil,List.cons_append,List.nil_append]
 refine go (L:=_∧True) wb0 wb0 wb0 wb0 wb0 ⟨fun _=>?_,wb0⟩
 refine WPc.loopK (σ:=Nat) (fun i=>i=0) (fun i=>0) (fun i=>[(5,.sc (.int .i64 i)),(1,.sc (.int .i64 k))]) [0] 0 (by simp) (by simp) (rfl) ?_
 rintro i rfl s hs
 simp at hs
 subst hs
 refine go (L:=_∧True) wb0 wb0 wb0 wb0 wb0 ⟨fun _=>?_,wb0⟩
 all_goals rfl
theorem eqLive0:Con PP 16 [.agg [.sc (.slice none 0 0),.sc (.slice none 0 0),.sc (.slice none 0 0)],.agg [.sc (.slice none 0 0),.sc (.slice none 0 0),.sc (.slice none 0 0)]] [] [] (fun r o=>r=.sc (.bool true)):=by
 refine cof 23 Go.Proofs.Tryz.func16 fun G=>?_
 simp only[entSt,tmOf,List.append_nil,List.cons_append,List.nil_append]
 refine go (L:=_∧True) wb0 (wb1 (fun _=>eqBool0)) wb0 wb0 wb0 ⟨fun _=>?_,wb0⟩
 all_goals rfl
theorem markLive0(k:Int):Con PP 18 [.agg [.sc (.slice none 0 0),.sc (.slice none 0 0),.sc (.slice none 0 0)],.sc (.int .i64 k)] [] [] (fun r o=>r=.sc (.int .i64 k)):=by
 have u:=markBool0 k
 refine cof 18 Go.Proofs.Tryz.func18 fun G=>?_
 simp only[entSt,tmOf,List.append_nil,List.cons_append,List.nil_append]
 refine go (L:=_∧True) wb0 (wb1 (fun _=>u)) wb0 wb0 wb0 ⟨fun _=>?_,wb0⟩
 all_goals rfl
theorem heldLive0(k:Int)(h1:0≤k):Con PP 19 [.agg [.sc (.slice none 0 0),.sc (.slice none 0 0),.sc (.slice none 0 0)],.sc (.int .i64 k)] [] [] (fun r o=>r=.sc (.int .i64 k)):=by
 have u:=heldBool0 k
 have e1:¬(k<0):=by omega
 refine cof 24 Go.Proofs.Tryz.func19 fun G=>?_
 simp only[entSt,tmOf,List.append_nil,List.cons_append,List.nil_append]
 refine go (L:=_∧True) (wa1 @e1) (wb1 (fun _=>u)) wb0 wb0 wb0 ⟨fun _=>?_,wb0⟩
 all_goals rfl
end Go.Own
set_option maxRecDepth 1000000
set_option maxHeartbeats 4000000
namespace Go.Own
attribute [local irreducible] WPc WPL WPS WPS1 WPS2 HAny endP
variable [Laid]
open Go.Lib Go.RowKit
theorem c_impl_Reach0[F:Facts.Of](w:Wd)(hs:w.sm)(hr:w.rm)(hb:worldOk w=false):Con PP 15 [w.av] [] [] (fun r o=>r=.agg [.sc (.slice none 0 0),.sc (.slice none 0 0),.sc (.slice none 0 0)]):=by
 have u1:=c_impl_WorldOk w hs hr
 rw[hb]at u1
 simp only[Wd.av]at u1
 refine cof 8 Go.Proofs.Tryz.func15 fun G=>?_
 simp only[entSt,tmOf,List.append_nil,List.cons_append,List.nil_append,Wd.av]
 refine go (L:=_∧True) (wa1 @Wd.cs.eq_1) (wb1 (fun _=>u1)) wb0 wb0 wb0 ⟨fun _=>?_,wb0⟩
 all_goals rfl
theorem c_spec_Reach0[F:Facts.Of](w:Wd)(hs:w.sm)(hr:w.rm)(hb:worldOk w=false):Con PP 14 [w.av] [] [] (fun r o=>r=.agg [.sc (.slice none 0 0),.sc (.slice none 0 0),.sc (.slice none 0 0)]):=by
 have u1:=c_spec_WorldOk w hs hr
 rw[hb]at u1
 simp only[Wd.av]at u1
 refine cof 9 Go.Proofs.Tryz.func14 fun G=>?_
 simp only[entSt,tmOf,List.append_nil,List.cons_append,List.nil_append,Wd.av]
 refine go (L:=_∧True) (wa1 @Wd.cs.eq_1) (wb1 (fun _=>u1)) wb0 wb0 wb0 ⟨fun _=>?_,wb0⟩
 all_goals rfl
theorem c_impl_Reach1[F:Facts.Of](w:Wd)(hs:w.sm)(hr:w.rm)(hb:worldOk w=true):Con PP 15 [w.av] [] [] (fun r o=>r=.agg [.sl 2 1 [(0,0)] 0 (liveW w).a.length,.sl 2 1 [(0,1)] 0 (liveW w).b.length,.sl 2 1 [(0,2)] 0 (liveW w).c.length]∧o=[(2,49,3,[lvO (liveW w).a (liveW w).b (liveW w).c])]):=by
 have u1:=c_impl_WorldOk w hs hr
 obtain⟨_,hw,ht⟩:=worldOk_in hb
 have u2:=c_impl_reachW w hw ht hr
 rw[hb]at u1
 generalize liveW w=L at u2 ⊢
 obtain⟨a,b,c⟩:=L
 simp only at u2 ⊢
 simp only[Wd.av]at u1
 simp only[lvO]at u2 ⊢
 refine cof 8 Go.Proofs.Tryz.func15 fun G=>?_
 simp only[entSt,tmOf,List.append_nil,List.cons_append,List.nil_append,Wd.av]
 refine gox (L:=_∧True) (wa1 @Wd.cs.eq_1) (wb1 (fun _=>u1)) (wb1 (fun _=>u2)) wb0 (wb4 (outs [2]) (nm 1 [7,7,900011,0,0]) (nm 1 [7,7,900012,0,1]) (nm 1 [7,7,900013,0,2])) ⟨fun _=>?_,wb0⟩
 all_goals exact⟨rfl,rfl⟩
theorem c_spec_Reach1[F:Facts.Of](w:Wd)(hs:w.sm)(hr:w.rm)(hb:worldOk w=true):Con PP 14 [w.av] [] [] (fun r o=>r=.agg [.sl 2 1 [(0,0)] 0 (liveW w).a.length,.sl 2 1 [(0,1)] 0 (liveW w).b.length,.sl 2 1 [(0,2)] 0 (liveW w).c.length]∧o=[(2,49,3,[lvO (liveW w).a (liveW w).b (liveW w).c])]):=by
 have u1:=c_spec_WorldOk w hs hr
 obtain⟨_,hw,ht⟩:=worldOk_in hb
 have u2:=c_spec_l16Reach w hw ht hr
 rw[hb]at u1
 generalize liveW w=L at u2 ⊢
 obtain⟨a,b,c⟩:=L
 simp only at u2 ⊢
 simp only[Wd.av]at u1 u2
 simp only[lvO]at u2 ⊢
 refine cof 9 Go.Proofs.Tryz.func14 fun G=>?_
 simp only[entSt,tmOf,List.append_nil,List.cons_append,List.nil_append,Wd.av]
 refine gox (L:=_∧True) (wa1 @Wd.cs.eq_1) (wb1 (fun _=>u1)) (wb1 (fun _=>u2)) wb0 (wb4 (outs [2]) (nm 1 [8,8,900011,0,0]) (nm 1 [8,8,900012,0,1]) (nm 1 [8,8,900013,0,2])) ⟨fun _=>?_,wb0⟩
 all_goals exact⟨rfl,rfl⟩
end Go.Own
set_option maxRecDepth 1000000
set_option maxHeartbeats 4000000
namespace Go.Own
attribute [local irreducible] WPc WPL WPS WPS1 WPS2 HAny endP
variable [Laid]
open Go.Lib Go.RowKit
def markC(k:Int)(c:Cl):Cl:=⟨k,mt (k+1),k+2,k+3,marksS (k+4) c.names.length,marksV (k+4+c.names.length) c.vals.length⟩
def mk(c:Cl):Nat:=4+c.names.length+3*c.vals.length
def marksC(k:Int)(h:List Cl):List Cl:=h.mapIdx fun i c=>markC (k+sumTo mk h i) c
def sumC(h:List Cl):Nat:=(h.map mk).sum
theorem c_laws_markCellS(h:List Cl)(k:Int)(h1 : -1000000000≤k)(h2:k≤1000000000)(h3:h.length≤1000000000)(h4:sumC h≤1000000000):Con PP 99 [.sl 0 6 [] 0 h.length,.sc (.int .i64 k)] [(0,132,6,h.map Cl.ow)] [0] (fun r o=>r=.sc (.int .i64 (k+sumC h))∧o=[(0,132,6,(marksC k h).map Cl.ow)]):=by
 have hm:((marksC k h).map Cl.ow).length=(h.map Cl.ow).length:=by simp[marksC]
 refine cof 56 Go.Proofs.Tryz.func99 fun G=>?_
 simp only[entSt,tmOf,List.append_nil,List.cons_append,List.nil_append]
 refine go (L:=_∧True) wb0 wb0 wb0 wb0 wb0 ⟨fun _=>?_,wb0⟩
 refine WPc.loopV (σ:=Nat) (fun i=>i≤h.length) (fun i=>h.length-i) (fun i=>[(5,.sc (.int .i64 i)),(1,.sc (.int .i64 (k+sumTo mk h i)))]) (fun i=>[(0,132,6,over ((marksC k h).map Cl.ow) (h.map Cl.ow) i)]) [0,56] 0 (by simp[over_zero,sumTo_zero]) (by simp[over_zero,sumTo_zero]) (by simp) ?_
 rintro i hi s hs
 simp at hs
 subst hs
 by_cases hlt:i<h.length
 ·have hl:=over_len (i:=i) hm
  have hge:=over_ge (i:=i) hm (by simpa using hlt)
  have hgo:=over_get (i:=i) hm (by simpa using hlt)
  simp only[List.length_map,List.getElem_map]at hl hge hgo
  have hs:=sumTo_next (f:=mk) hlt
  have hsl:=sumTo_le mk h (i+1)
  have hmk:mk h[i]=4+h[i].names.length+3*h[i].vals.length:=rfl
  unfold sumC at h4
  have e1:IntKind.i64.wrap (k+sumTo mk h i+1)=k+sumTo mk h i+1:=wrap64 (by omega) (by omega)
  have e2:IntKind.i64.wrap (k+sumTo mk h i+1+1)=k+sumTo mk h i+2:=by rw[wrap64 (by omega) (by omega)];omega
  have e3:IntKind.i64.wrap (k+sumTo mk h i+2+1)=k+sumTo mk h i+3:=by rw[wrap64 (by omega) (by omega)];omega
  have e4:IntKind.i64.wrap (k+sumTo mk h i+3+1)=k+sumTo mk h i+4:=by rw[wrap64 (by omega) (by omega)];omega
  have hn1:h[i].names.length≤1000000000:=by omega
  have hn2:h[i].vals.length≤1000000000:=by omega
  have hn:∀u v:C,((((((((over ((marksC k h).map Cl.ow) (h.map Cl.ow) i).modify i fun r=>r.set 0 (.sc (.int .i64 (k+sumTo mk h i)))).modify i fun r=>r.set 1 (.sc (.string (mt (k+sumTo mk h i+1))))).modify i fun r=>r.set 2 (.sc (.int .i64 (k+sumTo mk h i+2)))).modify i fun r=>r.set 3 (.sc (.int .i64 (k+sumTo mk h i+3)))).modify i fun r=>r.set 4 u).modify i fun r=>r.set 4 (.sl 9 1 ((marksS (k+sumTo mk h i+4) h[i].names.length).map sC))).modify i fun r=>r.set 5 v).modify i (fun r=>r.set 5 (.sl 115 3 ((marksV (k+sumTo mk h i+4+h[i].names.length) h[i].vals.length).map V.cs)))=over ((marksC k h).map Cl.ow) (h.map Cl.ow) (i+1):=fun u v=>by
   rw[List.modify_modify_eq,List.modify_modify_eq,List.modify_modify_eq,List.modify_modify_eq,List.modify_modify_eq,List.modify_modify_eq,List.modify_modify_eq]
   exact over_next hm (by simpa using hlt) (by simp[marksC,markC,Cl.ow,hlt])
  refine gox (L:=_∧True) (wa11 @Cl.ow.eq_1 @hlt @hl @hge @hgo @e1 @e2 @e3 @e4 @marksS_len @marksV_len) (wb1 (fun v0 (h:_)=>c_laws_markText v0 h)) (wb2 (fun v0 v1 (h:_∧_∧_)=>c_laws_markStringS v0 v1 h.1 h.2.1 h.2.2) (fun v0 v1 (h:_∧_∧_)=>c_laws_markValueS v0 v1 h.1 h.2.1 h.2.2)) wb0 (wb5 wb0 (nm 3 [47,0,900001,1056,i,4]) (nm 4 [1,0,900001,1056,i,4]) (nm 3 [54,0,900002,1056,i,5]) (nm 4 [1,0,900002,1056,i,5])) ⟨fun _ _ _=>?_,wb0⟩
  refine⟨i+1,⟨hlt,by first|omega|(simp only;omega)|assumption⟩,rfl,rfl,?_,?_⟩<;>simp (disch:=omega) [wrap64,hn]
  all_goals (refine fit_int ?_;omega)
 ·obtain rfl:i=h.length:=by omega
  have ha:=over_all hm
  simp only[List.length_map]at ha
  refine gox (L:=_∧_∧True) wb0 wb0 wb0 wb0 (wb1 (outO [(0,132,6,(marksC k h).map Cl.ow)])) ⟨fun _=>?_,fun _=>?_,wb0⟩
  ·simp[ha]
  ·refine⟨?_,rfl⟩
   rw[sumTo_all];rfl
end Go.Own
set_option maxRecDepth 1000000
set_option maxHeartbeats 4000000
namespace Go.Own
attribute [local irreducible] WPc WPL WPS WPS1 WPS2 HAny endP
variable [Laid]
open Go.Lib Go.RowKit
end Go.Own
set_option maxRecDepth 1000000
set_option maxHeartbeats 4000000
namespace Go.Own
attribute [local irreducible] WPc WPL WPS WPS1 WPS2 HAny endP
variable [Laid]
open Go.Lib Go.RowKit
def marksI(k:Int)(n:Nat):List Int:=(List.range n).map fun i=>k+(i:Nat)
theorem marksI_len(k:Int)(n:Nat):(marksI k n).length=n:=by simp[marksI]
def markN(k:Int)(c:Nd):Nd:=⟨k,k+1,mt (k+2),marksS (k+3) c.names.length,marksI (k+3+c.names.length) c.args.length⟩
def mkN(c:Nd):Nat:=3+c.names.length+c.args.length
def marksN(k:Int)(h:List Nd):List Nd:=h.mapIdx fun i c=>markN (k+sumTo mkN h i) c
def sumN(h:List Nd):Nat:=(h.map mkN).sum
theorem marksN_len(k:Int)(h:List Nd):(marksN k h).length=h.length:=by simp[marksN]
theorem c_laws_markIntS(l:List Int)(k:Int)(h1 : -1000000000000≤k)(h2:k≤1000000000000)(h3:l.length≤1000000000):Con PP 23 [.sl 0 1 [] 0 l.length,.sc (.int .i64 k)] [(0,3,1,l.map nC)] [0] (fun r o=>r=.sc (.int .i64 (k+l.length))∧o=[(0,3,1,(marksI k l.length).map nC)]):=by
 have hm:((marksI k l.length).map nC).length=(l.map nC).length:=by simp[marksI]
 refine cof 19 Go.Proofs.Tryz.func23 fun G=>?_
 simp only[entSt,tmOf,List.append_nil,List.cons_append,List.nil_append]
 refine go (L:=_∧True) wb0 wb0 wb0 wb0 wb0 ⟨fun _=>?_,wb0⟩
 refine WPc.loopV (σ:=Nat) (fun i=>i≤l.length) (fun i=>l.length-i) (fun i=>[(5,.sc (.int .i64 i)),(1,.sc (.int .i64 (k+i)))]) (fun i=>[(0,3,1,over ((marksI k l.length).map nC) (l.map nC) i)]) [0,19] 0 (by simp[over_zero]) (by simp[over_zero]) (by simp) ?_
 rintro i hi s hs
 simp at hs
 subst hs
 by_cases hlt:i<l.length
 ·have hl:=over_len (i:=i) hm
  have hge:=over_ge (i:=i) hm (by simpa using hlt)
  have hn:=over_next (i:=i) (g:=fun r=>r.set 0 (.sc (.int .i64 (k+i)))) hm (by simpa using hlt) (by simp[marksI,nC,hlt])
  simp only[List.length_map,List.getElem_map]at hl hge
  refine go (L:=_∧True) (wa4 @nC.eq_1 @hlt @hl @hge) wb0 wb0 wb0 wb0 ⟨fun _=>?_,wb0⟩
  refine⟨i+1,⟨hlt,by first|omega|(simp only;omega)|assumption⟩,rfl,rfl,?_,?_⟩<;>simp (disch:=omega) [wrap64,hn]
  all_goals (refine fit_int ?_;omega)
 ·obtain rfl:i=l.length:=by omega
  have ha:=over_all hm
  simp only[List.length_map]at ha
  refine gox (L:=_∧_∧True) wb0 wb0 wb0 wb0 (wb1 (outO [(0,3,1,(marksI k l.length).map nC)])) ⟨fun _=>?_,fun _=>?_,wb0⟩
  ·simp[ha]
  ·exact⟨rfl,rfl⟩
theorem c_laws_markNodeS(h:List Nd)(k:Int)(h1 : -1000000000≤k)(h2:k≤1000000000)(h3:h.length≤1000000000)(h4:sumN h≤1000000000):Con PP 171 [.sl 0 5 [] 0 h.length,.sc (.int .i64 k)] [(0,206,5,h.map Nd.ow)] [0] (fun r o=>r=.sc (.int .i64 (k+sumN h))∧o=[(0,206,5,(marksN k h).map Nd.ow)]):=by
 have hm:((marksN k h).map Nd.ow).length=(h.map Nd.ow).length:=by simp[marksN]
 refine cof 49 Go.Proofs.Tryz.func171 fun G=>?_
 simp only[entSt,tmOf,List.append_nil,List.cons_append,List.nil_append]
 refine go (L:=_∧True) wb0 wb0 wb0 wb0 wb0 ⟨fun _=>?_,wb0⟩
 refine WPc.loopV (σ:=Nat) (fun i=>i≤h.length) (fun i=>h.length-i) (fun i=>[(5,.sc (.int .i64 i)),(1,.sc (.int .i64 (k+sumTo mkN h i)))]) (fun i=>[(0,206,5,over ((marksN k h).map Nd.ow) (h.map Nd.ow) i)]) [0,49] 0 (by simp[over_zero,sumTo_zero]) (by simp[over_zero,sumTo_zero]) (by simp) ?_
 rintro i hi s hs
 simp at hs
 subst hs
 by_cases hlt:i<h.length
 ·have hl:=over_len (i:=i) hm
  have hge:=over_ge (i:=i) hm (by simpa using hlt)
  have hgo:=over_get (i:=i) hm (by simpa using hlt)
  simp only[List.length_map,List.getElem_map]at hl hge hgo
  have hs:=sumTo_next (f:=mkN) hlt
  have hsl:=sumTo_le mkN h (i+1)
  have hmk:mkN h[i]=3+h[i].names.length+h[i].args.length:=rfl
  unfold sumN at h4
  have e1:IntKind.i64.wrap (k+sumTo mkN h i+1)=k+sumTo mkN h i+1:=wrap64 (by omega) (by omega)
  have e2:IntKind.i64.wrap (k+sumTo mkN h i+1+1)=k+sumTo mkN h i+2:=by rw[wrap64 (by omega) (by omega)];omega
  have e3:IntKind.i64.wrap (k+sumTo mkN h i+2+1)=k+sumTo mkN h i+3:=by rw[wrap64 (by omega) (by omega)];omega
  have hn1:h[i].names.length≤1000000000:=by omega
  have hn2:h[i].args.length≤1000000000:=by omega
  have hn:∀u v:C,(((((((over ((marksN k h).map Nd.ow) (h.map Nd.ow) i).modify i fun r=>r.set 0 (.sc (.int .i64 (k+sumTo mkN h i)))).modify i fun r=>r.set 1 (.sc (.int .i64 (k+sumTo mkN h i+1)))).modify i fun r=>r.set 2 (.sc (.string (mt (k+sumTo mkN h i+2))))).modify i fun r=>r.set 3 u).modify i fun r=>r.set 3 (.sl 9 1 ((marksS (k+sumTo mkN h i+3) h[i].names.length).map sC))).modify i fun r=>r.set 4 v).modify i (fun r=>r.set 4 (.sl 3 1 ((marksI (k+sumTo mkN h i+3+h[i].names.length) h[i].args.length).map nC)))=over ((marksN k h).map Nd.ow) (h.map Nd.ow) (i+1):=fun u v=>by
   rw[List.modify_modify_eq,List.modify_modify_eq,List.modify_modify_eq,List.modify_modify_eq,List.modify_modify_eq,List.modify_modify_eq]
   exact over_next hm (by simpa using hlt) (by simp[marksN,markN,Nd.ow,hlt])
  refine gox (L:=_∧True) (wa10 @Nd.ow.eq_1 @hlt @hl @hge @hgo @e1 @e2 @e3 @marksS_len @marksI_len) (wb1 (fun v0 (h:_)=>c_laws_markText v0 h)) (wb2 (fun v0 v1 (h:_∧_∧_)=>c_laws_markStringS v0 v1 h.1 h.2.1 h.2.2) (fun v0 v1 (h:_∧_∧_)=>c_laws_markIntS v0 v1 h.1 h.2.1 h.2.2)) wb0 (wb5 wb0 (nm 3 [40,0,900001,1049,i,3]) (nm 4 [1,0,900001,1049,i,3]) (nm 3 [47,0,900002,1049,i,4]) (nm 4 [1,0,900002,1049,i,4])) ⟨fun _ _ _=>?_,wb0⟩
  refine⟨i+1,⟨hlt,by first|omega|(simp only;omega)|assumption⟩,rfl,rfl,?_,?_⟩<;>simp (disch:=omega) [wrap64,hn]
  all_goals (refine fit_int ?_;omega)
 ·obtain rfl:i=h.length:=by omega
  have ha:=over_all hm
  simp only[List.length_map]at ha
  refine gox (L:=_∧_∧True) wb0 wb0 wb0 wb0 (wb1 (outO [(0,206,5,(marksN k h).map Nd.ow)])) ⟨fun _=>?_,fun _=>?_,wb0⟩
  ·simp[ha]
  ·refine⟨?_,rfl⟩
   rw[sumTo_all];rfl
end Go.Own
set_option maxRecDepth 1000000
set_option maxHeartbeats 4000000
namespace Go.Own
attribute [local irreducible] WPc WPL WPS WPS1 WPS2 HAny endP
variable [Laid]
open Go.Lib Go.RowKit
theorem lenSum{α:Type}{f:α→Nat}(hf:∀x,1≤f x):∀l:List α,l.length≤(l.map f).sum
 |[]=>by simp
 |x::l=>by
  have:=lenSum hf l
  have:=hf x
  simp only[List.length_cons,List.map_cons,List.sum_cons];omega
theorem lenN(l:List Nd):l.length≤sumN l:=lenSum (fun x=>by unfold mkN;omega) l
def markLk(k:Int)(c:Lk):Lk:=⟨mt (k),k+1,mt (k+2)⟩
def mkLk(c:Lk):Nat:=3
def sumLk(h:List Lk):Nat:=(h.map mkLk).sum
def marksLk(k:Int)(h:List Lk):List Lk:=h.mapIdx fun i c=>markLk (k+sumTo mkLk h i) c
theorem marksLk_len(k:Int)(h:List Lk):(marksLk k h).length=h.length:=by simp[marksLk]
theorem lenLk(l:List Lk):l.length≤sumLk l:=lenSum (fun x=>by unfold mkLk;omega) l
theorem c_laws_markLinkS(h:List Lk)(k:Int)(h1:0≤k)(h2:k+sumLk h≤1000000000):Con PP 170 [.sl 0 3 [] 0 h.length,.sc (.int .i64 k)] [(0,130,3,h.map Lk.cs)] [0] (fun r o=>r=.sc (.int .i64 (k+sumLk h))∧o=[(0,130,3,(marksLk k h).map Lk.cs)]):=by
 have hm:((marksLk k h).map Lk.cs).length=(h.map Lk.cs).length:=by simp[marksLk]
 have h3:=lenLk h
 refine cof 36 Go.Proofs.Tryz.func170 fun G=>?_
 simp only[entSt,tmOf,List.append_nil,List.cons_append,List.nil_append]
 refine go (L:=_∧True) wb0 wb0 wb0 wb0 wb0 ⟨fun _=>?_,wb0⟩
 refine WPc.loopV (σ:=Nat) (fun i=>i≤h.length) (fun i=>h.length-i) (fun i=>[(5,.sc (.int .i64 i)),(1,.sc (.int .i64 (k+sumTo mkLk h i)))]) (fun i=>[(0,130,3,over ((marksLk k h).map Lk.cs) (h.map Lk.cs) i)]) [0,36] 0 (by simp[over_zero,sumTo_zero]) (by simp[over_zero,sumTo_zero]) (by simp) ?_
 rintro i hi s hs
 simp at hs
 subst hs
 by_cases hlt:i<h.length
 ·have hl:=over_len (i:=i) hm
  have hge:=over_ge (i:=i) hm (by simpa using hlt)
  have hgo:=over_get (i:=i) hm (by simpa using hlt)
  simp only[List.length_map,List.getElem_map]at hl hge hgo
  have hs:=sumTo_next (f:=mkLk) hlt
  have hsl:=sumTo_le mkLk h (i+1)
  have hmk:mkLk h[i]=3:=rfl
  unfold sumLk at h2 h3
  have e1:IntKind.i64.wrap (k+sumTo mkLk h i+1)=k+sumTo mkLk h i+1:=by rw[wrap64 (by omega) (by omega)]
  have e2:IntKind.i64.wrap (k+sumTo mkLk h i+1+1)=k+sumTo mkLk h i+2:=by rw[wrap64 (by omega) (by omega)];omega
  have e3:IntKind.i64.wrap (k+sumTo mkLk h i+2+1)=k+sumTo mkLk h i+3:=by rw[wrap64 (by omega) (by omega)];omega
  have hn:((((((over ((marksLk k h).map Lk.cs) (h.map Lk.cs) i).modify i fun r=>r.set 0 (.sc (.string (mt (k+sumTo mkLk h i)))))).modify i fun r=>r.set 1 (.sc (.int .i64 (k+sumTo mkLk h i+1))))).modify i fun r=>r.set 2 (.sc (.string (mt (k+sumTo mkLk h i+2)))))=over ((marksLk k h).map Lk.cs) (h.map Lk.cs) (i+1):=by
   rw[List.modify_modify_eq,List.modify_modify_eq]
   exact over_next hm (by simpa using hlt) (by simp[marksLk,markLk,Lk.cs,hlt])
  refine go (L:=_∧True) (wa8 @Lk.cs.eq_1 @hlt @hl @hge @hgo @e1 @e2 @e3) (wb1 (fun v0 (h:_)=>c_laws_markText v0 h)) wb0 wb0 wb0 ⟨fun _=>?_,wb0⟩
  refine⟨i+1,⟨hlt,by first|omega|(simp only;omega)|assumption⟩,rfl,rfl,?_,?_⟩<;>simp (disch:=omega) [wrap64,hn]
  all_goals (refine fit_int ?_;omega)
 ·obtain rfl:i=h.length:=by omega
  have ha:=over_all hm
  simp only[List.length_map]at ha
  refine gox (L:=_∧_∧True) wb0 wb0 wb0 wb0 (wb1 (outO [(0,130,3,(marksLk k h).map Lk.cs)])) ⟨fun _=>?_,fun _=>?_,wb0⟩
  ·simp[ha]
  ·refine⟨?_,rfl⟩
   rw[sumTo_all];rfl
def markTy(k:Int)(c:Ty):Ty:=⟨mt (k),k+1⟩
def mkTy(c:Ty):Nat:=2
def sumTy(h:List Ty):Nat:=(h.map mkTy).sum
def marksTy(k:Int)(h:List Ty):List Ty:=h.mapIdx fun i c=>markTy (k+sumTo mkTy h i) c
theorem marksTy_len(k:Int)(h:List Ty):(marksTy k h).length=h.length:=by simp[marksTy]
theorem lenTy(l:List Ty):l.length≤sumTy l:=lenSum (fun x=>by unfold mkTy;omega) l
theorem c_laws_markTypeS(h:List Ty)(k:Int)(h1:0≤k)(h2:k+sumTy h≤1000000000):Con PP 104 [.sl 0 2 [] 0 h.length,.sc (.int .i64 k)] [(0,212,2,h.map Ty.cs)] [0] (fun r o=>r=.sc (.int .i64 (k+sumTy h))∧o=[(0,212,2,(marksTy k h).map Ty.cs)]):=by
 have hm:((marksTy k h).map Ty.cs).length=(h.map Ty.cs).length:=by simp[marksTy]
 have h3:=lenTy h
 refine cof 28 Go.Proofs.Tryz.func104 fun G=>?_
 simp only[entSt,tmOf,List.append_nil,List.cons_append,List.nil_append]
 refine go (L:=_∧True) wb0 wb0 wb0 wb0 wb0 ⟨fun _=>?_,wb0⟩
 refine WPc.loopV (σ:=Nat) (fun i=>i≤h.length) (fun i=>h.length-i) (fun i=>[(5,.sc (.int .i64 i)),(1,.sc (.int .i64 (k+sumTo mkTy h i)))]) (fun i=>[(0,212,2,over ((marksTy k h).map Ty.cs) (h.map Ty.cs) i)]) [0,28] 0 (by simp[over_zero,sumTo_zero]) (by simp[over_zero,sumTo_zero]) (by simp) ?_
 rintro i hi s hs
 simp at hs
 subst hs
 by_cases hlt:i<h.length
 ·have hl:=over_len (i:=i) hm
  have hge:=over_ge (i:=i) hm (by simpa using hlt)
  have hgo:=over_get (i:=i) hm (by simpa using hlt)
  simp only[List.length_map,List.getElem_map]at hl hge hgo
  have hs:=sumTo_next (f:=mkTy) hlt
  have hsl:=sumTo_le mkTy h (i+1)
  have hmk:mkTy h[i]=2:=rfl
  unfold sumTy at h2 h3
  have e1:IntKind.i64.wrap (k+sumTo mkTy h i+1)=k+sumTo mkTy h i+1:=by rw[wrap64 (by omega) (by omega)]
  have e2:IntKind.i64.wrap (k+sumTo mkTy h i+1+1)=k+sumTo mkTy h i+2:=by rw[wrap64 (by omega) (by omega)];omega
  have hn:((((over ((marksTy k h).map Ty.cs) (h.map Ty.cs) i).modify i fun r=>r.set 0 (.sc (.string (mt (k+sumTo mkTy h i)))))).modify i fun r=>r.set 1 (.sc (.int .i64 (k+sumTo mkTy h i+1))))=over ((marksTy k h).map Ty.cs) (h.map Ty.cs) (i+1):=by
   rw[List.modify_modify_eq]
   exact over_next hm (by simpa using hlt) (by simp[marksTy,markTy,Ty.cs,hlt])
  refine go (L:=_∧True) (wa7 @Ty.cs.eq_1 @hlt @hl @hge @hgo @e1 @e2) (wb1 (fun v0 (h:_)=>c_laws_markText v0 h)) wb0 wb0 wb0 ⟨fun _=>?_,wb0⟩
  refine⟨i+1,⟨hlt,by first|omega|(simp only;omega)|assumption⟩,rfl,rfl,?_,?_⟩<;>simp (disch:=omega) [wrap64,hn]
  all_goals (refine fit_int ?_;omega)
 ·obtain rfl:i=h.length:=by omega
  have ha:=over_all hm
  simp only[List.length_map]at ha
  refine gox (L:=_∧_∧True) wb0 wb0 wb0 wb0 (wb1 (outO [(0,212,2,(marksTy k h).map Ty.cs)])) ⟨fun _=>?_,fun _=>?_,wb0⟩
  ·simp[ha]
  ·refine⟨?_,rfl⟩
   rw[sumTo_all];rfl
def markBd(k:Int)(c:Bd):Bd:=⟨mt (k),⟨k+1,k+2,mt (k+3)⟩⟩
def mkBd(c:Bd):Nat:=4
def sumBd(h:List Bd):Nat:=(h.map mkBd).sum
def marksBd(k:Int)(h:List Bd):List Bd:=h.mapIdx fun i c=>markBd (k+sumTo mkBd h i) c
theorem marksBd_len(k:Int)(h:List Bd):(marksBd k h).length=h.length:=by simp[marksBd]
theorem lenBd(l:List Bd):l.length≤sumBd l:=lenSum (fun x=>by unfold mkBd;omega) l
theorem c_laws_markBindS(h:List Bd)(k:Int)(h1:0≤k)(h2:k+sumBd h≤1000000000):Con PP 106 [.sl 0 4 [] 0 h.length,.sc (.int .i64 k)] [(0,257,4,h.map Bd.cs)] [0] (fun r o=>r=.sc (.int .i64 (k+sumBd h))∧o=[(0,257,4,(marksBd k h).map Bd.cs)]):=by
 have hm:((marksBd k h).map Bd.cs).length=(h.map Bd.cs).length:=by simp[marksBd]
 have h3:=lenBd h
 refine cof 46 Go.Proofs.Tryz.func106 fun G=>?_
 simp only[entSt,tmOf,List.append_nil,List.cons_append,List.nil_append]
 refine go (L:=_∧True) wb0 wb0 wb0 wb0 wb0 ⟨fun _=>?_,wb0⟩
 refine WPc.loopV (σ:=Nat) (fun i=>i≤h.length) (fun i=>h.length-i) (fun i=>[(5,.sc (.int .i64 i)),(1,.sc (.int .i64 (k+sumTo mkBd h i)))]) (fun i=>[(0,257,4,over ((marksBd k h).map Bd.cs) (h.map Bd.cs) i)]) [0,46] 0 (by simp[over_zero,sumTo_zero]) (by simp[over_zero,sumTo_zero]) (by simp) ?_
 rintro i hi s hs
 simp at hs
 subst hs
 by_cases hlt:i<h.length
 ·have hl:=over_len (i:=i) hm
  have hge:=over_ge (i:=i) hm (by simpa using hlt)
  have hgo:=over_get (i:=i) hm (by simpa using hlt)
  simp only[List.length_map,List.getElem_map]at hl hge hgo
  have hs:=sumTo_next (f:=mkBd) hlt
  have hsl:=sumTo_le mkBd h (i+1)
  have hmk:mkBd h[i]=4:=rfl
  unfold sumBd at h2 h3
  have e1:IntKind.i64.wrap (k+sumTo mkBd h i+1)=k+sumTo mkBd h i+1:=by rw[wrap64 (by omega) (by omega)]
  have e2:IntKind.i64.wrap (k+sumTo mkBd h i+1+1)=k+sumTo mkBd h i+2:=by rw[wrap64 (by omega) (by omega)];omega
  have e3:IntKind.i64.wrap (k+sumTo mkBd h i+2+1)=k+sumTo mkBd h i+3:=by rw[wrap64 (by omega) (by omega)];omega
  have e4:IntKind.i64.wrap (k+sumTo mkBd h i+3+1)=k+sumTo mkBd h i+4:=by rw[wrap64 (by omega) (by omega)];omega
  have hn:((((((((over ((marksBd k h).map Bd.cs) (h.map Bd.cs) i).modify i fun r=>r.set 0 (.sc (.string (mt (k+sumTo mkBd h i)))))).modify i fun r=>r.set 1 (.sc (.int .i64 (k+sumTo mkBd h i+1))))).modify i fun r=>r.set 2 (.sc (.int .i64 (k+sumTo mkBd h i+2))))).modify i fun r=>r.set 3 (.sc (.string (mt (k+sumTo mkBd h i+3)))))=over ((marksBd k h).map Bd.cs) (h.map Bd.cs) (i+1):=by
   rw[List.modify_modify_eq,List.modify_modify_eq,List.modify_modify_eq]
   exact over_next hm (by simpa using hlt) (by simp[marksBd,markBd,Bd.cs,hlt])
  refine go (L:=_∧True) (wa9 @Bd.cs.eq_1 @hlt @hl @hge @hgo @e1 @e2 @e3 @e4) (wb1 (fun v0 (h:_)=>c_laws_markText v0 h)) wb0 wb0 wb0 ⟨fun _=>?_,wb0⟩
  refine⟨i+1,⟨hlt,by first|omega|(simp only;omega)|assumption⟩,rfl,rfl,?_,?_⟩<;>simp (disch:=omega) [wrap64,hn]
  all_goals (refine fit_int ?_;omega)
 ·obtain rfl:i=h.length:=by omega
  have ha:=over_all hm
  simp only[List.length_map]at ha
  refine gox (L:=_∧_∧True) wb0 wb0 wb0 wb0 (wb1 (outO [(0,257,4,(marksBd k h).map Bd.cs)])) ⟨fun _=>?_,fun _=>?_,wb0⟩
  ·simp[ha]
  ·refine⟨?_,rfl⟩
   rw[sumTo_all];rfl
def markIn(k:Int)(c:In):In:=⟨mt (k),k+1,marksS (k+2) c.names.length,marksV (k+2+c.names.length) c.vals.length,marksLk (k+2+c.names.length+3*c.vals.length) c.links,marksTy (k+2+c.names.length+3*c.vals.length+sumLk c.links) c.types⟩
def mkIn(c:In):Nat:=2+c.names.length+3*c.vals.length+sumLk c.links+sumTy c.types
def sumIn(h:List In):Nat:=(h.map mkIn).sum
def marksIn(k:Int)(h:List In):List In:=h.mapIdx fun i c=>markIn (k+sumTo mkIn h i) c
theorem marksIn_len(k:Int)(h:List In):(marksIn k h).length=h.length:=by simp[marksIn]
theorem lenIn(l:List In):l.length≤sumIn l:=lenSum (fun x=>by unfold mkIn;omega) l
theorem c_laws_markInstS(h:List In)(k:Int)(h1:0≤k)(h2:k+sumIn h≤1000000000):Con PP 100 [.sl 0 6 [] 0 h.length,.sc (.int .i64 k)] [(0,83,6,h.map In.ow)] [0] (fun r o=>r=.sc (.int .i64 (k+sumIn h))∧o=[(0,83,6,(marksIn k h).map In.ow)]):=by
 have hm:((marksIn k h).map In.ow).length=(h.map In.ow).length:=by simp[marksIn]
 have h3:=lenIn h
 refine cof 56 Go.Proofs.Tryz.func100 fun G=>?_
 simp only[entSt,tmOf,List.append_nil,List.cons_append,List.nil_append]
 refine go (L:=_∧True) wb0 wb0 wb0 wb0 wb0 ⟨fun _=>?_,wb0⟩
 refine WPc.loopV (σ:=Nat) (fun i=>i≤h.length) (fun i=>h.length-i) (fun i=>[(5,.sc (.int .i64 i)),(1,.sc (.int .i64 (k+sumTo mkIn h i)))]) (fun i=>[(0,83,6,over ((marksIn k h).map In.ow) (h.map In.ow) i)]) [0,56] 0 (by simp[over_zero,sumTo_zero]) (by simp[over_zero,sumTo_zero]) (by simp) ?_
 rintro i hi s hs
 simp at hs
 subst hs
 by_cases hlt:i<h.length
 ·have hl:=over_len (i:=i) hm
  have hge:=over_ge (i:=i) hm (by simpa using hlt)
  have hgo:=over_get (i:=i) hm (by simpa using hlt)
  simp only[List.length_map,List.getElem_map]at hl hge hgo
  have hs:=sumTo_next (f:=mkIn) hlt
  have hsl:=sumTo_le mkIn h (i+1)
  have hmk:mkIn h[i]=2+h[i].names.length+3*h[i].vals.length+sumLk h[i].links+sumTy h[i].types:=rfl
  unfold sumIn at h2 h3
  have e1:IntKind.i64.wrap (k+sumTo mkIn h i+1)=k+sumTo mkIn h i+1:=by rw[wrap64 (by omega) (by omega)]
  have e2:IntKind.i64.wrap (k+sumTo mkIn h i+1+1)=k+sumTo mkIn h i+2:=by rw[wrap64 (by omega) (by omega)];omega
  have n1:h[i].names.length≤1000000000:=by omega
  have n2:h[i].vals.length≤1000000000:=by omega
  have n3:h[i].links.length≤1000000000:=by have:=lenLk h[i].links;omega
  have n4:h[i].types.length≤1000000000:=by have:=lenTy h[i].types;omega
  have hn:∀u0 u1 u2 u3:C,((((((((((((((((((((over ((marksIn k h).map In.ow) (h.map In.ow) i).modify i fun r=>r.set 0 (.sc (.string (mt (k+sumTo mkIn h i)))))).modify i fun r=>r.set 1 (.sc (.int .i64 (k+sumTo mkIn h i+1))))).modify i fun r=>r.set 2 u0)).modify i fun r=>r.set 2 (.sl 9 1 ((marksS (k+sumTo mkIn h i+2) h[i].names.length).map sC)))).modify i fun r=>r.set 3 u1)).modify i fun r=>r.set 3 (.sl 115 3 ((marksV (k+sumTo mkIn h i+2+h[i].names.length) h[i].vals.length).map V.cs)))).modify i fun r=>r.set 4 u2)).modify i fun r=>r.set 4 (.sl 130 3 ((marksLk (k+sumTo mkIn h i+2+h[i].names.length+3*h[i].vals.length) h[i].links).map Lk.cs)))).modify i fun r=>r.set 5 u3)).modify i fun r=>r.set 5 (.sl 212 2 ((marksTy (k+sumTo mkIn h i+2+h[i].names.length+3*h[i].vals.length+sumLk h[i].links) h[i].types).map Ty.cs)))=over ((marksIn k h).map In.ow) (h.map In.ow) (i+1):=fun u0 u1 u2 u3=>by
   rw[List.modify_modify_eq,List.modify_modify_eq,List.modify_modify_eq,List.modify_modify_eq,List.modify_modify_eq,List.modify_modify_eq,List.modify_modify_eq,List.modify_modify_eq,List.modify_modify_eq]
   exact over_next hm (by simpa using hlt) (by simp[marksIn,markIn,In.ow,hlt])
  refine gox (L:=_∧True) (wa11 @In.ow.eq_1 @hlt @hl @hge @hgo @e1 @e2 @marksS_len @marksV_len @marksLk_len @marksTy_len) (wb1 (fun v0 (h:_)=>c_laws_markText v0 h)) (wb4 (fun v0 v1 (h:_∧_∧_)=>c_laws_markStringS v0 v1 h.1 h.2.1 h.2.2) (fun v0 v1 (h:_∧_∧_)=>c_laws_markValueS v0 v1 h.1 h.2.1 h.2.2) (fun v0 v1 (h:_∧_)=>c_laws_markLinkS v0 v1 h.1 h.2) (fun v0 v1 (h:_∧_)=>c_laws_markTypeS v0 v1 h.1 h.2)) wb0 (wb9 wb0 (nm 3 [33,0,900001,1056,i,2]) (nm 4 [1,0,900001,1056,i,2]) (nm 3 [40,0,900002,1056,i,3]) (nm 4 [1,0,900002,1056,i,3]) (nm 3 [47,0,900003,1056,i,4]) (nm 4 [1,0,900003,1056,i,4]) (nm 3 [54,0,900004,1056,i,5]) (nm 4 [1,0,900004,1056,i,5])) ⟨fun _ _ _ _ _=>?_,wb0⟩
  refine⟨i+1,⟨hlt,by first|omega|(simp only;omega)|assumption⟩,rfl,rfl,?_,?_⟩<;>simp (disch:=omega) [wrap64,hn]
  all_goals (refine fit_int ?_;omega)
 ·obtain rfl:i=h.length:=by omega
  have ha:=over_all hm
  simp only[List.length_map]at ha
  refine gox (L:=_∧_∧True) wb0 wb0 wb0 wb0 (wb1 (outO [(0,83,6,(marksIn k h).map In.ow)])) ⟨fun _=>?_,fun _=>?_,wb0⟩
  ·simp[ha]
  ·refine⟨?_,rfl⟩
   rw[sumTo_all];rfl
def markUn(k:Int)(c:Un):Un:=⟨k,⟨marksN (k+1) c.prog.nodes,k+1+sumN c.prog.nodes⟩⟩
def mkUn(c:Un):Nat:=2+sumN c.prog.nodes
def sumUn(h:List Un):Nat:=(h.map mkUn).sum
def marksUn(k:Int)(h:List Un):List Un:=h.mapIdx fun i c=>markUn (k+sumTo mkUn h i) c
theorem marksUn_len(k:Int)(h:List Un):(marksUn k h).length=h.length:=by simp[marksUn]
theorem lenUn(l:List Un):l.length≤sumUn l:=lenSum (fun x=>by unfold mkUn;omega) l
theorem c_laws_markUnitS(h:List Un)(k:Int)(h1:0≤k)(h2:k+sumUn h≤1000000000):Con PP 101 [.sl 0 3 [] 0 h.length,.sc (.int .i64 k)] [(0,137,3,h.map Un.ow)] [0] (fun r o=>r=.sc (.int .i64 (k+sumUn h))∧o=[(0,137,3,(marksUn k h).map Un.ow)]):=by
 have hm:((marksUn k h).map Un.ow).length=(h.map Un.ow).length:=by simp[marksUn]
 have h3:=lenUn h
 refine cof 36 Go.Proofs.Tryz.func101 fun G=>?_
 simp only[entSt,tmOf,List.append_nil,List.cons_append,List.nil_append]
 refine go (L:=_∧True) wb0 wb0 wb0 wb0 wb0 ⟨fun _=>?_,wb0⟩
 refine WPc.loopV (σ:=Nat) (fun i=>i≤h.length) (fun i=>h.length-i) (fun i=>[(5,.sc (.int .i64 i)),(1,.sc (.int .i64 (k+sumTo mkUn h i)))]) (fun i=>[(0,137,3,over ((marksUn k h).map Un.ow) (h.map Un.ow) i)]) [0,36] 0 (by simp[over_zero,sumTo_zero]) (by simp[over_zero,sumTo_zero]) (by simp) ?_
 rintro i hi s hs
 simp at hs
 subst hs
 by_cases hlt:i<h.length
 ·have hl:=over_len (i:=i) hm
  have hge:=over_ge (i:=i) hm (by simpa using hlt)
  have hgo:=over_get (i:=i) hm (by simpa using hlt)
  simp only[List.length_map,List.getElem_map]at hl hge hgo
  have hs:=sumTo_next (f:=mkUn) hlt
  have hsl:=sumTo_le mkUn h (i+1)
  have hmk:mkUn h[i]=2+sumN h[i].prog.nodes:=rfl
  unfold sumUn at h2 h3
  have e1:IntKind.i64.wrap (k+sumTo mkUn h i+1)=k+sumTo mkUn h i+1:=by rw[wrap64 (by omega) (by omega)]
  have n1:h[i].prog.nodes.length≤1000000000:=by have:=lenN h[i].prog.nodes;omega
  have e2:IntKind.i64.wrap (k+sumTo mkUn h i+1+sumN h[i].prog.nodes+1)=k+sumTo mkUn h i+1+sumN h[i].prog.nodes+1:=by rw[wrap64 (by omega) (by omega)]
  have hn:∀u0:C,((((((((over ((marksUn k h).map Un.ow) (h.map Un.ow) i).modify i fun r=>r.set 0 (.sc (.int .i64 (k+sumTo mkUn h i))))).modify i fun r=>r.set 1 u0)).modify i fun r=>r.set 1 (.sl 206 5 ((marksN (k+sumTo mkUn h i+1) h[i].prog.nodes).map Nd.ow)))).modify i fun r=>r.set 2 (.sc (.int .i64 (k+sumTo mkUn h i+1+sumN h[i].prog.nodes))))=over ((marksUn k h).map Un.ow) (h.map Un.ow) (i+1):=fun u0=>by
   rw[List.modify_modify_eq,List.modify_modify_eq,List.modify_modify_eq]
   exact over_next hm (by simpa using hlt) (by simp[marksUn,markUn,Un.ow,hlt])
  refine gox (L:=_∧True) (wa8 @Un.ow.eq_1 @hlt @hl @hge @hgo @e1 @e2 @marksN_len) wb0 (wb1 (fun v0 v1 (h:_∧_∧_∧_)=>c_laws_markNodeS v0 v1 h.1 h.2.1 h.2.2.1 h.2.2.2)) wb0 (wb3 wb0 (nm 3 [26,0,900001,1036,i,1]) (nm 4 [1,0,900001,1036,i,1])) ⟨fun _ _=>?_,wb0⟩
  refine⟨i+1,⟨hlt,by first|omega|(simp only;omega)|assumption⟩,rfl,rfl,?_,?_⟩<;>simp (disch:=omega) [wrap64,hn]
  all_goals (refine fit_int ?_;omega)
 ·obtain rfl:i=h.length:=by omega
  have ha:=over_all hm
  simp only[List.length_map]at ha
  refine gox (L:=_∧_∧True) wb0 wb0 wb0 wb0 (wb1 (outO [(0,137,3,(marksUn k h).map Un.ow)])) ⟨fun _=>?_,fun _=>?_,wb0⟩
  ·simp[ha]
  ·refine⟨?_,rfl⟩
   rw[sumTo_all];rfl
def markDf(k:Int)(c:Df):Df:=⟨mt (k),⟨marksN (k+1) c.prog.nodes,k+1+sumN c.prog.nodes⟩⟩
def mkDf(c:Df):Nat:=2+sumN c.prog.nodes
def sumDf(h:List Df):Nat:=(h.map mkDf).sum
def marksDf(k:Int)(h:List Df):List Df:=h.mapIdx fun i c=>markDf (k+sumTo mkDf h i) c
theorem marksDf_len(k:Int)(h:List Df):(marksDf k h).length=h.length:=by simp[marksDf]
theorem lenDf(l:List Df):l.length≤sumDf l:=lenSum (fun x=>by unfold mkDf;omega) l
theorem c_laws_markDefS(h:List Df)(k:Int)(h1:0≤k)(h2:k+sumDf h≤1000000000):Con PP 105 [.sl 0 3 [] 0 h.length,.sc (.int .i64 k)] [(0,214,3,h.map Df.ow)] [0] (fun r o=>r=.sc (.int .i64 (k+sumDf h))∧o=[(0,214,3,(marksDf k h).map Df.ow)]):=by
 have hm:((marksDf k h).map Df.ow).length=(h.map Df.ow).length:=by simp[marksDf]
 have h3:=lenDf h
 refine cof 37 Go.Proofs.Tryz.func105 fun G=>?_
 simp only[entSt,tmOf,List.append_nil,List.cons_append,List.nil_append]
 refine go (L:=_∧True) wb0 wb0 wb0 wb0 wb0 ⟨fun _=>?_,wb0⟩
 refine WPc.loopV (σ:=Nat) (fun i=>i≤h.length) (fun i=>h.length-i) (fun i=>[(5,.sc (.int .i64 i)),(1,.sc (.int .i64 (k+sumTo mkDf h i)))]) (fun i=>[(0,214,3,over ((marksDf k h).map Df.ow) (h.map Df.ow) i)]) [0,37] 0 (by simp[over_zero,sumTo_zero]) (by simp[over_zero,sumTo_zero]) (by simp) ?_
 rintro i hi s hs
 simp at hs
 subst hs
 by_cases hlt:i<h.length
 ·have hl:=over_len (i:=i) hm
  have hge:=over_ge (i:=i) hm (by simpa using hlt)
  have hgo:=over_get (i:=i) hm (by simpa using hlt)
  simp only[List.length_map,List.getElem_map]at hl hge hgo
  have hs:=sumTo_next (f:=mkDf) hlt
  have hsl:=sumTo_le mkDf h (i+1)
  have hmk:mkDf h[i]=2+sumN h[i].prog.nodes:=rfl
  unfold sumDf at h2 h3
  have e1:IntKind.i64.wrap (k+sumTo mkDf h i+1)=k+sumTo mkDf h i+1:=by rw[wrap64 (by omega) (by omega)]
  have n1:h[i].prog.nodes.length≤1000000000:=by have:=lenN h[i].prog.nodes;omega
  have e2:IntKind.i64.wrap (k+sumTo mkDf h i+1+sumN h[i].prog.nodes+1)=k+sumTo mkDf h i+1+sumN h[i].prog.nodes+1:=by rw[wrap64 (by omega) (by omega)]
  have hn:∀u0:C,((((((((over ((marksDf k h).map Df.ow) (h.map Df.ow) i).modify i fun r=>r.set 0 (.sc (.string (mt (k+sumTo mkDf h i)))))).modify i fun r=>r.set 1 u0)).modify i fun r=>r.set 1 (.sl 206 5 ((marksN (k+sumTo mkDf h i+1) h[i].prog.nodes).map Nd.ow)))).modify i fun r=>r.set 2 (.sc (.int .i64 (k+sumTo mkDf h i+1+sumN h[i].prog.nodes))))=over ((marksDf k h).map Df.ow) (h.map Df.ow) (i+1):=fun u0=>by
   rw[List.modify_modify_eq,List.modify_modify_eq,List.modify_modify_eq]
   exact over_next hm (by simpa using hlt) (by simp[marksDf,markDf,Df.ow,hlt])
  refine gox (L:=_∧True) (wa8 @Df.ow.eq_1 @hlt @hl @hge @hgo @e1 @e2 @marksN_len) (wb1 (fun v0 (h:_)=>c_laws_markText v0 h)) (wb1 (fun v0 v1 (h:_∧_∧_∧_)=>c_laws_markNodeS v0 v1 h.1 h.2.1 h.2.2.1 h.2.2.2)) wb0 (wb3 wb0 (nm 3 [27,0,900001,1037,i,1]) (nm 4 [1,0,900001,1037,i,1])) ⟨fun _ _=>?_,wb0⟩
  refine⟨i+1,⟨hlt,by first|omega|(simp only;omega)|assumption⟩,rfl,rfl,?_,?_⟩<;>simp (disch:=omega) [wrap64,hn]
  all_goals (refine fit_int ?_;omega)
 ·obtain rfl:i=h.length:=by omega
  have ha:=over_all hm
  simp only[List.length_map]at ha
  refine gox (L:=_∧_∧True) wb0 wb0 wb0 wb0 (wb1 (outO [(0,214,3,(marksDf k h).map Df.ow)])) ⟨fun _=>?_,fun _=>?_,wb0⟩
  ·simp[ha]
  ·refine⟨?_,rfl⟩
   rw[sumTo_all];rfl
def markFm(k:Int)(c:Fm):Fm:=⟨k,k+1,marksV (k+2) c.vals.length,marksBd (k+2+3*c.vals.length) c.env⟩
def mkFm(c:Fm):Nat:=2+3*c.vals.length+sumBd c.env
def sumFm(h:List Fm):Nat:=(h.map mkFm).sum
def marksFm(k:Int)(h:List Fm):List Fm:=h.mapIdx fun i c=>markFm (k+sumTo mkFm h i) c
theorem marksFm_len(k:Int)(h:List Fm):(marksFm k h).length=h.length:=by simp[marksFm]
theorem lenFm(l:List Fm):l.length≤sumFm l:=lenSum (fun x=>by unfold mkFm;omega) l
theorem c_laws_markFrameS(h:List Fm)(k:Int)(h1:0≤k)(h2:k+sumFm h≤1000000000):Con PP 107 [.sl 0 4 [] 0 h.length,.sc (.int .i64 k)] [(0,220,4,h.map Fm.ow)] [0] (fun r o=>r=.sc (.int .i64 (k+sumFm h))∧o=[(0,220,4,(marksFm k h).map Fm.ow)]):=by
 have hm:((marksFm k h).map Fm.ow).length=(h.map Fm.ow).length:=by simp[marksFm]
 have h3:=lenFm h
 refine cof 41 Go.Proofs.Tryz.func107 fun G=>?_
 simp only[entSt,tmOf,List.append_nil,List.cons_append,List.nil_append]
 refine go (L:=_∧True) wb0 wb0 wb0 wb0 wb0 ⟨fun _=>?_,wb0⟩
 refine WPc.loopV (σ:=Nat) (fun i=>i≤h.length) (fun i=>h.length-i) (fun i=>[(5,.sc (.int .i64 i)),(1,.sc (.int .i64 (k+sumTo mkFm h i)))]) (fun i=>[(0,220,4,over ((marksFm k h).map Fm.ow) (h.map Fm.ow) i)]) [0,41] 0 (by simp[over_zero,sumTo_zero]) (by simp[over_zero,sumTo_zero]) (by simp) ?_
 rintro i hi s hs
 simp at hs
 subst hs
 by_cases hlt:i<h.length
 ·have hl:=over_len (i:=i) hm
  have hge:=over_ge (i:=i) hm (by simpa using hlt)
  have hgo:=over_get (i:=i) hm (by simpa using hlt)
  simp only[List.length_map,List.getElem_map]at hl hge hgo
  have hs:=sumTo_next (f:=mkFm) hlt
  have hsl:=sumTo_le mkFm h (i+1)
  have hmk:mkFm h[i]=2+3*h[i].vals.length+sumBd h[i].env:=rfl
  unfold sumFm at h2 h3
  have e1:IntKind.i64.wrap (k+sumTo mkFm h i+1)=k+sumTo mkFm h i+1:=by rw[wrap64 (by omega) (by omega)]
  have e2:IntKind.i64.wrap (k+sumTo mkFm h i+1+1)=k+sumTo mkFm h i+2:=by rw[wrap64 (by omega) (by omega)];omega
  have n1:h[i].vals.length≤1000000000:=by omega
  have n2:h[i].env.length≤1000000000:=by have:=lenBd h[i].env;omega
  have hn:∀u0 u1:C,((((((((((((over ((marksFm k h).map Fm.ow) (h.map Fm.ow) i).modify i fun r=>r.set 0 (.sc (.int .i64 (k+sumTo mkFm h i))))).modify i fun r=>r.set 1 (.sc (.int .i64 (k+sumTo mkFm h i+1))))).modify i fun r=>r.set 2 u0)).modify i fun r=>r.set 2 (.sl 115 3 ((marksV (k+sumTo mkFm h i+2) h[i].vals.length).map V.cs)))).modify i fun r=>r.set 3 u1)).modify i fun r=>r.set 3 (.sl 257 4 ((marksBd (k+sumTo mkFm h i+2+3*h[i].vals.length) h[i].env).map Bd.cs)))=over ((marksFm k h).map Fm.ow) (h.map Fm.ow) (i+1):=fun u0 u1=>by
   rw[List.modify_modify_eq,List.modify_modify_eq,List.modify_modify_eq,List.modify_modify_eq,List.modify_modify_eq]
   exact over_next hm (by simpa using hlt) (by simp[marksFm,markFm,Fm.ow,hlt])
  refine gox (L:=_∧True) (wa9 @Fm.ow.eq_1 @hlt @hl @hge @hgo @e1 @e2 @marksV_len @marksBd_len) wb0 (wb2 (fun v0 v1 (h:_∧_∧_)=>c_laws_markValueS v0 v1 h.1 h.2.1 h.2.2) (fun v0 v1 (h:_∧_)=>c_laws_markBindS v0 v1 h.1 h.2)) wb0 (wb5 wb0 (nm 3 [32,0,900001,1041,i,2]) (nm 4 [1,0,900001,1041,i,2]) (nm 3 [39,0,900002,1041,i,3]) (nm 4 [1,0,900002,1041,i,3])) ⟨fun _ _ _=>?_,wb0⟩
  refine⟨i+1,⟨hlt,by first|omega|(simp only;omega)|assumption⟩,rfl,rfl,?_,?_⟩<;>simp (disch:=omega) [wrap64,hn]
  all_goals (refine fit_int ?_;omega)
 ·obtain rfl:i=h.length:=by omega
  have ha:=over_all hm
  simp only[List.length_map]at ha
  refine gox (L:=_∧_∧True) wb0 wb0 wb0 wb0 (wb1 (outO [(0,220,4,(marksFm k h).map Fm.ow)])) ⟨fun _=>?_,fun _=>?_,wb0⟩
  ·simp[ha]
  ·refine⟨?_,rfl⟩
   rw[sumTo_all];rfl
def markEn(k:Int)(c:En):En:=⟨⟨mt (k),marksS (k+1) c.src.imports.length,marksS (k+1+c.src.imports.length) c.src.exports.length,marksTy (k+1+c.src.imports.length+c.src.exports.length) c.src.types,marksDf (k+1+c.src.imports.length+c.src.exports.length+sumTy c.src.types) c.src.defs,marksDf (k+1+c.src.imports.length+c.src.exports.length+sumTy c.src.types+sumDf c.src.defs) c.src.convs⟩,k+1+c.src.imports.length+c.src.exports.length+sumTy c.src.types+sumDf c.src.defs+sumDf c.src.convs,k+1+c.src.imports.length+c.src.exports.length+sumTy c.src.types+sumDf c.src.defs+sumDf c.src.convs+1⟩
def mkEn(c:En):Nat:=3+c.src.imports.length+c.src.exports.length+sumTy c.src.types+sumDf c.src.defs+sumDf c.src.convs
def sumEn(h:List En):Nat:=(h.map mkEn).sum
def marksEn(k:Int)(h:List En):List En:=h.mapIdx fun i c=>markEn (k+sumTo mkEn h i) c
theorem marksEn_len(k:Int)(h:List En):(marksEn k h).length=h.length:=by simp[marksEn]
theorem lenEn(l:List En):l.length≤sumEn l:=lenSum (fun x=>by unfold mkEn;omega) l
theorem c_laws_markEntS(h:List En)(k:Int)(h1:0≤k)(h2:k+sumEn h≤1000000000):Con PP 45 [.sl 0 8 [] 0 h.length,.sc (.int .i64 k)] [(0,112,8,h.map En.ow)] [0] (fun r o=>r=.sc (.int .i64 (k+sumEn h))∧o=[(0,112,8,(marksEn k h).map En.ow)]):=by
 have hm:((marksEn k h).map En.ow).length=(h.map En.ow).length:=by simp[marksEn]
 have h3:=lenEn h
 refine cof 76 Go.Proofs.Tryz.func45 fun G=>?_
 simp only[entSt,tmOf,List.append_nil,List.cons_append,List.nil_append]
 refine go (L:=_∧True) wb0 wb0 wb0 wb0 wb0 ⟨fun _=>?_,wb0⟩
 refine WPc.loopV (σ:=Nat) (fun i=>i≤h.length) (fun i=>h.length-i) (fun i=>[(5,.sc (.int .i64 i)),(1,.sc (.int .i64 (k+sumTo mkEn h i)))]) (fun i=>[(0,112,8,over ((marksEn k h).map En.ow) (h.map En.ow) i)]) [0,76] 0 (by simp[over_zero,sumTo_zero]) (by simp[over_zero,sumTo_zero]) (by simp) ?_
 rintro i hi s hs
 simp at hs
 subst hs
 by_cases hlt:i<h.length
 ·have hl:=over_len (i:=i) hm
  have hge:=over_ge (i:=i) hm (by simpa using hlt)
  have hgo:=over_get (i:=i) hm (by simpa using hlt)
  simp only[List.length_map,List.getElem_map]at hl hge hgo
  have hs:=sumTo_next (f:=mkEn) hlt
  have hsl:=sumTo_le mkEn h (i+1)
  have hmk:mkEn h[i]=3+h[i].src.imports.length+h[i].src.exports.length+sumTy h[i].src.types+sumDf h[i].src.defs+sumDf h[i].src.convs:=rfl
  unfold sumEn at h2 h3
  have e1:IntKind.i64.wrap (k+sumTo mkEn h i+1)=k+sumTo mkEn h i+1:=by rw[wrap64 (by omega) (by omega)]
  have n1:h[i].src.imports.length≤1000000000:=by omega
  have n2:h[i].src.exports.length≤1000000000:=by omega
  have n3:h[i].src.types.length≤1000000000:=by have:=lenTy h[i].src.types;omega
  have n4:h[i].src.defs.length≤1000000000:=by have:=lenDf h[i].src.defs;omega
  have n5:h[i].src.convs.length≤1000000000:=by have:=lenDf h[i].src.convs;omega
  have e2:IntKind.i64.wrap (k+sumTo mkEn h i+1+h[i].src.imports.length+h[i].src.exports.length+sumTy h[i].src.types+sumDf h[i].src.defs+sumDf h[i].src.convs+1)=k+sumTo mkEn h i+1+h[i].src.imports.length+h[i].src.exports.length+sumTy h[i].src.types+sumDf h[i].src.defs+sumDf h[i].src.convs+1:=by rw[wrap64 (by omega) (by omega)]
  have e3:IntKind.i64.wrap (k+sumTo mkEn h i+1+h[i].src.imports.length+h[i].src.exports.length+sumTy h[i].src.types+sumDf h[i].src.defs+sumDf h[i].src.convs+1+1)=k+sumTo mkEn h i+1+h[i].src.imports.length+h[i].src.exports.length+sumTy h[i].src.types+sumDf h[i].src.defs+sumDf h[i].src.convs+2:=by rw[wrap64 (by omega) (by omega)];omega
  have hn:∀u0 u1 u2 u3 u4:C,((((((((((((((((((((((((((over ((marksEn k h).map En.ow) (h.map En.ow) i).modify i fun r=>r.set 0 (.sc (.string (mt (k+sumTo mkEn h i)))))).modify i fun r=>r.set 1 u0)).modify i fun r=>r.set 1 (.sl 9 1 ((marksS (k+sumTo mkEn h i+1) h[i].src.imports.length).map sC)))).modify i fun r=>r.set 2 u1)).modify i fun r=>r.set 2 (.sl 9 1 ((marksS (k+sumTo mkEn h i+1+h[i].src.imports.length) h[i].src.exports.length).map sC)))).modify i fun r=>r.set 3 u2)).modify i fun r=>r.set 3 (.sl 212 2 ((marksTy (k+sumTo mkEn h i+1+h[i].src.imports.length+h[i].src.exports.length) h[i].src.types).map Ty.cs)))).modify i fun r=>r.set 4 u3)).modify i fun r=>r.set 4 (.sl 214 3 ((marksDf (k+sumTo mkEn h i+1+h[i].src.imports.length+h[i].src.exports.length+sumTy h[i].src.types) h[i].src.defs).map Df.ow)))).modify i fun r=>r.set 5 u4)).modify i fun r=>r.set 5 (.sl 214 3 ((marksDf (k+sumTo mkEn h i+1+h[i].src.imports.length+h[i].src.exports.length+sumTy h[i].src.types+sumDf h[i].src.defs) h[i].src.convs).map Df.ow)))).modify i fun r=>r.set 6 (.sc (.int .i64 (k+sumTo mkEn h i+1+h[i].src.imports.length+h[i].src.exports.length+sumTy h[i].src.types+sumDf h[i].src.defs+sumDf h[i].src.convs))))).modify i fun r=>r.set 7 (.sc (.int .i64 (k+sumTo mkEn h i+1+h[i].src.imports.length+h[i].src.exports.length+sumTy h[i].src.types+sumDf h[i].src.defs+sumDf h[i].src.convs+1))))=over ((marksEn k h).map En.ow) (h.map En.ow) (i+1):=fun u0 u1 u2 u3 u4=>by
   rw[List.modify_modify_eq,List.modify_modify_eq,List.modify_modify_eq,List.modify_modify_eq,List.modify_modify_eq,List.modify_modify_eq,List.modify_modify_eq,List.modify_modify_eq,List.modify_modify_eq,List.modify_modify_eq,List.modify_modify_eq,List.modify_modify_eq]
   exact over_next hm (by simpa using hlt) (by simp[marksEn,markEn,En.ow,hlt])
  repeat' (first
   |(refine WPL.focAt 28 0 900001 1076 [] i 1 ?_ ?_;(focus(simp;done));refine fun u K hK=>?_;simp -implicitDefEqProofs +contextual [-Int.not_le,-Int.not_lt,-Nat.not_le,-Nat.not_lt,-List.all_eq_true,-List.all_eq_false,-List.any_eq_true,-List.any_eq_false,En.ow,hlt,hl,hge,hgo,e1,e2,e3,marksS_len,marksTy_len,marksDf_len];(repeat1' (first|apply hK|apply And.intro|intro _))<;>clear hK K)
   |(refine WPL.attAt (some 1) 0 900001 1076 [] i 1 ?_ rfl ?_;(focus(simp;done));refine fun K hK=>?_;simp -implicitDefEqProofs +contextual [-Int.not_le,-Int.not_lt,-Nat.not_le,-Nat.not_lt,-List.all_eq_true,-List.all_eq_false,-List.any_eq_true,-List.any_eq_false,En.ow,hlt,hl,hge,hgo,e1,e2,e3,marksS_len,marksTy_len,marksDf_len];(repeat1' (first|apply hK|apply And.intro|intro _))<;>clear hK K)
   |(refine WPL.focAt 36 0 900002 1076 [] i 2 ?_ ?_;(focus(simp;done));refine fun u K hK=>?_;simp -implicitDefEqProofs +contextual [-Int.not_le,-Int.not_lt,-Nat.not_le,-Nat.not_lt,-List.all_eq_true,-List.all_eq_false,-List.any_eq_true,-List.any_eq_false,En.ow,hlt,hl,hge,hgo,e1,e2,e3,marksS_len,marksTy_len,marksDf_len];(repeat1' (first|apply hK|apply And.intro|intro _))<;>clear hK K)
   |(refine WPL.attAt (some 1) 0 900002 1076 [] i 2 ?_ rfl ?_;(focus(simp;done));refine fun K hK=>?_;simp -implicitDefEqProofs +contextual [-Int.not_le,-Int.not_lt,-Nat.not_le,-Nat.not_lt,-List.all_eq_true,-List.all_eq_false,-List.any_eq_true,-List.any_eq_false,En.ow,hlt,hl,hge,hgo,e1,e2,e3,marksS_len,marksTy_len,marksDf_len];(repeat1' (first|apply hK|apply And.intro|intro _))<;>clear hK K)
   |(refine WPL.focAt 44 0 900003 1076 [] i 3 ?_ ?_;(focus(simp;done));refine fun u K hK=>?_;simp -implicitDefEqProofs +contextual [-Int.not_le,-Int.not_lt,-Nat.not_le,-Nat.not_lt,-List.all_eq_true,-List.all_eq_false,-List.any_eq_true,-List.any_eq_false,En.ow,hlt,hl,hge,hgo,e1,e2,e3,marksS_len,marksTy_len,marksDf_len];(repeat1' (first|apply hK|apply And.intro|intro _))<;>clear hK K)
   |(refine WPL.attAt (some 1) 0 900003 1076 [] i 3 ?_ rfl ?_;(focus(simp;done));refine fun K hK=>?_;simp -implicitDefEqProofs +contextual [-Int.not_le,-Int.not_lt,-Nat.not_le,-Nat.not_lt,-List.all_eq_true,-List.all_eq_false,-List.any_eq_true,-List.any_eq_false,En.ow,hlt,hl,hge,hgo,e1,e2,e3,marksS_len,marksTy_len,marksDf_len];(repeat1' (first|apply hK|apply And.intro|intro _))<;>clear hK K)
   |(refine WPL.focAt 52 0 900004 1076 [] i 4 ?_ ?_;(focus(simp;done));refine fun u K hK=>?_;simp -implicitDefEqProofs +contextual [-Int.not_le,-Int.not_lt,-Nat.not_le,-Nat.not_lt,-List.all_eq_true,-List.all_eq_false,-List.any_eq_true,-List.any_eq_false,En.ow,hlt,hl,hge,hgo,e1,e2,e3,marksS_len,marksTy_len,marksDf_len];(repeat1' (first|apply hK|apply And.intro|intro _))<;>clear hK K)
   |(refine WPL.attAt (some 1) 0 900004 1076 [] i 4 ?_ rfl ?_;(focus(simp;done));refine fun K hK=>?_;simp -implicitDefEqProofs +contextual [-Int.not_le,-Int.not_lt,-Nat.not_le,-Nat.not_lt,-List.all_eq_true,-List.all_eq_false,-List.any_eq_true,-List.any_eq_false,En.ow,hlt,hl,hge,hgo,e1,e2,e3,marksS_len,marksTy_len,marksDf_len];(repeat1' (first|apply hK|apply And.intro|intro _))<;>clear hK K)
   |(refine WPL.focAt 60 0 900005 1076 [] i 5 ?_ ?_;(focus(simp;done));refine fun u K hK=>?_;simp -implicitDefEqProofs +contextual [-Int.not_le,-Int.not_lt,-Nat.not_le,-Nat.not_lt,-List.all_eq_true,-List.all_eq_false,-List.any_eq_true,-List.any_eq_false,En.ow,hlt,hl,hge,hgo,e1,e2,e3,marksS_len,marksTy_len,marksDf_len];(repeat1' (first|apply hK|apply And.intro|intro _))<;>clear hK K)
   |(refine WPL.attAt (some 1) 0 900005 1076 [] i 5 ?_ rfl ?_;(focus(simp;done));refine fun K hK=>?_;simp -implicitDefEqProofs +contextual [-Int.not_le,-Int.not_lt,-Nat.not_le,-Nat.not_lt,-List.all_eq_true,-List.all_eq_false,-List.any_eq_true,-List.any_eq_false,En.ow,hlt,hl,hge,hgo,e1,e2,e3,marksS_len,marksTy_len,marksDf_len];(repeat1' (first|apply hK|apply And.intro|intro _))<;>clear hK K)
   |((first|refine WPL.rnTo tok 28 _ (by simp[isFn];rfl) fun K hK=>?_|refine WPL.rnTo tok 36 _ (by simp[isFn];rfl) fun K hK=>?_|refine WPL.rnTo tok 44 _ (by simp[isFn];rfl) fun K hK=>?_|refine WPL.rnTo tok 52 _ (by simp[isFn];rfl) fun K hK=>?_|refine WPL.rnTo tok 60 _ (by simp[isFn];rfl) fun K hK=>?_|refine WPc.rq tok rfl fun K hK=>?_|refine WPL.rn tok _ (by simp[ahead,isFn];rfl) fun K hK=>?_);simp -implicitDefEqProofs +contextual [-Int.not_le,-Int.not_lt,-Nat.not_le,-Nat.not_lt,-List.all_eq_true,-List.all_eq_false,-List.any_eq_true,-List.any_eq_false,En.ow,hlt,hl,hge,hgo,e1,e2,e3,marksS_len,marksTy_len,marksDf_len];(repeat1' (first|apply hK|apply And.intro|intro _))<;>clear hK K<;>(try dsimp only[List.drop]))
   |apply WPc.sq
   |apply WPc.block
   |apply WPc.skip
   |refine WPL.nil ?_
   |(apply WPL.cL (c_laws_markText _ ?g1);(case q=>(repeat' (first|refine And.intro ?_ ?_|intro _|(with_reducible exact cleanOut_nil)|(refine Eqv.mk ?_;first|rfl|(simp -implicitDefEqProofs [En.ow,hlt,hl,hge,hgo,e1,e2,e3,marksS_len,marksTy_len,marksDf_len];done))|(simp -implicitDefEqProofs [En.ow,hlt,hl,hge,hgo,e1,e2,e3,marksS_len,marksTy_len,marksDf_len];done)|(simp -implicitDefEqProofs [En.ow,hlt,hl,hge,hgo,e1,e2,e3,marksS_len,marksTy_len,marksDf_len];rfl)|(simp;done)|(simp;rfl)|rfl)));(case g1=>(first|assumption|omega)))
   |(apply WPL.cU (c_laws_markStringS _ _ ?g1 ?g2 ?g3);(case q=>(repeat' (first|refine And.intro ?_ ?_|intro _|(with_reducible exact cleanOut_nil)|(refine Eqv.mk ?_;first|rfl|(simp -implicitDefEqProofs [En.ow,hlt,hl,hge,hgo,e1,e2,e3,marksS_len,marksTy_len,marksDf_len];done))|(simp -implicitDefEqProofs [En.ow,hlt,hl,hge,hgo,e1,e2,e3,marksS_len,marksTy_len,marksDf_len];done)|(simp -implicitDefEqProofs [En.ow,hlt,hl,hge,hgo,e1,e2,e3,marksS_len,marksTy_len,marksDf_len];rfl)|(simp;done)|(simp;rfl)|rfl)));(case g1=>(first|assumption|omega));(case g2=>(first|assumption|omega));(case g3=>(first|assumption|omega)))
   |(apply WPL.cU (c_laws_markTypeS _ _ ?g1 ?g2);(case q=>(repeat' (first|refine And.intro ?_ ?_|intro _|(with_reducible exact cleanOut_nil)|(refine Eqv.mk ?_;first|rfl|(simp -implicitDefEqProofs [En.ow,hlt,hl,hge,hgo,e1,e2,e3,marksS_len,marksTy_len,marksDf_len];done))|(simp -implicitDefEqProofs [En.ow,hlt,hl,hge,hgo,e1,e2,e3,marksS_len,marksTy_len,marksDf_len];done)|(simp -implicitDefEqProofs [En.ow,hlt,hl,hge,hgo,e1,e2,e3,marksS_len,marksTy_len,marksDf_len];rfl)|(simp;done)|(simp;rfl)|rfl)));(case g1=>(first|assumption|omega));(case g2=>(first|assumption|omega)))
   |(apply WPL.cU (c_laws_markDefS _ _ ?g1 ?g2);(case q=>(repeat' (first|refine And.intro ?_ ?_|intro _|(with_reducible exact cleanOut_nil)|(refine Eqv.mk ?_;first|rfl|(simp -implicitDefEqProofs [En.ow,hlt,hl,hge,hgo,e1,e2,e3,marksS_len,marksTy_len,marksDf_len];done))|(simp -implicitDefEqProofs [En.ow,hlt,hl,hge,hgo,e1,e2,e3,marksS_len,marksTy_len,marksDf_len];done)|(simp -implicitDefEqProofs [En.ow,hlt,hl,hge,hgo,e1,e2,e3,marksS_len,marksTy_len,marksDf_len];rfl)|(simp;done)|(simp;rfl)|rfl)));(case g1=>(first|assumption|omega));(case g2=>(first|assumption|omega)))
   |(refine WPc.region ?_;simp only[List.toList_toArray])
   |(refine WPc.condT ?_ ?_;(focus(simp;done))))
  refine⟨i+1,⟨hlt,by first|omega|(simp only;omega)|assumption⟩,rfl,rfl,?_,?_⟩<;>simp (disch:=omega) [wrap64,hn]
  all_goals (refine fit_int ?_;omega)
 ·obtain rfl:i=h.length:=by omega
  have ha:=over_all hm
  simp only[List.length_map]at ha
  refine gox (L:=_∧_∧True) wb0 wb0 wb0 wb0 (wb1 (outO [(0,112,8,(marksEn k h).map En.ow)])) ⟨fun _=>?_,fun _=>?_,wb0⟩
  ·simp[ha]
  ·refine⟨?_,rfl⟩
   rw[sumTo_all];rfl
def markTk(k:Int)(c:Tk):Tk:=⟨k,⟨k+1,k+2,k+3,marksBd (k+4) c.mac.env,⟨k+4+sumBd c.mac.env,k+4+sumBd c.mac.env+1,mt (k+4+sumBd c.mac.env+2)⟩,marksFm (k+4+sumBd c.mac.env+3) c.mac.stack,k+4+sumBd c.mac.env+3+sumFm c.mac.stack⟩⟩
def mkTk(c:Tk):Nat:=8+sumBd c.mac.env+sumFm c.mac.stack
def sumTk(h:List Tk):Nat:=(h.map mkTk).sum
def marksTk(k:Int)(h:List Tk):List Tk:=h.mapIdx fun i c=>markTk (k+sumTo mkTk h i) c
theorem marksTk_len(k:Int)(h:List Tk):(marksTk k h).length=h.length:=by simp[marksTk]
theorem lenTk(l:List Tk):l.length≤sumTk l:=lenSum (fun x=>by unfold mkTk;omega) l
theorem c_laws_markTaskS(h:List Tk)(k:Int)(h1:0≤k)(h2:k+sumTk h≤1000000000):Con PP 46 [.sl 0 10 [] 0 h.length,.sc (.int .i64 k)] [(0,125,10,h.map Tk.ow)] [0] (fun r o=>r=.sc (.int .i64 (k+sumTk h))∧o=[(0,125,10,(marksTk k h).map Tk.ow)]):=by
 have hm:((marksTk k h).map Tk.ow).length=(h.map Tk.ow).length:=by simp[marksTk]
 have h3:=lenTk h
 refine cof 96 Go.Proofs.Tryz.func46 fun G=>?_
 simp only[entSt,tmOf,List.append_nil,List.cons_append,List.nil_append]
 refine go (L:=_∧True) wb0 wb0 wb0 wb0 wb0 ⟨fun _=>?_,wb0⟩
 refine WPc.loopV (σ:=Nat) (fun i=>i≤h.length) (fun i=>h.length-i) (fun i=>[(5,.sc (.int .i64 i)),(1,.sc (.int .i64 (k+sumTo mkTk h i)))]) (fun i=>[(0,125,10,over ((marksTk k h).map Tk.ow) (h.map Tk.ow) i)]) [0,96] 0 (by simp[over_zero,sumTo_zero]) (by simp[over_zero,sumTo_zero]) (by simp) ?_
 rintro i hi s hs
 simp at hs
 subst hs
 by_cases hlt:i<h.length
 ·have hl:=over_len (i:=i) hm
  have hge:=over_ge (i:=i) hm (by simpa using hlt)
  have hgo:=over_get (i:=i) hm (by simpa using hlt)
  simp only[List.length_map,List.getElem_map]at hl hge hgo
  have hs:=sumTo_next (f:=mkTk) hlt
  have hsl:=sumTo_le mkTk h (i+1)
  have hmk:mkTk h[i]=8+sumBd h[i].mac.env+sumFm h[i].mac.stack:=rfl
  unfold sumTk at h2 h3
  have e1:IntKind.i64.wrap (k+sumTo mkTk h i+1)=k+sumTo mkTk h i+1:=by rw[wrap64 (by omega) (by omega)]
  have e2:IntKind.i64.wrap (k+sumTo mkTk h i+1+1)=k+sumTo mkTk h i+2:=by rw[wrap64 (by omega) (by omega)];omega
  have e3:IntKind.i64.wrap (k+sumTo mkTk h i+2+1)=k+sumTo mkTk h i+3:=by rw[wrap64 (by omega) (by omega)];omega
  have e4:IntKind.i64.wrap (k+sumTo mkTk h i+3+1)=k+sumTo mkTk h i+4:=by rw[wrap64 (by omega) (by omega)];omega
  have n1:h[i].mac.env.length≤1000000000:=by have:=lenBd h[i].mac.env;omega
  have e5:IntKind.i64.wrap (k+sumTo mkTk h i+4+sumBd h[i].mac.env+1)=k+sumTo mkTk h i+4+sumBd h[i].mac.env+1:=by rw[wrap64 (by omega) (by omega)]
  have e6:IntKind.i64.wrap (k+sumTo mkTk h i+4+sumBd h[i].mac.env+1+1)=k+sumTo mkTk h i+4+sumBd h[i].mac.env+2:=by rw[wrap64 (by omega) (by omega)];omega
  have e7:IntKind.i64.wrap (k+sumTo mkTk h i+4+sumBd h[i].mac.env+2+1)=k+sumTo mkTk h i+4+sumBd h[i].mac.env+3:=by rw[wrap64 (by omega) (by omega)];omega
  have n2:h[i].mac.stack.length≤1000000000:=by have:=lenFm h[i].mac.stack;omega
  have e8:IntKind.i64.wrap (k+sumTo mkTk h i+4+sumBd h[i].mac.env+3+sumFm h[i].mac.stack+1)=k+sumTo mkTk h i+4+sumBd h[i].mac.env+3+sumFm h[i].mac.stack+1:=by rw[wrap64 (by omega) (by omega)]
  have hn:∀u0 u1:C,((((((((((((((((((((((((over ((marksTk k h).map Tk.ow) (h.map Tk.ow) i).modify i fun r=>r.set 0 (.sc (.int .i64 (k+sumTo mkTk h i))))).modify i fun r=>r.set 1 (.sc (.int .i64 (k+sumTo mkTk h i+1))))).modify i fun r=>r.set 2 (.sc (.int .i64 (k+sumTo mkTk h i+2))))).modify i fun r=>r.set 3 (.sc (.int .i64 (k+sumTo mkTk h i+3))))).modify i fun r=>r.set 4 u0)).modify i fun r=>r.set 4 (.sl 257 4 ((marksBd (k+sumTo mkTk h i+4) h[i].mac.env).map Bd.cs)))).modify i fun r=>r.set 5 (.sc (.int .i64 (k+sumTo mkTk h i+4+sumBd h[i].mac.env))))).modify i fun r=>r.set 6 (.sc (.int .i64 (k+sumTo mkTk h i+4+sumBd h[i].mac.env+1))))).modify i fun r=>r.set 7 (.sc (.string (mt (k+sumTo mkTk h i+4+sumBd h[i].mac.env+2)))))).modify i fun r=>r.set 8 u1)).modify i fun r=>r.set 8 (.sl 220 4 ((marksFm (k+sumTo mkTk h i+4+sumBd h[i].mac.env+3) h[i].mac.stack).map Fm.ow)))).modify i fun r=>r.set 9 (.sc (.int .i64 (k+sumTo mkTk h i+4+sumBd h[i].mac.env+3+sumFm h[i].mac.stack))))=over ((marksTk k h).map Tk.ow) (h.map Tk.ow) (i+1):=fun u0 u1=>by
   rw[List.modify_modify_eq,List.modify_modify_eq,List.modify_modify_eq,List.modify_modify_eq,List.modify_modify_eq,List.modify_modify_eq,List.modify_modify_eq,List.modify_modify_eq,List.modify_modify_eq,List.modify_modify_eq,List.modify_modify_eq]
   exact over_next hm (by simpa using hlt) (by simp[marksTk,markTk,Tk.ow,hlt])
  refine gox (L:=_∧True) (wa15 @Tk.ow.eq_1 @hlt @hl @hge @hgo @e1 @e2 @e3 @e4 @e5 @e6 @e7 @e8 @marksBd_len @marksFm_len) (wb1 (fun v0 (h:_)=>c_laws_markText v0 h)) (wb2 (fun v0 v1 (h:_∧_)=>c_laws_markBindS v0 v1 h.1 h.2) (fun v0 v1 (h:_∧_)=>c_laws_markFrameS v0 v1 h.1 h.2)) wb0 (wb5 wb0 (nm 3 [50,0,900001,1096,i,4]) (nm 4 [1,0,900001,1096,i,4]) (nm 3 [86,0,900002,1096,i,8]) (nm 4 [1,0,900002,1096,i,8])) ⟨fun _ _ _=>?_,wb0⟩
  refine⟨i+1,⟨hlt,by first|omega|(simp only;omega)|assumption⟩,rfl,rfl,?_,?_⟩<;>simp (disch:=omega) [wrap64,hn]
  all_goals (refine fit_int ?_;omega)
 ·obtain rfl:i=h.length:=by omega
  have ha:=over_all hm
  simp only[List.length_map]at ha
  refine gox (L:=_∧_∧True) wb0 wb0 wb0 wb0 (wb1 (outO [(0,125,10,(marksTk k h).map Tk.ow)])) ⟨fun _=>?_,fun _=>?_,wb0⟩
  ·simp[ha]
  ·refine⟨?_,rfl⟩
   rw[sumTo_all];rfl
end Go.Own
set_option maxRecDepth 1000000
set_option maxHeartbeats 4000000
namespace Go.Own
attribute [local irreducible] WPc WPL WPS WPS1 WPS2 HAny endP
variable [Laid]
open Go.Lib Go.RowKit
theorem lenC(l:List Cl):l.length≤sumC l:=lenSum (fun x=>by unfold mk;omega) l
theorem marksC_len'(k:Int)(h:List Cl):(marksC k h).length=h.length:=by simp[marksC]
def markSy(k:Int)(y:Sy):Sy:=⟨marksC k y.heap,marksIn (k+sumC y.heap) y.insts,marksUn (k+sumC y.heap+sumIn y.insts) y.units,marksS (k+sumC y.heap+sumIn y.insts+sumUn y.units) y.out.length⟩
def mkSy(y:Sy):Nat:=sumC y.heap+sumIn y.insts+sumUn y.units+y.out.length
theorem c_laws_markSys(y:Sy)(k:Int)(h1:0≤k)(h2:k+mkSy y≤1000000000):Con PP 44 [.agg [.sl 0 6 [] 0 y.heap.length,.sl 1 6 [] 0 y.insts.length,.sl 2 3 [] 0 y.units.length,.sl 3 1 [] 0 y.out.length],.sc (.int .i64 k)]
  [(0,132,6,y.heap.map Cl.ow),(1,83,6,y.insts.map In.ow),(2,137,3,y.units.map Un.ow),(3,9,1,y.out.map sC)] [0]
  (fun r o=>r=.sc (.int .i64 (k+sumC y.heap+sumIn y.insts+sumUn y.units+y.out.length))∧o=[(0,132,6,(marksC k y.heap).map Cl.ow),(1,83,6,(marksIn (k+sumC y.heap) y.insts).map In.ow),(2,137,3,(marksUn (k+sumC y.heap+sumIn y.insts) y.units).map Un.ow),(3,9,1,(marksS (k+sumC y.heap+sumIn y.insts+sumUn y.units) y.out.length).map sC)]):=by
 have l1:=lenC y.heap
 unfold mkSy at h2
 refine cof 22 Go.Proofs.Tryz.func44 fun G=>?_
 simp only[entSt,tmOf,List.append_nil,List.cons_append,List.nil_append]
 refine WPc.renC 2 900033 fun K hK=>?_
 simp -implicitDefEqProofs
 refine hK _ ?_;clear hK K
 refine WPc.ghS 0 2022 0 fun u0 hu0 K hK=>?_
 simp -implicitDefEqProofs
 refine hK _ ?_;clear hK K
 refine WPc.ghS 0 2023 1 fun u1 hu1 K hK=>?_
 simp -implicitDefEqProofs
 refine hK _ ?_;clear hK K
 refine WPc.ghS 0 2024 2 fun u2 hu2 K hK=>?_
 simp -implicitDefEqProofs
 refine hK _ ?_;clear hK K
 refine WPc.ghS 0 2025 3 fun u3 hu3 K hK=>?_
 simp -implicitDefEqProofs
 refine hK _ ?_;clear hK K
 refine gox (L:=_∧True) (wa4 @hu0 @hu1 @hu2 @hu3) wb0 (wb4 (fun v0 v1 (h:_∧_∧_∧_)=>c_laws_markCellS v0 v1 h.1 h.2.1 h.2.2.1 h.2.2.2) (fun v0 v1 (h:_∧_)=>c_laws_markInstS v0 v1 h.1 h.2) (fun v0 v1 (h:_∧_)=>c_laws_markUnitS v0 v1 h.1 h.2) (fun v0 v1 (h:_∧_∧_)=>c_laws_markStringS v0 v1 h.1 h.2.1 h.2.2)) wb0 (wb7 (outs [0,1,2,3]) (nm 14 [8,6,2022]) (nm 14 [12,10,2023]) (nm 14 [16,14,2024]) (nm 14 [20,18,2025]) (nm 6 [900033,2]) (nm 9 [])) ⟨fun _=>?_,wb0⟩
 exact⟨rfl,rfl⟩
def mkWd(w:Wd):Nat:=mkSy w.sys+sumEn w.libs+sumTk w.tasks
def posA(k:Int)(y:Sy):Int:=k+sumC y.heap+sumIn y.insts+sumUn y.units+y.out.length
def markWd(k:Int)(w:Wd):Wd:=⟨markSy k w.sys,marksEn (posA k w.sys) w.libs,marksTk (posA k w.sys+sumEn w.libs) w.tasks,w.next⟩
theorem c_laws_markWorld(w:Wd)(k:Int)(h1:0≤k)(h2:k+mkWd w≤1000000000):Con PP 17 [.agg [.sl 0 6 [(0,0)] 0 w.sys.heap.length,.sl 0 6 [(0,1)] 0 w.sys.insts.length,.sl 0 3 [(0,2)] 0 w.sys.units.length,.sl 0 1 [(0,3)] 0 w.sys.out.length,.sl 0 8 [(0,4)] 0 w.libs.length,.sl 0 10 [(0,5)] 0 w.tasks.length,.sc (.int .i64 w.next)],.sc (.int .i64 k)]
  [(0,42,7,[w.ow])] [] (fun r o=>r=.sc (.int .i64 (k+mkWd w))∧o=[(0,42,7,[(markWd k w).ow])]):=by
 have l1:=lenC w.sys.heap
 have p1:0≤posA k w.sys:=by unfold posA;omega
 have p2:posA k w.sys+sumEn w.libs≤1000000000:=by unfold mkWd mkSy at h2;unfold posA;omega
 have p3:posA k w.sys+sumEn w.libs+sumTk w.tasks≤1000000000:=by unfold mkWd mkSy at h2;unfold posA;omega
 have p4:k+mkSy w.sys≤1000000000:=by unfold mkWd at h2;omega
 have p5:0≤posA k w.sys+sumEn w.libs:=by omega
 have uS:=c_laws_markSys w.sys k h1 p4
 have hp:k+sumC w.sys.heap+sumIn w.sys.insts+sumUn w.sys.units+w.sys.out.length=posA k w.sys:=rfl
 rw[hp]at uS
 refine cof 18 Go.Proofs.Tryz.func17 fun G=>?_
 simp only[entSt,tmOf,List.append_nil,List.cons_append,List.nil_append,Wd.ow]
 refine WPc.detgc 0 900001 2100 [] 0 0 fun v0 K hK=>?_
 simp -implicitDefEqProofs
 refine hK _ ?_;clear hK K
 refine WPc.detgc 0 900002 2101 [] 0 1 fun v1 K hK=>?_
 simp -implicitDefEqProofs
 refine hK _ ?_;clear hK K
 refine WPc.detgc 0 900003 2102 [] 0 2 fun v2 K hK=>?_
 simp -implicitDefEqProofs
 refine hK _ ?_;clear hK K
 refine WPc.detgc 0 900004 2103 [] 0 3 fun v3 K hK=>?_
 simp -implicitDefEqProofs
 refine hK _ ?_;clear hK K
 refine WPc.detgc 0 900005 2104 [] 0 4 fun v4 K hK=>?_
 simp -implicitDefEqProofs
 refine hK _ ?_;clear hK K
 refine WPc.detgc 0 900006 2105 [] 0 5 fun v5 K hK=>?_
 simp -implicitDefEqProofs
 refine hK _ ?_;clear hK K
 refine WPc.ghS 0 2018 0 fun u0 hu0 K hK=>?_
 simp -implicitDefEqProofs
 refine hK _ ?_;clear hK K
 refine WPc.ghS 0 2019 1 fun u1 hu1 K hK=>?_
 simp -implicitDefEqProofs
 refine hK _ ?_;clear hK K
 refine WPc.ghS 0 2020 2 fun u2 hu2 K hK=>?_
 simp -implicitDefEqProofs
 refine hK _ ?_;clear hK K
 refine WPc.ghS 0 2021 3 fun u3 hu3 K hK=>?_
 simp -implicitDefEqProofs
 refine hK _ ?_;clear hK K
 refine WPc.ghS 0 2022 4 fun u4 hu4 K hK=>?_
 simp -implicitDefEqProofs
 refine hK _ ?_;clear hK K
 refine WPc.ghS 0 2023 5 fun u5 hu5 K hK=>?_
 simp -implicitDefEqProofs
 refine hK _ ?_;clear hK K
 repeat' (first
  |(refine WPL.utAt 12 10 2022 ?_ ?_;(focus(simp;done));refine fun K hK=>?_;simp -implicitDefEqProofs +contextual [-Int.not_le,-Int.not_lt,-Nat.not_le,-Nat.not_lt,-List.all_eq_true,-List.all_eq_false,-List.any_eq_true,-List.any_eq_false,hu0,hu1,hu2,hu3,hu4,hu5,Wd.ow,marksC_len',marksIn_len,marksUn_len,marksS_len,marksEn_len,marksTk_len];(repeat1' (first|apply hK|apply And.intro|intro _))<;>clear hK K)
  |(refine WPL.utAt 16 14 2023 ?_ ?_;(focus(simp;done));refine fun K hK=>?_;simp -implicitDefEqProofs +contextual [-Int.not_le,-Int.not_lt,-Nat.not_le,-Nat.not_lt,-List.all_eq_true,-List.all_eq_false,-List.any_eq_true,-List.any_eq_false,hu0,hu1,hu2,hu3,hu4,hu5,Wd.ow,marksC_len',marksIn_len,marksUn_len,marksS_len,marksEn_len,marksTk_len];(repeat1' (first|apply hK|apply And.intro|intro _))<;>clear hK K)
  |(refine WPc.attRet 0 900001 2100 [] 0 0 rfl fun K hK=>?_;simp -implicitDefEqProofs +contextual [-Int.not_le,-Int.not_lt,-Nat.not_le,-Nat.not_lt,-List.all_eq_true,-List.all_eq_false,-List.any_eq_true,-List.any_eq_false,hu0,hu1,hu2,hu3,hu4,hu5,Wd.ow,marksC_len',marksIn_len,marksUn_len,marksS_len,marksEn_len,marksTk_len];(repeat1' (first|apply hK|apply And.intro|intro _))<;>clear hK K)
  |(refine WPc.attRet 0 900002 2101 [] 0 1 rfl fun K hK=>?_;simp -implicitDefEqProofs +contextual [-Int.not_le,-Int.not_lt,-Nat.not_le,-Nat.not_lt,-List.all_eq_true,-List.all_eq_false,-List.any_eq_true,-List.any_eq_false,hu0,hu1,hu2,hu3,hu4,hu5,Wd.ow,marksC_len',marksIn_len,marksUn_len,marksS_len,marksEn_len,marksTk_len];(repeat1' (first|apply hK|apply And.intro|intro _))<;>clear hK K)
  |(refine WPc.attRet 0 900003 2102 [] 0 2 rfl fun K hK=>?_;simp -implicitDefEqProofs +contextual [-Int.not_le,-Int.not_lt,-Nat.not_le,-Nat.not_lt,-List.all_eq_true,-List.all_eq_false,-List.any_eq_true,-List.any_eq_false,hu0,hu1,hu2,hu3,hu4,hu5,Wd.ow,marksC_len',marksIn_len,marksUn_len,marksS_len,marksEn_len,marksTk_len];(repeat1' (first|apply hK|apply And.intro|intro _))<;>clear hK K)
  |(refine WPc.attRet 0 900004 2103 [] 0 3 rfl fun K hK=>?_;simp -implicitDefEqProofs +contextual [-Int.not_le,-Int.not_lt,-Nat.not_le,-Nat.not_lt,-List.all_eq_true,-List.all_eq_false,-List.any_eq_true,-List.any_eq_false,hu0,hu1,hu2,hu3,hu4,hu5,Wd.ow,marksC_len',marksIn_len,marksUn_len,marksS_len,marksEn_len,marksTk_len];(repeat1' (first|apply hK|apply And.intro|intro _))<;>clear hK K)
  |(refine WPc.attRet 0 900005 2104 [] 0 4 rfl fun K hK=>?_;simp -implicitDefEqProofs +contextual [-Int.not_le,-Int.not_lt,-Nat.not_le,-Nat.not_lt,-List.all_eq_true,-List.all_eq_false,-List.any_eq_true,-List.any_eq_false,hu0,hu1,hu2,hu3,hu4,hu5,Wd.ow,marksC_len',marksIn_len,marksUn_len,marksS_len,marksEn_len,marksTk_len];(repeat1' (first|apply hK|apply And.intro|intro _))<;>clear hK K)
  |(refine WPc.attRet 0 900006 2105 [] 0 5 rfl fun K hK=>?_;simp -implicitDefEqProofs +contextual [-Int.not_le,-Int.not_lt,-Nat.not_le,-Nat.not_lt,-List.all_eq_true,-List.all_eq_false,-List.any_eq_true,-List.any_eq_false,hu0,hu1,hu2,hu3,hu4,hu5,Wd.ow,marksC_len',marksIn_len,marksUn_len,marksS_len,marksEn_len,marksTk_len];(repeat1' (first|apply hK|apply And.intro|intro _))<;>clear hK K)
  |(refine WPL.unAt 8 6 2018 0 ?_ ?_;(focus(simp;done));refine fun K hK=>?_;simp -implicitDefEqProofs +contextual [-Int.not_le,-Int.not_lt,-Nat.not_le,-Nat.not_lt,-List.all_eq_true,-List.all_eq_false,-List.any_eq_true,-List.any_eq_false,hu0,hu1,hu2,hu3,hu4,hu5,Wd.ow,marksC_len',marksIn_len,marksUn_len,marksS_len,marksEn_len,marksTk_len];(repeat1' (first|apply hK|apply And.intro|intro _))<;>clear hK K)
  |(refine WPL.unAt 8 6 2019 1 ?_ ?_;(focus(simp;done));refine fun K hK=>?_;simp -implicitDefEqProofs +contextual [-Int.not_le,-Int.not_lt,-Nat.not_le,-Nat.not_lt,-List.all_eq_true,-List.all_eq_false,-List.any_eq_true,-List.any_eq_false,hu0,hu1,hu2,hu3,hu4,hu5,Wd.ow,marksC_len',marksIn_len,marksUn_len,marksS_len,marksEn_len,marksTk_len];(repeat1' (first|apply hK|apply And.intro|intro _))<;>clear hK K)
  |(refine WPL.unAt 8 6 2020 2 ?_ ?_;(focus(simp;done));refine fun K hK=>?_;simp -implicitDefEqProofs +contextual [-Int.not_le,-Int.not_lt,-Nat.not_le,-Nat.not_lt,-List.all_eq_true,-List.all_eq_false,-List.any_eq_true,-List.any_eq_false,hu0,hu1,hu2,hu3,hu4,hu5,Wd.ow,marksC_len',marksIn_len,marksUn_len,marksS_len,marksEn_len,marksTk_len];(repeat1' (first|apply hK|apply And.intro|intro _))<;>clear hK K)
  |(refine WPL.unAt 8 6 2021 3 ?_ ?_;(focus(simp;done));refine fun K hK=>?_;simp -implicitDefEqProofs +contextual [-Int.not_le,-Int.not_lt,-Nat.not_le,-Nat.not_lt,-List.all_eq_true,-List.all_eq_false,-List.any_eq_true,-List.any_eq_false,hu0,hu1,hu2,hu3,hu4,hu5,Wd.ow,marksC_len',marksIn_len,marksUn_len,marksS_len,marksEn_len,marksTk_len];(repeat1' (first|apply hK|apply And.intro|intro _))<;>clear hK K)
  |(refine WPc.dropR rfl ?_;dsimp only)
  |((first|refine WPL.rnTo tok 12 _ (by simp[isFn];rfl) fun K hK=>?_|refine WPL.rnTo tok 16 _ (by simp[isFn];rfl) fun K hK=>?_|refine WPL.rnTo tok 8 _ (by simp[isFn];rfl) fun K hK=>?_|refine WPc.rq tok rfl fun K hK=>?_|refine WPL.rn tok _ (by simp[ahead,isFn];rfl) fun K hK=>?_);simp -implicitDefEqProofs +contextual [-Int.not_le,-Int.not_lt,-Nat.not_le,-Nat.not_lt,-List.all_eq_true,-List.all_eq_false,-List.any_eq_true,-List.any_eq_false,hu0,hu1,hu2,hu3,hu4,hu5,Wd.ow,marksC_len',marksIn_len,marksUn_len,marksS_len,marksEn_len,marksTk_len];(repeat1' (first|apply hK|apply And.intro|intro _))<;>clear hK K<;>(try dsimp only[List.drop]))
  |apply WPc.sq
  |(apply WPc.ret;apply endP.sel (is:=[0]) (he:=.inr rfl);(case hs=>rfl);(case hg=>rfl);(case h=>(simp;rfl));(case hO=>(simp;rfl));(case hk=>(simp;done)))
  |refine WPL.nil ?_
  |(apply WPL.cU uS;(case q=>(repeat' (first|refine And.intro ?_ ?_|intro _|(with_reducible exact cleanOut_nil)|(refine Eqv.mk ?_;first|rfl|(simp -implicitDefEqProofs [hu0,hu1,hu2,hu3,hu4,hu5,Wd.ow,marksC_len',marksIn_len,marksUn_len,marksS_len,marksEn_len,marksTk_len];done))|(simp -implicitDefEqProofs [hu0,hu1,hu2,hu3,hu4,hu5,Wd.ow,marksC_len',marksIn_len,marksUn_len,marksS_len,marksEn_len,marksTk_len];done)|(simp -implicitDefEqProofs [hu0,hu1,hu2,hu3,hu4,hu5,Wd.ow,marksC_len',marksIn_len,marksUn_len,marksS_len,marksEn_len,marksTk_len];rfl)|(simp;done)|(simp;rfl)|rfl))))
  |(apply WPL.cU (c_laws_markEntS _ _ ?g1 ?g2);(case q=>(repeat' (first|refine And.intro ?_ ?_|intro _|(with_reducible exact cleanOut_nil)|(refine Eqv.mk ?_;first|rfl|(simp -implicitDefEqProofs [hu0,hu1,hu2,hu3,hu4,hu5,Wd.ow,marksC_len',marksIn_len,marksUn_len,marksS_len,marksEn_len,marksTk_len];done))|(simp -implicitDefEqProofs [hu0,hu1,hu2,hu3,hu4,hu5,Wd.ow,marksC_len',marksIn_len,marksUn_len,marksS_len,marksEn_len,marksTk_len];done)|(simp -implicitDefEqProofs [hu0,hu1,hu2,hu3,hu4,hu5,Wd.ow,marksC_len',marksIn_len,marksUn_len,marksS_len,marksEn_len,marksTk_len];rfl)|(simp;done)|(simp;rfl)|rfl)));(case g1=>(first|assumption|omega));(case g2=>(first|assumption|omega)))
  |(apply WPL.cU (c_laws_markTaskS _ _ ?g1 ?g2);(case q=>(repeat' (first|refine And.intro ?_ ?_|intro _|(with_reducible exact cleanOut_nil)|(refine Eqv.mk ?_;first|rfl|(simp -implicitDefEqProofs [hu0,hu1,hu2,hu3,hu4,hu5,Wd.ow,marksC_len',marksIn_len,marksUn_len,marksS_len,marksEn_len,marksTk_len];done))|(simp -implicitDefEqProofs [hu0,hu1,hu2,hu3,hu4,hu5,Wd.ow,marksC_len',marksIn_len,marksUn_len,marksS_len,marksEn_len,marksTk_len];done)|(simp -implicitDefEqProofs [hu0,hu1,hu2,hu3,hu4,hu5,Wd.ow,marksC_len',marksIn_len,marksUn_len,marksS_len,marksEn_len,marksTk_len];rfl)|(simp;done)|(simp;rfl)|rfl)));(case g1=>(first|assumption|omega));(case g2=>(first|assumption|omega)))
  |(refine WPc.region ?_;simp only[List.toList_toArray]))
 refine⟨?_,rfl⟩
 unfold mkWd mkSy posA;congr 2;omega
end Go.Own
namespace Go.Own
variable [Laid]
open Go.Lib Go.RowKit
theorem le8{α:Type}{f g:α→Nat}(h:∀x,f x≤8+8*g x):∀l:List α,(l.map f).sum≤8*(l.length+(l.map g).sum)
 |[]=>by simp
 |x::l=>by
  have:=le8 h l
  have:=h x
  simp only[List.length_cons,List.map_cons,List.sum_cons];omega
theorem leC(l:List Cl):sumC l≤8*costH l:=le8 (fun x=>by unfold mk costC costS costV;omega) l
theorem leN(l:List Nd):sumN l≤8*costP l:=le8 (fun x=>by unfold mkN costN costS;omega) l
theorem leLk(l:List Lk):sumLk l≤8*costLkS l:=le8 (fun x=>by unfold mkLk;omega) l
theorem leTy(l:List Ty):sumTy l≤8*costTyS l:=le8 (fun x=>by unfold mkTy;omega) l
theorem leBd(l:List Bd):sumBd l≤8*costBdS l:=le8 (fun x=>by unfold mkBd;omega) l
theorem leIn(l:List In):sumIn l≤8*costInS l:=le8 (fun x=>by
 have:=leLk x.links;have:=leTy x.types
 unfold mkIn costIn costS costV;omega) l
theorem leUn(l:List Un):sumUn l≤8*costUnS l:=le8 (fun x=>by
 have:=leN x.prog.nodes
 unfold mkUn costUn;omega) l
theorem leDf(l:List Df):sumDf l≤8*costDfS l:=le8 (fun x=>by
 have:=leN x.prog.nodes
 unfold mkDf costDf;omega) l
theorem leFm(l:List Fm):sumFm l≤8*costFmS l:=le8 (fun x=>by
 have:=leBd x.env
 unfold mkFm costFm costV;omega) l
theorem leEn(l:List En):sumEn l≤8*costEnS l:=le8 (fun x=>by
 have:=leTy x.src.types;have:=leDf x.src.defs;have:=leDf x.src.convs
 unfold mkEn costEn costSr costS;omega) l
theorem leTk(l:List Tk):sumTk l≤8*costTkS l:=le8 (fun x=>by
 have:=leBd x.mac.env;have:=leFm x.mac.stack
 unfold mkTk costTk costMc;omega) l
theorem leWd(w:Wd):mkWd w≤8*costWd w:=by
 have:=leC w.sys.heap;have:=leIn w.sys.insts;have:=leUn w.sys.units;have:=leEn w.libs;have:=leTk w.tasks
 unfold mkWd mkSy costWd costSy costS;omega
theorem costWd_len(w:Wd):w.sys.heap.length+w.sys.insts.length+w.sys.units.length≤costWd w:=by
 unfold costWd costSy costH costInS costUnS;omega
end Go.Own
