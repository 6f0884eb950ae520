import Derived.Test.YtmbiikbjkcnnaaaGreatDoorTb
/- Lemmas for the proof in the last text of this claim. -/
set_option linter.unusedVariables false
set_option linter.unusedSimpArgs false
set_option linter.unusedSectionVars false
namespace Go.Own
variable {P:Program}{tt:Nat→Option TI}{w0:World}{β0:Blk}{st st':St}{β:Blk}{a:Act}{w w':World}{o:Oper}{T T':List Nat}[Laid]
variable {ops:Array Oper}{l:List (Nat×List Nat)}{Ψ Ψ':St→Prop}{k:Nat}
def readOk(tt:Nat→Option TI)(st:St)(T:List Nat):Op→Bool
 |.load _ x => !loadIn T (ev st x)
 |.convert s _ _=>match kd tt s with
  |some (.slice _)=>T.isEmpty
  |_=>true
 |_=>true
theorem valT(tok:TOk P tt){n:Nat}{v:AV}{st2:St}(hv:isV o.op=true)(hr:readOk tt st T o.op=true)(h:stepA tt st n o.op=some (v,st2,T')):st2=st∧Val P o st v T:=by
 generalize hop:o.op=op at h hv hr
 unfold stepA at h
 split at h
 ·simp only[Option.map_eq_some_iff,Prod.mk.injEq]at h
  obtain⟨v',h1,rfl,rfl,rfl⟩:=h
  refine⟨rfl,sound_load (T:=T) tok hop h1 (fun id k p i j he=>?_)⟩
  simp only[readOk,he,loadIn,Bool.not_eq_true',List.contains_eq_mem,decide_eq_false_iff_not]at hr
  exact hr
 ·simp[isV]at hv
 ·simp[isV]at hv
 ·simp[isV]at hv
 ·simp[isV]at hv
 ·simp[isV]at hv
 ·simp[isV]at hv
 ·simp only[Option.map_eq_some_iff,Prod.mk.injEq]at h
  obtain⟨v',h1,rfl,rfl,rfl⟩:=h
  refine⟨rfl,?_⟩
  unfold convX at h1
  simp only[readOk]at hr
  split at h1
  ·rename_i e hk
   rw[hk]at hr
   have:T=[]:=by simpa using hr
   subst this
   exact sound_convS tok hop hk h1
  ·exact sound_conv tok hop h1
 ·simp only[Option.map_eq_some_iff,Prod.mk.injEq]at h
  obtain⟨v',h1,rfl,rfl,rfl⟩:=h
  subst hop
  exact⟨rfl,val_pure (T:=T) tok h1⟩
def stepS(tt:Nat→Option TI)(ops:Array Oper)(st:St)(T:List Nat):Option Oper→Option St
 |some o=>if valOp o.op=true∧readOk tt st T o.op=true then runL tt ops [o] st else none
 |none=>none
def runS(tt:Nat→Option TI)(ops:Array Oper):List (Nat×List Nat)→St→Option St
 |[],st=>some st
 |(k,T)::r,st=>(stepS tt ops st T ops[k]?).bind (runS tt ops r)
theorem WPS.step(tok:TOk P tt)(h:stepS tt ops st T ops[k]?=some st')(hk:WPS P ops l st' Ψ):WPS P ops ((k,T)::l) st Ψ:=by
 unfold stepS at h
 split at h
 ·rename_i o ho
  split at h
  ·rename_i hc
   obtain⟨c1,c2⟩:=hc
   simp only[runL,Option.bind_eq_some_iff]at h
   obtain⟨s1,h1,h2⟩:=h
   injection h2 with h2
   subst h2
   have cV:isV o.op=true:=by simp only[valOp,Bool.and_eq_true]at c1;exact c1.1
   unfold stepO at h1
   split at h1
   ·rename_i hw
    split at h1
    ·rename_i hd
     simp only[Option.bind_eq_some_iff]at h1
     obtain⟨⟨v,st2,T2⟩,e1,e2⟩:=h1
     obtain⟨rfl,hval⟩:=valT tok cV c2 e1
     unfold fin at e2
     split at e2
     ·injection e2 with e2
      subst e2
      exact WPS.take ho c1 hd (.inl ⟨hw,hval⟩) hk
     ·simp at e2
    ·simp at h1
   ·rename_i hw
    split at h1
    ·rename_i hd
     injection h1 with h1
     subst h1
     exact WPS.take ho c1 hd (.inr ⟨hw,rfl⟩) hk
    ·simp at h1
   ·simp at h1
  ·simp at h
 ·simp at h
theorem WPS.run(tok:TOk P tt):∀(n:Nat) {l:List (Nat×List Nat)} {st st':St} (_:runS tt ops (l.take n) st=some st') (_:WPS P ops (l.drop n) st' Ψ),WPS P ops l st Ψ
 |0,l,st,st',h,hk=>by
  simp only[List.take_zero,runS,Option.some.injEq]at h
  subst h
  simpa using hk
 |n+1,[],st,st',h,hk=>by
  simp only[List.take_nil,runS,Option.some.injEq]at h
  subst h
  simpa using hk
 |n+1,(k,T)::l,st,st',h,hk=>by
  simp only[List.take_succ_cons,runS,Option.bind_eq_some_iff]at h
  obtain⟨s1,h1,h2⟩:=h
  exact WPS.step tok h1 (WPS.run tok n h2 (by simpa using hk))
def aheadS(ops:Array Oper):List (Nat×List Nat)→Nat
 |[]=>0
 |(k,_)::r=>match ops[k]? with
  |some o=>if valOp o.op then aheadS ops r+1 else 0
  |none=>0
theorem WPS.rn(tok:TOk P tt)(m:Nat)(hm:aheadS ops l=m+1)
  (h:∀K:St→Prop,(∀s,WPS P ops (l.drop (m+1)) s Ψ→K s)→∃s,runS tt ops (l.take (m+1)) st=some s∧K s):WPS P ops l st Ψ:=by
 obtain⟨s,h1,h2⟩:=h (fun s=>WPS P ops (l.drop (m+1)) s Ψ) fun _ h=>h
 exact WPS.run tok (m+1) h1 h2
def finS(T:List Nat)(d:Option Nat)(r:AV×St×List Nat):Option St:=if subB r.2.2 T=true∧below r.2.2=true then some (putSt r.2.1 d r.1) else none
def effS(tt:Nat→Option TI)(ops:Array Oper)(st:St)(T:List Nat):Option Oper→Option St
 |some o=>if valOp o.op=false∧wantA ops st o=some true∧dstOk st o=true then (stepA tt st (o.dst.getD 0) o.op).bind (finS T o.dst) else none
 |none=>none
theorem WPS.eff(tok:TOk P tt)(h:∀K:St→Prop,(∀s,WPS P ops l s Ψ→K s)→∃s,effS tt ops st T ops[k]?=some s∧K s):WPS P ops ((k,T)::l) st Ψ:=by
 obtain⟨s,h1,h2⟩:=h (fun s=>WPS P ops l s Ψ) fun _ h=>h
 unfold effS at h1
 split at h1
 ·rename_i o ho
  split at h1
  ·rename_i hc
   obtain⟨c1,c2,c3⟩:=hc
   simp only[Option.bind_eq_some_iff]at h1
   obtain⟨⟨v,st2,T2⟩,e1,e2⟩:=h1
   unfold finS at e2
   split at e2
   ·rename_i hT
    injection e2 with e2
    subst e2
    exact WPS.stp ho c1 c2 (Stp.step tok c3 e1 hT.2) hT.1 (fun s hs=>hs▸h2)
   ·simp at e2
  ·simp at h1
 ·simp at h1
theorem WPS.callL{f d:Nat}{ins ins0:List AV}{res:AV}{args:Array Operand}{tys:Array TypeId}{ty:TypeId}{pos:String}{af:Array Edge}{g:Option (Nat×Bool)}{lent:List Nat}
  (ho:ops[k]?=some { dst:=some d,op:=.call { callee:=.value (.func f),args:=args,argTypes:=tys },type:=ty,pos:=pos,after:=af,guard:=g })
  (hc:Con P f ins [] [] (fun r _=>r=res)) (hg:wantA ops st { dst:=some d,op:=.call { callee:=.value (.func f),args:=args,argTypes:=tys },type:=ty,pos:=pos,after:=af,guard:=g }=some true)
  (hd:d<st.nt) (hl:lentOf st args.toList=lent) (hb:below lent=true) (hins:insA st [] lent args.toList=some ins0) (he:ins0=ins)
  (hz:lent=[]∨nzT res=true) (hk:WPS P ops l (putSt st (some d) (rnT [] res)) Ψ):WPS P ops ((k,T)::l) st Ψ :=
 WPS.stp ho rfl hg (Stp.call0 hc rfl hb (he▸hins) (by simpa using hd) (fun _ _ h=>h▸hz)) (by simp[subB]) fun s ⟨r,o,h1,h2⟩=>by subst h1;exact h2▸hk
theorem WPS.callf{f d:Nat}{args:Array Operand}{tys:Array TypeId}{ty:TypeId}{pos:String}{af:Array Edge}{g:Option (Nat×Bool)}
  (ho:ops[k]?=some { dst:=some d,op:=.call { callee:=.value (.func f),args:=args,argTypes:=tys },type:=ty,pos:=pos,after:=af,guard:=g })
  (hg:wantA ops st { dst:=some d,op:=.call { callee:=.value (.func f),args:=args,argTypes:=tys },type:=ty,pos:=pos,after:=af,guard:=g }=some false)
  (hd:d<st.nt) (hk:WPS P ops l (putSt st (some d) (.sc undef)) Ψ):WPS P ops ((k,T)::l) st Ψ :=
 WPS.off ho rfl hg (by simpa using hd) hk
theorem WPS.callR{f d:Nat}{σ:Type}{ins ins0:List AV}{ob ob0:List (Nat×Root)}{keep:List Nat}{I:σ→Prop}{R:σ→AV}{O:σ→List (Nat×Root)}{args:Array Operand}{tys:Array TypeId}
  {ty:TypeId} {pos:String} {af:Array Edge} {g:Option (Nat×Bool)} {lent:List Nat} {ren nw:List (Nat×Nat)} {kP kS:List Nat}
  (ho:ops[k]?=some { dst:=some d,op:=.call { callee:=.value (.func f),args:=args,argTypes:=tys },type:=ty,pos:=pos,after:=af,guard:=g })
  (hc:Con P f ins ob keep (fun r o=>∃y,I y∧r=R y∧o=O y)) (hg:wantA ops st { dst:=some d,op:=.call { callee:=.value (.func f),args:=args,argTypes:=tys },type:=ty,pos:=pos,after:=af,guard:=g }=some true)
  (hd:d<st.nt) (hl:lentAt st ins args.toList=lent) (hr:renAt st lent args.toList=ren)
  (hins:insA st ren lent args.toList=some ins0) (he:ins0=ins) (hob:obIn st ren=ob0) (heo:ob0=ob) (hnw:∀y,nwAt d ren 0 (keys (O y))=nw) (hok:callOk ren lent nw=true)
  (hP:kpOf ren nw (partsAt st keep args.toList)=kP) (hS:ksOf ren nw (partsAt st keep args.toList)=kS) (hz:∀y,I y→cleanOut lent (R y) (O y)=true) (hT:subB (ren.map (·.1)++nw.map (·.2)) T=true)
  (hk:∀y,I y→∀s,putSt (callSt st ren nw kP kS (O y)) (some d) (rnT nw (R y))=s→WPS P ops l s Ψ):WPS P ops ((k,T)::l) st Ψ:=by
 subst he heo hP hS
 refine WPS.stp ho rfl hg (Stp.callR hc rfl (by simpa using hd) hok hins hob hz) hT ?_
 rintro s ⟨y,hy,rfl⟩
 exact hk y hy _ rfl
theorem WPS.callU{f d:Nat}{ins ins0:List AV}{ob ob0:List (Nat×Root)}{keep:List Nat}{R:AV}{O:List (Nat×Root)}{args:Array Operand}{tys:Array TypeId}
  {ty:TypeId} {pos:String} {af:Array Edge} {g:Option (Nat×Bool)} {lent:List Nat} {ren nw:List (Nat×Nat)} {kP kS:List Nat} {s:St}
  (ho:ops[k]?=some { dst:=some d,op:=.call { callee:=.value (.func f),args:=args,argTypes:=tys },type:=ty,pos:=pos,after:=af,guard:=g })
  (hc:Con P f ins ob keep (fun r o=>r=R∧o=O)) (hg:wantA ops st { dst:=some d,op:=.call { callee:=.value (.func f),args:=args,argTypes:=tys },type:=ty,pos:=pos,after:=af,guard:=g }=some true)
  (hd:d<st.nt) (hl:lentAt st ins args.toList=lent) (hr:renAt st lent args.toList=ren)
  (hins:insA st ren lent args.toList=some ins0) (he:ins0=ins) (hob:obIn st ren=ob0) (heo:ob0=ob) (hnw:nwAt d ren 0 (keys O)=nw) (hok:callOk ren lent nw=true)
  (hP:kpOf ren nw (partsAt st keep args.toList)=kP) (hS:ksOf ren nw (partsAt st keep args.toList)=kS) (hz:cleanOut lent R O=true) (hT:subB (ren.map (·.1)++nw.map (·.2)) T=true)
  (hs:putSt (callSt st ren nw kP kS O) (some d) (rnT nw R)=s) (hk:WPS P ops l s Ψ):WPS P ops ((k,T)::l) st Ψ :=
 WPS.callR ho hc.one hg hd hl hr hins he hob heo (fun _=>hnw) hok hP hS (fun _ _=>hz) hT (fun _ _ s' h=>by rw[hs]at h;subst h;exact hk)
@[simp] theorem stepS_some{o:Oper}:stepS tt ops st T (some o)=if valOp o.op=true∧readOk tt st T o.op=true then runL tt ops [o] st else none:=rfl
@[simp] theorem runS_nil:runS tt ops [] st=some st:=rfl
@[simp] theorem runS_cons{r:List (Nat×List Nat)}:runS tt ops ((k,T)::r) st=(stepS tt ops st T ops[k]?).bind (runS tt ops r):=rfl
@[simp] theorem effS_some{o:Oper}:effS tt ops st T (some o)=if valOp o.op=false∧wantA ops st o=some true∧dstOk st o=true then (stepA tt st (o.dst.getD 0) o.op).bind (finS T o.dst) else none:=rfl
@[simp] theorem finS_wrS{T':List Nat}:finS T none (wrS T' st)=if subB T' T=true∧below T'=true then some st else none:=rfl
@[simp] theorem finS_wrN{d:Nat}{v:AV}{T':List Nat}:finS T (some d) (wrN T' (v,st))=if subB T' T=true∧below T'=true then some (putSt st (some d) v) else none:=rfl
@[simp] theorem bind_runL_nil{x:Option St}:x.bind (runL tt ops [])=x:=by cases x<;>rfl
@[simp] theorem run_split0{b:Bool}{x y:Option St}{K:St→Prop}:(∃s,orGo (some b) x y=some s∧K s)↔(b=true→∃s,x=some s∧K s)∧(b=false→∃s,y=some s∧K s):=by
 cases b<;>simp[orGo]
attribute [simp] valOp isV isFn readOk loadIn subB
theorem endP.own{nt:Nat}{rs:List ResultVar}{G:Nat→Value}{ins:List AV}{keep:List Nat}{Φ:AV→List (Nat×Root)→Prop}{e:Exit}{s:St}{r:AV}(ob':List (Nat×Root))(he:e=.normal∨e=.ret)(hs:s.nt=nt)(hg:s.G=G)
  (h:resA tt s rs=some r) (hO:FitO s ob') (hΦ:Φ r ob') (hk:∀i,i∈keep→∀v,ins[i]?=some v→lk s.tm (nt+i)=v):endP tt nt rs G ins keep Φ e s:=⟨he,hs,hg,r,r,ob',h,by simp,hO,hΦ,hk⟩
theorem FR.lenC{av:Nat→Prop}{w:World}{xs:List (List C)}{u:Value}(h:FR av w (.fz xs) u){r:List C}(hr:r∈xs){j:Nat}{ys:List (List C)}(hj:r[j]?=some (.fz ys)):ys.length≤maxLen:=by
 cases h with
 |fzE=>simp at hr
 |fzN _ b o k c f h1 h2 h3 h4 h5 h6 h7 =>
  obtain⟨i,hi⟩:=List.mem_iff_getElem?.1 hr
  exact(h7 i j r _ hi hj).len
theorem WPc.lenAt{c:Code}{Φ:Exit→St→Prop}(t:Nat){xs:List (List C)}(ht:lk st.tm t=.fz xs){r:List C}{j:Nat}{ys:List (List C)}(hr:r∈xs)(hj:r[j]?=some (.fz ys))
  (h:ys.length≤9223372036854775807→WPc P c st Φ):WPc P c st Φ:=fun w0 β0 β a w hrl=>by
 have hv:=hrl.rel.tm t
 rw[ht]at hv
 generalize a.tmps.getD t (st.G t)=u at hv
 cases hv with
 |fz _ _ hf=>exact h (hf.lenC hr hj) w0 β0 β a w hrl
end Go.Own
namespace Go.Own
variable {P:Program}{tt:Nat→Option TI}{st:St}{T:List Nat}[Laid]
structure Eqv{α:Sort _}(a b:α):Prop where
 eq:a=b
theorem cleanOut_nil{res:AV}{ob:List (Nat×Root)}:cleanOut [] res ob=true:=rfl
section
variable {ops:Array Oper}{l:List Oper}{f d:Nat}{ins ins0:List AV}{args:Array Operand}{tys:Array TypeId}{ty:TypeId}{pos:String}{af:Array Edge}{g:Option (Nat×Bool)}{lent:List Nat}{Ψ:St→Prop}
theorem WPL.cL{res:AV}(hc:Con P f ins [] [] (fun r _=>r=res))
  (q:(wantA ops st { dst:=some d,op:=.call { callee:=.value (.func f),args:=args,argTypes:=tys },type:=ty,pos:=pos,after:=af,guard:=g }=some true∧d<st.nt∧lentOf st args.toList=lent∧below lent=true∧insA st [] lent args.toList=some ins0∧Eqv ins0 ins)∧(lent=[]∨nzT res=true)) (hk:WPL P ops l (putSt st (some d) (rnT [] res)) Ψ) :
  WPL P ops ({ dst:=some d,op:=.call { callee:=.value (.func f),args:=args,argTypes:=tys },type:=ty,pos:=pos,after:=af,guard:=g }::l) st Ψ:=by
 obtain⟨⟨h1,h2,h3,h4,h5,h6⟩,q2⟩:=q
 cases g with
 |none=>exact WPL.callL hc h2 h3 h4 h5 h6.eq q2 hk
 |some x=>exact WPL.callLt hc h1 h2 h3 h4 h5 h6.eq q2 hk
variable {ob ob0:List (Nat×Root)}{keep:List Nat}{ren nw:List (Nat×Nat)}{kP kS:List Nat}
theorem WPL.cU{R:AV}{O:List (Nat×Root)}{s:St}(hc:Con P f ins ob keep (fun r o=>r=R∧o=O))
  (q:(wantA ops st { dst:=some d,op:=.call { callee:=.value (.func f),args:=args,argTypes:=tys },type:=ty,pos:=pos,after:=af,guard:=g }=some true∧d<st.nt∧lentAt st ins args.toList=lent∧renAt st lent args.toList=ren∧insA st ren lent args.toList=some ins0∧Eqv ins0 ins∧obIn st ren=ob0∧Eqv ob0 ob)∧(nwAt d ren 0 (keys O)=nw∧callOk ren lent nw=true∧kpOf ren nw (partsAt st keep args.toList)=kP∧ksOf ren nw (partsAt st keep args.toList)=kS∧cleanOut lent R O=true∧putSt (callSt st ren nw kP kS O) (some d) (rnT nw R)=s))
  (hk:WPL P ops l s Ψ):WPL P ops ({ dst:=some d,op:=.call { callee:=.value (.func f),args:=args,argTypes:=tys },type:=ty,pos:=pos,after:=af,guard:=g }::l) st Ψ:=by
 obtain⟨q,q2⟩:=q
 exact WPL.callU hc q.1 q.2.1 q.2.2.1 q.2.2.2.1 q.2.2.2.2.1 q.2.2.2.2.2.1.eq q.2.2.2.2.2.2.1 q.2.2.2.2.2.2.2.eq q2.1 q2.2.1 q2.2.2.1 q2.2.2.2.1 q2.2.2.2.2.1 q2.2.2.2.2.2 hk
theorem WPL.cR{σ:Type}{I:σ→Prop}{R:σ→AV}{O:σ→List (Nat×Root)}(hc:Con P f ins ob keep (fun r o=>∃y,I y∧r=R y∧o=O y))
  (q:(wantA ops st { dst:=some d,op:=.call { callee:=.value (.func f),args:=args,argTypes:=tys },type:=ty,pos:=pos,after:=af,guard:=g }=some true∧d<st.nt∧lentAt st ins args.toList=lent∧renAt st lent args.toList=ren∧insA st ren lent args.toList=some ins0∧Eqv ins0 ins∧obIn st ren=ob0∧Eqv ob0 ob)∧((∀y,nwAt d ren 0 (keys (O y))=nw)∧callOk ren lent nw=true∧kpOf ren nw (partsAt st keep args.toList)=kP∧ksOf ren nw (partsAt st keep args.toList)=kS∧∀y,I y→cleanOut lent (R y) (O y)=true))
  (hk:∀y,I y→∀s,putSt (callSt st ren nw kP kS (O y)) (some d) (rnT nw (R y))=s→WPL P ops l s Ψ) :
  WPL P ops ({ dst:=some d,op:=.call { callee:=.value (.func f),args:=args,argTypes:=tys },type:=ty,pos:=pos,after:=af,guard:=g }::l) st Ψ:=by
 obtain⟨q,q2⟩:=q
 exact WPL.callR hc q.1 q.2.1 q.2.2.1 q.2.2.2.1 q.2.2.2.2.1 q.2.2.2.2.2.1.eq q.2.2.2.2.2.2.1 q.2.2.2.2.2.2.2.eq q2.1 q2.2.1 q2.2.2.1 q2.2.2.2.1 q2.2.2.2.2 hk
end
section
variable {ops:Array Oper}{l:List (Nat×List Nat)}{k f d:Nat}{ins ins0:List AV}{args:Array Operand}{tys:Array TypeId}{ty:TypeId}{pos:String}{af:Array Edge}{g:Option (Nat×Bool)}{lent:List Nat}{Ψ:St→Prop}
theorem WPS.cL{res:AV}(ho:ops[k]?=some { dst:=some d,op:=.call { callee:=.value (.func f),args:=args,argTypes:=tys },type:=ty,pos:=pos,after:=af,guard:=g })
  (hc:Con P f ins [] [] (fun r _=>r=res))
  (q:(wantA ops st { dst:=some d,op:=.call { callee:=.value (.func f),args:=args,argTypes:=tys },type:=ty,pos:=pos,after:=af,guard:=g }=some true∧d<st.nt∧lentOf st args.toList=lent∧below lent=true∧insA st [] lent args.toList=some ins0∧Eqv ins0 ins)∧(lent=[]∨nzT res=true)) (hk:WPS P ops l (putSt st (some d) (rnT [] res)) Ψ):WPS P ops ((k,T)::l) st Ψ:=by
 obtain⟨q,q2⟩:=q
 exact WPS.callL ho hc q.1 q.2.1 q.2.2.1 q.2.2.2.1 q.2.2.2.2.1 q.2.2.2.2.2.eq q2 hk
variable {ob ob0:List (Nat×Root)}{keep:List Nat}{ren nw:List (Nat×Nat)}{kP kS:List Nat}
theorem WPS.cU{R:AV}{O:List (Nat×Root)}{s:St}(ho:ops[k]?=some { dst:=some d,op:=.call { callee:=.value (.func f),args:=args,argTypes:=tys },type:=ty,pos:=pos,after:=af,guard:=g })
  (hc:Con P f ins ob keep (fun r o=>r=R∧o=O))
  (q:(wantA ops st { dst:=some d,op:=.call { callee:=.value (.func f),args:=args,argTypes:=tys },type:=ty,pos:=pos,after:=af,guard:=g }=some true∧d<st.nt∧lentAt st ins args.toList=lent∧renAt st lent args.toList=ren∧insA st ren lent args.toList=some ins0∧Eqv ins0 ins∧obIn st ren=ob0∧Eqv ob0 ob)∧(nwAt d ren 0 (keys O)=nw∧callOk ren lent nw=true∧kpOf ren nw (partsAt st keep args.toList)=kP∧ksOf ren nw (partsAt st keep args.toList)=kS∧cleanOut lent R O=true∧subB (ren.map (·.1)++nw.map (·.2)) T=true∧putSt (callSt st ren nw kP kS O) (some d) (rnT nw R)=s))
  (hk:WPS P ops l s Ψ):WPS P ops ((k,T)::l) st Ψ:=by
 obtain⟨q,q2⟩:=q
 exact WPS.callU ho hc q.1 q.2.1 q.2.2.1 q.2.2.2.1 q.2.2.2.2.1 q.2.2.2.2.2.1.eq q.2.2.2.2.2.2.1 q.2.2.2.2.2.2.2.eq q2.1 q2.2.1 q2.2.2.1 q2.2.2.2.1 q2.2.2.2.2.1 q2.2.2.2.2.2.1 q2.2.2.2.2.2.2 hk
theorem WPS.cR{σ:Type}{I:σ→Prop}{R:σ→AV}{O:σ→List (Nat×Root)}(ho:ops[k]?=some { dst:=some d,op:=.call { callee:=.value (.func f),args:=args,argTypes:=tys },type:=ty,pos:=pos,after:=af,guard:=g })
  (hc:Con P f ins ob keep (fun r o=>∃y,I y∧r=R y∧o=O y))
  (q:(wantA ops st { dst:=some d,op:=.call { callee:=.value (.func f),args:=args,argTypes:=tys },type:=ty,pos:=pos,after:=af,guard:=g }=some true∧d<st.nt∧lentAt st ins args.toList=lent∧renAt st lent args.toList=ren∧insA st ren lent args.toList=some ins0∧Eqv ins0 ins∧obIn st ren=ob0∧Eqv ob0 ob)∧((∀y,nwAt d ren 0 (keys (O y))=nw)∧callOk ren lent nw=true∧kpOf ren nw (partsAt st keep args.toList)=kP∧ksOf ren nw (partsAt st keep args.toList)=kS∧(∀y,I y→cleanOut lent (R y) (O y)=true)∧subB (ren.map (·.1)++nw.map (·.2)) T=true))
  (hk:∀y,I y→∀s,putSt (callSt st ren nw kP kS (O y)) (some d) (rnT nw (R y))=s→WPS P ops l s Ψ):WPS P ops ((k,T)::l) st Ψ:=by
 obtain⟨q,q2⟩:=q
 exact WPS.callR ho hc q.1 q.2.1 q.2.2.1 q.2.2.2.1 q.2.2.2.2.1 q.2.2.2.2.2.1.eq q.2.2.2.2.2.2.1 q.2.2.2.2.2.2.2.eq q2.1 q2.2.1 q2.2.2.1 q2.2.2.2.1 q2.2.2.2.2.1 q2.2.2.2.2.2 hk
end
end Go.Own
namespace Go.Own
variable {P:Program}{tt:Nat→Option TI}{w0:World}{β0:Blk}{st st':St}{β:Blk}{a:Act}{w w':World}{o:Oper}{T:List Nat}
mutual
def renV(id nid:Nat)(t:Pth):AV→AV
 |.sl i k p off len=>if i=nid then .un else if i=id∧under t p=true then .sl nid k (p.drop t.length) off len else .sl i k p off len
 |.ptr i k p x y=>if i=nid then .un else if i=id∧under t p=true then .ptr nid k (p.drop t.length) x y else .ptr i k p x y
 |.agg cs=>.agg (renVL id nid t cs)
 |.tup cs=>.tup (renVL id nid t cs)
 |.sc v=>.sc v
 |.fz v=>.fz v
 |.fp v=>.fp v
 |.un=>.un
def renVL(id nid:Nat)(t:Pth):List AV→List AV
 |[]=>[]
 |x::xs=>renV id nid t x::renVL id nid t xs
end
theorem renVL_map(id nid:Nat)(t:Pth):∀(l:List AV),renVL id nid t l=l.map (renV id nid t)
 |[]=>by simp[renVL]
 |x::xs=>by simp[renVL,renVL_map id nid t xs]
def renT(id nid:Nat)(t:Pth):List (Nat×AV)→List (Nat×AV)
 |[]=>[]
 |(k,v)::r=>(k,renV id nid t v)::renT id nid t r
theorem lk_renT(id nid:Nat)(t:Pth)(n:Nat):∀(l:List (Nat×AV)),lk (renT id nid t l) n=renV id nid t (lk l n)
 |[]=>by simp[renT,lk,renV]
 |(k,v)::r=>by
  simp only[renT,lk]
  split
  ·rfl
  ·exact lk_renT id nid t n r
theorem parted_inv{id nid:Nat}{t:Pth}{b i:Nat}{p:Pth}(h:parted id t nid β b=some (i,p)):(i=nid∧β b=some (id,t++p))∨(i≠nid∧β b=some (i,p)∧¬(i=id∧under t p=true)):=by
 simp only[parted]at h
 split at h
 ·simp at h
 ·rename_i i1 p1 hp
  split at h
  ·simp at h
  ·rename_i g1
   split at h
   ·rename_i g2
    injection h with h;injection h with e1 e2
    obtain⟨r,hr⟩:=under_iff.1 g2.2
    subst hr
    simp at e2
    subst e2
    exact .inl ⟨e1.symm,by rw[hp,g2.1]⟩
   ·rename_i g2
    injection h with h;injection h with e1 e2
    subst e1 e2
    exact .inr ⟨g1,hp,g2⟩
theorem VR.parted{id nid:Nat}{t:Pth}{v:AV}{u:Value}(hne:nid≠id)(h:VR β w v u):VR (parted id t nid β) w (renV id nid t v) u:=by
 induction h with
 |un u=>simp only[renV];exact .un u
 |sc v=>simp only[renV];exact .sc v
 |fz xs u h=>simp only[renV];exact .fz xs u (h.mono fun b hb hlt=>⟨by simp[Own.parted,hb],rfl⟩)
 |sl i k p off len b cap tt cur h0 hb hh hs ho =>
  simp only[renV]
  split
  ·exact .un _
  ·rename_i g1
   split
   ·rename_i g2
    exact .sl _ _ _ _ _ b cap tt cur h0 (by obtain⟨rfl,g3⟩:=g2;simp[Own.parted,hb,g1,g3]) hh hs ho
   ·rename_i g2
    exact .sl _ _ _ _ _ b cap tt cur h0 (by simp only[Own.parted,hb,g1,if_false];rw[if_neg g2]) hh hs ho
 |slN i k p h0 hb =>
  simp only[renV]
  split
  ·exact .un _
  ·rename_i g1
   split
   ·rename_i g2
    refine .slN _ _ _ h0 fun b hc=>?_
    obtain⟨r,rfl⟩:=under_iff.1 g2.2
    rcases parted_inv hc with ⟨_,h⟩|⟨h,_⟩
    ·simp only[List.drop_left]at h
     exact hb b (by rw[h,g2.1])
    ·exact h rfl
   ·refine .slN _ _ _ h0 fun b hc=>?_
    rcases parted_inv hc with ⟨h,_⟩|⟨_,h,_⟩
    ·exact g1 h
    ·exact hb b h
 |ptr i k p x y b tt cur hb hh =>
  simp only[renV]
  split
  ·exact .un _
  ·rename_i g1
   split
   ·rename_i g2
    exact .ptr _ _ _ _ _ b tt cur (by obtain⟨rfl,g3⟩:=g2;simp[Own.parted,hb,g1,g3]) hh
   ·rename_i g2
    exact .ptr _ _ _ _ _ b tt cur (by simp only[Own.parted,hb,g1,if_false];rw[if_neg g2]) hh
 |fp cs b o f hav hlt hc hx =>
  simp only[renV]
  exact .fp cs b o f (by simp[Own.parted,hav]) hlt hc (fun j x hj=>(hx j x hj).mono fun b hb hlt=>⟨by simp[Own.parted,hb],rfl⟩)
 |agg cs us f hl hu h1 hx ih =>
  simp only[renV,renVL_map]
  have hg:∀(i:Nat) (x:AV),(cs.map (renV id nid t))[i]?=some x→∃y,cs[i]?=some y∧x=renV id nid t y:=fun i x hi=>by
   rw[List.getElem?_map,Option.map_eq_some_iff]at hi
   obtain⟨y,h1,h2⟩:=hi
   exact⟨y,h1,h2.symm⟩
  refine .agg _ us f (by simpa using hl) (fun i x hi=>?_) (fun i x hi=>?_) (fun i x hi=>?_)<;>obtain⟨y,hy,rfl⟩:=hg i x hi
  ·exact hu i y hy
  ·exact h1 i y hy
  ·exact ih i y hy
 |tup cs us f hl hu hx ih =>
  simp only[renV,renVL_map]
  have hg:∀(i:Nat) (x:AV),(cs.map (renV id nid t))[i]?=some x→∃y,cs[i]?=some y∧x=renV id nid t y:=fun i x hi=>by
   rw[List.getElem?_map,Option.map_eq_some_iff]at hi
   obtain⟨y,h1,h2⟩:=hi
   exact⟨y,h1,h2.symm⟩
  refine .tup _ us f (by simpa using hl) (fun i x hi=>?_) (fun i x hi=>?_)<;>obtain⟨y,hy,rfl⟩:=hg i x hi
  ·exact hu i y hy
  ·exact ih i y hy
def cellIn(row:List (List C))(i j:Nat):Option C:=match row[i]? with
 |some r=>r[j]?
 |none=>none
theorem cellIn_get{row:List (List C)}{i j:Nat}{x:C}(h:cellIn row i j=some x):∃r,row[i]?=some r∧r[j]?=some x:=by
 unfold cellIn at h
 split at h
 ·rename_i r hr;exact⟨r,hr,h⟩
 ·simp at h
def detS(st:St)(id nid:Nat)(path:Pth)(i j:Nat):Option St :=
 match lo st.ob id with
 |some (e,k,es)=>match nav e k es path with
  |some (_,_,row)=>match cellIn row i j with
   |some (.sl e1 k1 xs)=>if nid≠id∧id<DD∧nid<DD then
     some { st with tm:=renT id nid (path++[(i,j)]) st.tm,ob:=putO (putO st.ob id (e,k,updP es path (setCell i j .no))) nid (e1,k1,xs) } else none
   |_=>none
  |none=>none
 |none=>none
def updG(G:Nat→Value)(g:Nat)(u:Value):Nat→Value:=fun t=>if t=g then u else G t
def detG(st:St)(id nid g:Nat)(path:Pth)(i j:Nat)(u:Value):Option St :=
 match lo st.ob id with
 |some (e,k,es)=>match nav e k es path with
  |some (_,_,row)=>match cellIn row i j with
   |some (.sl e1 k1 xs)=>if nid≠id∧id<DD∧nid<DD∧st.nt≤g then
     some { st with G:=updG st.G g u,tm:=(g,.sl nid k1 [] 0 xs.length)::renT id nid (path++[(i,j)]) st.tm,ob:=putO (putO st.ob nid (e1,k1,xs)) id (e,k,updP es path (setCell i j (.sc u))) } else none
   |_=>none
  |none=>none
 |none=>none
theorem updP_updP{f g:List (List C)→List (List C)}:∀(p:Pth) (es:List (List C)),updP (updP es p f) p g=updP es p (fun r=>g (f r))
 |[],es=>rfl
 |(i,j)::p,es=>by
  simp only[updP,List.modify_modify_eq]
  congr 1
  funext r
  simp only[Function.comp,List.modify_modify_eq]
  congr 1
  funext x
  cases x with
  |sl e k xs=>simp only[Function.comp];rw[updP_updP p xs]
  |_=>rfl
theorem setCell_setCell(i j:Nat)(x y:C)(row:List (List C)):setCell i j x (setCell i j y row)=setCell i j x row:=by
 simp only[setCell,List.modify_modify_eq]
 congr 1
 funext r
 simp[Function.comp]
theorem Rel.detS(hr:Rel w0 β0 st β a w){id nid i j:Nat}{path:Pth}(h:detS st id nid path i j=some st') :
  ∃β',Rel w0 β0 st' β' a w∧Fr [id,nid] β w β' w∧id<DD∧nid<DD:=by
 unfold Own.detS at h
 split at h
 ·rename_i e k es hlo
  split at h
  ·rename_i ep kp row hn
   split at h
   ·rename_i e1 k1 xs hc
    split at h
    ·rename_i hq
     obtain⟨q1,q2,q3⟩:=hq
     injection h with h
     subst h
     obtain⟨r,hi,hj⟩:=cellIn_get hc
     obtain⟨g1,g2⟩:=hr.detach q1 hlo hn hi hj
     refine⟨_,⟨g1.nt,g1.df,fun t=>?_,g1.ob,g1.uq,g1.lt,g1.fr,g1.old,g1.hs,g1.os,g1.tape,g1.output⟩,parted_fr,q2,q3⟩
     dsimp only
     rw[lk_renT]
     exact(hr.tm t).parted q1
    ·simp at h
   ·simp at h
  ·simp at h
 ·simp at h
theorem Rel.detG(hr:Rel w0 β0 st β a w){id nid g i j:Nat}{path:Pth}{f:Value→St}(h:∀u,Own.detG st id nid g path i j u=some (f u)) :
  ∃u β',Rel w0 β0 (f u) β' a w∧Fr [id,nid] β w β' w∧id<DD∧nid<DD:=by
 have h':=h
 unfold Own.detG at h'
 cases hlo:lo st.ob id with
 |none=>have:=h' undef;simp[hlo]at this
 |some z =>
  obtain⟨e,k,es⟩:=z
  simp only[hlo]at h'
  cases hn:nav e k es path with
  |none=>have:=h' undef;simp[hn]at this
  |some z =>
   obtain⟨ep,kp,row⟩:=z
   simp only[hn]at h'
   cases hc:cellIn row i j with
   |none=>have:=h' undef;simp[hc]at this
   |some c =>
    cases c with
    |sl e1 k1 xs =>
     simp only[hc]at h'
     by_cases hq:nid≠id∧id<DD∧nid<DD∧st.nt≤g
     ·simp only[hq,and_self,if_true]at h'
      obtain⟨q1,q2,q3,q4⟩:=hq
      simp only[ne_eq,q1,not_false_eq_true,and_self,if_true,Option.some.injEq]at h'
      obtain⟨r,hi,hj⟩:=cellIn_get hc
      obtain⟨g1,g2⟩:=hr.detach q1 hlo hn hi hj
      have hrow:=hr.ob id e k es hlo path ep kp row hn
      simp only[List.nil_append]at hrow
      obtain⟨h0,hrow⟩:=hrow
      rcases hrow with ⟨hnil,_⟩|⟨b,cap,cur,hb,hh,hl,hm,hs,c1,c2,c3⟩
      ·subst hnil;simp at hi
      ·obtain⟨u,hu,hv⟩:=c3 i j r _ hi hj
       obtain⟨hk1,hsl⟩:=hv
       have hu2:cur[i*kp+j]?=some u:=by
        have:=(List.getElem?_eq_some_iff.1 hu).1
        rw[List.getElem?_take_of_lt (by simp at this;omega)]at hu
        simpa using hu
       have hvr:VR β w (.sl id k1 (path++[(i,j)]) 0 xs.length) u:=by
        rcases hsl with ⟨rfl,hz,hnb⟩|⟨b2,cap2,cur2,t2,hb2,hh2,hs2,hl2,rfl⟩
        ·rw[hz];exact .slN _ _ _ hk1 hnb
        ·have:=VR.sl (β:=β) (w:=w) id k1 (path++[(i,j)]) 0 xs.length b2 cap2 t2 cur2 hk1 hb2 hh2 hs2 (by omega)
         simpa using this
       have hb':parted id (path++[(i,j)]) nid β b=some (id,path):=by
        have hu:under (path++[(i,j)]) path=false:=by
         cases hx:under (path++[(i,j)]) path with
         |false=>rfl
         |true=>obtain⟨r,hr⟩:=under_iff.1 hx;have:=congrArg List.length hr;simp at this
        simp[parted,hb,show ¬id=nid from fun e=>q1 e.symm,hu]
       have hjk:j<kp:=by rw[←c2 r (List.mem_of_getElem? hi)];exact(List.getElem?_eq_some_iff.1 hj).1
       have hlo2:lo (putO (putO st.ob id (e,k,updP es path (setCell i j .no))) nid (e1,k1,xs)) id=some (e,k,updP es path (setCell i j .no)):=by
        rw[lo_put,if_neg q1,lo_put,if_pos rfl]
       have hn2:nav e k (updP es path (setCell i j .no)) path=some (ep,kp,setCell i j .no row):=by
        clear h' h g1 g2 hlo hlo2 hb hb' hu hu2 hvr hsl hr c3
        induction path generalizing e k es with
        |nil=>simp only[nav,Option.some.injEq,Prod.mk.injEq]at hn;obtain⟨rfl,rfl,rfl⟩:=hn;rfl
        |cons y p ih =>
         obtain⟨y1,y2⟩:=y
         obtain⟨r1,e5,k5,xs5,f1,f2,f3⟩:=nav_cons hn
         have:=ih _ _ _ f3
         simp only[updP,nav,List.getElem?_modify,if_true,f1,Option.map_eq_map,Option.map_some,Option.bind_some,f2]
         exact this
       have r3:=Rel.cell (x:=.sc u) g1 hlo2 hn2 hjk hb' (OneCell.refl hh hu2) ⟨rfl,hsl.one⟩
       rw[updP_updP]at r3
       have hob:∀id',lo (f u).ob id'=lo (putO (putO (putO st.ob id (e,k,updP es path (setCell i j .no))) nid (e1,k1,xs)) id (e,k,updP es path fun r=>setCell i j (.sc u) (setCell i j .no r))) id':=fun id'=>by
        rw[←h' u]
        simp only[lo_put,setCell_setCell]
        by_cases x1:id=id'
        ·simp only[x1,if_true]
        ·simp only[x1,if_false]
       refine⟨u,_,⟨?_,?_,fun t=>?_,fun id' e' k' es' hl'=>r3.ob id' e' k' es' (by rw[←hob];exact hl'),r3.uq,r3.lt,r3.fr,r3.old,r3.hs,r3.os,r3.tape,r3.output⟩,parted_fr,q2,q3⟩
       ·rw[←h' u];exact hr.nt
       ·exact hr.df
       ·rw[←h' u]
        simp only[lk]
        have hnt:=hr.nt
        split
        ·rename_i ht
         subst ht
         have:a.tmps.getD g (updG st.G g u g)=u:=by
          rw[Array.getD_eq_getD_getElem?,Array.getElem?_eq_none (by omega)]
          simp[updG]
         rw[this]
         exact g2 u hvr
        ·rename_i ht
         rw[lk_renT]
         have:a.tmps.getD t (updG st.G g u t)=a.tmps.getD t (st.G t):=by
          simp[updG,show ¬t=g from fun e=>ht e.symm]
         rw[this]
         exact(hr.tm t).parted q1
     ·have:=h' undef
      rw[if_neg hq]at this
      simp at this
    |_=>have:=h' undef;simp[hc]at this
def attS(st:St)(id nid g:Nat)(path:Pth)(i j:Nat)(G0:Nat→Value):Option (Value×St):=
 match lo st.ob id with
 |some (e,k,es)=>match nav e k es path with
  |some (_,kp,row)=>match cellIn row i j with
   |some (.sc u)=>match lo st.ob nid with
    |some (e1,k1,xs)=>match lk st.tm g with
     |.sl nid' k' [] 0 len=>if nid'=nid∧k'=k1∧len=xs.length∧nid≠id∧id<DD∧nid<DD∧st.nt≤g∧j<kp then
       some (u,{ st with G:=G0,tm:=(g,.un)::killT (fun i p=>i==nid||(i==id && !p.isEmpty)) st.tm,ob:=putO (delO st.ob nid) id (e,k,updP es path (setCell i j (.sl e1 k1 xs))) }) else none
     |_=>none
    |none=>none
   |_=>none
  |none=>none
 |none=>none
theorem Rel.attS(hr:Rel w0 β0 st β a w){id nid g i j:Nat}{path:Pth}{G0:Nat→Value}{u:Value}(hG:st.G=updG G0 g u)(h:Own.attS st id nid g path i j G0=some (u,st')) :
  ∃β',Rel w0 β0 st' β' a w∧Fr [id,nid] β w β' w∧id<DD∧nid<DD:=by
 unfold Own.attS at h
 split at h
 ·rename_i e k es hlo
  split at h
  ·rename_i ep kp row hn
   split at h
   ·rename_i u' hc
    split at h
    ·rename_i e1 k1 xs hlo2
     split at h
     ·rename_i nid' k' len hlk
      split at h
      ·rename_i hq
       obtain⟨rfl,rfl,rfl,q1,q2,q3,q4,q5⟩:=hq
       simp only[Option.some.injEq,Prod.mk.injEq]at h
       obtain⟨rfl,rfl⟩:=h
       obtain⟨r,hi,hj⟩:=cellIn_get hc
       have hnt:=hr.nt
       have hrow:=hr.ob id e k es hlo path ep kp row hn
       simp only[List.nil_append]at hrow
       obtain⟨h0,hrow⟩:=hrow
       rcases hrow with ⟨hnil,_⟩|⟨b,cap,cur,hb,hh,hl,hm,hs,c1,c2,c3⟩
       ·subst hnil;simp at hi
       ·obtain⟨u2,hu,hv⟩:=c3 i j r _ hi hj
        obtain⟨rfl,hone⟩:=hv
        have hu2:cur[i*kp+j]?=some u2:=by
         have:=(List.getElem?_eq_some_iff.1 hu).1
         rw[List.getElem?_take_of_lt (by simp at this;omega)]at hu
         simpa using hu
        have hvr:=hr.tm g
        rw[hlk]at hvr
        have hgd:a.tmps.getD g (st.G g)=u2:=by
         rw[Array.getD_eq_getD_getElem?,Array.getElem?_eq_none (by omega),hG]
         simp[updG]
        rw[hgd]at hvr
        have hmv:=hr.move hlo hn q5 hb (OneCell.refl hh hu2) q1 hlo2 hvr
        refine⟨_,⟨hmv.nt,hmv.df,fun t=>?_,hmv.ob,hmv.uq,hmv.lt,hmv.fr,hmv.old,hmv.hs,hmv.os,hmv.tape,hmv.output⟩,?_,q2,q3⟩
        ·simp only[lk]
         split
         ·exact .un _
         ·rename_i ht
          have:=hmv.tm t
          dsimp only at this ⊢
          rw[hG]at this
          have e1:a.tmps.getD t (updG G0 g u2 t)=a.tmps.getD t (G0 t):=by simp[updG,show ¬t=g from fun e=>ht e.symm]
          rw[e1]at this
          exact this
        ·refine⟨fun b' hb' hq=>⟨?_,rfl⟩,fun b' i1 p1 hb' hn'=>?_⟩
         ·cases hx:β b' with
          |none=>simp[moved,hx]
          |some x =>
           obtain⟨i0,p0⟩:=x
           have:=hq i0 p0 hx
           simp only[List.mem_cons,List.not_mem_nil,or_false,not_or]at this
           simp[moved,hx,this.1,this.2]
         ·simp only[List.mem_cons,List.not_mem_nil,or_false,not_or]at hn'
          simp only[moved]at hb'
          split at hb'
          ·simp at hb'
          ·rename_i i2 p2 hx
           split at hb'
           ·injection hb' with hb';injection hb' with x1 x2;exact absurd x1.symm hn'.1
           ·split at hb'
            ·simp at hb'
            ·rw[hx];exact hb'
      ·simp at h
     ·simp at h
    ·simp at h
   ·simp at h
  ·simp at h
 ·simp at h
variable [Laid]
theorem below2{id nid:Nat}(h1:id<DD)(h2:nid<DD):below [id,nid]=true:=by simp[below,h1,h2]
theorem WPL.detS{ops:Array Oper}{l:List Oper}{Ψ:St→Prop}(id nid:Nat)(path:Pth)(i j:Nat)
  (h:∀K:St→Prop,(∀s,WPL P ops l s Ψ→K s)→∃s,Own.detS st id nid path i j=some s∧K s):WPL P ops l st Ψ:=by
 obtain⟨s,h1,h2⟩:=h (fun s=>WPL P ops l s Ψ) fun _ h=>h
 intro w0 β0 β a w hr
 obtain⟨β',g1,g2,g3,g4⟩:=hr.rel.detS h1
 exact h2 w0 β0 β' a w (hr.next g1 g2 (below2 g3 g4))
theorem WPL.detG{ops:Array Oper}{l:List Oper}{Ψ:St→Prop}(id nid g:Nat)(path:Pth)(i j:Nat)
  (h:∀u,∀K:St→Prop,(∀s,WPL P ops l s Ψ→K s)→∃s,Own.detG st id nid g path i j u=some s∧K s):WPL P ops l st Ψ:=by
 have h':=fun u=>h u (fun s=>WPL P ops l s Ψ) fun _ h=>h
 intro w0 β0 β a w hr
 obtain⟨u,β',g1,g2,g3,g4⟩:=hr.rel.detG (f:=fun u=>(h' u).choose) (fun u=>(h' u).choose_spec.1)
 exact(h' u).choose_spec.2 w0 β0 β' a w (hr.next g1 g2 (below2 g3 g4))
theorem WPL.attS{ops:Array Oper}{l:List Oper}{Ψ:St→Prop}(id nid g:Nat)(path:Pth)(i j:Nat)(G0:Nat→Value)(u:Value)(hG:st.G=updG G0 g u)
  (h:∀K:St→Prop,(∀s,WPL P ops l s Ψ→K s)→∃r:Value×St,Own.attS st id nid g path i j G0=some r∧r.1=u∧K r.2):WPL P ops l st Ψ:=by
 obtain⟨⟨v,s⟩,h1,rfl,h2⟩:=h (fun s=>WPL P ops l s Ψ) fun _ h=>h
 intro w0 β0 β a w hr
 obtain⟨β',g1,g2,g3,g4⟩:=hr.rel.attS hG h1
 exact h2 w0 β0 β' a w (hr.next g1 g2 (below2 g3 g4))
theorem WPc.detS{c:Code}{Φ:Exit→St→Prop}(id nid:Nat)(path:Pth)(i j:Nat)
  (h:∀K:St→Prop,(∀s,WPc P c s Φ→K s)→∃s,Own.detS st id nid path i j=some s∧K s):WPc P c st Φ:=by
 obtain⟨s,h1,h2⟩:=h (fun s=>WPc P c s Φ) fun _ h=>h
 intro w0 β0 β a w hr
 obtain⟨β',g1,g2,g3,g4⟩:=hr.rel.detS h1
 exact h2 w0 β0 β' a w (hr.next g1 g2 (below2 g3 g4))
def dstOf:List Oper→Option Nat
 |[]=>none
 |o::_=>o.dst
def upTo(d:Nat):List Oper→Nat→Nat
 |[],_=>0
 |o::l,n=>if o.dst=some d then n else if isFn o.op then 0 else upTo d l (n+1)
theorem WPL.detAt{ops:Array Oper}{l:List Oper}{Ψ:St→Prop}(d id nid:Nat)(path:Pth)(i j:Nat)(hd:dstOf l=some d)
  (h:∀K:St→Prop,(∀s,WPL P ops l s Ψ→K s)→∃s,Own.detS st id nid path i j=some s∧K s):WPL P ops l st Ψ:=WPL.detS id nid path i j h
theorem WPL.focAt{ops:Array Oper}{l:List Oper}{Ψ:St→Prop}(d id nid g:Nat)(path:Pth)(i j:Nat)(hd:dstOf l=some d)
  (h:∀u,∀K:St→Prop,(∀s,WPL P ops l s Ψ→K s)→∃s,Own.detG st id nid g path i j u=some s∧K s):WPL P ops l st Ψ:=WPL.detG id nid g path i j h
theorem WPL.attAt{ops:Array Oper}{l:List Oper}{Ψ:St→Prop}(d:Option Nat)(id nid g:Nat)(path:Pth)(i j:Nat){G0:Nat→Value}{u:Value}(hd:dstOf l=d)(hG:st.G=updG G0 g u)
  (h:∀K:St→Prop,(∀s,WPL P ops l s Ψ→K s)→∃r:Value×St,Own.attS st id nid g path i j G0=some r∧r.1=u∧K r.2):WPL P ops l st Ψ:=WPL.attS id nid g path i j G0 u hG h
theorem WPL.rnTo(tok:TOk P tt){ops:Array Oper}{l:List Oper}{Ψ:St→Prop}(d m:Nat)(hm:upTo d l 0=m+1)
  (h:∀K:St→Prop,(∀s,WPL P ops (l.drop (m+1)) s Ψ→K s)→∃s,runL tt ops (l.take (m+1)) st=some s∧K s):WPL P ops l st Ψ:=WPL.rk tok (m+1) h
theorem WPc.detR{Φ:Exit→St→Prop}(id nid:Nat)(path:Pth)(i j:Nat)
  (h:∀K:St→Prop,(∀s,WPc P .ret s Φ→K s)→∃s,Own.detS st id nid path i j=some s∧K s):WPc P .ret st Φ:=WPc.detS id nid path i j h
@[simp] theorem lt_DD{n:Nat}:(n<DD)=(n<1000000000):=rfl
attribute [simp] dstOf upTo detS detG attS renV renVL renT cellIn under setCell_setCell
end Go.Own
namespace Go.Own
variable {P:Program}{tt:Nat→Option TI}{w0:World}{β0:Blk}{st st':St}{β:Blk}{a:Act}{w w':World}{o:Oper}{T:List Nat}
@[simp] theorem updG_app{G:Nat→Value}{g t:Nat}{u:Value}:updG G g u t=if t=g then u else G t:=rfl
theorem RL.sameB[Laid](h:RL w0 β0 st β a w)(hr:Rel w0 β0 st' β a w):RL w0 β0 st' β a w:=⟨hr,h.lw,h.to,h.back,h.lt0⟩
def ghS(st:St)(t g i:Nat)(u:Value):Option St :=
 match lk st.tm t with
 |.agg cs=>match cs[i]? with
  |some v=>if st.nt≤g∧t<g then some { st with G:=updG st.G g u,tm:=putT ((g,v)::st.tm) t (.agg (cs.set i (.sc u))) } else none
  |none=>none
 |_=>none
theorem VR.set_agg{cs:List AV}{u:Value}{i:Nat}{x y:AV}(h:VR β w (.agg cs) u)(hi:cs[i]?=some x):∃v:Value,v.oneCell'=true∧VR β w x v∧VR β w (.agg (cs.set i (.sc v))) u∧(VR β w y v→VR β w (.agg (cs.set i y)) u):=by
 cases h with
 |agg _ us f hl hu h1 hx =>
  have hil:=(List.getElem?_eq_some_iff.1 hi).1
  have key:∀z,VR β w z (f i)→VR β w (.agg (cs.set i z)) (.agg us):=fun z hz=>by
   refine .agg _ us f (by simpa using hl) (fun n y hy=>?_) (fun n y hy=>?_) (fun n y hy=>?_)<;>rw[List.getElem?_set]at hy<;>by_cases hn:i=n
   ·subst hn;exact hu i x hi
   ·simp only[hn,if_false]at hy;exact hu n y hy
   ·subst hn;exact h1 i x hi
   ·simp only[hn,if_false]at hy;exact h1 n y hy
   ·subst hn
    simp only[if_true,hil]at hy
    injection hy with hy
    exact hy▸hz
   ·simp only[hn,if_false]at hy;exact hx n y hy
  exact⟨f i,h1 i x hi,hx i x hi,key _ (.sc _),key y⟩
theorem Rel.ghS(hr:Rel w0 β0 st β a w){t g i:Nat}{f:Value→St}(h:∀u,Own.ghS st t g i u=some (f u)):∃u:Value,u.oneCell'=true∧Rel w0 β0 (f u) β a w:=by
 have h':=h
 unfold Own.ghS at h'
 cases hv:lk st.tm t with
 |agg cs =>
  simp only[hv]at h'
  cases hi:cs[i]? with
  |none=>have:=h' undef;simp[hi]at this
  |some x =>
   simp only[hi]at h'
   by_cases hq:st.nt≤g∧t<g
   ·simp only[hq,and_self,if_true,Option.some.injEq]at h'
    have hvr:=hr.tm t
    rw[hv]at hvr
    obtain⟨u,h1,h2,h3,_⟩:=hvr.set_agg (y:=.un) hi
    refine⟨u,h1,?_⟩
    rw[←h' u]
    refine⟨hr.nt,hr.df,fun n=>?_,hr.ob,hr.uq,hr.lt,hr.fr,hr.old,hr.hs,hr.os,hr.tape,hr.output⟩
    have hnt:=hr.nt
    have e1:∀n,n≠g→a.tmps.getD n (updG st.G g u n)=a.tmps.getD n (st.G n):=fun n hn=>by simp[updG,hn]
    simp only[lk_put,lk]
    split
    ·rename_i e
     subst e
     rw[e1 t (by omega)]
     exact h3
    ·split
     ·rename_i e
      subst e
      have:a.tmps.getD g (updG st.G g u g)=u:=by
       rw[Array.getD_eq_getD_getElem?,Array.getElem?_eq_none (by omega)]
       simp[updG]
      rw[this]
      exact h2
     ·rename_i e
      rw[e1 n (fun h=>e h.symm)]
      exact hr.tm n
   ·have:=h' undef;rw[if_neg hq]at this;simp at this
 |_=>have:=h' undef;simp[hv]at this
def unS(st:St)(t g i:Nat):Option (Value×St):=
 match lk st.tm t with
 |.agg cs=>match cs[i]? with
  |some (.sc u)=>if st.nt≤g then some (u,{ st with tm:=putT st.tm t (.agg (cs.set i (lk st.tm g))) }) else none
  |_=>none
 |_=>none
theorem VR.set_agg2{cs:List AV}{u v:Value}{i:Nat}{y:AV}(h:VR β w (.agg cs) u)(hi:cs[i]?=some (.sc v))(hy:VR β w y v):VR β w (.agg (cs.set i y)) u:=by
 obtain⟨v',_,h2,_,h4⟩:=h.set_agg (y:=y) hi
 obtain rfl:=h2.sc_inv
 exact h4 hy
theorem Rel.unS(hr:Rel w0 β0 st β a w){t g i:Nat}{u:Value}(h:Own.unS st t g i=some (u,st'))(hG:st.G g=u):Rel w0 β0 st' β a w:=by
 unfold Own.unS at h
 split at h
 ·rename_i cs hv
  split at h
  ·rename_i u' hi
   split at h
   ·rename_i hq
    simp only[Option.some.injEq,Prod.mk.injEq]at h
    obtain⟨rfl,rfl⟩:=h
    refine⟨hr.nt,hr.df,fun n=>?_,hr.ob,hr.uq,hr.lt,hr.fr,hr.old,hr.hs,hr.os,hr.tape,hr.output⟩
    have hnt:=hr.nt
    simp only[lk_put]
    split
    ·rename_i e
     subst e
     have hvr:=hr.tm t
     rw[hv]at hvr
     have hg:=hr.tm g
     have:a.tmps.getD g (st.G g)=u':=by
      rw[Array.getD_eq_getD_getElem?,Array.getElem?_eq_none (by omega)]
      simpa using hG
     rw[this]at hg
     exact hvr.set_agg2 hi hg
    ·exact hr.tm n
   ·simp at h
  ·simp at h
 ·simp at h
theorem Rel.drop(hr:Rel w0 β0 st β a w){g:Nat}{G0:Nat→Value}{u:Value}(hG:st.G=updG G0 g u):Rel w0 β0 { st with G:=G0,tm:=(g,.un)::st.tm } β a w:=by
 refine⟨hr.nt,hr.df,fun n=>?_,hr.ob,hr.uq,hr.lt,hr.fr,hr.old,hr.hs,hr.os,hr.tape,hr.output⟩
 simp only[lk]
 split
 ·exact .un _
 ·rename_i e
  have:=hr.tm n
  rw[hG]at this
  simpa[updG,show ¬n=g from fun h=>e h.symm]using this
def adoptC(st:St)(t i nid e k:Nat):Option St :=
 match lk st.tm t with
 |.agg cs=>match cs[i]? with
  |some (.sc (.slice none 0 0))=>if AV.hitsL (fun i _=>i==nid) cs=false∧t<st.nt∧0<k∧nid<DD then
    some { st with tm:=putT (killT (fun i _=>i==nid) st.tm) t (.agg (cs.set i (.sl nid k [] 0 0))),ob:=putO st.ob nid (e,k,[]) } else none
  |_=>none
 |_=>none
theorem Rel.adoptC(hr:Rel w0 β0 st β a w){t i nid e k:Nat}(h:Own.adoptC st t i nid e k=some st'):Rel w0 β0 st' (bare nid β) a w∧nid<DD:=by
 unfold Own.adoptC at h
 split at h
 ·rename_i cs hv
  split at h
  ·rename_i hi
   split at h
   ·rename_i hq
    obtain⟨q1,q2,q3,q4⟩:=hq
    injection h with h
    subst h
    obtain⟨g1,g2⟩:=hr.nilRoot nid e k q3
    refine⟨⟨g1.nt,g1.df,fun n=>?_,g1.ob,g1.uq,g1.lt,g1.fr,g1.old,g1.hs,g1.os,g1.tape,g1.output⟩,q4⟩
    simp only[lk_put]
    split
    ·rename_i e
     subst e
     have:=g1.tm t
     dsimp only at this
     rw[lk_kill,hv]at this
     have hh:(AV.agg cs).hits (fun i _=>i==nid)=false:=by simpa[AV.hits]using q1
     rw[hh]at this
     exact VR.set_agg2 this hi g2
    ·exact g1.tm n
   ·simp at h
  ·simp at h
 ·simp at h
section
variable [Laid]
def Gst(st st':St):Prop:=∀w0 β0 β a w,RL w0 β0 st β a w→∃β',RL w0 β0 st' β' a w∧∀b x,β' b=some x→β b=some x
theorem Gst.un{t g i:Nat}{u:Value}(h:Own.unS st t g i=some (u,st'))(hG:st.G g=u):Gst st st':=fun w0 β0 β a w hr=>⟨β,hr.sameB (hr.rel.unS h hG),fun _ _ h=>h⟩
theorem Gst.adoptC{t i nid e k:Nat}(h:Own.adoptC st t i nid e k=some st'):Gst st st':=fun w0 β0 β a w hr=>by
 obtain⟨h1,h2⟩:=hr.rel.adoptC h
 refine⟨_,hr.next h1 bare_fr (by simp only[below_cons,below_nil,Bool.and_true];exact decide_eq_true h2),fun b x hb=>?_⟩
 simp only[bare]at hb
 split at hb
 ·simp at hb
 ·rename_i hp
  split at hb
  ·simp at hb
  ·rw[hp];exact hb
theorem WPL.gst{ops:Array Oper}{l:List Oper}{Ψ:St→Prop}(h:Gst st st')(hk:WPL P ops l st' Ψ):WPL P ops l st Ψ:=fun w0 β0 β a w hr=>by
 obtain⟨β',h1,_⟩:=h w0 β0 β a w hr
 exact hk w0 β0 β' a w h1
theorem wpAnyF_anti{md:Region.Mode}{ops:Array Oper}{Q:Exit→Act→World→Prop}:∀(fuel:Nat) (listed:Array Bool) {Z Z2:Nat→Nat→Prop} (a:Act) (w:World),(∀e b,Z e b→Z2 e b)→wpAnyF P md ops Q fuel listed Z2 a w→wpAnyF P md ops Q fuel listed Z a w
 |0,_,_,_,_,_,_,h=>h
 |fuel+1,_,Z,Z2,a,w,hz,h=>⟨h.1,fun i hi=>wpOp_mono (fun a' w' h'=>by
   obtain⟨Z',h1,h2,h3⟩:=h'
   exact⟨Z',fun b hb=>h1 b (hz i b hb),fun e b h4 h5=>h2 e b (hz i b h4) (hz e b h5),h3⟩) (h.2 i hi)⟩
theorem WPS.gst{ops:Array Oper}{l:List (Nat×List Nat)}{Ψ:St→Prop}(h:Gst st st')(hk:WPS P ops l st' Ψ):WPS P ops l st Ψ:=fun te listed h1 h2 w0 β0 β a w hr=>by
 obtain⟨β',g1,g2⟩:=h w0 β0 β a w hr
 refine wpAnyF_anti _ _ a w ?_ (hk te listed h1 h2 w0 β0 β' a w g1)
 rintro e b ⟨q1,q2⟩
 exact⟨q1,fun id p hb=>q2 id p (g2 _ _ hb)⟩
theorem WPc.ghS{c:Code}{Φ:Exit→St→Prop}(t g i:Nat)
  (h:∀u:Value,u.oneCell'=true→∀K:St→Prop,(∀s,WPc P c s Φ→K s)→∃s,Own.ghS st t g i u=some s∧K s):WPc P c st Φ:=by
 intro w0 β0 β a w hr
 have hs:∀u,∃s,Own.ghS st t g i u=some s:=fun u=>by
  cases hv:Own.ghS st t g i u with
  |some s=>exact⟨s,rfl⟩
  |none =>
   exfalso
   obtain⟨s,hs,_⟩:=h (.bool true) rfl (fun s=>WPc P c s Φ) fun _ h=>h
   unfold Own.ghS at hv hs
   split at hv
   ·rename_i cs hl
    simp only[hl]at hs
    split at hv
    ·rename_i v hi
     simp only[hi]at hs
     split at hv
     ·simp at hv
     ·rename_i hq;rw[if_neg hq]at hs;simp at hs
    ·rename_i hi;simp[hi]at hs
   ·rename_i hl
    split at hs
    ·rename_i cs hl2;exact hl cs hl2
    ·simp at hs
 have hs2:∃f:Value→St,∀u,Own.ghS st t g i u=some (f u):=⟨fun u=>(hs u).choose,fun u=>(hs u).choose_spec⟩
 obtain⟨f,hf⟩:=hs2
 obtain⟨u,h1,h2⟩:=hr.rel.ghS hf
 obtain⟨s,h3,h4⟩:=h u h1 (fun s=>WPc P c s Φ) fun _ h=>h
 rw[hf u]at h3
 injection h3 with h3
 rw[h3]at h2
 exact h4 w0 β0 β a w (hr.sameB h2)
theorem WPc.dropR{Φ:Exit→St→Prop}{g:Nat}{G0:Nat→Value}{u:Value}(hG:st.G=updG G0 g u)(h:WPc P .ret { st with G:=G0,tm:=(g,.un)::st.tm } Φ):WPc P .ret st Φ :=
 fun w0 β0 β a w hr=>h w0 β0 β a w (hr.sameB (hr.rel.drop hG))
theorem WPL.unAt{ops:Array Oper}{l:List Oper}{Ψ:St→Prop}(d t g i:Nat)(hd:dstOf l=some d)
  (h:∀K:St→Prop,(∀s,WPL P ops l s Ψ→K s)→∃r:Value×St,Own.unS st t g i=some r∧st.G g=r.1∧K r.2):WPL P ops l st Ψ:=by
 obtain⟨⟨v,s⟩,h1,h2,h3⟩:=h (fun s=>WPL P ops l s Ψ) fun _ h=>h
 exact WPL.gst (Gst.un h1 h2) h3
theorem WPL.adAt{ops:Array Oper}{l:List Oper}{Ψ:St→Prop}(d t i nid e k:Nat)(hd:dstOf l=some d)
  (h:∀K:St→Prop,(∀s,WPL P ops l s Ψ→K s)→∃s,Own.adoptC st t i nid e k=some s∧K s):WPL P ops l st Ψ:=by
 obtain⟨s,h1,h2⟩:=h (fun s=>WPL P ops l s Ψ) fun _ h=>h
 exact WPL.gst (Gst.adoptC h1) h2
def dstS(ops:Array Oper):List (Nat×List Nat)→Option Nat
 |[]=>none
 |(k,_)::_=>match ops[k]? with
  |some o=>o.dst
  |none=>none
def upToS(ops:Array Oper)(d:Nat):List (Nat×List Nat)→Nat→Nat
 |[],_=>0
 |(k,_)::l,n=>match ops[k]? with
  |some o=>if o.dst=some d then n else if valOp o.op then upToS ops d l (n+1) else 0
  |none=>0
theorem WPS.unAt{ops:Array Oper}{l:List (Nat×List Nat)}{Ψ:St→Prop}(d t g i:Nat)(hd:dstS ops l=some d)
  (h:∀K:St→Prop,(∀s,WPS P ops l s Ψ→K s)→∃r:Value×St,Own.unS st t g i=some r∧st.G g=r.1∧K r.2):WPS P ops l st Ψ:=by
 obtain⟨⟨v,s⟩,h1,h2,h3⟩:=h (fun s=>WPS P ops l s Ψ) fun _ h=>h
 exact WPS.gst (Gst.un h1 h2) h3
theorem WPS.adAt{ops:Array Oper}{l:List (Nat×List Nat)}{Ψ:St→Prop}(d t i nid e k:Nat)(hd:dstS ops l=some d)
  (h:∀K:St→Prop,(∀s,WPS P ops l s Ψ→K s)→∃s,Own.adoptC st t i nid e k=some s∧K s):WPS P ops l st Ψ:=by
 obtain⟨s,h1,h2⟩:=h (fun s=>WPS P ops l s Ψ) fun _ h=>h
 exact WPS.gst (Gst.adoptC h1) h2
theorem WPS.rnTo(tok:TOk P tt){ops:Array Oper}{l:List (Nat×List Nat)}{Ψ:St→Prop}(d m:Nat)(hm:upToS ops d l 0=m+1)
  (h:∀K:St→Prop,(∀s,WPS P ops (l.drop (m+1)) s Ψ→K s)→∃s,runS tt ops (l.take (m+1)) st=some s∧K s):WPS P ops l st Ψ:=by
 obtain⟨s,h1,h2⟩:=h (fun s=>WPS P ops (l.drop (m+1)) s Ψ) fun _ h=>h
 exact WPS.run tok (m+1) h1 h2
end
attribute [simp] putT ghS unS adoptC dstS upToS
end Go.Own
namespace Go.Own
variable {P:Program}{tt:Nat→Option TI}{w0:World}{β0:Blk}{st st':St}{β:Blk}{a:Act}{w w':World}{o:Oper}{T T':List Nat}[Laid]
variable {ops:Array Oper}{l l1 l2:List (Nat×List Nat)}{Ψ Ψ':St→Prop}{k i j:Nat}
def schedF2(te:List (Nat×List Nat))(ops:Array Oper)(l1 l2:List (Nat×List Nat)):Array Bool→List (Nat×List Nat)→Bool
 |listed,[]=>(match l1,l2 with
  |(i,T1)::r1,(j,T2)::r2=>(Region.ready .any ops listed==[i,j])&&(r1.length==r2.length)&&subB T1 (teOf te i)&&subB T2 (teOf te j)&&schedF te ops (listed.setIfInBounds i true) r1&&schedF te ops (listed.setIfInBounds j true) r2
  |_,_=>false)
 |listed,(k,T)::r=>(match ops[k]? with
  |some o=>valOp o.op&&takeF te ops listed k T
  |none=>false)&&schedF2 te ops l1 l2 (listed.setIfInBounds k true) r
def WPS2(P:Program)(ops:Array Oper)(p l1 l2:List (Nat×List Nat))(st:St)(Ψ:St→Prop):Prop :=
 ∀te listed,Region.noSelect ops=true→schedF2 te ops l1 l2 listed p=true→HAnyF P ops (teOf te) (p.length+l1.length) listed st Ψ
def WPS1(P:Program)(ops:Array Oper)(l:List (Nat×List Nat))(st:St)(Ψ:St→Prop):Prop :=
 match l with
 |[]=>False
 |(k,T)::l=>∀te (listed:Array Bool),Region.noSelect ops=true→subB T (teOf te k)=true→schedF te ops (listed.setIfInBounds k true) l=true→∀w0 β0 β a w,RL w0 β0 st β a w →
   wpOp P ops (post (norm Ψ) w0 β0) k (fun a' w'=>∃Z':Nat→Nat→Prop,(∀b,ZZ (teOf te k) β w b→w'.heap[b]?=w.heap[b]?)∧(∀e b,ZZ (teOf te k) β w b→ZZ (teOf te e) β w b→Z' e b) ∧
    wpAnyF P .any ops (post (norm Ψ) w0 β0) l.length (listed.setIfInBounds k true) Z' a' w') a w
theorem WPS1.stp(ho:ops[k]?=some o)(hw:wantA ops st o=some true)(h:Stp P o st T' Ψ')(hT:subB T' T=true)(hk:∀s,Ψ' s→WPS P ops l s Ψ):WPS1 P ops ((k,T)::l) st Ψ:=by
 intro te listed hs hTe hB' w0 β0 β a w hrl
 unfold wpOp
 simp only[ho,want_of hrl.rel hw,if_true]
 refine .inl (Oper.wp_mono ?_ (h w0 β0 β a w hrl _))
 rintro a' w' ⟨st',β',h1,h2,h3,h4⟩
 have hsub:∀x,x∈T'→x∈teOf te k:=fun x hx=>by
  have:=List.all_eq_true.1 hT x hx
  have:=List.all_eq_true.1 hTe x (by simpa using this)
  simpa using this
 have h3T:Fr T' β w β' w':=h3
 refine⟨fun e=>ZZ (teOf te e) β' w',fun b hb=>(h3T.to b hb.1 fun id p e hm=>hb.2 id p e (hsub _ hm)).2,fun e b hi hb=>?_,hk st' h1 te _ hs hB' w0 β0 β' a' w' h2⟩
 have:=(h3T.to b hb.1 fun id p e hm=>hi.2 id p e (hsub _ hm)).1
 exact⟨Nat.lt_of_lt_of_le hb.1 h4,fun id p e=>hb.2 id p (this▸e)⟩
theorem WPS2.fork(h1:WPS1 P ops l1 st Ψ)(h2:WPS1 P ops l2 st Ψ):WPS2 P ops [] l1 l2 st Ψ:=by
 intro te listed hs hB
 unfold schedF2 at hB
 split at hB
 ·rename_i i T1 r1 j T2 r2
  simp only[Bool.and_eq_true,beq_iff_eq]at hB
  obtain⟨⟨⟨⟨⟨b1,b2⟩,b3⟩,b4⟩,b5⟩,b6⟩:=hB
  intro w0 β0 β a w hrl
  simp only[List.length_nil,Nat.zero_add,List.length_cons]
  refine⟨fun h0=>(by rw[b1]at h0;cases h0),fun k hk=>?_⟩
  rw[b1]at hk
  simp only[List.mem_cons,List.not_mem_nil,or_false]at hk
  rcases hk with rfl|rfl
  ·exact h1 te listed hs b3 b5 w0 β0 β a w hrl
  ·have:=h2 te listed hs b4 b6 w0 β0 β a w hrl
   rw[←b2]at this
   exact this
 ·simp at hB
theorem WPS2.take(ho:ops[k]?=some o)(hd:dstOk st o=true){v:AV}{p:List (Nat×List Nat)}(hv:(wantA ops st o=some true∧Val P o st v T)∨(wantA ops st o=some false∧v=.sc undef))
  (hk:WPS2 P ops p l1 l2 (putSt st o.dst v) Ψ):WPS2 P ops ((k,T)::p) l1 l2 st Ψ:=by
 intro te listed hs hB
 simp only[schedF2,ho,Bool.and_eq_true]at hB
 obtain⟨⟨_,hB⟩,hB'⟩:=hB
 have hk:=hk te _ hs hB'
 intro w0 β0 β a w hr
 simp only[takeF,Bool.and_eq_true]at hB
 obtain⟨⟨⟨k2,k3⟩,k4⟩,k5⟩:=hB
 have hR:∀j,(ops[j]?).isSome=true→j≠k→j∉aft ops listed k→listed.getD j true=false→∀b,ZZ T β w b→ZZ (teOf te j) β w b:=fun j hjs hj hjB hun b hb=>by
  by_cases hlt:j<ops.size
  ·have:=List.all_eq_true.1 k5 j (List.mem_range.2 hlt)
   rw[hun]at this
   simp only[Bool.or_false,Bool.or_eq_true,beq_iff_eq,List.contains_eq_mem,decide_eq_true_eq]at this
   rcases this with (h|h)|h
   ·exact absurd h hj
   ·exact absurd h hjB
   ·exact⟨hb.1,fun id p e hm=>hb.2 id p e (by simpa using List.all_eq_true.1 h _ hm)⟩
  ·simp[Array.getElem?_eq_none (Nat.le_of_not_lt hlt)]at hjs
 have hQ:∀(u:Value) c a' w',post (norm Ψ) w0 β0 (.panic c) (a'.put o.dst u) w'→post (norm Ψ) w0 β0 (.panic c) a' w':=by
  rintro u c a' w' ⟨s,β',⟨h,_⟩,_⟩
  cases h
 have hlen:((k,T)::p).length+l1.length=(p.length+l1.length)+1:=by simp only[List.length_cons];omega
 rw[hlen]
 rcases hv with ⟨hw,hval⟩|⟨hw,rfl⟩
 ·obtain⟨u,hu,hvr⟩:=hval β a w hr.rel.ev hr.rel.uq hr.rel.ob
  exact wpAnyF_first ho (Region.noSelect_spec hs) (hQ u) _ (ZZ T β w) _ listed _ a w (Region.free_spec ho k2) (okB_spec k4) hR (by simpa using k3)
   (.inl ⟨want_of hr.rel hw,fun w2 hz=>hu w2 fun b hb hq=>hz b ⟨hb,hq⟩⟩) (hk w0 β0 β _ w (hr.put (dst_lt hd) hvr))
 ·exact wpAnyF_first (v:=undef) ho (Region.noSelect_spec hs) (hQ undef) _ (ZZ T β w) _ listed _ a w (Region.free_spec ho k2) (okB_spec k4) hR (by simpa using k3)
   (.inr ⟨want_of hr.rel hw,rfl⟩) (hk w0 β0 β _ w (hr.put (dst_lt hd) (.sc _)))
theorem WPS2.step(tok:TOk P tt){p:List (Nat×List Nat)}(h:stepS tt ops st T ops[k]?=some st')(hk:WPS2 P ops p l1 l2 st' Ψ):WPS2 P ops ((k,T)::p) l1 l2 st Ψ:=by
 unfold stepS at h
 split at h
 ·rename_i o ho
  split at h
  ·rename_i hc
   obtain⟨c1,c2⟩:=hc
   simp only[runL,Option.bind_eq_some_iff]at h
   obtain⟨s1,h1,h2⟩:=h
   injection h2 with h2
   subst h2
   have cV:isV o.op=true:=by simp only[valOp,Bool.and_eq_true]at c1;exact c1.1
   unfold stepO at h1
   split at h1
   ·rename_i hw
    split at h1
    ·rename_i hd
     simp only[Option.bind_eq_some_iff]at h1
     obtain⟨⟨v,st2,T2⟩,e1,e2⟩:=h1
     obtain⟨rfl,hval⟩:=valT tok cV c2 e1
     unfold fin at e2
     split at e2
     ·injection e2 with e2
      subst e2
      exact WPS2.take ho hd (.inl ⟨hw,hval⟩) hk
     ·simp at e2
    ·simp at h1
   ·rename_i hw
    split at h1
    ·rename_i hd
     injection h1 with h1
     subst h1
     exact WPS2.take ho hd (.inr ⟨hw,rfl⟩) hk
    ·simp at h1
   ·simp at h1
  ·simp at h
 ·simp at h
theorem WPS2.run(tok:TOk P tt):∀{p:List (Nat×List Nat)} {st st':St} (_:runS tt ops p st=some st') (_:WPS2 P ops [] l1 l2 st' Ψ),WPS2 P ops p l1 l2 st Ψ
 |[],st,st',h,hk=>by
  simp only[runS,Option.some.injEq]at h
  exact h▸hk
 |(k,T)::l,st,st',h,hk=>by
  simp only[runS,Option.bind_eq_some_iff]at h
  obtain⟨s1,h1,h2⟩:=h
  exact WPS2.step tok h1 (WPS2.run tok h2 hk)
theorem WPc.sched2(tok:TOk P tt){id:Nat}{ops:Array Oper}{Φ:Exit→St→Prop}(te p l1 l2:List (Nat×List Nat))(hn:(Region.noSelect ops&&schedF2 te ops l1 l2 (Array.replicate ops.size false) p&&(p.length+l1.length==ops.size))=true)
  (h:∀K:St→Prop,(∀s,WPS1 P ops l1 s (Φ .normal)→WPS1 P ops l2 s (Φ .normal)→K s)→∃s,runS tt ops p st=some s∧K s):WPc P (.region id ops true) st Φ:=by
 simp only[Bool.and_eq_true,beq_iff_eq]at hn
 obtain⟨⟨h1,h2⟩,h3⟩:=hn
 obtain⟨s,g1,g2,g3⟩:=h (fun s=>WPS1 P ops l1 s (Φ .normal)∧WPS1 P ops l2 s (Φ .normal)) fun _ h h'=>⟨h,h'⟩
 have:=WPS2.run tok g1 (WPS2.fork g2 g3) te _ h1 h2
 rw[h3]at this
 exact WPc.drawF tok _ this
theorem WPS1.eff(tok:TOk P tt)(h:∀K:St→Prop,(∀s,WPS P ops l s Ψ→K s)→∃s,effS tt ops st T ops[k]?=some s∧K s):WPS1 P ops ((k,T)::l) st Ψ:=by
 obtain⟨s,h1,h2⟩:=h (fun s=>WPS P ops l s Ψ) fun _ h=>h
 unfold effS at h1
 split at h1
 ·rename_i o ho
  split at h1
  ·rename_i hc
   obtain⟨c1,c2,c3⟩:=hc
   simp only[Option.bind_eq_some_iff]at h1
   obtain⟨⟨v,st2,T2⟩,e1,e2⟩:=h1
   unfold finS at e2
   split at e2
   ·rename_i hT
    injection e2 with e2
    subst e2
    exact WPS1.stp ho c2 (Stp.step tok c3 e1 hT.2) hT.1 (fun s hs=>hs▸h2)
   ·simp at e2
  ·simp at h1
 ·simp at h1
theorem WPS1.callL{f d:Nat}{ins ins0:List AV}{res:AV}{args:Array Operand}{tys:Array TypeId}{ty:TypeId}{pos:String}{af:Array Edge}{g:Option (Nat×Bool)}{lent:List Nat}
  (ho:ops[k]?=some { dst:=some d,op:=.call { callee:=.value (.func f),args:=args,argTypes:=tys },type:=ty,pos:=pos,after:=af,guard:=g })
  (hc:Con P f ins [] [] (fun r _=>r=res)) (hg:wantA ops st { dst:=some d,op:=.call { callee:=.value (.func f),args:=args,argTypes:=tys },type:=ty,pos:=pos,after:=af,guard:=g }=some true)
  (hd:d<st.nt) (hl:lentOf st args.toList=lent) (hb:below lent=true) (hins:insA st [] lent args.toList=some ins0) (he:ins0=ins)
  (hz:lent=[]∨nzT res=true) (hk:WPS P ops l (putSt st (some d) (rnT [] res)) Ψ):WPS1 P ops ((k,T)::l) st Ψ :=
 WPS1.stp ho hg (Stp.call0 hc rfl hb (he▸hins) (by simpa using hd) (fun _ _ h=>h▸hz)) (by simp[subB]) fun s ⟨r,o,h1,h2⟩=>by subst h1;exact h2▸hk
def renS(st:St)(id nid:Nat):Option St:=match lo st.ob id with
 |some r=>if nid≠id∧id<DD∧nid<DD then some { st with tm:=renT id nid [] st.tm,ob:=putO (delO st.ob id) nid r } else none
 |none=>none
theorem Rel.renS(hr:Rel w0 β0 st β a w){id nid:Nat}(h:Own.renS st id nid=some st'):∃β',Rel w0 β0 st' β' a w∧Fr [id,nid] β w β' w∧id<DD∧nid<DD:=by
 unfold Own.renS at h
 split at h
 ·rename_i r hlo
  split at h
  ·rename_i hq
   obtain⟨q1,q2,q3⟩:=hq
   injection h with h
   subst h
   have fz:∀b',β b'=none→b'<w.heap.size→parted id [] nid β b'=none∧w.heap[b']?=w.heap[b']?:=fun b' h0 _=>⟨by simp[parted,h0],rfl⟩
   have un:∀p:Pth,under [] p=true:=fun p=>under_iff.2 ⟨p,rfl⟩
   have inv:=@parted_inv β id nid []
   have hch:=hr.change (fun i _=>i==nid||i==id) (putO (delO st.ob id) nid r) (parted id [] nid β) w fz (Nat.le_refl _) ?_ ?_ ?_ ?_ ?_ ?_ rfl rfl rfl
   ·refine⟨_,⟨hch.nt,hch.df,fun t=>?_,hch.ob,hch.uq,hch.lt,hch.fr,hch.old,hch.hs,hch.os,hch.tape,hch.output⟩,parted_fr,q2,q3⟩
    dsimp only
    rw[lk_renT]
    exact(hr.tm t).parted q1
   ·intro id' p b' hq hb'
    simp only[Bool.or_eq_false_iff,beq_eq_false_iff_ne]at hq
    exact⟨by simp[parted,hb',hq.1,hq.2],fun cur t hc=>⟨cur,hc,rfl⟩⟩
   ·intro id' p b' hq hb'
    simp only[Bool.or_eq_false_iff,beq_eq_false_iff_ne]at hq
    rcases inv hb' with ⟨g,_⟩|⟨_,g,_⟩
    ·exact absurd g hq.1
    ·exact g
   ·intro id' e' k' es' hl
    rw[lo_put]at hl
    by_cases hid:nid=id'
    ·subst hid
     rw[if_pos rfl]at hl
     injection hl with hl
     subst hl
     have hm:Moves β (parted id [] nid β) w w id [] nid []:=⟨fz,fun b s hb=>⟨by simp[parted,hb,un,show ¬id=nid from fun e=>q1 e.symm],rfl⟩,fun b s hb=>by
      rcases inv hb with ⟨_,g⟩|⟨g,_⟩
      ·simpa using g
      ·exact absurd rfl g⟩
     have:=hm.sub (s:=[]) (by simpa using hr.ob id _ _ _ hlo)
     simpa using this
    ·rw[if_neg hid,lo_del]at hl
     by_cases hid2:id=id'
     ·rw[if_pos hid2]at hl;simp at hl
     ·rw[if_neg hid2]at hl
      have hm:Moves β (parted id [] nid β) w w id' [] id' []:=⟨fz,fun b s hb=>⟨by simp[parted,hb,show ¬id'=nid from fun e=>hid e.symm,show ¬id'=id from fun e=>hid2 e.symm],rfl⟩,fun b s hb=>by
       rcases inv hb with ⟨g,_⟩|⟨_,g,_⟩
       ·exact absurd g.symm hid
       ·exact g⟩
      have:=hm.sub (s:=[]) (by simpa using hr.ob id' _ _ _ hl)
      simpa using this
   ·intro b1 b2 x h1 h2
    obtain⟨i0,s⟩:=x
    rcases inv h1 with ⟨g1,g2⟩|⟨g1,g2,_⟩<;>rcases inv h2 with ⟨g3,g4⟩|⟨g3,g4,_⟩
    ·exact hr.uq b1 b2 _ g2 g4
    ·exact absurd g1 g3
    ·exact absurd g3 g1
    ·exact hr.uq b1 b2 _ g2 g4
   ·intro b' x hb'
    obtain⟨i0,s⟩:=x
    rcases inv hb' with ⟨_,g⟩|⟨_,g,_⟩<;>exact hr.lt b' _ g
   ·intro b' x hb' _ h0
    simp[parted,h0]at hb'
  ·simp at h
 ·simp at h
theorem WPc.renR{Φ:Exit→St→Prop}(id nid:Nat)
  (h:∀K:St→Prop,(∀s,WPc P .ret s Φ→K s)→∃s,Own.renS st id nid=some s∧K s):WPc P .ret st Φ:=by
 obtain⟨s,h1,h2⟩:=h (fun s=>WPc P .ret s Φ) fun _ h=>h
 intro w0 β0 β a w hr
 obtain⟨β',g1,g2,g3,g4⟩:=hr.rel.renS h1
 exact h2 w0 β0 β' a w (hr.next g1 g2 (below2 g3 g4))
attribute [simp] renS
def stOp(d:Nat):Op→Bool
 |.store _ _ (.tmp x)=>x==d
 |_=>false
def stHd(d:Nat):List Oper→Bool
 |[]=>false
 |o::_=>stOp d o.op
def upToSt(d:Nat):List Oper→Nat→Nat
 |[],_=>0
 |o::l,n=>if stOp d o.op=true then n else if isFn o.op then 0 else upToSt d l (n+1)
theorem WPL.detSt{ops:Array Oper}{l:List Oper}{Ψ:St→Prop}(d id nid:Nat)(path:Pth)(i j:Nat)(hd:stHd d l=true)
  (h:∀K:St→Prop,(∀s,WPL P ops l s Ψ→K s)→∃s,Own.detS st id nid path i j=some s∧K s):WPL P ops l st Ψ:=WPL.detS id nid path i j h
theorem WPL.rnToSt(tok:TOk P tt){ops:Array Oper}{l:List Oper}{Ψ:St→Prop}(d m:Nat)(hm:upToSt d l 0=m+1)
  (h:∀K:St→Prop,(∀s,WPL P ops (l.drop (m+1)) s Ψ→K s)→∃s,runL tt ops (l.take (m+1)) st=some s∧K s):WPL P ops l st Ψ:=WPL.rk tok (m+1) h
attribute [simp] stOp stHd upToSt
end Go.Own
namespace Go.Own
variable {P:Program}{tt:Nat→Option TI}{w0:World}{β0:Blk}{st st':St}{β:Blk}{a:Act}{w w':World}[Laid]
attribute [simp] frzSt frzT frz1 frz0
def bC(x:Int):List C:=[.sc (.int .u8 x)]
class Code where
 u:Value
 b:List Int
 rd:∀w,Laid.ok w→FR (fun k=>Laid.S k) w (.fz (b.map bC)) u
 one:u.oneCell'=true
attribute [simp] Code.one
def codeS[K:Code](st:St)(t:Nat):St:={ st with tm:=(t,.fz (K.b.map bC))::st.tm }
attribute [simp] codeS
theorem schedF_tied{te:List (Nat×List Nat)}{ops:Array Oper}:∀{l:List (Nat×List Nat)} {listed:Array Bool},schedF te ops listed l=true→tiedB te=true
 |[],listed,h=>by simp only[schedF,Bool.and_eq_true]at h;exact h.2
 |(k,T)::r,listed,h=>by simp only[schedF,Bool.and_eq_true]at h;exact schedF_tied h.2
theorem tied_at:∀{te:List (Nat×List Nat)} (_:tiedB te=true) {n:Nat} (_:500000≤n) (_:n<900000) (e:Nat),n∈teOf te e→(n-500000) % 100000∈teOf te e
 |[],_,n,_,_,e,hm=>by simp[teOf]at hm
 |(k,T)::r,h,n,h1,h2,e,hm=>by
  simp only[tiedB,List.all_cons,Bool.and_eq_true]at h
  simp only[teOf]at hm ⊢
  split
  ·rename_i hk
   rw[if_pos hk]at hm
   have:=List.all_eq_true.1 h.1 n hm
   simpa[h1,h2]using this
  ·rename_i hk
   rw[if_neg hk]at hm
   exact tied_at (by simpa[tiedB]using h.2) h1 h2 e hm
theorem Rel.detS2(hr:Rel w0 β0 st β a w){id nid i j:Nat}{path:Pth}(h:Own.detS st id nid path i j=some st') :
  ∃p,Rel w0 β0 st' (parted id p nid β) a w∧id<DD∧nid<DD:=by
 unfold Own.detS at h
 split at h
 ·rename_i e k es hlo
  split at h
  ·rename_i ep kp row hn
   split at h
   ·rename_i e1 k1 xs hc
    split at h
    ·rename_i hq
     obtain⟨q1,q2,q3⟩:=hq
     injection h with h
     subst h
     obtain⟨r,hi,hj⟩:=cellIn_get hc
     obtain⟨g1,g2⟩:=hr.detach q1 hlo hn hi hj
     refine⟨_,⟨g1.nt,g1.df,fun t=>?_,g1.ob,g1.uq,g1.lt,g1.fr,g1.old,g1.hs,g1.os,g1.tape,g1.output⟩,q2,q3⟩
     dsimp only
     rw[lk_renT]
     exact(hr.tm t).parted q1
    ·simp at h
   ·simp at h
  ·simp at h
 ·simp at h
theorem WPS.detAt{ops:Array Oper}{l:List (Nat×List Nat)}{Ψ:St→Prop}(d id nid:Nat)(path:Pth)(i j:Nat)(hd:dstS ops l=some d)(hn:(nid-500000) % 100000=id∧500000≤nid∧nid<900000)
  (h:∀K:St→Prop,(∀s,WPS P ops l s Ψ→K s)→∃s,Own.detS st id nid path i j=some s∧K s):WPS P ops l st Ψ:=by
 obtain⟨s,h1,h2⟩:=h (fun s=>WPS P ops l s Ψ) fun _ h=>h
 intro te listed e1 e2 w0 β0 β a w hr
 obtain⟨p,g1,g3,g4⟩:=hr.rel.detS2 h1
 refine wpAnyF_anti _ _ a w ?_ (h2 te listed e1 e2 w0 β0 _ a w (hr.next g1 parted_fr (below2 g3 g4)))
 rintro e b ⟨q1,q2⟩
 refine⟨q1,fun id' p hb hm=>?_⟩
 simp only[parted]at hb
 split at hb
 ·simp at hb
 ·rename_i i0 p0 hp
  split at hb
  ·simp at hb
  ·split at hb
   ·rename_i hc
    injection hb with hb
    injection hb with hb hb2
    subst hb
    have:=tied_at (schedF_tied e2) (n:=nid) (by omega) (by omega) e hm
    rw[hn.1]at this
    exact q2 _ _ hp (hc.1▸this)
   ·injection hb with hb
    injection hb with hb hb2
    exact q2 _ _ hp (hb▸hm)
def selO(ob:List (Nat×Root)):List Nat→Option (List (Nat×Root))
 |[]=>some []
 |i::is=>match lo ob i,selO ob is with
  |some r,some l=>some ((i,r)::l)
  |_,_=>none
theorem fitO_sel:∀{is:List Nat} {l:List (Nat×Root)},selO st.ob is=some l→FitO st l
 |[],l,h=>by simp only[selO,Option.some.injEq]at h;subst h;trivial
 |i::is,l,h=>by
  simp only[selO]at h
  split at h
  ·rename_i r l' h1 h2
   injection h with h
   subst h
   exact⟨⟨_,h1,.inl rfl⟩,fitO_sel h2⟩
  ·simp at h
theorem endP.sel{nt:Nat}{rs:List ResultVar}{G:Nat→Value}{ins:List AV}{keep:List Nat}{Φ:AV→List (Nat×Root)→Prop}{e:Exit}{s:St}{r:AV}{ob':List (Nat×Root)}(is:List Nat)(he:e=.normal∨e=.ret)(hs:s.nt=nt)(hg:s.G=G)
  (h:resA tt s rs=some r) (hO:selO s.ob is=some ob') (hΦ:Φ r ob') (hk:∀i,i∈keep→∀v,ins[i]?=some v→lk s.tm (nt+i)=v):endP tt nt rs G ins keep Φ e s:=endP.own ob' he hs hg h (fitO_sel hO) hΦ hk
attribute [simp] selO
end Go.Own
namespace Go.Own
variable {P:Program}{tt:Nat→Option TI}{st:St}[Laid]
theorem WPc.adoptK{c:Go.Code}{Φ:Exit→St→Prop}(t nid e k:Nat)
  (h:∀K:St→Prop,(∀s,WPc P c s Φ→K s)→(t<st.nt∧lk st.tm t=.sc (.slice none 0 0)∧0<k∧below [nid]=true)∧K (adoptSt st t nid e k)):WPc P c st Φ:=by
 obtain⟨⟨h1,h2,h3,h4⟩,h5⟩:=h (fun s=>WPc P c s Φ) fun _ h=>h
 exact WPc.adopt t nid e k h1 h2 h3 h4 h5
attribute [simp] adoptSt
variable {w0:World}{β0:Blk}{st':St}{β:Blk}{a:Act}{w:World}
def unT(st:St)(t g:Nat):Option (Value×St):=
 match lk st.tm t with
 |.sc u=>if st.nt≤g then some (u,{ st with tm:=putT st.tm t (lk st.tm g) }) else none
 |_=>none
theorem Rel.unT(hr:Rel w0 β0 st β a w){t g:Nat}{u:Value}(h:Own.unT st t g=some (u,st'))(hG:st.G g=u):Rel w0 β0 st' β a w:=by
 unfold Own.unT at h
 split at h
 ·rename_i u' hv
  split at h
  ·rename_i hq
   simp only[Option.some.injEq,Prod.mk.injEq]at h
   obtain⟨rfl,rfl⟩:=h
   refine⟨hr.nt,hr.df,fun n=>?_,hr.ob,hr.uq,hr.lt,hr.fr,hr.old,hr.hs,hr.os,hr.tape,hr.output⟩
   have hnt:=hr.nt
   simp only[lk_put]
   split
   ·rename_i e
    subst e
    have hvr:=hr.tm t
    rw[hv]at hvr
    have hg:=hr.tm g
    have:a.tmps.getD g (st.G g)=u':=by
     rw[Array.getD_eq_getD_getElem?,Array.getElem?_eq_none (by omega)]
     simpa using hG
    rw[this]at hg
    rw[hvr.sc_inv]
    exact hg
   ·exact hr.tm n
  ·simp at h
 ·simp at h
theorem WPL.utAt{ops:Array Oper}{l:List Oper}{Ψ:St→Prop}(d t g:Nat)(hd:dstOf l=some d)
  (h:∀K:St→Prop,(∀s,WPL P ops l s Ψ→K s)→∃r:Value×St,Own.unT st t g=some r∧st.G g=r.1∧K r.2):WPL P ops l st Ψ:=by
 obtain⟨⟨v,s⟩,h1,h2,h3⟩:=h (fun s=>WPL P ops l s Ψ) fun _ h=>h
 exact fun w0 β0 β a w hr=>h3 w0 β0 β a w (hr.sameB (Rel.unT hr.rel h1 h2))
structure OneV where
 v:Value
 one:v.oneCell'=true
attribute [simp] OneV.one
theorem WPc.dropRg{Φ:Exit→St→Prop}{id:Nat}{ops:Array Oper}{b:Bool}{g:Nat}{G0:Nat→Value}{u:Value}(hG:st.G=updG G0 g u)(h:WPc P (.region id ops b) { st with G:=G0,tm:=(g,.un)::st.tm } Φ):WPc P (.region id ops b) st Φ :=
 fun w0 β0 β a w hr=>h w0 β0 β a w (hr.sameB (hr.rel.drop hG))
attribute [simp] unT
end Go.Own
namespace Go.Own
variable {P:Program}{tt:Nat→Option TI}{st st1:St}{w0:World}{β0:Blk}{st':St}{β:Blk}{a:Act}{w:World}{o:Oper}[Laid]
def stKeepS(tt:Nat→Option TI)(st:St)(ty:Nat)(p x:Operand)(t0:Nat):Option St:=match ev st p with
 |.ptr id k q i j=>match ev st x with
  |.sl sid sk [] 0 len=>match lk st.tm t0 with
   |.sl sid' sk' [] 0 len'=>if sid'=sid∧sk'=sk∧len'=len∧t0<st.nt∧below (rids (.ptr id k q i j)++rids (.sl sid sk [] 0 len))=true then
     (storeA tt st ty (.ptr id k q i j) (.sl sid sk [] 0 len)).map fun s=>{ s with tm:=(t0,.sl id sk (q++[(i,j)]) 0 len)::s.tm } else none
   |_=>none
  |_=>none
 |_=>none
attribute [simp] stKeepS
end Go.Own
namespace Go.Own
variable {P:Program}{tt:Nat→Option TI}{st st':St}{w0:World}{β0:Blk}{β:Blk}{a:Act}{w:World}[Laid]
theorem detG_some{id nid g i j:Nat}{path:Pth}{u v:Value}{s:St}(h:detG st id nid g path i j u=some s):∃s',detG st id nid g path i j v=some s'∧∃k1 len,lk s'.tm g=.sl nid k1 [] 0 len∧s'.G g=v∧st.nt≤g:=by
 unfold detG at h
 split at h
 ·rename_i e k es h1
  split at h
  ·rename_i ep kp row h2
   split at h
   ·rename_i e1 k1 xs h3
    split at h
    ·rename_i hq
     exact⟨{ st with G:=updG st.G g v,tm:=(g,.sl nid k1 [] 0 xs.length)::renT id nid (path++[(i,j)]) st.tm,ob:=putO (putO st.ob nid (e1,k1,xs)) id (e,k,updP es path (setCell i j (.sc v))) },by unfold detG;rw[h1];simp only[h2,h3];rw[if_pos hq],k1,xs.length,by simp[lk],by simp[updG],hq.2.2.2⟩
    ·simp at h
   ·simp at h
  ·simp at h
 ·simp at h
@[simp] theorem updG_same(G:Nat→Value)(g:Nat)(u:Value):updG G g u g=u:=by simp[updG]
theorem WPc.detgc{c:Go.Code}{Φ:Exit→St→Prop}(id nid g:Nat)(path:Pth)(i j:Nat)
  (h:∀u:OneV,∀K:St→Prop,(∀s,WPc P c s Φ→K s)→∃s,Own.detG st id nid g path i j u.v=some s∧K s):WPc P c st Φ:=by
 intro w0 β0 β a w hr
 obtain⟨s0,hs0,_⟩:=h ⟨.bool true,rfl⟩ (fun s=>WPc P c s Φ) fun _ h=>h
 have hs:∀u,∃s,Own.detG st id nid g path i j u=some s:=fun u=>by
  obtain⟨s',h1,_⟩:=detG_some (v:=u) hs0
  exact⟨s',h1⟩
 have hs2:∃f:Value→St,∀u,Own.detG st id nid g path i j u=some (f u):=⟨fun u=>(hs u).choose,fun u=>(hs u).choose_spec⟩
 obtain⟨f,hf⟩:=hs2
 obtain⟨u,β',h1,h2,h3,h4⟩:=hr.rel.detG hf
 have hone:u.oneCell'=true:=by
  obtain⟨s',e1,k1,len,e2,e3,e4⟩:=detG_some (v:=u) hs0
  rw[hf u]at e1
  injection e1 with e1
  subst e1
  have hg:=h1.tm g
  rw[e2]at hg
  have:a.tmps.getD g ((f u).G g)=u:=by
   have hnt:=hr.rel.nt
   rw[Array.getD_eq_getD_getElem?,Array.getElem?_eq_none (by omega),e3]
   rfl
  rw[this]at hg
  exact(slV_of_vr hg).2.one
 obtain⟨s,h5,h6⟩:=h ⟨u,hone⟩ (fun s=>WPc P c s Φ) fun _ h=>h
 rw[hf u]at h5
 injection h5 with h5
 rw[h5]at h1
 exact h6 w0 β0 β' a w (hr.next h1 h2 (below2 h3 h4))
theorem WPc.attRet{Φ:Exit→St→Prop}(id nid g:Nat)(path:Pth)(i j:Nat){G0:Nat→Value}{u:Value}(hG:st.G=updG G0 g u)
  (h:∀K:St→Prop,(∀s,WPc P .ret s Φ→K s)→∃s,Own.attS st id nid g path i j G0=some (u,s)∧K s):WPc P .ret st Φ:=by
 intro w0 β0 β a w hr
 obtain⟨s,h1,h2⟩:=h (fun s=>WPc P .ret s Φ) fun _ h=>h
 obtain⟨β',g1,g2,g3,g4⟩:=hr.rel.attS hG h1
 exact h2 w0 β0 β' a w (hr.next g1 g2 (below2 g3 g4))
theorem Gst.ut{t g:Nat}{r:Value×St}(h1:Own.unT st t g=some r)(h2:st.G g=r.1):Gst st r.2:=fun w0 β0 β a w hr=>by
 obtain⟨v,s⟩:=r
 exact⟨β,hr.sameB (Rel.unT hr.rel h1 h2),fun _ _ h=>h⟩
theorem WPS.utAt{ops:Array Oper}{l:List (Nat×List Nat)}{Ψ:St→Prop}(d t g:Nat)(hd:dstS ops l=some d)
  (h:∀K:St→Prop,(∀s,WPS P ops l s Ψ→K s)→∃r:Value×St,Own.unT st t g=some r∧st.G g=r.1∧K r.2):WPS P ops l st Ψ:=by
 obtain⟨r,h1,h2,h3⟩:=h (fun s=>WPS P ops l s Ψ) fun _ h=>h
 exact WPS.gst (Gst.ut h1 h2) h3
def stHdS(d:Nat)(ops:Array Oper):List (Nat×List Nat)→Bool
 |[]=>false
 |(k,_)::_=>match ops[k]? with
  |some o=>stOp d o.op
  |none=>false
theorem WPS.detSt{ops:Array Oper}{l:List (Nat×List Nat)}{Ψ:St→Prop}(d id nid:Nat)(path:Pth)(i j:Nat)(hd:stHdS d ops l=true)(hn:(nid-500000) % 100000=id∧500000≤nid∧nid<900000)
  (h:∀K:St→Prop,(∀s,WPS P ops l s Ψ→K s)→∃s,Own.detS st id nid path i j=some s∧K s):WPS P ops l st Ψ:=by
 obtain⟨s,h1,h2⟩:=h (fun s=>WPS P ops l s Ψ) fun _ h=>h
 intro te listed e1 e2 w0 β0 β a w hr
 obtain⟨p,g1,g3,g4⟩:=hr.rel.detS2 h1
 refine wpAnyF_anti _ _ a w ?_ (h2 te listed e1 e2 w0 β0 _ a w (hr.next g1 parted_fr (below2 g3 g4)))
 rintro e b ⟨q1,q2⟩
 refine⟨q1,fun id' p hb hm=>?_⟩
 simp only[parted]at hb
 split at hb
 ·simp at hb
 ·rename_i i0 p0 hp
  split at hb
  ·simp at hb
  ·split at hb
   ·rename_i hc
    injection hb with hb
    injection hb with hb hb2
    subst hb
    have:=tied_at (schedF_tied e2) (n:=nid) (by omega) (by omega) e hm
    rw[hn.1]at this
    exact q2 _ _ hp (hc.1▸this)
   ·injection hb with hb
    injection hb with hb hb2
    exact q2 _ _ hp (hb▸hm)
attribute [simp] detG attS stHdS
theorem WPc.renC{c:Go.Code}{Φ:Exit→St→Prop}(id nid:Nat)
  (h:∀K:St→Prop,(∀s,WPc P c s Φ→K s)→∃s,Own.renS st id nid=some s∧K s):WPc P c st Φ:=by
 obtain⟨s,h1,h2⟩:=h (fun s=>WPc P c s Φ) fun _ h=>h
 intro w0 β0 β a w hr
 obtain⟨β',g1,g2,g3,g4⟩:=hr.rel.renS h1
 exact h2 w0 β0 β' a w (hr.next g1 g2 (below2 g3 g4))
theorem WPc.renRg{Φ:Exit→St→Prop}{r:Nat}{ops:Array Oper}{b:Bool}(id nid:Nat)
  (h:∀K:St→Prop,(∀s,WPc P (.region r ops b) s Φ→K s)→∃s,Own.renS st id nid=some s∧K s):WPc P (.region r ops b) st Φ:=WPc.renC id nid h
def lenScS(tt:Nat→Option TI)(st:St)(d x t:Nat):Option St:=match kd tt t,ev st (.tmp x) with
 |some (.slice _),.sc (.slice _ n _)=>if d<st.nt then some (putSt st (some d) (.sc (.int .i64 n))) else none
 |_,_=>none
attribute [simp] lenScS
end Go.Own
namespace Go.Own
variable {P:Program}{tt:Nat→Option TI}{st:St}{o:Oper}[Laid]
theorem run_eqBool{t:Nat}{w:World}(hu:P.underlying t=some .bool)(d:Nat)(p q:Bool):(Op.equalIn (d+1) t (.bool p) (.bool q)).run P w=.ok (p==q) w:=by
 simp only[Op.equalIn,Sem.run_bind,run_underlying hu,Result.andThen_ok,Sem.run_pure]
theorem Stp.boolEq(tok:TOk P tt){t t2:Nat}{x y:Operand}{p q:Bool}{op:BinOp}(hop:op=.eql∨op=.neq)(ho:o.op=.binOp op t x y t2)(hk:kd tt t=some .bool)(hx:ev st x=.sc (.bool p))(hy:ev st y=.sc (.bool q))(hd:dstOk st o=true) :
  Stp P o st [] (fun s=>s=putSt st o.dst (.sc (.bool (if op=.eql then decide (p=q) else decide (p≠q))))):=by
 intro w0 β0 β a w hr Q
 obtain⟨d,g1,rfl⟩:=tok.kd hk
 have hv:=hr.rel.ev x
 have hv2:=hr.rel.ev y
 rw[hx]at hv
 rw[hy]at hv2
 have h1:=hv.sc_inv
 have h2:=hv2.sc_inv
 have e1:(Op.equal t (.bool p) (.bool q)).run P w=.ok (p==q) w:=run_eqBool g1 9999 p q
 have hrun:(execOp a.eval o).run P w=.ok (.value (.bool (if op=.eql then decide (p=q) else decide (p≠q)))) w:=by
  rcases hop with rfl|rfl
  ·simp[execOp,ho,h1,h2,eqGuard,binOp,e1];cases p<;>cases q<;>rfl
  ·simp[execOp,ho,h1,h2,eqGuard,binOp,e1];cases p<;>cases q<;>rfl
 unfold Oper.wp
 rw[hrun]
 exact⟨_,β,rfl,hr.put (dst_lt hd) (.sc _),.refl,Nat.le_refl _⟩
def boolS(tt:Nat→Option TI)(st:St)(d:Nat)(op:BinOp)(t:Nat)(x y:Operand):Option St :=
 match kd tt t,ev st x,ev st y with
 |some .bool,.sc (.bool p),.sc (.bool q)=>if d<st.nt then
   match op with
   |.eql=>some (putSt st (some d) (.sc (.bool (decide (p=q)))))
   |.neq=>some (putSt st (some d) (.sc (.bool (decide (p≠q)))))
   |_=>none
  else none
 |_,_,_=>none
theorem WPL.boolC(tok:TOk P tt){ops:Array Oper}{l:List Oper}{Ψ:St→Prop}{op:BinOp}{d t t2 tid:Nat}{x y:Operand}{pos:String}{af:Array Edge}
  (h:∀K:St→Prop,(∀s,WPL P ops l s Ψ→K s)→∃s,boolS tt st d op t x y=some s∧K s) :
  WPL P ops ({ dst:=some d,op:=.binOp op t x y t2,type:=tid,pos:=pos,after:=af,guard:=none }::l) st Ψ:=by
 obtain⟨s,h1,h2⟩:=h (fun s=>WPL P ops l s Ψ) fun _ h=>h
 unfold boolS at h1
 split at h1
 ·rename_i p q hk hx hy
  split at h1
  ·rename_i hd
   have hdk:dstOk st { dst:=some d,op:=.binOp op t x y t2,type:=tid,pos:=pos,after:=af,guard:=none }=true:=by simpa[dstOk]using hd
   split at h1
   ·injection h1 with h1
    subst h1
    exact WPL.stp rfl (Stp.boolEq tok (.inl rfl) rfl hk hx hy hdk) fun s hs=>by rw[hs];exact h2
   ·injection h1 with h1
    subst h1
    exact WPL.stp rfl (Stp.boolEq tok (.inr rfl) rfl hk hx hy hdk) fun s hs=>by rw[hs];exact h2
   ·cases h1
  ·cases h1
 ·cases h1
theorem WPc.detgRg{Φ:Exit→St→Prop}{r:Nat}{ops:Array Oper}{b:Bool}(id nid g i j:Nat)
  (h:∀u:OneV,∀K:St→Prop,(∀s,WPc P (.region r ops b) s Φ→K s)→∃s,Own.detG st id nid g [] i j u.v=some s∧K s):WPc P (.region r ops b) st Φ:=WPc.detgc id nid g [] i j h
attribute [simp] boolS
end Go.Own
set_option maxRecDepth 1000000
namespace Go.Own
variable [Laid]
structure Bx(p:Prop):Prop where
 o:p
structure Sch(id:Nat)(te l:List (Nat×List Nat)):Prop where
 o:True
structure Outs(is:List Nat):Prop where
 o:True
structure Nm(k:Nat)(l:List Nat):Prop where
 o:True
theorem nm(k:Nat)(l:List Nat):Nm k l:=⟨trivial⟩
structure OutO(ob:List (Nat×Root)):Prop where
 o:True
theorem outO(ob:List (Nat×Root)):OutO ob:=⟨trivial⟩
section
variable {P:Program}{tt:Nat→Option TI}{st:St}{ops:Array Oper}{l:List Oper}{ls:List (Nat×List Nat)}{Ψ:St→Prop}{Φ:Exit→St→Prop}{b:Bool}{kk d id nid i j t g e k r x:Nat}{rest:List Nat}
theorem WPL.detStH(z:Nm 1 [d,id,nid,i,j])(hd:stHd d l=true)(h:∀K:St→Prop,(∀s,WPL P ops l s Ψ→K s)→∃s,Own.detS st id nid [] i j=some s∧K s):WPL P ops l st Ψ:=WPL.detSt d id nid [] i j hd h
theorem WPS.detStH(z:Nm 1 [d,id,nid,i,j])(hd:stHdS d ops ls=true)(hn:(nid-500000) % 100000=id∧500000≤nid∧nid<900000)(h:∀K:St→Prop,(∀s,WPS P ops ls s Ψ→K s)→∃s,Own.detS st id nid [] i j=some s∧K s):WPS P ops ls st Ψ:=WPS.detSt d id nid [] i j hd hn h
theorem WPL.detAtH(z:Nm 2 [d,id,nid,i,j])(hd:dstOf l=some d)(h:∀K:St→Prop,(∀s,WPL P ops l s Ψ→K s)→∃s,Own.detS st id nid [] i j=some s∧K s):WPL P ops l st Ψ:=WPL.detAt d id nid [] i j hd h
theorem WPS.detAtH(z:Nm 2 [d,id,nid,i,j])(hd:dstS ops ls=some d)(hn:(nid-500000) % 100000=id∧500000≤nid∧nid<900000)(h:∀K:St→Prop,(∀s,WPS P ops ls s Ψ→K s)→∃s,Own.detS st id nid [] i j=some s∧K s):WPS P ops ls st Ψ:=WPS.detAt d id nid [] i j hd hn h
theorem WPL.focAtH(z:Nm 3 [d,id,nid,g,i,j])(hd:dstOf l=some d)(h:∀u,∀K:St→Prop,(∀s,WPL P ops l s Ψ→K s)→∃s,Own.detG st id nid g [] i j u=some s∧K s):WPL P ops l st Ψ:=WPL.focAt d id nid g [] i j hd h
theorem WPL.attAtH(z:Nm 4 [x,id,nid,g,i,j]){G0:Nat→Value}{u:Value}(hd:dstOf l=some x)(hG:st.G=updG G0 g u)(h:∀K:St→Prop,(∀s,WPL P ops l s Ψ→K s)→∃r:Value×St,Own.attS st id nid g [] i j G0=some r∧r.1=u∧K r.2):WPL P ops l st Ψ:=WPL.attAt (some x) id nid g [] i j hd hG h
theorem WPL.attEndH(z:Nm 5 [id,nid,g,i,j]){G0:Nat→Value}{u:Value}(hd:dstOf l=none)(hG:st.G=updG G0 g u)(h:∀K:St→Prop,(∀s,WPL P ops l s Ψ→K s)→∃r:Value×St,Own.attS st id nid g [] i j G0=some r∧r.1=u∧K r.2):WPL P ops l st Ψ:=WPL.attAt none id nid g [] i j hd hG h
theorem WPc.renRH(z:Nm 6 [id,nid])(h:∀K:St→Prop,(∀s,WPc P .ret s Φ→K s)→∃s,Own.renS st id nid=some s∧K s):WPc P .ret st Φ:=WPc.renR id nid h
theorem WPc.detRH(z:Nm 7 [id,nid,i,j])(h:∀K:St→Prop,(∀s,WPc P .ret s Φ→K s)→∃s,Own.detS st id nid [] i j=some s∧K s):WPc P .ret st Φ:=WPc.detR id nid [] i j h
theorem WPc.renRgH(z:Nm 8 [r,id,nid])(h:∀K:St→Prop,(∀s,WPc P (.region r ops b) s Φ→K s)→∃s,Own.renS st id nid=some s∧K s):WPc P (.region r ops b) st Φ:=WPc.renRg id nid h
theorem WPc.dropRH(z:Nm 9 []){g:Nat}{G0:Nat→Value}{u:Value}(hG:st.G=updG G0 g u)(h:WPc P .ret { st with G:=G0,tm:=(g,.un)::st.tm } Φ):WPc P .ret st Φ:=WPc.dropR hG h
theorem WPc.dropRgH(z:Nm 10 [r]){g:Nat}{G0:Nat→Value}{u:Value}(hG:st.G=updG G0 g u)(h:WPc P (.region r ops b) { st with G:=G0,tm:=(g,.un)::st.tm } Φ):WPc P (.region r ops b) st Φ:=WPc.dropRg hG h
theorem WPc.openRg(z:Nm 11 [r])(h:WPL P ops ops.toList st (Φ .normal)):WPc P (.region r ops false) st Φ:=WPc.region h
theorem WPL.unAtH(z:Nm 12 [d,t,g,i])(hd:dstOf l=some d)(h:∀K:St→Prop,(∀s,WPL P ops l s Ψ→K s)→∃r:Value×St,Own.unS st t g i=some r∧st.G g=r.1∧K r.2):WPL P ops l st Ψ:=WPL.unAt d t g i hd h
theorem WPS.unAtH(z:Nm 12 [d,t,g,i])(hd:dstS ops ls=some d)(h:∀K:St→Prop,(∀s,WPS P ops ls s Ψ→K s)→∃r:Value×St,Own.unS st t g i=some r∧st.G g=r.1∧K r.2):WPS P ops ls st Ψ:=WPS.unAt d t g i hd h
theorem WPL.adAtH(z:Nm 13 [d,t,i,nid,e,k])(hd:dstOf l=some d)(h:∀K:St→Prop,(∀s,WPL P ops l s Ψ→K s)→∃s,Own.adoptC st t i nid e k=some s∧K s):WPL P ops l st Ψ:=WPL.adAt d t i nid e k hd h
theorem WPS.adAtH(z:Nm 13 [d,t,i,nid,e,k])(hd:dstS ops ls=some d)(h:∀K:St→Prop,(∀s,WPS P ops ls s Ψ→K s)→∃s,Own.adoptC st t i nid e k=some s∧K s):WPS P ops ls st Ψ:=WPS.adAt d t i nid e k hd h
theorem WPL.utAtH(z:Nm 14 [d,t,g])(hd:dstOf l=some d)(h:∀K:St→Prop,(∀s,WPL P ops l s Ψ→K s)→∃r:Value×St,Own.unT st t g=some r∧st.G g=r.1∧K r.2):WPL P ops l st Ψ:=WPL.utAt d t g hd h
theorem WPS.utAtH(z:Nm 14 [d,t,g])(hd:dstS ops ls=some d)(h:∀K:St→Prop,(∀s,WPS P ops ls s Ψ→K s)→∃r:Value×St,Own.unT st t g=some r∧st.G g=r.1∧K r.2):WPS P ops ls st Ψ:=WPS.utAt d t g hd h
theorem WPL.rnToH(tok:TOk P tt)(z:Nm kk (d::rest))(m:Nat)(hm:upTo d l 0=m+1)(h:∀K:St→Prop,(∀s,WPL P ops (l.drop (m+1)) s Ψ→K s)→∃s,runL tt ops (l.take (m+1)) st=some s∧K s):WPL P ops l st Ψ:=WPL.rnTo tok d m hm h
theorem WPL.rnToStH(tok:TOk P tt)(z:Nm 1 (d::rest))(m:Nat)(hm:upToSt d l 0=m+1)(h:∀K:St→Prop,(∀s,WPL P ops (l.drop (m+1)) s Ψ→K s)→∃s,runL tt ops (l.take (m+1)) st=some s∧K s):WPL P ops l st Ψ:=WPL.rnToSt tok d m hm h
theorem WPS.rnToH(tok:TOk P tt)(z:Nm kk (d::rest))(m:Nat)(hm:upToS ops d ls 0=m+1)(h:∀K:St→Prop,(∀s,WPS P ops (ls.drop (m+1)) s Ψ→K s)→∃s,runS tt ops (ls.take (m+1)) st=some s∧K s):WPS P ops ls st Ψ:=WPS.rnTo tok d m hm h
theorem endP.ownH{nt:Nat}{rs:List ResultVar}{G:Nat→Value}{ins:List AV}{keep:List Nat}{Φ:AV→List (Nat×Root)→Prop}{e:Exit}{s:St}{r:AV}{ob':List (Nat×Root)}(z:OutO ob')(he:e=.normal∨e=.ret)(hs:s.nt=nt)(hg:s.G=G)
  (h:resA tt s rs=some r) (hO:FitO s ob') (hΦ:Φ r ob') (hk:∀i,i∈keep→∀v,ins[i]?=some v→lk s.tm (nt+i)=v):endP tt nt rs G ins keep Φ e s:=endP.own ob' he hs hg h hO hΦ hk
end
theorem sch(id:Nat)(te l:List (Nat×List Nat)):Sch id te l:=⟨trivial⟩
theorem outs(is:List Nat):Outs is:=⟨trivial⟩
theorem WPc.schedH{P:Program}{tt:Nat→Option TI}{st:St}(tok:TOk P tt){id:Nat}{ops:Array Oper}{Φ:Exit→St→Prop}{te l:List (Nat×List Nat)}(z:Sch id te l)(hn:(Region.noSelect ops&&schedF te ops (Array.replicate ops.size false) l&&(l.length==ops.size))=true)
  (h:WPS P ops l st (Φ .normal)):WPc P (.region id ops true) st Φ:=WPc.sched tok te l hn h
theorem endP.selH{tt:Nat→Option TI}{nt:Nat}{rs:List ResultVar}{G:Nat→Value}{ins:List AV}{keep:List Nat}{Φ:AV→List (Nat×Root)→Prop}{e:Exit}{s:St}{r:AV}{ob':List (Nat×Root)}{is:List Nat}(z:Outs is)(he:e=.normal∨e=.ret)(hs:s.nt=nt)(hg:s.G=G)
  (h:resA tt s rs=some r) (hO:selO s.ob is=some ob') (hΦ:Φ r ob') (hk:∀i,i∈keep→∀v,ins[i]?=some v→lk s.tm (nt+i)=v):endP tt nt rs G ins keep Φ e s:=endP.sel is he hs hg h hO hΦ hk
section
variable {P:Program}{st:St}{ops:Array Oper}{l:List Oper}{ls:List (Nat×List Nat)}{k f d:Nat}{T:List Nat}{ins ins0:List AV}{args:Array Operand}{tys:Array TypeId}{ty:TypeId}{pos:String}{af:Array Edge}{g:Option (Nat×Bool)}{lent:List Nat}{Ψ:St→Prop}
theorem WPL.isCall(h:WPL P ops ({ dst:=some d,op:=.call { callee:=.value (.func f),args:=args,argTypes:=tys },type:=ty,pos:=pos,after:=af,guard:=g }::l) st Ψ):WPL P ops ({ dst:=some d,op:=.call { callee:=.value (.func f),args:=args,argTypes:=tys },type:=ty,pos:=pos,after:=af,guard:=g }::l) st Ψ:=h
theorem WPS.isCall(ho:ops[k]?=some { dst:=some d,op:=.call { callee:=.value (.func f),args:=args,argTypes:=tys },type:=ty,pos:=pos,after:=af,guard:=g })(h:WPS P ops ((k,T)::ls) st Ψ):WPS P ops ((k,T)::ls) st Ψ:=h
theorem WPL.cLH{H:Prop}{res:AV}(hc:H→Con P f ins [] [] (fun r _=>r=res))
  (q:(wantA ops st { dst:=some d,op:=.call { callee:=.value (.func f),args:=args,argTypes:=tys },type:=ty,pos:=pos,after:=af,guard:=g }=some true∧d<st.nt∧lentOf st args.toList=lent∧below lent=true∧insA st [] lent args.toList=some ins0∧Eqv ins0 ins)∧(lent=[]∨nzT res=true)) (hh:H) (hk:WPL P ops l (putSt st (some d) (rnT [] res)) Ψ) :
  WPL P ops ({ dst:=some d,op:=.call { callee:=.value (.func f),args:=args,argTypes:=tys },type:=ty,pos:=pos,after:=af,guard:=g }::l) st Ψ:=WPL.cL (hc hh) q hk
theorem WPL.cUH{H:Prop}{ob ob0:List (Nat×Root)}{keep:List Nat}{ren nw:List (Nat×Nat)}{kP kS:List Nat}{R:AV}{O:List (Nat×Root)}{s:St}(hc:H→Con P f ins ob keep (fun r o=>r=R∧o=O))
  (q:(wantA ops st { dst:=some d,op:=.call { callee:=.value (.func f),args:=args,argTypes:=tys },type:=ty,pos:=pos,after:=af,guard:=g }=some true∧d<st.nt∧lentAt st ins args.toList=lent∧renAt st lent args.toList=ren∧insA st ren lent args.toList=some ins0∧Eqv ins0 ins∧obIn st ren=ob0∧Eqv ob0 ob)∧(nwAt d ren 0 (keys O)=nw∧callOk ren lent nw=true∧kpOf ren nw (partsAt st keep args.toList)=kP∧ksOf ren nw (partsAt st keep args.toList)=kS∧cleanOut lent R O=true∧putSt (callSt st ren nw kP kS O) (some d) (rnT nw R)=s))
  (hh:H) (hk:WPL P ops l s Ψ):WPL P ops ({ dst:=some d,op:=.call { callee:=.value (.func f),args:=args,argTypes:=tys },type:=ty,pos:=pos,after:=af,guard:=g }::l) st Ψ:=WPL.cU (hc hh) q hk
theorem WPL.cRH{H:Prop}{ob ob0:List (Nat×Root)}{keep:List Nat}{ren nw:List (Nat×Nat)}{kP kS:List Nat}{σ:Type}{I:σ→Prop}{R:σ→AV}{O:σ→List (Nat×Root)}(hc:H→Con P f ins ob keep (fun r o=>∃y,I y∧r=R y∧o=O y))
  (q:(wantA ops st { dst:=some d,op:=.call { callee:=.value (.func f),args:=args,argTypes:=tys },type:=ty,pos:=pos,after:=af,guard:=g }=some true∧d<st.nt∧lentAt st ins args.toList=lent∧renAt st lent args.toList=ren∧insA st ren lent args.toList=some ins0∧Eqv ins0 ins∧obIn st ren=ob0∧Eqv ob0 ob)∧((∀y,nwAt d ren 0 (keys (O y))=nw)∧callOk ren lent nw=true∧kpOf ren nw (partsAt st keep args.toList)=kP∧ksOf ren nw (partsAt st keep args.toList)=kS∧∀y,I y→cleanOut lent (R y) (O y)=true))
  (hh:H) (hk:∀y,I y→∀s,putSt (callSt st ren nw kP kS (O y)) (some d) (rnT nw (R y))=s→WPL P ops l s Ψ) :
  WPL P ops ({ dst:=some d,op:=.call { callee:=.value (.func f),args:=args,argTypes:=tys },type:=ty,pos:=pos,after:=af,guard:=g }::l) st Ψ:=WPL.cR (hc hh) q hk
theorem WPS.cLH{H:Prop}{res:AV}(ho:ops[k]?=some { dst:=some d,op:=.call { callee:=.value (.func f),args:=args,argTypes:=tys },type:=ty,pos:=pos,after:=af,guard:=g })
  (hc:H→Con P f ins [] [] (fun r _=>r=res))
  (q:(wantA ops st { dst:=some d,op:=.call { callee:=.value (.func f),args:=args,argTypes:=tys },type:=ty,pos:=pos,after:=af,guard:=g }=some true∧d<st.nt∧lentOf st args.toList=lent∧below lent=true∧insA st [] lent args.toList=some ins0∧Eqv ins0 ins)∧(lent=[]∨nzT res=true)) (hh:H) (hk:WPS P ops ls (putSt st (some d) (rnT [] res)) Ψ):WPS P ops ((k,T)::ls) st Ψ:=WPS.cL ho (hc hh) q hk
theorem WPS.cUH{H:Prop}{ob ob0:List (Nat×Root)}{keep:List Nat}{ren nw:List (Nat×Nat)}{kP kS:List Nat}{R:AV}{O:List (Nat×Root)}{s:St}(ho:ops[k]?=some { dst:=some d,op:=.call { callee:=.value (.func f),args:=args,argTypes:=tys },type:=ty,pos:=pos,after:=af,guard:=g })
  (hc:H→Con P f ins ob keep (fun r o=>r=R∧o=O))
  (q:(wantA ops st { dst:=some d,op:=.call { callee:=.value (.func f),args:=args,argTypes:=tys },type:=ty,pos:=pos,after:=af,guard:=g }=some true∧d<st.nt∧lentAt st ins args.toList=lent∧renAt st lent args.toList=ren∧insA st ren lent args.toList=some ins0∧Eqv ins0 ins∧obIn st ren=ob0∧Eqv ob0 ob)∧(nwAt d ren 0 (keys O)=nw∧callOk ren lent nw=true∧kpOf ren nw (partsAt st keep args.toList)=kP∧ksOf ren nw (partsAt st keep args.toList)=kS∧cleanOut lent R O=true∧subB (ren.map (·.1)++nw.map (·.2)) T=true∧putSt (callSt st ren nw kP kS O) (some d) (rnT nw R)=s))
  (hh:H) (hk:WPS P ops ls s Ψ):WPS P ops ((k,T)::ls) st Ψ:=WPS.cU ho (hc hh) q hk
theorem WPS.cRH{H:Prop}{ob ob0:List (Nat×Root)}{keep:List Nat}{ren nw:List (Nat×Nat)}{kP kS:List Nat}{σ:Type}{I:σ→Prop}{R:σ→AV}{O:σ→List (Nat×Root)}(ho:ops[k]?=some { dst:=some d,op:=.call { callee:=.value (.func f),args:=args,argTypes:=tys },type:=ty,pos:=pos,after:=af,guard:=g })
  (hc:H→Con P f ins ob keep (fun r o=>∃y,I y∧r=R y∧o=O y))
  (q:(wantA ops st { dst:=some d,op:=.call { callee:=.value (.func f),args:=args,argTypes:=tys },type:=ty,pos:=pos,after:=af,guard:=g }=some true∧d<st.nt∧lentAt st ins args.toList=lent∧renAt st lent args.toList=ren∧insA st ren lent args.toList=some ins0∧Eqv ins0 ins∧obIn st ren=ob0∧Eqv ob0 ob)∧((∀y,nwAt d ren 0 (keys (O y))=nw)∧callOk ren lent nw=true∧kpOf ren nw (partsAt st keep args.toList)=kP∧ksOf ren nw (partsAt st keep args.toList)=kS∧(∀y,I y→cleanOut lent (R y) (O y)=true)∧subB (ren.map (·.1)++nw.map (·.2)) T=true))
  (hh:H) (hk:∀y,I y→∀s,putSt (callSt st ren nw kP kS (O y)) (some d) (rnT nw (R y))=s→WPS P ops ls s Ψ):WPS P ops ((k,T)::ls) st Ψ:=WPS.cR ho (hc hh) q hk
end
theorem wa1{A0:Prop}(x0:A0):A0:=x0
theorem wa2{A0 A1:Prop}(x0:A0)(x1:A1):A0∧A1:=⟨x0,x1⟩
theorem wa3{A0 A1 A2:Prop}(x0:A0)(x1:A1)(x2:A2):A0∧A1∧A2:=⟨x0,x1,x2⟩
theorem wa4{A0 A1 A2 A3:Prop}(x0:A0)(x1:A1)(x2:A2)(x3:A3):A0∧A1∧A2∧A3:=⟨x0,x1,x2,x3⟩
theorem wa5{A0 A1 A2 A3 A4:Prop}(x0:A0)(x1:A1)(x2:A2)(x3:A3)(x4:A4):A0∧A1∧A2∧A3∧A4:=⟨x0,x1,x2,x3,x4⟩
theorem wa6{A0 A1 A2 A3 A4 A5:Prop}(x0:A0)(x1:A1)(x2:A2)(x3:A3)(x4:A4)(x5:A5):A0∧A1∧A2∧A3∧A4∧A5:=⟨x0,x1,x2,x3,x4,x5⟩
theorem wa7{A0 A1 A2 A3 A4 A5 A6:Prop}(x0:A0)(x1:A1)(x2:A2)(x3:A3)(x4:A4)(x5:A5)(x6:A6):A0∧A1∧A2∧A3∧A4∧A5∧A6:=⟨x0,x1,x2,x3,x4,x5,x6⟩
theorem wa8{A0 A1 A2 A3 A4 A5 A6 A7:Prop}(x0:A0)(x1:A1)(x2:A2)(x3:A3)(x4:A4)(x5:A5)(x6:A6)(x7:A7):A0∧A1∧A2∧A3∧A4∧A5∧A6∧A7:=⟨x0,x1,x2,x3,x4,x5,x6,x7⟩
theorem wa9{A0 A1 A2 A3 A4 A5 A6 A7 A8:Prop}(x0:A0)(x1:A1)(x2:A2)(x3:A3)(x4:A4)(x5:A5)(x6:A6)(x7:A7)(x8:A8):A0∧A1∧A2∧A3∧A4∧A5∧A6∧A7∧A8:=⟨x0,x1,x2,x3,x4,x5,x6,x7,x8⟩
theorem wa10{A0 A1 A2 A3 A4 A5 A6 A7 A8 A9:Prop}(x0:A0)(x1:A1)(x2:A2)(x3:A3)(x4:A4)(x5:A5)(x6:A6)(x7:A7)(x8:A8)(x9:A9):A0∧A1∧A2∧A3∧A4∧A5∧A6∧A7∧A8∧A9:=⟨x0,x1,x2,x3,x4,x5,x6,x7,x8,x9⟩
theorem wa11{A0 A1 A2 A3 A4 A5 A6 A7 A8 A9 A10:Prop}(x0:A0)(x1:A1)(x2:A2)(x3:A3)(x4:A4)(x5:A5)(x6:A6)(x7:A7)(x8:A8)(x9:A9)(x10:A10):A0∧A1∧A2∧A3∧A4∧A5∧A6∧A7∧A8∧A9∧A10:=⟨x0,x1,x2,x3,x4,x5,x6,x7,x8,x9,x10⟩
theorem wa12{A0 A1 A2 A3 A4 A5 A6 A7 A8 A9 A10 A11:Prop}(x0:A0)(x1:A1)(x2:A2)(x3:A3)(x4:A4)(x5:A5)(x6:A6)(x7:A7)(x8:A8)(x9:A9)(x10:A10)(x11:A11):A0∧A1∧A2∧A3∧A4∧A5∧A6∧A7∧A8∧A9∧A10∧A11:=⟨x0,x1,x2,x3,x4,x5,x6,x7,x8,x9,x10,x11⟩
theorem wa13{A0 A1 A2 A3 A4 A5 A6 A7 A8 A9 A10 A11 A12:Prop}(x0:A0)(x1:A1)(x2:A2)(x3:A3)(x4:A4)(x5:A5)(x6:A6)(x7:A7)(x8:A8)(x9:A9)(x10:A10)(x11:A11)(x12:A12):A0∧A1∧A2∧A3∧A4∧A5∧A6∧A7∧A8∧A9∧A10∧A11∧A12:=⟨x0,x1,x2,x3,x4,x5,x6,x7,x8,x9,x10,x11,x12⟩
theorem wa14{A0 A1 A2 A3 A4 A5 A6 A7 A8 A9 A10 A11 A12 A13:Prop}(x0:A0)(x1:A1)(x2:A2)(x3:A3)(x4:A4)(x5:A5)(x6:A6)(x7:A7)(x8:A8)(x9:A9)(x10:A10)(x11:A11)(x12:A12)(x13:A13):A0∧A1∧A2∧A3∧A4∧A5∧A6∧A7∧A8∧A9∧A10∧A11∧A12∧A13:=⟨x0,x1,x2,x3,x4,x5,x6,x7,x8,x9,x10,x11,x12,x13⟩
theorem wa15{A0 A1 A2 A3 A4 A5 A6 A7 A8 A9 A10 A11 A12 A13 A14:Prop}(x0:A0)(x1:A1)(x2:A2)(x3:A3)(x4:A4)(x5:A5)(x6:A6)(x7:A7)(x8:A8)(x9:A9)(x10:A10)(x11:A11)(x12:A12)(x13:A13)(x14:A14):A0∧A1∧A2∧A3∧A4∧A5∧A6∧A7∧A8∧A9∧A10∧A11∧A12∧A13∧A14:=⟨x0,x1,x2,x3,x4,x5,x6,x7,x8,x9,x10,x11,x12,x13,x14⟩
theorem wa16{A0 A1 A2 A3 A4 A5 A6 A7 A8 A9 A10 A11 A12 A13 A14 A15:Prop}(x0:A0)(x1:A1)(x2:A2)(x3:A3)(x4:A4)(x5:A5)(x6:A6)(x7:A7)(x8:A8)(x9:A9)(x10:A10)(x11:A11)(x12:A12)(x13:A13)(x14:A14)(x15:A15):A0∧A1∧A2∧A3∧A4∧A5∧A6∧A7∧A8∧A9∧A10∧A11∧A12∧A13∧A14∧A15:=⟨x0,x1,x2,x3,x4,x5,x6,x7,x8,x9,x10,x11,x12,x13,x14,x15⟩
theorem wa17{A0 A1 A2 A3 A4 A5 A6 A7 A8 A9 A10 A11 A12 A13 A14 A15 A16:Prop}(x0:A0)(x1:A1)(x2:A2)(x3:A3)(x4:A4)(x5:A5)(x6:A6)(x7:A7)(x8:A8)(x9:A9)(x10:A10)(x11:A11)(x12:A12)(x13:A13)(x14:A14)(x15:A15)(x16:A16):A0∧A1∧A2∧A3∧A4∧A5∧A6∧A7∧A8∧A9∧A10∧A11∧A12∧A13∧A14∧A15∧A16:=⟨x0,x1,x2,x3,x4,x5,x6,x7,x8,x9,x10,x11,x12,x13,x14,x15,x16⟩
theorem wa18{A0 A1 A2 A3 A4 A5 A6 A7 A8 A9 A10 A11 A12 A13 A14 A15 A16 A17:Prop}(x0:A0)(x1:A1)(x2:A2)(x3:A3)(x4:A4)(x5:A5)(x6:A6)(x7:A7)(x8:A8)(x9:A9)(x10:A10)(x11:A11)(x12:A12)(x13:A13)(x14:A14)(x15:A15)(x16:A16)(x17:A17):A0∧A1∧A2∧A3∧A4∧A5∧A6∧A7∧A8∧A9∧A10∧A11∧A12∧A13∧A14∧A15∧A16∧A17:=⟨x0,x1,x2,x3,x4,x5,x6,x7,x8,x9,x10,x11,x12,x13,x14,x15,x16,x17⟩
theorem wa20{A0 A1 A2 A3 A4 A5 A6 A7 A8 A9 A10 A11 A12 A13 A14 A15 A16 A17 A18 A19:Prop}(x0:A0)(x1:A1)(x2:A2)(x3:A3)(x4:A4)(x5:A5)(x6:A6)(x7:A7)(x8:A8)(x9:A9)(x10:A10)(x11:A11)(x12:A12)(x13:A13)(x14:A14)(x15:A15)(x16:A16)(x17:A17)(x18:A18)(x19:A19):A0∧A1∧A2∧A3∧A4∧A5∧A6∧A7∧A8∧A9∧A10∧A11∧A12∧A13∧A14∧A15∧A16∧A17∧A18∧A19:=⟨x0,x1,x2,x3,x4,x5,x6,x7,x8,x9,x10,x11,x12,x13,x14,x15,x16,x17,x18,x19⟩
theorem wb0:True:=trivial
theorem wb1{A0:Prop}(x0:A0):A0∧True:=⟨x0,trivial⟩
theorem wb2{A0 A1:Prop}(x0:A0)(x1:A1):A0∧A1∧True:=⟨x0,x1,trivial⟩
theorem wb3{A0 A1 A2:Prop}(x0:A0)(x1:A1)(x2:A2):A0∧A1∧A2∧True:=⟨x0,x1,x2,trivial⟩
theorem wb4{A0 A1 A2 A3:Prop}(x0:A0)(x1:A1)(x2:A2)(x3:A3):A0∧A1∧A2∧A3∧True:=⟨x0,x1,x2,x3,trivial⟩
theorem wb5{A0 A1 A2 A3 A4:Prop}(x0:A0)(x1:A1)(x2:A2)(x3:A3)(x4:A4):A0∧A1∧A2∧A3∧A4∧True:=⟨x0,x1,x2,x3,x4,trivial⟩
theorem wb6{A0 A1 A2 A3 A4 A5:Prop}(x0:A0)(x1:A1)(x2:A2)(x3:A3)(x4:A4)(x5:A5):A0∧A1∧A2∧A3∧A4∧A5∧True:=⟨x0,x1,x2,x3,x4,x5,trivial⟩
theorem wb7{A0 A1 A2 A3 A4 A5 A6:Prop}(x0:A0)(x1:A1)(x2:A2)(x3:A3)(x4:A4)(x5:A5)(x6:A6):A0∧A1∧A2∧A3∧A4∧A5∧A6∧True:=⟨x0,x1,x2,x3,x4,x5,x6,trivial⟩
theorem wb8{A0 A1 A2 A3 A4 A5 A6 A7:Prop}(x0:A0)(x1:A1)(x2:A2)(x3:A3)(x4:A4)(x5:A5)(x6:A6)(x7:A7):A0∧A1∧A2∧A3∧A4∧A5∧A6∧A7∧True:=⟨x0,x1,x2,x3,x4,x5,x6,x7,trivial⟩
theorem wb9{A0 A1 A2 A3 A4 A5 A6 A7 A8:Prop}(x0:A0)(x1:A1)(x2:A2)(x3:A3)(x4:A4)(x5:A5)(x6:A6)(x7:A7)(x8:A8):A0∧A1∧A2∧A3∧A4∧A5∧A6∧A7∧A8∧True:=⟨x0,x1,x2,x3,x4,x5,x6,x7,x8,trivial⟩
theorem gox{p W UL UU UR Z L:Prop}(w:W)(uL:UL)(uU:UU)(uR:UR)(z:Z)(n:L) (h:Bx W→Bx UL→Bx UU→Bx UR→Bx Z→Bx L→p:=by
 intro w_ uL_ uU_ uR_ z_ n_
 repeat' (first
  |((first|(refine WPL.detStH z_.o.2.1 ?_ ?_;(focus(simp;done));refine fun K hK=>?_)|(refine WPS.detStH z_.o.2.1 ?_ (by decide) ?_;(focus(simp;done));refine fun K hK=>?_)|(refine WPL.detAtH z_.o.2.1 ?_ ?_;(focus(simp;done));refine fun K hK=>?_)|(refine WPS.detAtH z_.o.2.1 ?_ (by decide) ?_;(focus(simp;done));refine fun K hK=>?_)|(refine WPL.focAtH z_.o.2.1 ?_ ?_;(focus(simp;done));refine fun u_ K hK=>?_)|(refine WPL.attAtH z_.o.2.1 ?_ rfl ?_;(focus(simp;done));refine fun K hK=>?_)|(refine WPL.attEndH z_.o.2.1 ?_ rfl ?_;(focus(simp;done));refine fun K hK=>?_)|(refine WPc.renRH z_.o.2.1 fun K hK=>?_)|(refine WPc.detRH z_.o.2.1 fun K hK=>?_)|(refine WPc.renRgH z_.o.2.1 fun K hK=>?_)|(refine WPL.unAtH z_.o.2.1 ?_ ?_;(focus(simp;done));refine fun K hK=>?_)|(refine WPS.unAtH z_.o.2.1 ?_ ?_;(focus(simp;done));refine fun K hK=>?_)|(refine WPL.adAtH z_.o.2.1 ?_ ?_;(focus(simp;done));refine fun K hK=>?_)|(refine WPS.adAtH z_.o.2.1 ?_ ?_;(focus(simp;done));refine fun K hK=>?_)|(refine WPL.utAtH z_.o.2.1 ?_ ?_;(focus(simp;done));refine fun K hK=>?_)|(refine WPS.utAtH z_.o.2.1 ?_ ?_;(focus(simp;done));refine fun K hK=>?_));simp -implicitDefEqProofs +contextual [-Int.not_le,-Int.not_lt,-Nat.not_le,-Nat.not_lt,-List.all_eq_true,-List.all_eq_false,-List.any_eq_true,-List.any_eq_false,w_.o];(repeat1' (first|refine hK _ ?_|refine And.intro ?_ ?_|intro ha_))<;>clear hK K)
  |(refine WPc.openRg z_.o.2.1 ?_;simp only[List.toList_toArray])
  |(refine WPc.dropRgH z_.o.2.1 rfl ?_;dsimp only)
  |(refine WPc.dropRH z_.o.2.1 rfl ?_;dsimp only)
  |((first|refine WPL.rnToStH tok z_.o.2.1 _ (by simp[isFn];rfl) fun K hK=>?_|refine WPL.rnToH tok z_.o.2.1 _ (by simp[isFn];rfl) fun K hK=>?_|refine WPS.rnToH tok z_.o.2.1 _ (by simp;rfl) fun K hK=>?_);simp -implicitDefEqProofs +contextual [-Int.not_le,-Int.not_lt,-Nat.not_le,-Nat.not_lt,-List.all_eq_true,-List.all_eq_false,-List.any_eq_true,-List.any_eq_false,w_.o];(repeat1' (first|refine hK _ ?_|refine And.intro ?_ ?_|intro ha_))<;>clear hK K<;>(try dsimp only[List.drop]))
  |((first|(refine WPL.detStH z_.o.2.2.1 ?_ ?_;(focus(simp;done));refine fun K hK=>?_)|(refine WPS.detStH z_.o.2.2.1 ?_ (by decide) ?_;(focus(simp;done));refine fun K hK=>?_)|(refine WPL.detAtH z_.o.2.2.1 ?_ ?_;(focus(simp;done));refine fun K hK=>?_)|(refine WPS.detAtH z_.o.2.2.1 ?_ (by decide) ?_;(focus(simp;done));refine fun K hK=>?_)|(refine WPL.focAtH z_.o.2.2.1 ?_ ?_;(focus(simp;done));refine fun u_ K hK=>?_)|(refine WPL.attAtH z_.o.2.2.1 ?_ rfl ?_;(focus(simp;done));refine fun K hK=>?_)|(refine WPL.attEndH z_.o.2.2.1 ?_ rfl ?_;(focus(simp;done));refine fun K hK=>?_)|(refine WPc.renRH z_.o.2.2.1 fun K hK=>?_)|(refine WPc.detRH z_.o.2.2.1 fun K hK=>?_)|(refine WPc.renRgH z_.o.2.2.1 fun K hK=>?_)|(refine WPL.unAtH z_.o.2.2.1 ?_ ?_;(focus(simp;done));refine fun K hK=>?_)|(refine WPS.unAtH z_.o.2.2.1 ?_ ?_;(focus(simp;done));refine fun K hK=>?_)|(refine WPL.adAtH z_.o.2.2.1 ?_ ?_;(focus(simp;done));refine fun K hK=>?_)|(refine WPS.adAtH z_.o.2.2.1 ?_ ?_;(focus(simp;done));refine fun K hK=>?_)|(refine WPL.utAtH z_.o.2.2.1 ?_ ?_;(focus(simp;done));refine fun K hK=>?_)|(refine WPS.utAtH z_.o.2.2.1 ?_ ?_;(focus(simp;done));refine fun K hK=>?_));simp -implicitDefEqProofs +contextual [-Int.not_le,-Int.not_lt,-Nat.not_le,-Nat.not_lt,-List.all_eq_true,-List.all_eq_false,-List.any_eq_true,-List.any_eq_false,w_.o];(repeat1' (first|refine hK _ ?_|refine And.intro ?_ ?_|intro ha_))<;>clear hK K)
  |(refine WPc.openRg z_.o.2.2.1 ?_;simp only[List.toList_toArray])
  |(refine WPc.dropRgH z_.o.2.2.1 rfl ?_;dsimp only)
  |(refine WPc.dropRH z_.o.2.2.1 rfl ?_;dsimp only)
  |((first|refine WPL.rnToStH tok z_.o.2.2.1 _ (by simp[isFn];rfl) fun K hK=>?_|refine WPL.rnToH tok z_.o.2.2.1 _ (by simp[isFn];rfl) fun K hK=>?_|refine WPS.rnToH tok z_.o.2.2.1 _ (by simp;rfl) fun K hK=>?_);simp -implicitDefEqProofs +contextual [-Int.not_le,-Int.not_lt,-Nat.not_le,-Nat.not_lt,-List.all_eq_true,-List.all_eq_false,-List.any_eq_true,-List.any_eq_false,w_.o];(repeat1' (first|refine hK _ ?_|refine And.intro ?_ ?_|intro ha_))<;>clear hK K<;>(try dsimp only[List.drop]))
  |((first|(refine WPL.detStH z_.o.2.2.2.1 ?_ ?_;(focus(simp;done));refine fun K hK=>?_)|(refine WPS.detStH z_.o.2.2.2.1 ?_ (by decide) ?_;(focus(simp;done));refine fun K hK=>?_)|(refine WPL.detAtH z_.o.2.2.2.1 ?_ ?_;(focus(simp;done));refine fun K hK=>?_)|(refine WPS.detAtH z_.o.2.2.2.1 ?_ (by decide) ?_;(focus(simp;done));refine fun K hK=>?_)|(refine WPL.focAtH z_.o.2.2.2.1 ?_ ?_;(focus(simp;done));refine fun u_ K hK=>?_)|(refine WPL.attAtH z_.o.2.2.2.1 ?_ rfl ?_;(focus(simp;done));refine fun K hK=>?_)|(refine WPL.attEndH z_.o.2.2.2.1 ?_ rfl ?_;(focus(simp;done));refine fun K hK=>?_)|(refine WPc.renRH z_.o.2.2.2.1 fun K hK=>?_)|(refine WPc.detRH z_.o.2.2.2.1 fun K hK=>?_)|(refine WPc.renRgH z_.o.2.2.2.1 fun K hK=>?_)|(refine WPL.unAtH z_.o.2.2.2.1 ?_ ?_;(focus(simp;done));refine fun K hK=>?_)|(refine WPS.unAtH z_.o.2.2.2.1 ?_ ?_;(focus(simp;done));refine fun K hK=>?_)|(refine WPL.adAtH z_.o.2.2.2.1 ?_ ?_;(focus(simp;done));refine fun K hK=>?_)|(refine WPS.adAtH z_.o.2.2.2.1 ?_ ?_;(focus(simp;done));refine fun K hK=>?_)|(refine WPL.utAtH z_.o.2.2.2.1 ?_ ?_;(focus(simp;done));refine fun K hK=>?_)|(refine WPS.utAtH z_.o.2.2.2.1 ?_ ?_;(focus(simp;done));refine fun K hK=>?_));simp -implicitDefEqProofs +contextual [-Int.not_le,-Int.not_lt,-Nat.not_le,-Nat.not_lt,-List.all_eq_true,-List.all_eq_false,-List.any_eq_true,-List.any_eq_false,w_.o];(repeat1' (first|refine hK _ ?_|refine And.intro ?_ ?_|intro ha_))<;>clear hK K)
  |(refine WPc.openRg z_.o.2.2.2.1 ?_;simp only[List.toList_toArray])
  |(refine WPc.dropRgH z_.o.2.2.2.1 rfl ?_;dsimp only)
  |(refine WPc.dropRH z_.o.2.2.2.1 rfl ?_;dsimp only)
  |((first|refine WPL.rnToStH tok z_.o.2.2.2.1 _ (by simp[isFn];rfl) fun K hK=>?_|refine WPL.rnToH tok z_.o.2.2.2.1 _ (by simp[isFn];rfl) fun K hK=>?_|refine WPS.rnToH tok z_.o.2.2.2.1 _ (by simp;rfl) fun K hK=>?_);simp -implicitDefEqProofs +contextual [-Int.not_le,-Int.not_lt,-Nat.not_le,-Nat.not_lt,-List.all_eq_true,-List.all_eq_false,-List.any_eq_true,-List.any_eq_false,w_.o];(repeat1' (first|refine hK _ ?_|refine And.intro ?_ ?_|intro ha_))<;>clear hK K<;>(try dsimp only[List.drop]))
  |((first|(refine WPL.detStH z_.o.2.2.2.2.1 ?_ ?_;(focus(simp;done));refine fun K hK=>?_)|(refine WPS.detStH z_.o.2.2.2.2.1 ?_ (by decide) ?_;(focus(simp;done));refine fun K hK=>?_)|(refine WPL.detAtH z_.o.2.2.2.2.1 ?_ ?_;(focus(simp;done));refine fun K hK=>?_)|(refine WPS.detAtH z_.o.2.2.2.2.1 ?_ (by decide) ?_;(focus(simp;done));refine fun K hK=>?_)|(refine WPL.focAtH z_.o.2.2.2.2.1 ?_ ?_;(focus(simp;done));refine fun u_ K hK=>?_)|(refine WPL.attAtH z_.o.2.2.2.2.1 ?_ rfl ?_;(focus(simp;done));refine fun K hK=>?_)|(refine WPL.attEndH z_.o.2.2.2.2.1 ?_ rfl ?_;(focus(simp;done));refine fun K hK=>?_)|(refine WPc.renRH z_.o.2.2.2.2.1 fun K hK=>?_)|(refine WPc.detRH z_.o.2.2.2.2.1 fun K hK=>?_)|(refine WPc.renRgH z_.o.2.2.2.2.1 fun K hK=>?_)|(refine WPL.unAtH z_.o.2.2.2.2.1 ?_ ?_;(focus(simp;done));refine fun K hK=>?_)|(refine WPS.unAtH z_.o.2.2.2.2.1 ?_ ?_;(focus(simp;done));refine fun K hK=>?_)|(refine WPL.adAtH z_.o.2.2.2.2.1 ?_ ?_;(focus(simp;done));refine fun K hK=>?_)|(refine WPS.adAtH z_.o.2.2.2.2.1 ?_ ?_;(focus(simp;done));refine fun K hK=>?_)|(refine WPL.utAtH z_.o.2.2.2.2.1 ?_ ?_;(focus(simp;done));refine fun K hK=>?_)|(refine WPS.utAtH z_.o.2.2.2.2.1 ?_ ?_;(focus(simp;done));refine fun K hK=>?_));simp -implicitDefEqProofs +contextual [-Int.not_le,-Int.not_lt,-Nat.not_le,-Nat.not_lt,-List.all_eq_true,-List.all_eq_false,-List.any_eq_true,-List.any_eq_false,w_.o];(repeat1' (first|refine hK _ ?_|refine And.intro ?_ ?_|intro ha_))<;>clear hK K)
  |(refine WPc.openRg z_.o.2.2.2.2.1 ?_;simp only[List.toList_toArray])
  |(refine WPc.dropRgH z_.o.2.2.2.2.1 rfl ?_;dsimp only)
  |(refine WPc.dropRH z_.o.2.2.2.2.1 rfl ?_;dsimp only)
  |((first|refine WPL.rnToStH tok z_.o.2.2.2.2.1 _ (by simp[isFn];rfl) fun K hK=>?_|refine WPL.rnToH tok z_.o.2.2.2.2.1 _ (by simp[isFn];rfl) fun K hK=>?_|refine WPS.rnToH tok z_.o.2.2.2.2.1 _ (by simp;rfl) fun K hK=>?_);simp -implicitDefEqProofs +contextual [-Int.not_le,-Int.not_lt,-Nat.not_le,-Nat.not_lt,-List.all_eq_true,-List.all_eq_false,-List.any_eq_true,-List.any_eq_false,w_.o];(repeat1' (first|refine hK _ ?_|refine And.intro ?_ ?_|intro ha_))<;>clear hK K<;>(try dsimp only[List.drop]))
  |((first|(refine WPL.detStH z_.o.2.2.2.2.2.1 ?_ ?_;(focus(simp;done));refine fun K hK=>?_)|(refine WPS.detStH z_.o.2.2.2.2.2.1 ?_ (by decide) ?_;(focus(simp;done));refine fun K hK=>?_)|(refine WPL.detAtH z_.o.2.2.2.2.2.1 ?_ ?_;(focus(simp;done));refine fun K hK=>?_)|(refine WPS.detAtH z_.o.2.2.2.2.2.1 ?_ (by decide) ?_;(focus(simp;done));refine fun K hK=>?_)|(refine WPL.focAtH z_.o.2.2.2.2.2.1 ?_ ?_;(focus(simp;done));refine fun u_ K hK=>?_)|(refine WPL.attAtH z_.o.2.2.2.2.2.1 ?_ rfl ?_;(focus(simp;done));refine fun K hK=>?_)|(refine WPL.attEndH z_.o.2.2.2.2.2.1 ?_ rfl ?_;(focus(simp;done));refine fun K hK=>?_)|(refine WPc.renRH z_.o.2.2.2.2.2.1 fun K hK=>?_)|(refine WPc.detRH z_.o.2.2.2.2.2.1 fun K hK=>?_)|(refine WPc.renRgH z_.o.2.2.2.2.2.1 fun K hK=>?_)|(refine WPL.unAtH z_.o.2.2.2.2.2.1 ?_ ?_;(focus(simp;done));refine fun K hK=>?_)|(refine WPS.unAtH z_.o.2.2.2.2.2.1 ?_ ?_;(focus(simp;done));refine fun K hK=>?_)|(refine WPL.adAtH z_.o.2.2.2.2.2.1 ?_ ?_;(focus(simp;done));refine fun K hK=>?_)|(refine WPS.adAtH z_.o.2.2.2.2.2.1 ?_ ?_;(focus(simp;done));refine fun K hK=>?_)|(refine WPL.utAtH z_.o.2.2.2.2.2.1 ?_ ?_;(focus(simp;done));refine fun K hK=>?_)|(refine WPS.utAtH z_.o.2.2.2.2.2.1 ?_ ?_;(focus(simp;done));refine fun K hK=>?_));simp -implicitDefEqProofs +contextual [-Int.not_le,-Int.not_lt,-Nat.not_le,-Nat.not_lt,-List.all_eq_true,-List.all_eq_false,-List.any_eq_true,-List.any_eq_false,w_.o];(repeat1' (first|refine hK _ ?_|refine And.intro ?_ ?_|intro ha_))<;>clear hK K)
  |(refine WPc.openRg z_.o.2.2.2.2.2.1 ?_;simp only[List.toList_toArray])
  |(refine WPc.dropRgH z_.o.2.2.2.2.2.1 rfl ?_;dsimp only)
  |(refine WPc.dropRH z_.o.2.2.2.2.2.1 rfl ?_;dsimp only)
  |((first|refine WPL.rnToStH tok z_.o.2.2.2.2.2.1 _ (by simp[isFn];rfl) fun K hK=>?_|refine WPL.rnToH tok z_.o.2.2.2.2.2.1 _ (by simp[isFn];rfl) fun K hK=>?_|refine WPS.rnToH tok z_.o.2.2.2.2.2.1 _ (by simp;rfl) fun K hK=>?_);simp -implicitDefEqProofs +contextual [-Int.not_le,-Int.not_lt,-Nat.not_le,-Nat.not_lt,-List.all_eq_true,-List.all_eq_false,-List.any_eq_true,-List.any_eq_false,w_.o];(repeat1' (first|refine hK _ ?_|refine And.intro ?_ ?_|intro ha_))<;>clear hK K<;>(try dsimp only[List.drop]))
  |((first|(refine WPL.detStH z_.o.2.2.2.2.2.2.1 ?_ ?_;(focus(simp;done));refine fun K hK=>?_)|(refine WPS.detStH z_.o.2.2.2.2.2.2.1 ?_ (by decide) ?_;(focus(simp;done));refine fun K hK=>?_)|(refine WPL.detAtH z_.o.2.2.2.2.2.2.1 ?_ ?_;(focus(simp;done));refine fun K hK=>?_)|(refine WPS.detAtH z_.o.2.2.2.2.2.2.1 ?_ (by decide) ?_;(focus(simp;done));refine fun K hK=>?_)|(refine WPL.focAtH z_.o.2.2.2.2.2.2.1 ?_ ?_;(focus(simp;done));refine fun u_ K hK=>?_)|(refine WPL.attAtH z_.o.2.2.2.2.2.2.1 ?_ rfl ?_;(focus(simp;done));refine fun K hK=>?_)|(refine WPL.attEndH z_.o.2.2.2.2.2.2.1 ?_ rfl ?_;(focus(simp;done));refine fun K hK=>?_)|(refine WPc.renRH z_.o.2.2.2.2.2.2.1 fun K hK=>?_)|(refine WPc.detRH z_.o.2.2.2.2.2.2.1 fun K hK=>?_)|(refine WPc.renRgH z_.o.2.2.2.2.2.2.1 fun K hK=>?_)|(refine WPL.unAtH z_.o.2.2.2.2.2.2.1 ?_ ?_;(focus(simp;done));refine fun K hK=>?_)|(refine WPS.unAtH z_.o.2.2.2.2.2.2.1 ?_ ?_;(focus(simp;done));refine fun K hK=>?_)|(refine WPL.adAtH z_.o.2.2.2.2.2.2.1 ?_ ?_;(focus(simp;done));refine fun K hK=>?_)|(refine WPS.adAtH z_.o.2.2.2.2.2.2.1 ?_ ?_;(focus(simp;done));refine fun K hK=>?_)|(refine WPL.utAtH z_.o.2.2.2.2.2.2.1 ?_ ?_;(focus(simp;done));refine fun K hK=>?_)|(refine WPS.utAtH z_.o.2.2.2.2.2.2.1 ?_ ?_;(focus(simp;done));refine fun K hK=>?_));simp -implicitDefEqProofs +contextual [-Int.not_le,-Int.not_lt,-Nat.not_le,-Nat.not_lt,-List.all_eq_true,-List.all_eq_false,-List.any_eq_true,-List.any_eq_false,w_.o];(repeat1' (first|refine hK _ ?_|refine And.intro ?_ ?_|intro ha_))<;>clear hK K)
  |(refine WPc.openRg z_.o.2.2.2.2.2.2.1 ?_;simp only[List.toList_toArray])
  |(refine WPc.dropRgH z_.o.2.2.2.2.2.2.1 rfl ?_;dsimp only)
  |(refine WPc.dropRH z_.o.2.2.2.2.2.2.1 rfl ?_;dsimp only)
  |((first|refine WPL.rnToStH tok z_.o.2.2.2.2.2.2.1 _ (by simp[isFn];rfl) fun K hK=>?_|refine WPL.rnToH tok z_.o.2.2.2.2.2.2.1 _ (by simp[isFn];rfl) fun K hK=>?_|refine WPS.rnToH tok z_.o.2.2.2.2.2.2.1 _ (by simp;rfl) fun K hK=>?_);simp -implicitDefEqProofs +contextual [-Int.not_le,-Int.not_lt,-Nat.not_le,-Nat.not_lt,-List.all_eq_true,-List.all_eq_false,-List.any_eq_true,-List.any_eq_false,w_.o];(repeat1' (first|refine hK _ ?_|refine And.intro ?_ ?_|intro ha_))<;>clear hK K<;>(try dsimp only[List.drop]))
  |((first|(refine WPL.detStH z_.o.2.2.2.2.2.2.2.1 ?_ ?_;(focus(simp;done));refine fun K hK=>?_)|(refine WPS.detStH z_.o.2.2.2.2.2.2.2.1 ?_ (by decide) ?_;(focus(simp;done));refine fun K hK=>?_)|(refine WPL.detAtH z_.o.2.2.2.2.2.2.2.1 ?_ ?_;(focus(simp;done));refine fun K hK=>?_)|(refine WPS.detAtH z_.o.2.2.2.2.2.2.2.1 ?_ (by decide) ?_;(focus(simp;done));refine fun K hK=>?_)|(refine WPL.focAtH z_.o.2.2.2.2.2.2.2.1 ?_ ?_;(focus(simp;done));refine fun u_ K hK=>?_)|(refine WPL.attAtH z_.o.2.2.2.2.2.2.2.1 ?_ rfl ?_;(focus(simp;done));refine fun K hK=>?_)|(refine WPL.attEndH z_.o.2.2.2.2.2.2.2.1 ?_ rfl ?_;(focus(simp;done));refine fun K hK=>?_)|(refine WPc.renRH z_.o.2.2.2.2.2.2.2.1 fun K hK=>?_)|(refine WPc.detRH z_.o.2.2.2.2.2.2.2.1 fun K hK=>?_)|(refine WPc.renRgH z_.o.2.2.2.2.2.2.2.1 fun K hK=>?_)|(refine WPL.unAtH z_.o.2.2.2.2.2.2.2.1 ?_ ?_;(focus(simp;done));refine fun K hK=>?_)|(refine WPS.unAtH z_.o.2.2.2.2.2.2.2.1 ?_ ?_;(focus(simp;done));refine fun K hK=>?_)|(refine WPL.adAtH z_.o.2.2.2.2.2.2.2.1 ?_ ?_;(focus(simp;done));refine fun K hK=>?_)|(refine WPS.adAtH z_.o.2.2.2.2.2.2.2.1 ?_ ?_;(focus(simp;done));refine fun K hK=>?_)|(refine WPL.utAtH z_.o.2.2.2.2.2.2.2.1 ?_ ?_;(focus(simp;done));refine fun K hK=>?_)|(refine WPS.utAtH z_.o.2.2.2.2.2.2.2.1 ?_ ?_;(focus(simp;done));refine fun K hK=>?_));simp -implicitDefEqProofs +contextual [-Int.not_le,-Int.not_lt,-Nat.not_le,-Nat.not_lt,-List.all_eq_true,-List.all_eq_false,-List.any_eq_true,-List.any_eq_false,w_.o];(repeat1' (first|refine hK _ ?_|refine And.intro ?_ ?_|intro ha_))<;>clear hK K)
  |(refine WPc.openRg z_.o.2.2.2.2.2.2.2.1 ?_;simp only[List.toList_toArray])
  |(refine WPc.dropRgH z_.o.2.2.2.2.2.2.2.1 rfl ?_;dsimp only)
  |(refine WPc.dropRH z_.o.2.2.2.2.2.2.2.1 rfl ?_;dsimp only)
  |((first|refine WPL.rnToStH tok z_.o.2.2.2.2.2.2.2.1 _ (by simp[isFn];rfl) fun K hK=>?_|refine WPL.rnToH tok z_.o.2.2.2.2.2.2.2.1 _ (by simp[isFn];rfl) fun K hK=>?_|refine WPS.rnToH tok z_.o.2.2.2.2.2.2.2.1 _ (by simp;rfl) fun K hK=>?_);simp -implicitDefEqProofs +contextual [-Int.not_le,-Int.not_lt,-Nat.not_le,-Nat.not_lt,-List.all_eq_true,-List.all_eq_false,-List.any_eq_true,-List.any_eq_false,w_.o];(repeat1' (first|refine hK _ ?_|refine And.intro ?_ ?_|intro ha_))<;>clear hK K<;>(try dsimp only[List.drop]))
  |((first|(refine WPL.detStH z_.o.2.2.2.2.2.2.2.2.1 ?_ ?_;(focus(simp;done));refine fun K hK=>?_)|(refine WPS.detStH z_.o.2.2.2.2.2.2.2.2.1 ?_ (by decide) ?_;(focus(simp;done));refine fun K hK=>?_)|(refine WPL.detAtH z_.o.2.2.2.2.2.2.2.2.1 ?_ ?_;(focus(simp;done));refine fun K hK=>?_)|(refine WPS.detAtH z_.o.2.2.2.2.2.2.2.2.1 ?_ (by decide) ?_;(focus(simp;done));refine fun K hK=>?_)|(refine WPL.focAtH z_.o.2.2.2.2.2.2.2.2.1 ?_ ?_;(focus(simp;done));refine fun u_ K hK=>?_)|(refine WPL.attAtH z_.o.2.2.2.2.2.2.2.2.1 ?_ rfl ?_;(focus(simp;done));refine fun K hK=>?_)|(refine WPL.attEndH z_.o.2.2.2.2.2.2.2.2.1 ?_ rfl ?_;(focus(simp;done));refine fun K hK=>?_)|(refine WPc.renRH z_.o.2.2.2.2.2.2.2.2.1 fun K hK=>?_)|(refine WPc.detRH z_.o.2.2.2.2.2.2.2.2.1 fun K hK=>?_)|(refine WPc.renRgH z_.o.2.2.2.2.2.2.2.2.1 fun K hK=>?_)|(refine WPL.unAtH z_.o.2.2.2.2.2.2.2.2.1 ?_ ?_;(focus(simp;done));refine fun K hK=>?_)|(refine WPS.unAtH z_.o.2.2.2.2.2.2.2.2.1 ?_ ?_;(focus(simp;done));refine fun K hK=>?_)|(refine WPL.adAtH z_.o.2.2.2.2.2.2.2.2.1 ?_ ?_;(focus(simp;done));refine fun K hK=>?_)|(refine WPS.adAtH z_.o.2.2.2.2.2.2.2.2.1 ?_ ?_;(focus(simp;done));refine fun K hK=>?_)|(refine WPL.utAtH z_.o.2.2.2.2.2.2.2.2.1 ?_ ?_;(focus(simp;done));refine fun K hK=>?_)|(refine WPS.utAtH z_.o.2.2.2.2.2.2.2.2.1 ?_ ?_;(focus(simp;done));refine fun K hK=>?_));simp -implicitDefEqProofs +contextual [-Int.not_le,-Int.not_lt,-Nat.not_le,-Nat.not_lt,-List.all_eq_true,-List.all_eq_false,-List.any_eq_true,-List.any_eq_false,w_.o];(repeat1' (first|refine hK _ ?_|refine And.intro ?_ ?_|intro ha_))<;>clear hK K)
  |(refine WPc.openRg z_.o.2.2.2.2.2.2.2.2.1 ?_;simp only[List.toList_toArray])
  |(refine WPc.dropRgH z_.o.2.2.2.2.2.2.2.2.1 rfl ?_;dsimp only)
  |(refine WPc.dropRH z_.o.2.2.2.2.2.2.2.2.1 rfl ?_;dsimp only)
  |((first|refine WPL.rnToStH tok z_.o.2.2.2.2.2.2.2.2.1 _ (by simp[isFn];rfl) fun K hK=>?_|refine WPL.rnToH tok z_.o.2.2.2.2.2.2.2.2.1 _ (by simp[isFn];rfl) fun K hK=>?_|refine WPS.rnToH tok z_.o.2.2.2.2.2.2.2.2.1 _ (by simp;rfl) fun K hK=>?_);simp -implicitDefEqProofs +contextual [-Int.not_le,-Int.not_lt,-Nat.not_le,-Nat.not_lt,-List.all_eq_true,-List.all_eq_false,-List.any_eq_true,-List.any_eq_false,w_.o];(repeat1' (first|refine hK _ ?_|refine And.intro ?_ ?_|intro ha_))<;>clear hK K<;>(try dsimp only[List.drop]))
  |(apply WPc.ret;apply(endP.selH z_.o.1 (.inr rfl));(case hs=>rfl);(case hg=>rfl);(case h=>(simp;rfl));(case hO=>(simp;rfl));(case hk=>(simp;done)))
  |(apply(endP.selH z_.o.1 (.inl rfl));(case hs=>rfl);(case hg=>rfl);(case h=>(simp;rfl));(case hO=>(simp;rfl));(case hk=>(simp;done)))
  |(refine WPc.ret (endP.ownH z_.o.1 (.inr rfl) rfl rfl (by simp;rfl) ?_ ?_ (by simp)))
  |apply WPc.sq
  |apply WPc.block
  |apply WPc.skip
  |apply WPc.exit
  |refine WPL.nil ?_
  |refine WPS.nil ?_
  |(apply WPc.ret;apply(endP.selH z_.o.1 (.inr rfl));(case hs=>rfl);(case hg=>rfl);(case h=>(simp;rfl));(case hO=>(simp;rfl));(case hk=>(simp;done)))
  |(refine WPc.ret (endP.val (.inr rfl) rfl rfl (by simp;rfl) ?_))
  |(refine WPL.isCall ?_;first
   |(apply WPL.cLH;(case' hc=>with_reducible (first|apply uL_.o.1|apply uL_.o.2.1|apply uL_.o.2.2.1|apply uL_.o.2.2.2.1|apply uL_.o.2.2.2.2.1|apply uL_.o.2.2.2.2.2.1|apply uL_.o.2.2.2.2.2.2.1|apply uL_.o.2.2.2.2.2.2.2.1|apply uL_.o.2.2.2.2.2.2.2.2.1|apply uL_.o.2.2.2.2.2.2.2.2.2.1));(case q=>(repeat' (first|refine And.intro ?_ ?_|intro _|(with_reducible exact cleanOut_nil)|(refine Eqv.mk ?_;first|rfl|(simp -implicitDefEqProofs [w_.o];done))|(simp -implicitDefEqProofs [w_.o];done)|(simp -implicitDefEqProofs [w_.o];rfl)|(simp;done)|(simp;rfl)|rfl)));(case hh=>(repeat' (first|exact True.intro|assumption|apply And.intro|omega|(simp;done)|(intros;omega)|decide|(simp_all;done)))))
   |(apply WPL.cUH;(case' hc=>with_reducible (first|apply uU_.o.1|apply uU_.o.2.1|apply uU_.o.2.2.1|apply uU_.o.2.2.2.1|apply uU_.o.2.2.2.2.1|apply uU_.o.2.2.2.2.2.1|apply uU_.o.2.2.2.2.2.2.1|apply uU_.o.2.2.2.2.2.2.2.1|apply uU_.o.2.2.2.2.2.2.2.2.1|apply uU_.o.2.2.2.2.2.2.2.2.2.1));(case q=>(repeat' (first|refine And.intro ?_ ?_|intro _|(with_reducible exact cleanOut_nil)|(refine Eqv.mk ?_;first|rfl|(simp -implicitDefEqProofs [w_.o];done))|(simp -implicitDefEqProofs [w_.o];done)|(simp -implicitDefEqProofs [w_.o];rfl)|(simp;done)|(simp;rfl)|rfl)));(case hh=>(repeat' (first|exact True.intro|assumption|apply And.intro|omega|(simp;done)|(intros;omega)|decide|(simp_all;done)))))
   |(apply WPL.cRH;(case' hc=>with_reducible (first|apply uR_.o.1|apply uR_.o.2.1|apply uR_.o.2.2.1|apply uR_.o.2.2.2.1|apply uR_.o.2.2.2.2.1|apply uR_.o.2.2.2.2.2.1|apply uR_.o.2.2.2.2.2.2.1|apply uR_.o.2.2.2.2.2.2.2.1|apply uR_.o.2.2.2.2.2.2.2.2.1|apply uR_.o.2.2.2.2.2.2.2.2.2.1));(case q=>(repeat' (first|refine And.intro ?_ ?_|intro _|(with_reducible exact cleanOut_nil)|(refine Eqv.mk ?_;first|rfl|(simp -implicitDefEqProofs [w_.o];done))|(simp -implicitDefEqProofs [w_.o];done)|(simp -implicitDefEqProofs [w_.o];rfl)|(simp;done)|(simp;rfl)|rfl)));(case hh=>(repeat' (first|exact True.intro|assumption|apply And.intro|omega|(simp;done)|(intros;omega)|decide|(simp_all;done))));(intro y_ hy_ s hs;simp at hs;subst hs))
   |(refine WPL.call0f ?_ ?_ ?_;(focus(simp;done));(focus(simp;done))))
  |(apply WPS.isCall;(case ho=>exact rfl);first
   |(apply WPS.cLH;(case ho=>exact rfl);(case' hc=>with_reducible (first|apply uL_.o.1|apply uL_.o.2.1|apply uL_.o.2.2.1|apply uL_.o.2.2.2.1|apply uL_.o.2.2.2.2.1|apply uL_.o.2.2.2.2.2.1|apply uL_.o.2.2.2.2.2.2.1|apply uL_.o.2.2.2.2.2.2.2.1|apply uL_.o.2.2.2.2.2.2.2.2.1|apply uL_.o.2.2.2.2.2.2.2.2.2.1));(case q=>(repeat' (first|refine And.intro ?_ ?_|intro _|(with_reducible exact cleanOut_nil)|(refine Eqv.mk ?_;first|rfl|(simp -implicitDefEqProofs [w_.o];done))|(simp -implicitDefEqProofs [w_.o];done)|(simp -implicitDefEqProofs [w_.o];rfl)|(simp;done)|(simp;rfl)|rfl)));(case hh=>(repeat' (first|exact True.intro|assumption|apply And.intro|omega|(simp;done)|(intros;omega)|decide|(simp_all;done)))))
   |(apply WPS.cUH;(case ho=>exact rfl);(case' hc=>with_reducible (first|apply uU_.o.1|apply uU_.o.2.1|apply uU_.o.2.2.1|apply uU_.o.2.2.2.1|apply uU_.o.2.2.2.2.1|apply uU_.o.2.2.2.2.2.1|apply uU_.o.2.2.2.2.2.2.1|apply uU_.o.2.2.2.2.2.2.2.1|apply uU_.o.2.2.2.2.2.2.2.2.1|apply uU_.o.2.2.2.2.2.2.2.2.2.1));(case q=>(repeat' (first|refine And.intro ?_ ?_|intro _|(with_reducible exact cleanOut_nil)|(refine Eqv.mk ?_;first|rfl|(simp -implicitDefEqProofs [w_.o];done))|(simp -implicitDefEqProofs [w_.o];done)|(simp -implicitDefEqProofs [w_.o];rfl)|(simp;done)|(simp;rfl)|rfl)));(case hh=>(repeat' (first|exact True.intro|assumption|apply And.intro|omega|(simp;done)|(intros;omega)|decide|(simp_all;done)))))
   |(apply WPS.cRH;(case ho=>exact rfl);(case' hc=>with_reducible (first|apply uR_.o.1|apply uR_.o.2.1|apply uR_.o.2.2.1|apply uR_.o.2.2.2.1|apply uR_.o.2.2.2.2.1|apply uR_.o.2.2.2.2.2.1|apply uR_.o.2.2.2.2.2.2.1|apply uR_.o.2.2.2.2.2.2.2.1|apply uR_.o.2.2.2.2.2.2.2.2.1|apply uR_.o.2.2.2.2.2.2.2.2.2.1));(case q=>(repeat' (first|refine And.intro ?_ ?_|intro _|(with_reducible exact cleanOut_nil)|(refine Eqv.mk ?_;first|rfl|(simp -implicitDefEqProofs [w_.o];done))|(simp -implicitDefEqProofs [w_.o];done)|(simp -implicitDefEqProofs [w_.o];rfl)|(simp;done)|(simp;rfl)|rfl)));(case hh=>(repeat' (first|exact True.intro|assumption|apply And.intro|omega|(simp;done)|(intros;omega)|decide|(simp_all;done))));(intro y_ hy_ s hs;simp at hs;subst hs))
   |(apply WPS.callf (ho:=rfl);(case hg=>(simp;done));(case hd=>(simp;done))))
  |((first|refine WPc.rq tok rfl fun K hK=>?_|refine WPL.rn tok _ (by simp[ahead,isFn];rfl) fun K hK=>?_|refine WPS.rn tok _ (by simp[aheadS];rfl) fun K hK=>?_|refine WPS.eff tok fun K hK=>?_);simp -implicitDefEqProofs +contextual [-Int.not_le,-Int.not_lt,-Nat.not_le,-Nat.not_lt,-List.all_eq_true,-List.all_eq_false,-List.any_eq_true,-List.any_eq_false,w_.o];(repeat1' (first|refine hK _ ?_|refine And.intro ?_ ?_|intro ha_))<;>clear hK K<;>(try dsimp only[List.drop]))
  |(first|refine WPc.schedH tok z_.o.2.1 (by kernel_rfl) ?_|refine WPc.schedH tok z_.o.2.2.1 (by kernel_rfl) ?_|refine WPc.schedH tok z_.o.2.2.2.1 (by kernel_rfl) ?_|refine WPc.schedH tok z_.o.2.2.2.2.1 (by kernel_rfl) ?_|refine WPc.schedH tok z_.o.2.2.2.2.2.1 (by kernel_rfl) ?_|refine WPc.schedH tok z_.o.2.2.2.2.2.2.1 (by kernel_rfl) ?_|refine WPc.schedH tok z_.o.2.2.2.2.2.2.2.1 (by kernel_rfl) ?_|refine WPc.schedH tok z_.o.2.2.2.2.2.2.2.2.1 (by kernel_rfl) ?_)
  |(refine WPc.region ?_;simp only[List.toList_toArray])
  |(refine WPc.condT ?_ ?_;(focus(simp;done)))
  |(refine WPc.condF ?_ ?_;(focus(simp;done)))
  |(refine WPc.cond (by simp[-Bool.not_eq_eq_eq_not];rfl) (fun hq_=>?_) (fun hq_=>?_)<;>simp only[hq_]<;>(try(exfalso;(simp only[decide_eq_true_eq,decide_eq_false_iff_not]at hq_);omega))))
 all_goals ((repeat revert hq_);(repeat revert ha_);(repeat revert hy_);(repeat revert y_);(repeat revert u_);revert w_)
 all_goals (with_reducible (first|exact And.left n_.o|exact And.left (And.right n_.o)|exact And.left (And.right (And.right n_.o))|exact And.left (And.right (And.right (And.right n_.o)))|exact And.left (And.right (And.right (And.right (And.right n_.o))))|exact And.left (And.right (And.right (And.right (And.right (And.right n_.o)))))|exact And.left (And.right (And.right (And.right (And.right (And.right (And.right n_.o))))))|exact And.left (And.right (And.right (And.right (And.right (And.right (And.right (And.right n_.o)))))))|exact And.left (And.right (And.right (And.right (And.right (And.right (And.right (And.right (And.right n_.o))))))))|exact And.left (And.right (And.right (And.right (And.right (And.right (And.right (And.right (And.right (And.right n_.o)))))))))|exact And.left (And.right (And.right (And.right (And.right (And.right (And.right (And.right (And.right (And.right (And.right n_.o))))))))))|exact And.left (And.right (And.right (And.right (And.right (And.right (And.right (And.right (And.right (And.right (And.right (And.right n_.o)))))))))))))):p:=h ⟨w⟩ ⟨uL⟩ ⟨uU⟩ ⟨uR⟩ ⟨z⟩ ⟨n⟩
theorem go{p W UL UU UR Z L:Prop}(w:W)(uL:UL)(uU:UU)(uR:UR)(z:Z)(n:L) (h:Bx W→Bx UL→Bx UU→Bx UR→Bx Z→Bx L→p:=by
 intro w_ uL_ uU_ uR_ z_ n_
 repeat' (first
  |apply WPc.sq
  |apply WPc.block
  |apply WPc.skip
  |apply WPc.exit
  |refine WPL.nil ?_
  |refine WPS.nil ?_
  |(apply WPc.ret;apply(endP.selH z_.o.1 (.inr rfl));(case hs=>rfl);(case hg=>rfl);(case h=>(simp;rfl));(case hO=>(simp;rfl));(case hk=>(simp;done)))
  |(refine WPc.ret (endP.val (.inr rfl) rfl rfl (by simp;rfl) ?_))
  |(refine WPL.isCall ?_;first
   |(apply WPL.cLH;(case' hc=>with_reducible (first|apply uL_.o.1|apply uL_.o.2.1|apply uL_.o.2.2.1|apply uL_.o.2.2.2.1|apply uL_.o.2.2.2.2.1|apply uL_.o.2.2.2.2.2.1|apply uL_.o.2.2.2.2.2.2.1|apply uL_.o.2.2.2.2.2.2.2.1|apply uL_.o.2.2.2.2.2.2.2.2.1|apply uL_.o.2.2.2.2.2.2.2.2.2.1));(case q=>(repeat' (first|refine And.intro ?_ ?_|intro _|(with_reducible exact cleanOut_nil)|(refine Eqv.mk ?_;first|rfl|(simp -implicitDefEqProofs [w_.o];done))|(simp -implicitDefEqProofs [w_.o];done)|(simp -implicitDefEqProofs [w_.o];rfl)|(simp;done)|(simp;rfl)|rfl)));(case hh=>(repeat' (first|exact True.intro|assumption|apply And.intro|omega|(simp;done)|(intros;omega)|decide|(simp_all;done)))))
   |(apply WPL.cUH;(case' hc=>with_reducible (first|apply uU_.o.1|apply uU_.o.2.1|apply uU_.o.2.2.1|apply uU_.o.2.2.2.1|apply uU_.o.2.2.2.2.1|apply uU_.o.2.2.2.2.2.1|apply uU_.o.2.2.2.2.2.2.1|apply uU_.o.2.2.2.2.2.2.2.1|apply uU_.o.2.2.2.2.2.2.2.2.1|apply uU_.o.2.2.2.2.2.2.2.2.2.1));(case q=>(repeat' (first|refine And.intro ?_ ?_|intro _|(with_reducible exact cleanOut_nil)|(refine Eqv.mk ?_;first|rfl|(simp -implicitDefEqProofs [w_.o];done))|(simp -implicitDefEqProofs [w_.o];done)|(simp -implicitDefEqProofs [w_.o];rfl)|(simp;done)|(simp;rfl)|rfl)));(case hh=>(repeat' (first|exact True.intro|assumption|apply And.intro|omega|(simp;done)|(intros;omega)|decide|(simp_all;done)))))
   |(apply WPL.cRH;(case' hc=>with_reducible (first|apply uR_.o.1|apply uR_.o.2.1|apply uR_.o.2.2.1|apply uR_.o.2.2.2.1|apply uR_.o.2.2.2.2.1|apply uR_.o.2.2.2.2.2.1|apply uR_.o.2.2.2.2.2.2.1|apply uR_.o.2.2.2.2.2.2.2.1|apply uR_.o.2.2.2.2.2.2.2.2.1|apply uR_.o.2.2.2.2.2.2.2.2.2.1));(case q=>(repeat' (first|refine And.intro ?_ ?_|intro _|(with_reducible exact cleanOut_nil)|(refine Eqv.mk ?_;first|rfl|(simp -implicitDefEqProofs [w_.o];done))|(simp -implicitDefEqProofs [w_.o];done)|(simp -implicitDefEqProofs [w_.o];rfl)|(simp;done)|(simp;rfl)|rfl)));(case hh=>(repeat' (first|exact True.intro|assumption|apply And.intro|omega|(simp;done)|(intros;omega)|decide|(simp_all;done))));(intro y_ hy_ s hs;simp at hs;subst hs))
   |(refine WPL.call0f ?_ ?_ ?_;(focus(simp;done));(focus(simp;done))))
  |(apply WPS.isCall;(case ho=>exact rfl);first
   |(apply WPS.cLH;(case ho=>exact rfl);(case' hc=>with_reducible (first|apply uL_.o.1|apply uL_.o.2.1|apply uL_.o.2.2.1|apply uL_.o.2.2.2.1|apply uL_.o.2.2.2.2.1|apply uL_.o.2.2.2.2.2.1|apply uL_.o.2.2.2.2.2.2.1|apply uL_.o.2.2.2.2.2.2.2.1|apply uL_.o.2.2.2.2.2.2.2.2.1|apply uL_.o.2.2.2.2.2.2.2.2.2.1));(case q=>(repeat' (first|refine And.intro ?_ ?_|intro _|(with_reducible exact cleanOut_nil)|(refine Eqv.mk ?_;first|rfl|(simp -implicitDefEqProofs [w_.o];done))|(simp -implicitDefEqProofs [w_.o];done)|(simp -implicitDefEqProofs [w_.o];rfl)|(simp;done)|(simp;rfl)|rfl)));(case hh=>(repeat' (first|exact True.intro|assumption|apply And.intro|omega|(simp;done)|(intros;omega)|decide|(simp_all;done)))))
   |(apply WPS.cUH;(case ho=>exact rfl);(case' hc=>with_reducible (first|apply uU_.o.1|apply uU_.o.2.1|apply uU_.o.2.2.1|apply uU_.o.2.2.2.1|apply uU_.o.2.2.2.2.1|apply uU_.o.2.2.2.2.2.1|apply uU_.o.2.2.2.2.2.2.1|apply uU_.o.2.2.2.2.2.2.2.1|apply uU_.o.2.2.2.2.2.2.2.2.1|apply uU_.o.2.2.2.2.2.2.2.2.2.1));(case q=>(repeat' (first|refine And.intro ?_ ?_|intro _|(with_reducible exact cleanOut_nil)|(refine Eqv.mk ?_;first|rfl|(simp -implicitDefEqProofs [w_.o];done))|(simp -implicitDefEqProofs [w_.o];done)|(simp -implicitDefEqProofs [w_.o];rfl)|(simp;done)|(simp;rfl)|rfl)));(case hh=>(repeat' (first|exact True.intro|assumption|apply And.intro|omega|(simp;done)|(intros;omega)|decide|(simp_all;done)))))
   |(apply WPS.cRH;(case ho=>exact rfl);(case' hc=>with_reducible (first|apply uR_.o.1|apply uR_.o.2.1|apply uR_.o.2.2.1|apply uR_.o.2.2.2.1|apply uR_.o.2.2.2.2.1|apply uR_.o.2.2.2.2.2.1|apply uR_.o.2.2.2.2.2.2.1|apply uR_.o.2.2.2.2.2.2.2.1|apply uR_.o.2.2.2.2.2.2.2.2.1|apply uR_.o.2.2.2.2.2.2.2.2.2.1));(case q=>(repeat' (first|refine And.intro ?_ ?_|intro _|(with_reducible exact cleanOut_nil)|(refine Eqv.mk ?_;first|rfl|(simp -implicitDefEqProofs [w_.o];done))|(simp -implicitDefEqProofs [w_.o];done)|(simp -implicitDefEqProofs [w_.o];rfl)|(simp;done)|(simp;rfl)|rfl)));(case hh=>(repeat' (first|exact True.intro|assumption|apply And.intro|omega|(simp;done)|(intros;omega)|decide|(simp_all;done))));(intro y_ hy_ s hs;simp at hs;subst hs))
   |(apply WPS.callf (ho:=rfl);(case hg=>(simp;done));(case hd=>(simp;done))))
  |((first|refine WPc.rq tok rfl fun K hK=>?_|refine WPL.rn tok _ (by simp[ahead,isFn];rfl) fun K hK=>?_|refine WPS.rn tok _ (by simp[aheadS];rfl) fun K hK=>?_|refine WPS.eff tok fun K hK=>?_);simp -implicitDefEqProofs +contextual [-Int.not_le,-Int.not_lt,-Nat.not_le,-Nat.not_lt,-List.all_eq_true,-List.all_eq_false,-List.any_eq_true,-List.any_eq_false,w_.o];(repeat1' (first|refine hK _ ?_|refine And.intro ?_ ?_|intro ha_))<;>clear hK K<;>(try dsimp only[List.drop]))
  |(first|refine WPc.schedH tok z_.o.2.1 (by kernel_rfl) ?_|refine WPc.schedH tok z_.o.2.2.1 (by kernel_rfl) ?_|refine WPc.schedH tok z_.o.2.2.2.1 (by kernel_rfl) ?_|refine WPc.schedH tok z_.o.2.2.2.2.1 (by kernel_rfl) ?_|refine WPc.schedH tok z_.o.2.2.2.2.2.1 (by kernel_rfl) ?_|refine WPc.schedH tok z_.o.2.2.2.2.2.2.1 (by kernel_rfl) ?_|refine WPc.schedH tok z_.o.2.2.2.2.2.2.2.1 (by kernel_rfl) ?_|refine WPc.schedH tok z_.o.2.2.2.2.2.2.2.2.1 (by kernel_rfl) ?_)
  |(refine WPc.region ?_;simp only[List.toList_toArray])
  |(refine WPc.condT ?_ ?_;(focus(simp;done)))
  |(refine WPc.condF ?_ ?_;(focus(simp;done)))
  |(refine WPc.cond (by simp[-Bool.not_eq_eq_eq_not];rfl) (fun hq_=>?_) (fun hq_=>?_)<;>simp only[hq_]<;>(try(exfalso;(simp only[decide_eq_true_eq,decide_eq_false_iff_not]at hq_);omega))))
 all_goals ((repeat revert hq_);(repeat revert ha_);(repeat revert hy_);(repeat revert y_);(repeat revert u_);revert w_)
 all_goals (with_reducible (first|exact And.left n_.o|exact And.left (And.right n_.o)|exact And.left (And.right (And.right n_.o))|exact And.left (And.right (And.right (And.right n_.o)))|exact And.left (And.right (And.right (And.right (And.right n_.o))))|exact And.left (And.right (And.right (And.right (And.right (And.right n_.o)))))|exact And.left (And.right (And.right (And.right (And.right (And.right (And.right n_.o))))))|exact And.left (And.right (And.right (And.right (And.right (And.right (And.right (And.right n_.o)))))))|exact And.left (And.right (And.right (And.right (And.right (And.right (And.right (And.right (And.right n_.o))))))))|exact And.left (And.right (And.right (And.right (And.right (And.right (And.right (And.right (And.right (And.right n_.o)))))))))|exact And.left (And.right (And.right (And.right (And.right (And.right (And.right (And.right (And.right (And.right (And.right n_.o))))))))))|exact And.left (And.right (And.right (And.right (And.right (And.right (And.right (And.right (And.right (And.right (And.right (And.right n_.o)))))))))))))):p:=h ⟨w⟩ ⟨uL⟩ ⟨uU⟩ ⟨uR⟩ ⟨z⟩ ⟨n⟩
end Go.Own
