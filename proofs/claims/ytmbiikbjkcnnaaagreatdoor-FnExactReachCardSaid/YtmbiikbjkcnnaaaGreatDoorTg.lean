import Derived.Test.YtmbiikbjkcnnaaaGreatDoorTf
/- Lemmas for the proof in the last text of this claim. -/
set_option linter.unusedVariables false
set_option linter.unusedSimpArgs false
set_option linter.unusedSectionVars false
namespace Go.Own
variable [Laid]
open Go.Lib Go.RowKit
theorem set_iff(l:List Bool)(i j:Nat):(l.set i true)[j]?=some true↔l[j]?=some true∨(i=j∧j<l.length):=by
 rw[List.getElem?_set]
 by_cases h:i=j
 ·subst h
  by_cases h2:i<l.length
  ·simp[h2]
  ·rw[List.getElem?_eq_none (by omega)];simp[h2]
 ·simp[h]
theorem setV_iff(a:List Bool)(v:V)(j:Nat):(setV a v)[j]?=some true↔a[j]?=some true∨((inRange v.k 5 7=true∧v.n.toNat=j)∧j<a.length):=by
 unfold setV
 split
 ·rename_i h;rw[set_iff];simp[h]
 ·rename_i h;simp[h]
theorem setVs_iff(l:List V):∀(a:List Bool) (j:Nat),(setVs a l)[j]?=some true↔a[j]?=some true∨((∃v,v∈l∧inRange v.k 5 7=true∧v.n.toNat=j)∧j<a.length):=by
 induction l with
 |nil=>intro a j;simp[setVs]
 |cons v l ih =>
  intro a j
  show (setVs (setV a v) l)[j]?=some true↔_
  rw[ih,setV_iff,setV_len]
  constructor
  ·rintro((h|⟨h,h2⟩)|⟨⟨u,h,h1⟩,h2⟩)
   ·exact .inl h
   ·exact .inr ⟨⟨v,by simp,h⟩,h2⟩
   ·exact .inr ⟨⟨u,by simp[h],h1⟩,h2⟩
  ·rintro(h|⟨⟨u,h,h1⟩,h2⟩)
   ·exact .inl (.inl h)
   ·rcases List.mem_cons.1 h with rfl|h
    ·exact .inl (.inr ⟨h1,h2⟩)
    ·exact .inr ⟨⟨u,h,h1⟩,h2⟩
theorem lnkS_iff(l:List Lk):∀(a:List Bool) (j:Nat),(lnkS a l)[j]?=some true↔a[j]?=some true∨((∃x,x∈l∧x.inst.toNat=j)∧j<a.length):=by
 induction l with
 |nil=>intro a j;simp[lnkS]
 |cons v l ih =>
  intro a j
  show (lnkS (a.set v.inst.toNat true) l)[j]?=some true↔_
  rw[ih,set_iff,List.length_set]
  constructor
  ·rintro((h|⟨h,h2⟩)|⟨⟨u,h,h1⟩,h2⟩)
   ·exact .inl h
   ·exact .inr ⟨⟨v,by simp,h⟩,h2⟩
   ·exact .inr ⟨⟨u,by simp[h],h1⟩,h2⟩
  ·rintro(h|⟨⟨u,h,h1⟩,h2⟩)
   ·exact .inl (.inl h)
   ·rcases List.mem_cons.1 h with rfl|h
    ·exact .inl (.inr ⟨h1,h2⟩)
    ·exact .inr ⟨⟨u,h,h1⟩,h2⟩
theorem set_mono{a b:List Bool}(h:subL a b)(i:Nat):subL (a.set i true) (b.set i true):=⟨by simp[h.len],fun j q=>by
 rw[set_iff]at q ⊢
 rcases q with q|⟨q1,q2⟩
 ·exact .inl (h.sub j q)
 ·exact .inr ⟨q1,h.len▸q2⟩⟩
theorem setVs_mono{a b:List Bool}(h:subL a b)(l:List V):subL (setVs a l) (setVs b l):=⟨by simp[setVs_len,h.len],fun j q=>by
 rw[setVs_iff]at q ⊢
 rcases q with q|⟨q1,q2⟩
 ·exact .inl (h.sub j q)
 ·exact .inr ⟨q1,h.len▸q2⟩⟩
theorem lnkS_mono{a b:List Bool}(h:subL a b)(l:List Lk):subL (lnkS a l) (lnkS b l):=⟨by simp[lnkS_len,h.len],fun j q=>by
 rw[lnkS_iff]at q ⊢
 rcases q with q|⟨q1,q2⟩
 ·exact .inl (h.sub j q)
 ·exact .inr ⟨q1,h.len▸q2⟩⟩
theorem set_join{z a b:List Bool}{i:Nat}(h:subL (z.set i true) b)(g:subL a b):subL (a.set i true) b:=⟨by simp[g.len],fun j q=>by
 rw[set_iff]at q
 have h1:=h.len
 have h2:=g.len
 rw[List.length_set]at h1
 rcases q with q|⟨q1,q2⟩
 ·exact g.sub j q
 ·exact h.sub j ((set_iff _ _ _).2 (.inr ⟨q1,by omega⟩))⟩
theorem setVs_join{z a b:List Bool}{l:List V}(h:subL (setVs z l) b)(g:subL a b):subL (setVs a l) b:=⟨by simp[setVs_len,g.len],fun j q=>by
 rw[setVs_iff]at q
 have h1:=h.len
 have h2:=g.len
 rw[setVs_len]at h1
 rcases q with q|⟨q1,q2⟩
 ·exact g.sub j q
 ·exact h.sub j ((setVs_iff _ _ _).2 (.inr ⟨q1,by omega⟩))⟩
theorem lnkS_join{z a b:List Bool}{l:List Lk}(h:subL (lnkS z l) b)(g:subL a b):subL (lnkS a l) b:=⟨by simp[lnkS_len,g.len],fun j q=>by
 rw[lnkS_iff]at q
 have h1:=h.len
 have h2:=g.len
 rw[lnkS_len]at h1
 rcases q with q|⟨q1,q2⟩
 ·exact g.sub j q
 ·exact h.sub j ((lnkS_iff _ _ _).2 (.inr ⟨q1,by omega⟩))⟩
theorem subL.anti{a b:List Bool}(h:subL a b)(g:subL b a):a=b:=h.count.2 (Nat.le_antisymm h.count.1 g.count.1)
theorem subS.anti{s t:Lv}(h:subS s t)(g:subS t s):s=t:=by
 cases s
 cases t
 simp only[Lv.mk.injEq]
 exact⟨h.a.anti g.a,h.b.anti g.b,h.c.anti g.c⟩
theorem stI_mono{s t:Lv}(h:subS s t)(x:In):subS (stI x s) (stI x t):=⟨setVs_mono h.a _,lnkS_mono h.b _,h.c⟩
theorem stC_mono{s t:Lv}(h:subS s t)(x:Cl):subS (stC x s) (stC x t):=⟨setVs_mono h.a _,h.b,by
 simp only[stC]
 split
 ·exact set_mono h.c _
 ·exact h.c⟩
theorem stU_mono{s t:Lv}(h:subS s t)(x:Un):subS (stU x s) (stU x t):=⟨h.a,set_mono h.b _,h.c⟩
theorem stI_join{z s t:Lv}{x:In}(h:subS (stI x z) t)(g:subS s t):subS (stI x s) t:=⟨setVs_join h.a g.a,lnkS_join h.b g.b,g.c⟩
theorem stC_join{z s t:Lv}{x:Cl}(h:subS (stC x z) t)(g:subS s t):subS (stC x s) t:=⟨setVs_join h.a g.a,g.b,by
 have hc:=h.c
 simp only[stC]at hc ⊢
 split
 ·rename_i hk
  rw[if_pos hk]at hc
  exact set_join hc g.c
 ·exact g.c⟩
theorem stU_join{z s t:Lv}{x:Un}(h:subS (stU x z) t)(g:subS s t):subS (stU x s) t:=⟨g.a,set_join h.b g.b,g.c⟩
theorem upI_mono{s t:Lv}(h:subS s t)(l:List In):∀n,subS (upI l s n) (upI l t n)
 |0=>h
 |n+1=>by
  have ih:=upI_mono h l n
  rw[upI,upI]
  by_cases hn:n<l.length
  ·rw[dif_pos hn,dif_pos hn]
   by_cases h1:(upI l s n).b[n]?=some true
   ·rw[if_pos h1,if_pos (ih.b.sub n h1)];exact stI_mono ih _
   ·rw[if_neg h1]
    split
    ·exact ih.trans (stI_sub _ _)
    ·exact ih
  ·rw[dif_neg hn,dif_neg hn];exact ih
theorem upC_mono{s t:Lv}(h:subS s t)(l:List Cl):∀n,subS (upC l s n) (upC l t n)
 |0=>h
 |n+1=>by
  have ih:=upC_mono h l n
  rw[upC,upC]
  by_cases hn:n<l.length
  ·rw[dif_pos hn,dif_pos hn]
   by_cases h1:(upC l s n).a[n]?=some true
   ·rw[if_pos h1,if_pos (ih.a.sub n h1)];exact stC_mono ih _
   ·rw[if_neg h1]
    split
    ·exact ih.trans (stC_sub _ _)
    ·exact ih
  ·rw[dif_neg hn,dif_neg hn];exact ih
theorem upU_mono{s t:Lv}(h:subS s t)(l:List Un):∀n,subS (upU l s n) (upU l t n)
 |0=>h
 |n+1=>by
  have ih:=upU_mono h l n
  rw[upU,upU]
  by_cases hn:n<l.length
  ·rw[dif_pos hn,dif_pos hn]
   by_cases h1:(upU l s n).c[n]?=some true
   ·rw[if_pos h1,if_pos (ih.c.sub n h1)];exact stU_mono ih _
   ·rw[if_neg h1]
    split
    ·exact ih.trans (stU_sub _ _)
    ·exact ih
  ·rw[dif_neg hn,dif_neg hn];exact ih
theorem rndS_mono(w:Wd){s t:Lv}(h:subS s t):subS (rndS w s) (rndS w t):=upU_mono (upC_mono (upI_mono h _ _) _ _) _ _
theorem upI_add(l:List In)(s:Lv)(n:Nat):∀k,subS (upI l s n) (upI l s (n+k))
 |0=>.refl _
 |k+1=>(upI_add l s n k).trans (by
  show subS _ (upI l s (n+k+1))
  rw[upI]
  split
  ·split
   ·exact stI_sub _ _
   ·exact .refl _
  ·exact .refl _)
theorem upC_add(l:List Cl)(s:Lv)(n:Nat):∀k,subS (upC l s n) (upC l s (n+k))
 |0=>.refl _
 |k+1=>(upC_add l s n k).trans (by
  show subS _ (upC l s (n+k+1))
  rw[upC]
  split
  ·split
   ·exact stC_sub _ _
   ·exact .refl _
  ·exact .refl _)
theorem upU_add(l:List Un)(s:Lv)(n:Nat):∀k,subS (upU l s n) (upU l s (n+k))
 |0=>.refl _
 |k+1=>(upU_add l s n k).trans (by
  show subS _ (upU l s (n+k+1))
  rw[upU]
  split
  ·split
   ·exact stU_sub _ _
   ·exact .refl _
  ·exact .refl _)
structure Cls(w:Wd)(s:Lv):Prop where
 i:∀n,(h:n<w.sys.insts.length)→s.b[n]?=some true→stI w.sys.insts[n] s=s
 c:∀n,(h:n<w.sys.heap.length)→s.a[n]?=some true→stC w.sys.heap[n] s=s
 u:∀n,(h:n<w.sys.units.length)→s.c[n]?=some true→stU w.sys.units[n] s=s
theorem Cls.of{w:Wd}{F:Lv}(h:rndS w F=F):Cls w F:=by
 have k1:upI w.sys.insts F w.sys.insts.length=F:=subS.anti (by
  have:=(upC_sub w.sys.heap (upI w.sys.insts F w.sys.insts.length) w.sys.heap.length).trans (upU_sub w.sys.units _ w.sys.units.length)
  rw[←rndS,h]at this
  exact this) (upI_sub _ _ _)
 have k2:upC w.sys.heap F w.sys.heap.length=F:=subS.anti (by
  have:=upU_sub w.sys.units (upC w.sys.heap (upI w.sys.insts F w.sys.insts.length) w.sys.heap.length) w.sys.units.length
  rw[←rndS,h,k1]at this
  exact this) (upC_sub _ _ _)
 have k3:upU w.sys.units F w.sys.units.length=F:=by rw[rndS,k1,k2]at h;exact h
 refine⟨fun n hn hl=>?_,fun n hn hl=>?_,fun n hn hl=>?_⟩
 ·have e:∀m,m≤w.sys.insts.length→upI w.sys.insts F m=F:=fun m hm=>subS.anti (by
   have:=upI_add w.sys.insts F m (w.sys.insts.length-m)
   rw[Nat.add_sub_cancel' hm,k1]at this
   exact this) (upI_sub _ _ _)
  have e1:=e (n+1) hn
  rw[upI,dif_pos hn,e n (by omega),if_pos hl]at e1
  exact e1
 ·have e:∀m,m≤w.sys.heap.length→upC w.sys.heap F m=F:=fun m hm=>subS.anti (by
   have:=upC_add w.sys.heap F m (w.sys.heap.length-m)
   rw[Nat.add_sub_cancel' hm,k2]at this
   exact this) (upC_sub _ _ _)
  have e1:=e (n+1) hn
  rw[upC,dif_pos hn,e n (by omega),if_pos hl]at e1
  exact e1
 ·have e:∀m,m≤w.sys.units.length→upU w.sys.units F m=F:=fun m hm=>subS.anti (by
   have:=upU_add w.sys.units F m (w.sys.units.length-m)
   rw[Nat.add_sub_cancel' hm,k3]at this
   exact this) (upU_sub _ _ _)
  have e1:=e (n+1) hn
  rw[upU,dif_pos hn,e n (by omega),if_pos hl]at e1
  exact e1
theorem Cls.rnd{w:Wd}{F:Lv}(h:Cls w F):rndS w F=F:=by
 have k1:∀n,upI w.sys.insts F n=F:=by
  intro n
  induction n with
  |zero=>rfl
  |succ n ih =>
   rw[upI,ih]
   split
   ·rename_i hn
    split
    ·rename_i hl;exact h.i n hn hl
    ·rfl
   ·rfl
 have k2:∀n,upC w.sys.heap F n=F:=by
  intro n
  induction n with
  |zero=>rfl
  |succ n ih =>
   rw[upC,ih]
   split
   ·rename_i hn
    split
    ·rename_i hl;exact h.c n hn hl
    ·rfl
   ·rfl
 have k3:∀n,upU w.sys.units F n=F:=by
  intro n
  induction n with
  |zero=>rfl
  |succ n ih =>
   rw[upU,ih]
   split
   ·rename_i hn
    split
    ·rename_i hl;exact h.u n hn hl
    ·rfl
   ·rfl
 rw[rndS,k1,k2,k3]
theorem nthS_le{w:Wd}{s:Lv}(h:Cls w s)(h0:subS (sL w) s):∀k,subS (nthS w k) s
 |0=>h0
 |k+1=>by
  have:=rndS_mono w (nthS_le h h0 k)
  rw[h.rnd]at this
  exact this
theorem nthS_ge(w:Wd):∀k,subS (sL w) (nthS w k)
 |0=>.refl _
 |k+1=>(nthS_ge w k).trans (rndS_sub w _)
def Rch.lv(r:Rch):Lv:=⟨r.cl,r.il,r.ul⟩
theorem set_same{l:List Bool}{n:Nat}(h:(l[n]?).getD true=true):l.set n true=l:=by
 cases hg:l[n]? with
 |none=>rw[List.set_eq_of_length_le (by rw[List.getElem?_eq_none_iff]at hg;exact hg)]
 |some x =>
  rw[hg]at h
  simp only[Option.getD_some]at h
  subst h
  obtain⟨h1,h2⟩:=List.getElem?_eq_some_iff.1 hg
  have h3:=List.set_getElem_self h1
  rw[h2]at h3
  exact h3
theorem lv_addC(r:Rch)(n:Int):(r.addC n).lv=⟨r.cl.set n.toNat true,r.il,r.ul⟩:=by
 unfold Rch.addC
 split
 ·rename_i h;rw[set_same h];rfl
 ·rfl
theorem lv_addI(r:Rch)(n:Int):(r.addI n).lv=⟨r.cl,r.il.set n.toNat true,r.ul⟩:=by
 unfold Rch.addI
 split
 ·rename_i h;rw[set_same h];rfl
 ·rfl
theorem lv_addU(r:Rch)(n:Int):(r.addU n).lv=⟨r.cl,r.il,r.ul.set n.toNat true⟩:=by
 unfold Rch.addU
 split
 ·rename_i h;rw[set_same h];rfl
 ·rfl
theorem cellKind_in(k:Int):(cellKind k=0)↔inRange k 5 7=false:=by
 constructor
 ·intro h
  cases hr:inRange k 5 7 with
  |false=>rfl
  |true=>exact absurd h (inRange_kind hr)
 ·intro h
  simp only[inRange,Bool.and_eq_false_iff,decide_eq_false_iff_not]at h
  unfold cellKind
  repeat' split
  all_goals first|rfl|omega
theorem lv_val(r:Rch)(v:V):(valC r v).lv=⟨setV r.cl v,r.il,r.ul⟩:=by
 unfold valC setV
 cases hr:inRange v.k 5 7 with
 |false=>rw[if_pos ((cellKind_in _).2 hr)];rfl
 |true=>rw[if_neg (fun h=>by rw[cellKind_in,hr]at h;cases h),lv_addC];rfl
theorem lv_a{r:Rch}{a b c:List Bool}(h:r.lv=⟨a,b,c⟩):r.cl=a∧r.il=b∧r.ul=c:=by
 simp only[Rch.lv,Lv.mk.injEq]at h;exact h
theorem lv_vals(l:List V):∀r:Rch,(valsC r l).lv=⟨setVs r.cl l,r.il,r.ul⟩:=by
 induction l with
 |nil=>intro r;rfl
 |cons v l ih =>
  intro r
  show (valsC (valC r v) l).lv=_
  obtain⟨h1,h2,h3⟩:=lv_a (lv_val r v)
  rw[ih,h1,h2,h3];rfl
theorem lv_env(l:List Bd):∀r:Rch,(envC r l).lv=⟨setBs r.cl l,r.il,r.ul⟩:=by
 induction l with
 |nil=>intro r;rfl
 |cons v l ih =>
  intro r
  show (envC (valC r v.val) l).lv=_
  obtain⟨h1,h2,h3⟩:=lv_a (lv_val r v.val)
  rw[ih,h1,h2,h3];rfl
theorem lv_lnks(l:List Lk):∀r:Rch,(lnksC r l).lv=⟨r.cl,lnkS r.il l,r.ul⟩:=by
 induction l with
 |nil=>intro r;rfl
 |cons v l ih =>
  intro r
  show (lnksC (r.addI v.inst) l).lv=_
  obtain⟨h1,h2,h3⟩:=lv_a (lv_addI r v.inst)
  rw[ih,h1,h2,h3];rfl
theorem lv_goI(r:Rch)(x:In):(goI r x).lv=stI x r.lv:=by
 obtain⟨h1,h2,h3⟩:=lv_a (lv_vals x.vals r)
 rw[goI,lv_lnks,h1,h2,h3];rfl
theorem lv_goC(r:Rch)(x:Cl):(goC r x).lv=stC x r.lv:=by
 obtain⟨h1,h2,h3⟩:=lv_a (lv_vals x.vals r)
 unfold goC stC
 split
 ·rw[lv_addU,h1,h2,h3];rfl
 ·rw[lv_vals];rfl
theorem foldl_out{α β:Type}(f:β→α→β)(g:β→β)(h:∀a v,f (g a) v=g (f a v))(l:List α):∀a,l.foldl f (g a)=g (l.foldl f a):=by
 induction l with
 |nil=>intro a;rfl
 |cons v l ih=>intro a;rw[List.foldl_cons,List.foldl_cons,h,ih]
theorem setV_comm(a:List Bool)(u v:V):setV (setV a u) v=setV (setV a v) u:=by
 unfold setV
 split
 ·split
  ·by_cases h:u.n.toNat=v.n.toNat
   ·rw[h]
   ·rw[List.set_comm _ _ h]
  ·rfl
 ·rfl
theorem setVs_comm(a:List Bool)(l:List V)(e:List Bd):setBs (setVs a l) e=setVs (setBs a e) l:=by
 unfold setBs
 refine foldl_out _ (fun a=>setVs a l) (fun b v=>?_) e a
 exact(foldl_out setV (fun a=>setV a v.val) (fun b u=>setV_comm _ _ _) l b).symm
theorem lv_frm(r:Rch)(f:Fm):(frmC r f).lv=⟨frA r.cl f,r.il,frU r.ul f⟩:=by
 obtain⟨h1,h2,h3⟩:=lv_a (lv_addU r f.unit)
 obtain⟨g1,g2,g3⟩:=lv_a (lv_vals f.vals (r.addU f.unit))
 rw[frmC,lv_env,g1,g2,g3,h1,h2,h3,setVs_comm];rfl
theorem lv_frms(l:List Fm):∀r:Rch,(frmsC r l).lv=⟨l.foldl frA r.cl,r.il,l.foldl frU r.ul⟩:=by
 induction l with
 |nil=>intro r;rfl
 |cons v l ih =>
  intro r
  show (frmsC (frmC r v) l).lv=_
  obtain⟨h1,h2,h3⟩:=lv_a (lv_frm r v)
  rw[ih,h1,h2,h3];rfl
theorem lv_mac(r:Rch)(m:Mc):(macC r m).lv=⟨tkA r.cl m,r.il,tkU r.ul m⟩:=by
 obtain⟨h1,h2,h3⟩:=lv_a (lv_addU r m.unit)
 obtain⟨g1,g2,g3⟩:=lv_a (lv_env m.env (r.addU m.unit))
 obtain⟨f1,f2,f3⟩:=lv_a (lv_vals [m.val] (envC (r.addU m.unit) m.env))
 rw[macC,lv_frms,f1,f2,f3,g1,g2,g3,h1,h2,h3];rfl
theorem lv_ents(l:List En):∀r:Rch,(entsC r l).lv=⟨r.cl,libS r.il l,r.ul⟩:=by
 induction l with
 |nil=>intro r;rfl
 |cons v l ih =>
  intro r
  show (entsC (r.addI v.inst) l).lv=_
  obtain⟨h1,h2,h3⟩:=lv_a (lv_addI r v.inst)
  rw[ih,h1,h2,h3];rfl
theorem lv_tsks(l:List Tk):∀r:Rch,(tsksC r l).lv=⟨tskA r.cl l,r.il,tskU r.ul l⟩:=by
 induction l with
 |nil=>intro r;rfl
 |cons v l ih =>
  intro r
  show (tsksC (macC r v.mac) l).lv=_
  obtain⟨h1,h2,h3⟩:=lv_a (lv_mac r v.mac)
  rw[ih,h1,h2,h3];rfl
theorem lv_start(w:Wd):(startW w).lv=sL w:=by
 obtain⟨h1,h2,h3⟩:=lv_a (lv_addI (r00 w) 0)
 obtain⟨g1,g2,g3⟩:=lv_a (lv_ents w.libs ((r00 w).addI 0))
 rw[startW,lv_tsks,g1,g2,g3,h1,h2,h3];rfl
structure Gq(l:List Bool)(q:List Int)(m:List Bool)(p:List Int):Prop where
 sub:subL l m
 old:∀x,x∈q→x∈p
 new:∀i:Nat,m[i]?=some true→l[i]?=some true∨∃x,x∈p∧x.toNat=i
 qin:∀x,x∈p→x∈q∨m[x.toNat]?=some true
theorem Gq.refl(l:List Bool)(q:List Int):Gq l q l q:=⟨.refl _,fun _ h=>h,fun _ h=>.inl h,fun _ h=>.inl h⟩
theorem Gq.trans{l m n:List Bool}{q p o:List Int}(h:Gq l q m p)(g:Gq m p n o):Gq l q n o:=by
 refine⟨h.sub.trans g.sub,fun x hx=>g.old x (h.old x hx),fun i hi=>?_,fun x hx=>?_⟩
 ·rcases g.new i hi with hm|hm
  ·rcases h.new i hm with hl|⟨x,h1,h2⟩
   ·exact .inl hl
   ·exact .inr ⟨x,g.old x h1,h2⟩
  ·exact .inr hm
 ·rcases g.qin x hx with hp|hp
  ·rcases h.qin x hp with hq|hq
   ·exact .inl hq
   ·exact .inr (g.sub.sub _ hq)
  ·exact .inr hp
theorem Gq.add(l:List Bool)(q:List Int)(n:Int)(hf:¬(l[n.toNat]?).getD true=true):Gq l q (l.set n.toNat true) (q++[n]):=by
 obtain⟨h1,h2⟩:=getD_false (by simpa using hf)
 refine⟨.set _ _,fun x hx=>by simp[hx],fun i hi=>?_,fun x hx=>?_⟩
 ·rcases (set_iff _ _ _).1 hi with h|⟨h,_⟩
  ·exact .inl h
  ·exact .inr ⟨n,by simp,h⟩
 ·simp only[List.mem_append,List.mem_singleton]at hx
  rcases hx with hx|rfl
  ·exact .inl hx
  ·exact .inr ((set_iff _ _ _).2 (.inr ⟨rfl,h1⟩))
structure Gr(r t:Rch):Prop where
 c:Gq r.cl r.cq t.cl t.cq
 i:Gq r.il r.iq t.il t.iq
 u:Gq r.ul r.uq t.ul t.uq
theorem Gr.refl(r:Rch):Gr r r:=⟨.refl _ _,.refl _ _,.refl _ _⟩
theorem Gr.trans{r s t:Rch}(h:Gr r s)(g:Gr s t):Gr r t:=⟨h.c.trans g.c,h.i.trans g.i,h.u.trans g.u⟩
theorem Gr.addC(r:Rch)(n:Int):Gr r (r.addC n):=by
 unfold Rch.addC
 split
 ·exact .refl _
 ·rename_i h;exact⟨.add _ _ _ h,.refl _ _,.refl _ _⟩
theorem Gr.addI(r:Rch)(n:Int):Gr r (r.addI n):=by
 unfold Rch.addI
 split
 ·exact .refl _
 ·rename_i h;exact⟨.refl _ _,.add _ _ _ h,.refl _ _⟩
theorem Gr.addU(r:Rch)(n:Int):Gr r (r.addU n):=by
 unfold Rch.addU
 split
 ·exact .refl _
 ·rename_i h;exact⟨.refl _ _,.refl _ _,.add _ _ _ h⟩
theorem Gr.foldl{α:Type}(f:Rch→α→Rch)(h:∀r x,Gr r (f r x))(l:List α):∀r,Gr r (l.foldl f r):=by
 induction l with
 |nil=>intro r;exact .refl _
 |cons v l ih=>intro r;exact(h r v).trans (ih _)
theorem Gr.val(r:Rch)(v:V):Gr r (valC r v):=by unfold valC;split;exact .refl _;exact .addC _ _
theorem Gr.vals(r:Rch)(l:List V):Gr r (valsC r l):=Gr.foldl _ Gr.val l r
theorem Gr.env(r:Rch)(l:List Bd):Gr r (envC r l):=Gr.foldl bindC (fun r x=>Gr.val r x.val) l r
theorem Gr.lnks(r:Rch)(l:List Lk):Gr r (lnksC r l):=Gr.foldl lnkC (fun r x=>Gr.addI r x.inst) l r
theorem Gr.goI(r:Rch)(x:In):Gr r (goI r x):=(Gr.vals _ _).trans (Gr.lnks _ _)
theorem Gr.goC(r:Rch)(x:Cl):Gr r (goC r x):=by unfold Own.goC;split;exact(Gr.vals _ _).trans (Gr.addU _ _);exact Gr.vals _ _
theorem Gr.frm(r:Rch)(f:Fm):Gr r (frmC r f):=((Gr.addU _ _).trans (Gr.vals _ _)).trans (Gr.env _ _)
theorem Gr.mac(r:Rch)(m:Mc):Gr r (macC r m):=(((Gr.addU _ _).trans (Gr.env _ _)).trans (Gr.vals _ _)).trans (Gr.foldl _ Gr.frm _ _)
theorem Gr.start(w:Wd):Gr (r00 w) (startW w):=((Gr.addI _ _).trans (Gr.foldl entC (fun r e=>Gr.addI r e.inst) _ _)).trans (Gr.foldl tskC (fun r t=>Gr.mac r t.mac) _ _)
theorem Gr.lv{r t:Rch}(h:Gr r t):subS r.lv t.lv:=⟨h.c.sub,h.i.sub,h.u.sub⟩
def zL(w:Wd):Lv:=⟨List.replicate w.sys.heap.length false,List.replicate w.sys.insts.length false,List.replicate w.sys.units.length false⟩
theorem zero_sub{l:List Bool}{n:Nat}(h:l.length=n):subL (List.replicate n false) l:=⟨by simp[h],fun i q=>by
 rw[List.getElem?_replicate]at q
 split at q<;>simp at q⟩
theorem zL_sub{w:Wd}{s:Lv}(h:s.sz=zW w):subS (zL w) s:=⟨zero_sub (congrArg (·.1) h),zero_sub (congrArg (·.2.1) h),zero_sub (congrArg (·.2.2) h)⟩
structure Jw(w:Wd)(F:Lv)(s:Rch):Prop where
 lo:subS (sL w) s.lv
 hi:subS s.lv F
 c:∀n,(h:n<w.sys.heap.length)→s.cl[n]?=some true→(∃x,x∈s.cq∧x.toNat=n)∨subS (stC w.sys.heap[n] (zL w)) s.lv
 i:∀n,(h:n<w.sys.insts.length)→s.il[n]?=some true→(∃x,x∈s.iq∧x.toNat=n)∨subS (stI w.sys.insts[n] (zL w)) s.lv
 u:∀n,(h:n<w.sys.units.length)→s.ul[n]?=some true→(∃x,x∈s.uq∧x.toNat=n)∨subS (stU w.sys.units[n] (zL w)) s.lv
 qc:∀x,x∈s.cq→s.cl[x.toNat]?=some true
 qi:∀x,x∈s.iq→s.il[x.toNat]?=some true
 qu:∀x,x∈s.uq→s.ul[x.toNat]?=some true
theorem mem_last{l:List Int}{k:Nat}(hk:l.length=k+1){x:Int}(hx:x∈l):x∈l.take k∨x=l[k]:=by
 have:l=l.take k++[l[k]]:=by
  have:=List.take_append_drop k l
  rw[List.drop_eq_getElem_cons (by omega),List.drop_eq_nil_of_le (by omega)]at this
  exact this.symm
 rw[this]at hx
 rcases List.mem_append.1 hx with h|h
 ·exact .inl h
 ·exact .inr (by simpa using h)
theorem Jw.start{w:Wd}{k:Nat}:Jw w (nthS w k) (startW w):=by
 have g:=Gr.start w
 have no:∀n i:Nat,(List.replicate n false)[i]?=some true→False:=fun n i q=>by
  rw[List.getElem?_replicate]at q
  split at q<;>simp at q
 refine⟨by rw[lv_start];exact .refl _,by rw[lv_start];exact nthS_ge w k,fun n h hl=>?_,fun n h hl=>?_,fun n h hl=>?_,fun x hx=>?_,fun x hx=>?_,fun x hx=>?_⟩
 ·rcases g.c.new n hl with h|h
  ·exact(no _ _ h).elim
  ·exact .inl h
 ·rcases g.i.new n hl with h|h
  ·exact(no _ _ h).elim
  ·exact .inl h
 ·rcases g.u.new n hl with h|h
  ·exact(no _ _ h).elim
  ·exact .inl h
 ·rcases g.c.qin x hx with h|h
  ·simp[r00]at h
  ·exact h
 ·rcases g.i.qin x hx with h|h
  ·simp[r00]at h
  ·exact h
 ·rcases g.u.qin x hx with h|h
  ·simp[r00]at h
  ·exact h
theorem Jw.next{w:Wd}{F:Lv}{s p t:Rch}(h:Jw w F s)(hp:p.lv=s.lv)(g:Gr p t)(hi:subS t.lv F)
  (pc:∀x,x∈p.cq→x∈s.cq) (pi:∀x,x∈p.iq→x∈s.iq) (pu:∀x,x∈p.uq→x∈s.uq)
  (dc:∀n,(hn:n<w.sys.heap.length)→(∃x,x∈s.cq∧x.toNat=n)→(∃x,x∈p.cq∧x.toNat=n)∨subS (stC w.sys.heap[n] (zL w)) t.lv)
  (di:∀n,(hn:n<w.sys.insts.length)→(∃x,x∈s.iq∧x.toNat=n)→(∃x,x∈p.iq∧x.toNat=n)∨subS (stI w.sys.insts[n] (zL w)) t.lv)
  (du:∀n,(hn:n<w.sys.units.length)→(∃x,x∈s.uq∧x.toNat=n)→(∃x,x∈p.uq∧x.toNat=n)∨subS (stU w.sys.units[n] (zL w)) t.lv):Jw w F t:=by
 obtain⟨e1,e2,e3⟩:=lv_a (hp.trans rfl:p.lv=⟨s.cl,s.il,s.ul⟩)
 have gl:subS s.lv t.lv:=hp▸g.lv
 refine⟨h.lo.trans gl,hi,fun n hn hl=>?_,fun n hn hl=>?_,fun n hn hl=>?_,fun x hx=>?_,fun x hx=>?_,fun x hx=>?_⟩
 ·rcases g.c.new n hl with h1|h1
  ·rw[e1]at h1
   rcases h.c n hn h1 with h2|h2
   ·rcases dc n hn h2 with ⟨x,h3,h4⟩|h3
    ·exact .inl ⟨x,g.c.old x h3,h4⟩
    ·exact .inr h3
   ·exact .inr (h2.trans gl)
  ·exact .inl h1
 ·rcases g.i.new n hl with h1|h1
  ·rw[e2]at h1
   rcases h.i n hn h1 with h2|h2
   ·rcases di n hn h2 with ⟨x,h3,h4⟩|h3
    ·exact .inl ⟨x,g.i.old x h3,h4⟩
    ·exact .inr h3
   ·exact .inr (h2.trans gl)
  ·exact .inl h1
 ·rcases g.u.new n hl with h1|h1
  ·rw[e3]at h1
   rcases h.u n hn h1 with h2|h2
   ·rcases du n hn h2 with ⟨x,h3,h4⟩|h3
    ·exact .inl ⟨x,g.u.old x h3,h4⟩
    ·exact .inr h3
   ·exact .inr (h2.trans gl)
  ·exact .inl h1
 ·rcases g.c.qin x hx with h1|h1
  ·exact g.c.sub.sub _ (by rw[e1];exact h.qc x (pc x h1))
  ·exact h1
 ·rcases g.i.qin x hx with h1|h1
  ·exact g.i.sub.sub _ (by rw[e2];exact h.qi x (pi x h1))
  ·exact h1
 ·rcases g.u.qin x hx with h1|h1
  ·exact g.u.sub.sub _ (by rw[e3];exact h.qu x (pu x h1))
  ·exact h1
theorem Jw.keeps{w:Wd}{F:Lv}(hF:Cls w F):KeepsJ w (Jw w F):=by
 refine⟨fun s k hB h hk hi=>?_,fun s k hB h hk hi=>?_,fun s k hB h hk hi=>?_⟩
 ·have hl:=h.qc _ (List.getElem_mem (by omega:k<s.cq.length))
  have hz:subS (zL w) s.lv:=zL_sub hB.sz
  have hlF:F.a[(s.cq[k]'(by omega)).toNat]?=some true:=h.hi.a.sub _ hl
  have he:=lv_goC (popC s k) w.sys.heap[(s.cq[k]'(by omega)).toNat]
  refine h.next (p:=popC s k) rfl (Gr.goC _ _) ?_ (fun x hx=>List.mem_of_mem_take hx) (fun x hx=>hx) (fun x hx=>hx) (fun n hn hx=>?_) (fun n hn hx=>.inl hx) (fun n hn hx=>.inl hx)
  ·rw[he,←hF.c _ hi hlF];exact stC_mono h.hi _
  ·obtain⟨x,h1,rfl⟩:=hx
   rcases mem_last hk h1 with h2|rfl
   ·exact .inl ⟨x,h2,rfl⟩
   ·exact .inr (by rw[he];exact stC_mono hz _)
 ·have hl:=h.qi _ (List.getElem_mem (by omega:k<s.iq.length))
  have hz:subS (zL w) s.lv:=zL_sub hB.sz
  have hlF:F.b[(s.iq[k]'(by omega)).toNat]?=some true:=h.hi.b.sub _ hl
  have he:=lv_goI (popI s k) w.sys.insts[(s.iq[k]'(by omega)).toNat]
  refine h.next (p:=popI s k) rfl (Gr.goI _ _) ?_ (fun x hx=>hx) (fun x hx=>List.mem_of_mem_take hx) (fun x hx=>hx) (fun n hn hx=>.inl hx) (fun n hn hx=>?_) (fun n hn hx=>.inl hx)
  ·rw[he,←hF.i _ hi hlF];exact stI_mono h.hi _
  ·obtain⟨x,h1,rfl⟩:=hx
   rcases mem_last hk h1 with h2|rfl
   ·exact .inl ⟨x,h2,rfl⟩
   ·exact .inr (by rw[he];exact stI_mono hz _)
 ·have hl:=h.qu _ (List.getElem_mem (by omega:k<s.uq.length))
  have hz:subS (zL w) s.lv:=zL_sub hB.sz
  have hlF:F.c[(s.uq[k]'(by omega)).toNat]?=some true:=h.hi.c.sub _ hl
  have he:((popU s k).addI w.sys.units[(s.uq[k]'(by omega)).toNat].home).lv=stU w.sys.units[(s.uq[k]'(by omega)).toNat] s.lv:=by rw[lv_addI];rfl
  refine h.next (p:=popU s k) rfl (Gr.addI _ _) ?_ (fun x hx=>hx) (fun x hx=>hx) (fun x hx=>List.mem_of_mem_take hx) (fun n hn hx=>.inl hx) (fun n hn hx=>.inl hx) (fun n hn hx=>?_)
  ·rw[he,←hF.u _ hi hlF];exact stU_mono h.hi _
  ·obtain⟨x,h1,rfl⟩:=hx
   rcases mem_last hk h1 with h2|rfl
   ·exact .inl ⟨x,h2,rfl⟩
   ·exact .inr (by rw[he];exact stU_mono hz _)
theorem Jw.last{w:Wd}{k:Nat}{s:Rch}(hs:s.sz=zW w)(h:Jw w (nthS w k) s)(h1:s.cq=[])(h2:s.iq=[])(h3:s.uq=[]):s.lv=nthS w k:=by
 have hz:subS (zL w) s.lv:=zL_sub hs
 have hc:Cls w s.lv:=by
  refine⟨fun n hn hl=>?_,fun n hn hl=>?_,fun n hn hl=>?_⟩
  ·rcases h.i n hn hl with ⟨x,hx,_⟩|hd
   ·rw[h2]at hx;simp at hx
   ·exact subS.anti (stI_join hd (.refl _)) (stI_sub _ _)
  ·rcases h.c n hn hl with ⟨x,hx,_⟩|hd
   ·rw[h1]at hx;simp at hx
   ·exact subS.anti (stC_join hd (.refl _)) (stC_sub _ _)
  ·rcases h.u n hn hl with ⟨x,hx,_⟩|hd
   ·rw[h3]at hx;simp at hx
   ·exact subS.anti (stU_join hd (.refl _)) (stU_sub _ _)
 exact subS.anti h.hi (nthS_le hc h.lo k)
theorem countB(l:List Bool):l.count false+l.count true=l.length:=by
 induction l with
 |nil=>rfl
 |cons x l ih=>cases x<;>simp<;>omega
def allW(w:Wd):Nat:=w.sys.heap.length+w.sys.insts.length+w.sys.units.length
def liveW(w:Wd):Lv:=nthS w (allW w+1)
theorem nthS_cnt(w:Wd)(k:Nat):(nthS w k).cnt≤allW w:=by
 have h:=nthS_sz w k
 have h1:(nthS w k).a.length=w.sys.heap.length:=congrArg (·.1) h
 have h2:(nthS w k).b.length=w.sys.insts.length:=congrArg (·.2.1) h
 have h3:(nthS w k).c.length=w.sys.units.length:=congrArg (·.2.2) h
 have:=(nthS w k).cnt_le
 unfold allW;omega
theorem nthS_next{w:Wd}{k:Nat}:(nthS w k).cnt≤(nthS w (k+1)).cnt∧((nthS w k).cnt=(nthS w (k+1)).cnt→rndS w (nthS w k)=nthS w k):=by
 have:=(rndS_sub w (nthS w k)).count
 exact⟨this.1,fun h=>(this.2 h).symm⟩
theorem nthS_stay{w:Wd}{k:Nat}(h:rndS w (nthS w k)=nthS w k):∀d,nthS w (k+d)=nthS w k
 |0=>rfl
 |d+1=>by
  show rndS w (nthS w (k+d))=_
  rw[nthS_stay h d,h]
theorem liveW_fix(w:Wd):rndS w (liveW w)=liveW w:=by
 have key:∀k,(∃j,j≤k∧rndS w (nthS w j)=nthS w j)∨k≤(nthS w k).cnt:=by
  intro k
  induction k with
  |zero=>exact .inr (Nat.zero_le _)
  |succ k ih =>
   rcases ih with ⟨j,h1,h2⟩|h
   ·exact .inl ⟨j,by omega,h2⟩
   ·obtain⟨g1,g2⟩:=@nthS_next _ w k
    by_cases e:(nthS w k).cnt=(nthS w (k+1)).cnt
    ·exact .inl ⟨k,by omega,g2 e⟩
    ·exact .inr (by omega)
 rcases key (allW w+1) with ⟨j,h1,h2⟩|h
 ·have e:=nthS_stay h2 (allW w+1-j)
  rw[Nat.add_sub_cancel' h1]at e
  show rndS w (nthS w (allW w+1))=nthS w (allW w+1)
  rw[e,h2]
 ·have:=nthS_cnt w (allW w+1);omega
theorem liveW_of{w:Wd}{k:Nat}(h:rndS w (nthS w k)=nthS w k):nthS w k=liveW w :=
 subS.anti (nthS_le (.of (liveW_fix w)) (nthS_ge w _) k) (nthS_le (.of h) (nthS_ge w k) _)
theorem liveW_sz(w:Wd):(liveW w).sz=zW w:=nthS_sz w _
theorem liveW_a(w:Wd):(liveW w).a.length=w.sys.heap.length:=congrArg (·.1) (liveW_sz w)
theorem liveW_b(w:Wd):(liveW w).b.length=w.sys.insts.length:=congrArg (·.2.1) (liveW_sz w)
theorem liveW_c(w:Wd):(liveW w).c.length=w.sys.units.length:=congrArg (·.2.2) (liveW_sz w)
theorem liveW_keeps(w:Wd):KeepsJ w (Jw w (liveW w)):=Jw.keeps (.of (liveW_fix w))
theorem liveW_start(w:Wd):Jw w (liveW w) (startW w):=Jw.start
theorem liveW_last{w:Wd}{s:Rch}(hs:Bq w s)(h:Jw w (liveW w) s)(h1:s.cq=[])(h2:s.iq=[])(h3:s.uq=[]):s.lv=liveW w:=Jw.last hs.sz h h1 h2 h3
def wasteW(w:Wd):Nat:=(liveW w).a.count false+(liveW w).b.count false+(liveW w).c.count false
theorem wasteW_eq(w:Wd):wasteW w+(liveW w).cnt=allW w:=by
 have h1:=countB (liveW w).a
 have h2:=countB (liveW w).b
 have h3:=countB (liveW w).c
 rw[liveW_a]at h1
 rw[liveW_b]at h2
 rw[liveW_c]at h3
 unfold wasteW Lv.cnt allW
 omega
end Go.Own
set_option maxRecDepth 1000000
set_option maxHeartbeats 4000000
namespace Go.Own
attribute [local irreducible] WPc WPL WPS WPS1 WPS2 HAny endP
variable [Laid]
open Go.Lib Go.RowKit
def lvC(a b c:List Bool):List C:=[.fz (a.map boC),.fz (b.map boC),.fz (c.map boC)]
theorem count_stepT{l:List Bool}{i:Nat}(hi:i<l.length):(l.take (i+1)).count true=(l.take i).count true+if l[i]=true then 1 else 0:=by
 rw[List.take_add_one,List.getElem?_eq_getElem hi,Option.toList_some,List.count_append,List.count_singleton]
 by_cases h:l[i]=true<;>simp[h]
theorem c_spec_l16Count(a b c:List Bool)(h1:a.length≤1000000000)(h2:b.length≤1000000000)(h3:c.length≤1000000000):Con PP 30 [.agg [.fz (a.map boC),.fz (b.map boC),.fz (c.map boC)]] [] [] (fun r o=>r=.sc (.int .i64 ((a.count true+b.count true+c.count true:Nat):Int))):=by
 refine cof 50 Go.Proofs.Tryz.func30 fun G=>?_
 simp only[entSt,tmOf,List.append_nil,List.cons_append,List.nil_append]
 refine go (L:=_∧True) wb0 wb0 wb0 wb0 wb0 ⟨fun _=>?_,wb0⟩
 refine WPc.loopV (σ:=Nat) (fun i=>i≤a.length) (fun i=>a.length-i) (fun i=>[(4,.sc (.int .i64 i)),(3,.sc (.int .i64 ((a.take i).count true:Nat)))]) (fun i=>[(1,49,3,[lvC a b c])]) [1] 0 (by simp[List.count_nil,lvC]) (by simp[List.count_nil,lvC]) (by simp) ?_
 rintro i hi s hs
 simp at hs
 subst hs
 by_cases hlt:i<a.length
 ·have hb:i+1≤9223372036854775807:=by omega
  have hn:=count_stepT hlt
  have hle:(a.take i).count true≤i:=Nat.le_trans List.count_le_length (by simp;omega)
  generalize (a.take i).count true=n at hn hle ⊢
  cases hx:a[i]with
  |false =>
   have hn':(a.take (i+1)).count true=n:=by rw[hn,hx];simp
   refine go (L:=_∧True) (wa4 @hlt @boC.eq_1 @hx @lvC.eq_1) wb0 wb0 wb0 wb0 ⟨fun _=>?_,wb0⟩
   refine⟨i+1,⟨hlt,by first|omega|(simp only;omega)|assumption⟩,rfl,rfl,?_,?_⟩<;>simp (disch:=omega) [wrap64,hn',lvC]
  |true =>
   have hn':(a.take (i+1)).count true=n+1:=by rw[hn,hx];simp
   have hw:IntKind.i64.wrap ((n:Int)+1)=((n+1:Nat):Int):=by rw[wrap64 (by omega) (by omega)];omega
   refine go (L:=_∧True) (wa5 @hlt @boC.eq_1 @hx @hw @lvC.eq_1) wb0 wb0 wb0 wb0 ⟨fun _=>?_,wb0⟩
   refine⟨i+1,⟨hlt,by first|omega|(simp only;omega)|assumption⟩,rfl,rfl,?_,?_⟩<;>simp (disch:=omega) [wrap64,hn',lvC]
   all_goals (refine fit_int ?_;omega)
 obtain rfl:i=a.length:=by omega
 rw[List.take_length]
 have ka:a.count true≤1000000000:=Nat.le_trans List.count_le_length h1
 generalize a.count true=na at ka ⊢
 refine go (L:=_∧True) (wa2 @hlt @lvC.eq_1) wb0 wb0 wb0 wb0 ⟨fun _=>?_,wb0⟩
 refine WPc.loopV (σ:=Nat) (fun i=>i≤b.length) (fun i=>b.length-i) (fun i=>[(5,.sc (.int .i64 i)),(3,.sc (.int .i64 ((na+(b.take i).count true:Nat):Int)))]) (fun i=>[(1,49,3,[lvC a b c])]) [1] 0 (by simp[List.count_nil,lvC]) (by simp[List.count_nil,lvC]) (by simp) ?_
 rintro i hi s hs
 simp at hs
 subst hs
 by_cases hlt:i<b.length
 ·have hb:i+1≤9223372036854775807:=by omega
  have hn:=count_stepT hlt
  have hle:(b.take i).count true≤i:=Nat.le_trans List.count_le_length (by simp;omega)
  generalize (b.take i).count true=n at hn hle ⊢
  cases hx:b[i]with
  |false =>
   have hn':(b.take (i+1)).count true=n:=by rw[hn,hx];simp
   refine go (L:=_∧True) (wa4 @hlt @boC.eq_1 @hx @lvC.eq_1) wb0 wb0 wb0 wb0 ⟨fun _=>?_,wb0⟩
   refine⟨i+1,⟨hlt,by first|omega|(simp only;omega)|assumption⟩,rfl,rfl,?_,?_⟩<;>simp (disch:=omega) [wrap64,hn',lvC]
  |true =>
   have hn':(b.take (i+1)).count true=n+1:=by rw[hn,hx];simp
   have hw:IntKind.i64.wrap (((na+n:Nat):Int)+1)=((na+(n+1):Nat):Int):=by rw[wrap64 (by omega) (by omega)];omega
   refine go (L:=_∧True) (wa5 @hlt @boC.eq_1 @hx @hw @lvC.eq_1) wb0 wb0 wb0 wb0 ⟨fun _=>?_,wb0⟩
   refine⟨i+1,⟨hlt,by first|omega|(simp only;omega)|assumption⟩,rfl,rfl,?_,?_⟩<;>simp (disch:=omega) [wrap64,hn',lvC]
   all_goals (refine fit_int ?_;omega)
 obtain rfl:i=b.length:=by omega
 rw[List.take_length]
 have kb:b.count true≤1000000000:=Nat.le_trans List.count_le_length h2
 generalize b.count true=nb at kb ⊢
 refine go (L:=_∧True) (wa2 @hlt @lvC.eq_1) wb0 wb0 wb0 wb0 ⟨fun _=>?_,wb0⟩
 refine WPc.loopV (σ:=Nat) (fun i=>i≤c.length) (fun i=>c.length-i) (fun i=>[(6,.sc (.int .i64 i)),(3,.sc (.int .i64 ((na+nb+(c.take i).count true:Nat):Int)))]) (fun i=>[(1,49,3,[lvC a b c])]) [1] 0 (by simp[List.count_nil,lvC]) (by simp[List.count_nil,lvC]) (by simp) ?_
 rintro i hi s hs
 simp at hs
 subst hs
 by_cases hlt:i<c.length
 ·have hb:i+1≤9223372036854775807:=by omega
  have hn:=count_stepT hlt
  have hle:(c.take i).count true≤i:=Nat.le_trans List.count_le_length (by simp;omega)
  generalize (c.take i).count true=n at hn hle ⊢
  cases hx:c[i]with
  |false =>
   have hn':(c.take (i+1)).count true=n:=by rw[hn,hx];simp
   refine go (L:=_∧True) (wa4 @hlt @boC.eq_1 @hx @lvC.eq_1) wb0 wb0 wb0 wb0 ⟨fun _=>?_,wb0⟩
   refine⟨i+1,⟨hlt,by first|omega|(simp only;omega)|assumption⟩,rfl,rfl,?_,?_⟩<;>simp (disch:=omega) [wrap64,hn',lvC]
  |true =>
   have hn':(c.take (i+1)).count true=n+1:=by rw[hn,hx];simp
   have hw:IntKind.i64.wrap (((na+nb+n:Nat):Int)+1)=((na+nb+(n+1):Nat):Int):=by rw[wrap64 (by omega) (by omega)];omega
   refine go (L:=_∧True) (wa5 @hlt @boC.eq_1 @hx @hw @lvC.eq_1) wb0 wb0 wb0 wb0 ⟨fun _=>?_,wb0⟩
   refine⟨i+1,⟨hlt,by first|omega|(simp only;omega)|assumption⟩,rfl,rfl,?_,?_⟩<;>simp (disch:=omega) [wrap64,hn',lvC]
   all_goals (refine fit_int ?_;omega)
 obtain rfl:i=c.length:=by omega
 rw[List.take_length]
 refine go (L:=_∧True) (wa2 @hlt @lvC.eq_1) wb0 wb0 wb0 wb0 ⟨fun _=>?_,wb0⟩
 all_goals rfl
end Go.Own
