import Derived.Laws.AppendOwn
import Derived.Orders
import Derived.Below
import Derived.Maps.AppendAt
import Derived.Laws.StructEq
import Derived.Laws.Cells
import Derived.Laws.Tables
import Derived.Great.BuildSlice
import Derived.Laws.OwnMore
import Derived.Laws.AppendOwnNone
/- Lemmas for the proof in the last text of this claim. -/
set_option linter.unusedVariables false
set_option linter.unusedSimpArgs false
namespace Go.Own
inductive C where
 |sc (v:Value)
 |fz (xs:List (List C))
 |sl (e k:Nat) (xs:List (List C))
 |no
abbrev Pth:=List (Nat×Nat)
inductive AV where
 |sc (v:Value)
 |agg (cs:List AV)
 |tup (vs:List AV)
 |fz (xs:List (List C))
 |sl (id k:Nat) (path:Pth) (off len:Nat)
 |ptr (id k:Nat) (path:Pth) (i j:Nat)
 |fp (cs:List C)
 |un
abbrev Blk:=Nat→Option (Nat×Pth)
inductive FR(av:Nat→Prop)(w:World):C→Value→Prop where
 |sc (v:Value) (h:v.oneCell'=true):FR av w (.sc v) v
 |no (u:Value) (h:u.oneCell'=true):FR av w .no u
 |fzE (a:Option Addr) (c:Nat):FR av w (.fz []) (.slice a 0 c)
 |fzN (xs:List (List C)) (b o k c:Nat) (f:Nat→Nat→Value) (hne:xs≠[]) (h0:0<k) (hav:av b) (hk:∀r,r∈xs→r.length=k) (hl:xs.length≤c∧c≤maxLen)
   (hc:∀i j r x,xs[i]?=some r→r[j]?=some x→w.cell? ⟨b,o+i*k+j,none⟩=some (f i j))
   (hx:∀i j r x,xs[i]?=some r→r[j]?=some x→FR av w x (f i j)):FR av w (.fz xs) (.slice (some ⟨b,o,none⟩) xs.length c)
 |sl (e k:Nat) (xs:List (List C)) (u:Value) (h:FR av w (.fz xs) u):FR av w (.sl e k xs) u
theorem FR.one{av:Nat→Prop}{w:World}{x:C}{u:Value}(h:FR av w x u):u.oneCell'=true:=by
 induction h with
 |sc v h=>exact h
 |no u h=>exact h
 |fzE a c=>rfl
 |fzN=>rfl
 |sl e k xs u h ih=>exact ih
theorem cell_lt{w:World}{a:Addr}{v:Value}(h:w.cell? a=some v):a.block<w.heap.size:=by
 exact World.block_lt_of_cell? w a h
theorem cell_same{w w':World}{a:Addr}{v:Value}(h:w.cell? a=some v)(hb:w'.heap[a.block]?=w.heap[a.block]?):w'.cell? a=some v :=
 (World.cell?_of_block hb).trans h
theorem FR.lt{w:World}{xs:List (List C)}{b o k:Nat}{f:Nat→Nat→Value}(hne:xs≠[])(h0:0<k)(hk:∀r,r∈xs→r.length=k)
  (hc:∀(i j:Nat) (r:List C) (x:C),xs[i]?=some r→r[j]?=some x→w.cell? ⟨b,o+i*k+j,none⟩=some (f i j)):b<w.heap.size:=by
 cases xs with
 |nil=>exact absurd rfl hne
 |cons r rs =>
  have hr:r.length=k:=hk r (by simp)
  cases r with
  |nil=>simp at hr;omega
  |cons y ys=>exact cell_lt (hc 0 0 (y::ys) y rfl rfl)
theorem FR.mono{av av':Nat→Prop}{w w':World}{x:C}{u:Value}(h:FR av w x u)
  (hm:∀b,av b→b<w.heap.size→av' b∧w'.heap[b]?=w.heap[b]?):FR av' w' x u:=by
 induction h with
 |sc v h=>exact .sc v h
 |no u h=>exact .no u h
 |fzE a c=>exact .fzE a c
 |fzN xs b o k c f hne h0 hav hk hl hc hx ih =>
  obtain⟨ha,hb⟩:=hm b hav (FR.lt hne h0 hk hc)
  exact .fzN xs b o k c f hne h0 ha hk hl (fun i j r x h1 h2=>cell_same (hc i j r x h1 h2) hb) ih
 |sl e k xs u h ih=>exact .sl e k xs u ih
inductive VR(β:Blk)(w:World):AV→Value→Prop where
 |un (u:Value):VR β w .un u
 |sc (v:Value):VR β w (.sc v) v
 |fz (xs:List (List C)) (u:Value) (h:FR (fun b=>β b=none) w (.fz xs) u):VR β w (.fz xs) u
 |sl (id k:Nat) (path:Pth) (off len b cap t:Nat) (cur:Array Value) (h0:0<k) (hb:β b=some (id,path)) (hh:w.heap[b]?=some (.cells cur t (0,0)))
   (hs:cur.size=cap*k) (ho:off+len≤cap):VR β w (.sl id k path off len) (.slice (some ⟨b,off*k,none⟩) len (cap-off))
 |slN (id k:Nat) (path:Pth) (h0:0<k) (hb:∀b,β b≠some (id,path)):VR β w (.sl id k path 0 0) (.slice none 0 0)
 |ptr (id k:Nat) (path:Pth) (i j b t:Nat) (cur:Array Value) (hb:β b=some (id,path)) (hh:w.heap[b]?=some (.cells cur t (0,0))) :
   VR β w (.ptr id k path i j) (.pointer (some ⟨b,i*k+j,none⟩))
 |fp (cs:List C) (b o:Nat) (f:Nat→Value) (hav:β b=none) (hlt:b<w.heap.size) (hc:∀(j:Nat) (x:C),cs[j]?=some x→w.cell? ⟨b,o+j,none⟩=some (f j))
   (hx:∀(j:Nat) (x:C),cs[j]?=some x→FR (fun b=>β b=none) w x (f j)):VR β w (.fp cs) (.pointer (some ⟨b,o,none⟩))
 |agg (cs:List AV) (us:Array Value) (f:Nat→Value) (hl:cs.length=us.size) (hu:∀(i:Nat) (x:AV),cs[i]?=some x→us[i]?=some (f i))
   (h1:∀(i:Nat) (x:AV),cs[i]?=some x→(f i).oneCell'=true) (hx:∀(i:Nat) (x:AV),cs[i]?=some x→VR β w x (f i)):VR β w (.agg cs) (.agg us)
 |tup (cs:List AV) (us:Array Value) (f:Nat→Value) (hl:cs.length=us.size) (hu:∀(i:Nat) (x:AV),cs[i]?=some x→us[i]?=some (f i))
   (hx:∀(i:Nat) (x:AV),cs[i]?=some x→VR β w x (f i)):VR β w (.tup cs) (.tuple us)
mutual
def AV.hits(q:Nat→Pth→Bool):AV→Bool
 |.sc _=>false
 |.fz _=>false
 |.fp _=>false
 |.un=>false
 |.sl id _ p _ _=>q id p
 |.ptr id _ p _ _=>q id p
 |.agg cs=>AV.hitsL q cs
 |.tup cs=>AV.hitsL q cs
def AV.hitsL(q:Nat→Pth→Bool):List AV→Bool
 |[]=>false
 |x::xs=>x.hits q||AV.hitsL q xs
end
theorem AV.hitsL_get{q:Nat→Pth→Bool}:∀{xs:List AV},AV.hitsL q xs=false→∀(i:Nat) (x:AV),xs[i]?=some x→x.hits q=false
 |[],_,i,x,hx=>by simp at hx
 |y::ys,h,0,x,hx=>by
  simp only[AV.hitsL,Bool.or_eq_false_iff]at h
  simp at hx
  exact hx▸h.1
 |y::ys,h,i+1,x,hx=>by
  simp only[AV.hitsL,Bool.or_eq_false_iff]at h
  exact AV.hitsL_get h.2 i x (by simpa using hx)
theorem VR.mono{β β':Blk}{w w':World}{v:AV}{u:Value}(q:Nat→Pth→Bool)(h:VR β w v u)(hq:v.hits q=false)
  (hF:∀b,β b=none→b<w.heap.size→β' b=none∧w'.heap[b]?=w.heap[b]?)
  (hN:w.heap.size≤w'.heap.size)
  (hA:∀id p b,q id p=false→β b=some (id,p)→β' b=some (id,p)∧∀cur t,w.heap[b]?=some (.cells cur t (0,0))→∃cur',w'.heap[b]?=some (.cells cur' t (0,0))∧cur'.size=cur.size)
  (hA':∀id p b,q id p=false→β' b=some (id,p)→β b=some (id,p)) :
  VR β' w' v u:=by
 induction h with
 |un u=>exact .un u
 |sc v=>exact .sc v
 |fz xs u h=>exact .fz xs u (h.mono hF)
 |sl id k path off len b cap t cur h0 hb hh hs ho =>
  simp only[AV.hits]at hq
  obtain⟨h1,h2⟩:=hA id path b hq hb
  obtain⟨cur',hc',hs'⟩:=h2 cur t hh
  exact .sl id k path off len b cap t cur' h0 h1 hc' (hs'.trans hs) ho
 |slN id k path h0 hb =>
  simp only[AV.hits]at hq
  exact .slN id k path h0 fun b h=>hb b (hA' id path b hq h)
 |ptr id k path i j b t cur hb hh =>
  simp only[AV.hits]at hq
  obtain⟨h1,h2⟩:=hA id path b hq hb
  obtain⟨cur',hc',hs'⟩:=h2 cur t hh
  exact .ptr id k path i j b t cur' h1 hc'
 |fp cs b o f hav hlt hc hx =>
  obtain⟨h1,h2⟩:=hF b hav hlt
  exact .fp cs b o f h1 (by omega) (fun j x hj=>cell_same (hc j x hj) h2) (fun j x hj=>(hx j x hj).mono hF)
 |agg cs us f hl hu h1 hx ih =>
  simp only[AV.hits]at hq
  exact .agg cs us f hl hu h1 fun i x hi=>ih i x hi (AV.hitsL_get hq i x hi)
 |tup cs us f hl hu hx ih =>
  simp only[AV.hits]at hq
  exact .tup cs us f hl hu fun i x hi=>ih i x hi (AV.hitsL_get hq i x hi)
def SlV(β:Blk)(w:World)(id:Nat)(path:Pth)(k n:Nat)(u:Value):Prop :=
 (u=.slice none 0 0∧n=0∧∀b,β b≠some (id,path)) ∨
 ∃b cap cur t,β b=some (id,path)∧w.heap[b]?=some (.cells cur t (0,0))∧cur.size=cap*k∧n≤cap∧u=.slice (some ⟨b,0,none⟩) n cap
def CV(β:Blk)(w:World)(id:Nat)(path:Pth)(i j:Nat)(x:C)(u:Value):Prop :=
 match x with
 |.sc v=>u=v∧v.oneCell'=true
 |.fz xs=>FR (fun b=>β b=none) w (.fz xs) u
 |.sl _ k xs=>0<k∧SlV β w id (path++[(i,j)]) k xs.length u
 |.no=>u.oneCell'=true
theorem SlV.one{β:Blk}{w:World}{id:Nat}{path:Pth}{k n:Nat}{u:Value}(h:SlV β w id path k n u):u.oneCell'=true:=by
 rcases h with ⟨rfl,_⟩|⟨_,_,_,_,_,_,_,_,rfl⟩<;>rfl
theorem CV.one{β:Blk}{w:World}{id:Nat}{path:Pth}{i j:Nat}{x:C}{u:Value}(h:CV β w id path i j x u):u.oneCell'=true:=by
 cases x with
 |sc v=>obtain⟨rfl,h⟩:=h;exact h
 |fz xs=>exact FR.one h
 |sl e k xs=>exact h.2.one
 |no=>exact h
def CellsR(R:Nat→Nat→C→Value→Prop)(k:Nat)(es:List (List C))(vs:List Value):Prop :=
 vs.length=es.length*k∧(∀r,r∈es→r.length=k)∧∀(i j:Nat) (r:List C) (x:C),es[i]?=some r→r[j]?=some x→∃u,vs[i*k+j]?=some u∧R i j x u
def RowAt(β:Blk)(w:World)(id:Nat)(path:Pth)(e k:Nat)(es:List (List C)):Prop :=
 0<k∧((es=[]∧∀b,β b≠some (id,path)) ∨
  ∃b cap cur,β b=some (id,path)∧w.heap[b]?=some (.cells cur e (0,0))∧es.length≤cap∧cap≤maxLen∧cur.size=cap*k∧CellsR (CV β w id path) k es (cur.toList.take (es.length*k)))
def nav:Nat→Nat→List (List C)→Pth→Option (Nat×Nat×List (List C))
 |e,k,es,[]=>some (e,k,es)
 |_,_,es,(i,j)::p =>
  match (es[i]?).bind (fun r=>r[j]?) with
  |some (.sl e k xs)=>nav e k xs p
  |_=>none
def SubR(β:Blk)(w:World)(id:Nat)(q:Pth)(e k:Nat)(es:List (List C)):Prop :=
 ∀s e' k' es',nav e k es s=some (e',k',es')→RowAt β w id (q++s) e' k' es'
abbrev Root:=Nat×Nat×List (List C)
structure St where
 nt:Nat
 G:Nat→Value
 tm:List (Nat×AV)
 ob:List (Nat×Root)
def lk:List (Nat×AV)→Nat→AV
 |[],_=>.un
 |(k,v)::r,t=>if k=t then v else lk r t
def lo:List (Nat×Root)→Nat→Option Root
 |[],_=>none
 |(k,v)::r,t=>if k=t then some v else lo r t
structure Rel(w0:World)(β0:Blk)(st:St)(β:Blk)(a:Act)(w:World):Prop where
 nt:a.tmps.size=st.nt
 df:a.defers=[]
 tm:∀t,VR β w (lk st.tm t) (a.tmps.getD t (st.G t))
 ob:∀id e k es,lo st.ob id=some (e,k,es)→SubR β w id [] e k es
 uq:∀b b' x,β b=some x→β b'=some x→b=b'
 lt:∀b x,β b=some x→b<w.heap.size
 fr:∀b,b<w0.heap.size→β0 b=none→w.heap[b]?=w0.heap[b]?
 old:∀b x,β b=some x→b<w0.heap.size→β0 b≠none
 hs:w0.heap.size≤w.heap.size
 os:w.os=w0.os
 tape:w.tape=w0.tape
 output:w.output=w0.output
structure Moves(β β':Blk)(w w':World)(id:Nat)(q:Pth)(id':Nat)(q':Pth):Prop where
 fz:∀b,β b=none→b<w.heap.size→β' b=none∧w'.heap[b]?=w.heap[b]?
 to:∀b s,β b=some (id,q++s)→β' b=some (id',q'++s)∧w'.heap[b]?=w.heap[b]?
 back:∀b s,β' b=some (id',q'++s)→β b=some (id,q++s)
theorem Moves.slV{β β':Blk}{w w':World}{id id':Nat}{q q':Pth}(h:Moves β β' w w' id q id' q'){s:Pth}{k n:Nat}{u:Value}
  (hv:SlV β w id (q++s) k n u):SlV β' w' id' (q'++s) k n u:=by
 rcases hv with ⟨rfl,rfl,hn⟩|⟨b,cap,cur,t,hb,hh,hs,hl,rfl⟩
 ·exact .inl ⟨rfl,rfl,fun b hb=>hn b (h.back b s hb)⟩
 ·obtain⟨h1,h2⟩:=h.to b s hb
  exact .inr ⟨b,cap,cur,t,h1,h2.trans hh,hs,hl,rfl⟩
theorem Moves.cv{β β':Blk}{w w':World}{id id':Nat}{q q':Pth}(h:Moves β β' w w' id q id' q'){s:Pth}{i j:Nat}{x:C}{u:Value}
  (hv:CV β w id (q++s) i j x u):CV β' w' id' (q'++s) i j x u:=by
 cases x with
 |sc v=>exact hv
 |fz xs=>exact FR.mono hv h.fz
 |sl e k xs =>
  obtain⟨h0,h1⟩:=hv
  refine⟨h0,?_⟩
  rw[List.append_assoc]at h1 ⊢
  exact h.slV h1
 |no=>exact hv
theorem Moves.row{β β':Blk}{w w':World}{id id':Nat}{q q':Pth}(h:Moves β β' w w' id q id' q'){s:Pth}{e k:Nat}{es:List (List C)}
  (hr:RowAt β w id (q++s) e k es):RowAt β' w' id' (q'++s) e k es:=by
 obtain⟨h0,hr⟩:=hr
 refine⟨h0,?_⟩
 rcases hr with ⟨rfl,hn⟩|⟨b,cap,cur,hb,hh,hl,hm,hs,h1,h2,h3⟩
 ·exact .inl ⟨rfl,fun b hb=>hn b (h.back b s hb)⟩
 ·obtain⟨g1,g2⟩:=h.to b s hb
  refine .inr ⟨b,cap,cur,g1,g2.trans hh,hl,hm,hs,h1,h2,fun i j r x hi hj=>?_⟩
  obtain⟨u,hu,hv⟩:=h3 i j r x hi hj
  exact⟨u,hu,h.cv hv⟩
theorem Moves.sub{β β':Blk}{w w':World}{id id':Nat}{q q':Pth}(h:Moves β β' w w' id q id' q'){s:Pth}{e k:Nat}{es:List (List C)}
  (hr:SubR β w id (q++s) e k es):SubR β' w' id' (q'++s) e k es:=by
 intro s' e' k' es' hn
 have:=hr s' e' k' es' hn
 rw[List.append_assoc]at this ⊢
 exact h.row this
end Go.Own
namespace Go.Own
def updP:List (List C)→Pth→(List (List C)→List (List C))→List (List C)
 |es,[],f=>f es
 |es,(i,j)::p,f=>es.modify i fun r=>r.modify j fun x=>match x with|.sl e k xs=>.sl e k (updP xs p f)|x=>x
structure Keeps(β β':Blk)(w w':World)(id:Nat)(t:Pth):Prop where
 fz:∀b,β b=none→b<w.heap.size→β' b=none∧w'.heap[b]?=w.heap[b]?
 to:∀b s,β b=some (id,s)→(∀r,s≠t++r)→β' b=some (id,s)∧w'.heap[b]?=w.heap[b]?
 back:∀b s,β' b=some (id,s)→(∀r,s≠t++r)→β b=some (id,s)
theorem Keeps.moves{β β':Blk}{w w':World}{id:Nat}{t q:Pth}(h:Keeps β β' w w' id t)(hq:∀s r,q++s≠t++r):Moves β β' w w' id q id q :=
 ⟨h.fz,fun b s hb=>h.to b _ hb (hq s),fun b s hb=>h.back b _ hb (hq s)⟩
theorem updP_length{f:List (List C)→List (List C)}:∀(p:Pth) {e k ep kp:Nat} {es row:List (List C)},nav e k es p=some (ep,kp,row)→(f row).length=row.length→(updP es p f).length=es.length
 |[],e,k,ep,kp,es,row,h,hl=>by
  simp only[nav,Option.some.injEq,Prod.mk.injEq]at h
  obtain⟨_,_,rfl⟩:=h
  exact hl
 |(i,j)::p,e,k,ep,kp,es,row,h,hl=>by simp[updP]
theorem nav_cons{e k i j:Nat}{p:Pth}{es:List (List C)}{z:Nat×Nat×List (List C)}(h:nav e k es ((i,j)::p)=some z) :
  ∃r e1 k1 xs,es[i]?=some r∧r[j]?=some (.sl e1 k1 xs)∧nav e1 k1 xs p=some z:=by
 simp only[nav]at h
 cases hi:es[i]? with
 |none=>simp[hi]at h
 |some r =>
  cases hj:r[j]? with
  |none=>simp[hi,hj]at h
  |some x =>
   simp only[hi,hj,Option.bind_some]at h
   cases x with
   |sl e1 k1 xs=>exact⟨r,e1,k1,xs,rfl,hj,h⟩
   |_=>simp at h
theorem nav_mk{e k i j e1 k1:Nat}{p:Pth}{es xs:List (List C)}{r:List C}(hi:es[i]?=some r)(hj:r[j]?=some (.sl e1 k1 xs)):nav e k es ((i,j)::p)=nav e1 k1 xs p:=by
 simp[nav,hi,hj]
theorem get_upd{es:List (List C)}{p:Pth}{f:List (List C)→List (List C)}{i j e1 k1:Nat}{r:List C}{xs:List (List C)}(hi:es[i]?=some r)(hj:r[j]?=some (.sl e1 k1 xs))(i' j':Nat)(r':List C)(x:C)
  (h1:(updP es ((i,j)::p) f)[i']?=some r') (h2:r'[j']?=some x) :
  (i'=i∧j'=j∧x=.sl e1 k1 (updP xs p f))∨((i'≠i∨j'≠j)∧∃r0,es[i']?=some r0∧r0[j']?=some x):=by
 simp only[updP,List.getElem?_modify]at h1
 by_cases hii:i=i'
 ·subst hii
  simp only[if_true,hi,Option.map_eq_map,Option.map_some,Option.some.injEq]at h1
  subst h1
  simp only[List.getElem?_modify]at h2
  by_cases hjj:j=j'
  ·subst hjj
   simp only[if_true,hj,Option.map_eq_map,Option.map_some,Option.some.injEq]at h2
   exact .inl ⟨rfl,rfl,h2.symm⟩
  ·simp only[hjj,if_false,Option.map_eq_map,Option.map_id']at h2
   exact .inr ⟨.inr (fun e=>hjj e.symm),r,hi,by simpa using h2⟩
 ·simp only[hii,if_false,Option.map_eq_map,Option.map_id']at h1
  exact .inr ⟨.inl (fun e=>hii e.symm),r',by simpa using h1,h2⟩
theorem upd_rows{es:List (List C)}{p:Pth}{f:List (List C)→List (List C)}{i j k:Nat}(hk:∀r,r∈es→r.length=k):∀r,r∈updP es ((i,j)::p) f→r.length=k:=by
 intro r hr
 obtain⟨n,hn⟩:=List.mem_iff_getElem?.1 hr
 simp only[updP,List.getElem?_modify]at hn
 cases h:es[n]? with
 |none=>simp[h]at hn
 |some r0 =>
  simp only[h,Option.map_eq_map,Option.map_some,Option.some.injEq]at hn
  have:=hk r0 (List.mem_of_getElem? h)
  subst hn
  split
  ·simpa using this
  ·exact this
theorem updP_sub{β β':Blk}{w w':World}{id:Nat}{f:List (List C)→List (List C)}:∀(p q:Pth) (e k ep kp:Nat) (es row:List (List C)),SubR β w id q e k es→nav e k es p=some (ep,kp,row)→(f row).length=row.length→SubR β' w' id (q++p) ep kp (f row)→Keeps β β' w w' id (q++p) →
  (∀k n u,SlV β w id (q++p) k n u→SlV β' w' id (q++p) k n u)→SubR β' w' id q e k (updP es p f)
 |[],q,e,k,ep,kp,es,row,h,hn,hl,hnew,hkeep,hslv=>by
  simp only[nav,Option.some.injEq,Prod.mk.injEq]at hn
  obtain⟨rfl,rfl,rfl⟩:=hn
  simpa[updP]using hnew
 |(i,j)::p,q,e,k,ep,kp,es,row,h,hn,hl,hnew,hkeep,hslv=>by
  obtain⟨r,e1,k1,xs,hi,hj,hn1⟩:=nav_cons hn
  have hpos:q++(i,j)::p=(q++[(i,j)])++p:=by simp
  have hin:SubR β w id (q++[(i,j)]) e1 k1 xs:=fun s e' k' es' hs=>by
   have:=h ((i,j)::s) e' k' es' (by rw[nav_mk hi hj];exact hs)
   simpa using this
  intro s
  cases s with
  |nil =>
   intro e' k' es' hs
   simp only[nav,Option.some.injEq,Prod.mk.injEq]at hs
   obtain⟨rfl,rfl,rfl⟩:=hs
   obtain⟨h0,hr⟩:=h [] e k es rfl
   refine⟨h0,?_⟩
   simp only[List.append_nil]at hr ⊢
   rcases hr with ⟨rfl,_⟩|⟨b,cap,cur,hb,hh,hlc,hm,hsz,h1,h2,h3⟩
   ·simp at hi
   ·obtain⟨g1,g2⟩:=hkeep.to b q hb (fun r hr=>by have:=congrArg List.length hr;simp at this)
    have hlen:(updP es ((i,j)::p) f).length=es.length:=by simp[updP]
    refine .inr ⟨b,cap,cur,g1,g2.trans hh,by rw[hlen];exact hlc,hm,hsz,by rw[hlen];exact h1,upd_rows h2,fun i' j' r' x hi' hj'=>?_⟩
    rw[hlen]
    rcases get_upd hi hj i' j' r' x hi' hj' with ⟨rfl,rfl,rfl⟩|⟨hne,r0,hr0,hx0⟩
    ·obtain⟨u,hu,hv⟩:=h3 i' j' r _ hi hj
     refine⟨u,hu,hv.1,?_⟩
     obtain⟨_,hv⟩:=hv
     rw[updP_length p hn1 hl]
     cases p with
     |nil=>simpa using hslv _ _ _ (by simpa using hv)
     |cons y p =>
      have hm:Moves β β' w w' id q id q→True:=fun _=>trivial
      rcases hv with ⟨rfl,hn0,hnb⟩|⟨b2,cap2,cur2,t2,hb2,hh2,hs2,hl2,rfl⟩
      ·exact .inl ⟨rfl,hn0,fun b hb=>hnb b (hkeep.back b _ hb (fun r hr=>by have:=congrArg List.length hr;simp at this))⟩
      ·obtain⟨g1,g2⟩:=hkeep.to b2 _ hb2 (fun r hr=>by have:=congrArg List.length hr;simp at this)
       exact .inr ⟨b2,cap2,cur2,t2,g1,g2.trans hh2,hs2,hl2,rfl⟩
    ·obtain⟨u,hu,hv⟩:=h3 i' j' r0 x hr0 hx0
     refine⟨u,hu,?_⟩
     cases x with
     |sc v=>exact hv
     |fz ys=>exact FR.mono hv hkeep.fz
     |no=>exact hv
     |sl e2 k2 ys =>
      obtain⟨h0',hv⟩:=hv
      refine⟨h0',?_⟩
      have hmv:Moves β β' w w' id (q++[(i',j')]) id (q++[(i',j')]):=hkeep.moves fun s r hr=>by
       simp only[List.append_assoc,List.append_cancel_left_eq,List.cons_append,List.nil_append,List.cons.injEq,Prod.mk.injEq]at hr
       rcases hne with hne|hne
       ·exact hne hr.1.1
       ·exact hne hr.1.2
      have:=hmv.slV (s:=[]) (k:=k2) (n:=ys.length) (u:=u) (by simpa using hv)
      simpa using this
  |cons ij s =>
   obtain⟨i',j'⟩:=ij
   intro e' k' es' hs
   obtain⟨r',e2,k2,ys,hi',hj',hs'⟩:=nav_cons hs
   rcases get_upd hi hj i' j' r' _ hi' hj' with ⟨rfl,rfl,hx⟩|⟨hne,r0,hr0,hx0⟩
   ·injection hx with a1 a2 a3
    subst a1 a2 a3
    have:=updP_sub p (q++[(i',j')]) _ _ ep kp xs row hin hn1 hl (by rw[←hpos];exact hnew) (by rw[←hpos];exact hkeep) (by rw[←hpos];exact hslv) s e' k' es' hs'
    simpa using this
   ·have hmv:Moves β β' w w' id (q++[(i',j')]) id (q++[(i',j')]):=hkeep.moves fun s r hr=>by
     simp only[List.append_assoc,List.append_cancel_left_eq,List.cons_append,List.nil_append,List.cons.injEq,Prod.mk.injEq]at hr
     rcases hne with hne|hne
     ·exact hne hr.1.1
     ·exact hne hr.1.2
    have hold:SubR β w id (q++[(i',j')]++[]) e2 k2 ys:=fun s e' k' es' hs=>by
     have:=h ((i',j')::s) e' k' es' (by rw[nav_mk hr0 hx0];exact hs)
     simpa using this
    have:=hmv.sub hold s e' k' es' hs'
    simpa using this
end Go.Own
namespace Go.Own
def putT(tm:List (Nat×AV))(d:Nat)(v:AV):List (Nat×AV):=(d,v)::tm
def killT(q:Nat→Pth→Bool)(tm:List (Nat×AV)):List (Nat×AV):=tm.map fun x=>(x.1,if x.2.hits q then .un else x.2)
def delO(ob:List (Nat×Root))(id:Nat):List (Nat×Root):=ob.filter fun x => !(x.1==id)
def putO(ob:List (Nat×Root))(id:Nat)(r:Root):List (Nat×Root):=(id,r)::delO ob id
theorem lk_put(tm:List (Nat×AV))(d:Nat)(v:AV)(t:Nat):lk (putT tm d v) t=if d=t then v else lk tm t:=by
 simp only[putT,lk]
theorem lk_kill(q:Nat→Pth→Bool)(t:Nat):∀(tm:List (Nat×AV)),lk (killT q tm) t=if (lk tm t).hits q then .un else lk tm t
 |[]=>by simp[killT,lk,AV.hits]
 |(k,v)::r=>by
  have ih:=lk_kill q t r
  simp only[killT,List.map_cons,lk]at ih ⊢
  split
  ·rfl
  ·exact ih
theorem lo_del(id t:Nat):∀(ob:List (Nat×Root)),lo (delO ob id) t=if id=t then none else lo ob t
 |[]=>by simp[delO,lo]
 |(k,v)::r=>by
  have ih:=lo_del id t r
  simp only[delO,List.filter_cons]at ih ⊢
  by_cases hk:k=id
  ·subst hk
   simp only[beq_self_eq_true,Bool.not_true,Bool.false_eq_true,if_false,lo,ih]
   split<;>rfl
  ·have:(!(k==id))=true:=by simpa using hk
   simp only[this,if_true,lo,ih]
   by_cases hkt:k=t
   ·subst hkt;simp[show ¬id=k from fun h=>hk h.symm]
   ·simp[hkt]
theorem lo_put(ob:List (Nat×Root))(id:Nat)(r:Root)(t:Nat):lo (putO ob id r) t=if id=t then some r else lo ob t:=by
 simp only[putO,lo,lo_del]
 split<;>simp_all
variable {w0:World}{β0:Blk}{st:St}{β:Blk}{a:Act}{w:World}
theorem getD_put(a:Act)(d t:Nat)(u g:Value)(hd:d<a.tmps.size):((a.put (some d) u).tmps).getD t g=if d=t then u else a.tmps.getD t g:=by
 simp only[Act.put,Array.getD_eq_getD_getElem?,Array.getElem?_setIfInBounds]
 split
 ·simp[hd]
 ·rfl
theorem Rel.put(h:Rel w0 β0 st β a w)(d:Nat)(hd:d<st.nt){v:AV}{u:Value}(hv:VR β w v u):Rel w0 β0 { st with tm:=putT st.tm d v } β (a.put (some d) u) w :=
 { h with
  nt:=by simp[Act.put,h.nt]
  df:=h.df
  tm:=fun t=>by
   rw[getD_put a d t u _ (by rw[h.nt];exact hd),lk_put]
   by_cases e:d=t
   ·rw[if_pos e,if_pos e];exact hv
   ·rw[if_neg e,if_neg e];exact h.tm t }
theorem Rel.change(h:Rel w0 β0 st β a w)(q:Nat→Pth→Bool)(ob':List (Nat×Root))(β':Blk)(w':World)
  (hF:∀b,β b=none→b<w.heap.size→β' b=none∧w'.heap[b]?=w.heap[b]?)
  (hN:w.heap.size≤w'.heap.size)
  (hA:∀id p b,q id p=false→β b=some (id,p)→β' b=some (id,p)∧∀cur t,w.heap[b]?=some (.cells cur t (0,0))→∃cur',w'.heap[b]?=some (.cells cur' t (0,0))∧cur'.size=cur.size)
  (hA':∀id p b,q id p=false→β' b=some (id,p)→β b=some (id,p))
  (hob:∀id e k es,lo ob' id=some (e,k,es)→SubR β' w' id [] e k es)
  (huq:∀b b' x,β' b=some x→β' b'=some x→b=b')
  (hlt:∀b x,β' b=some x→b<w'.heap.size)
  (hold:∀b x,β' b=some x→b<w.heap.size→β b≠none)
  (hos:w'.os=w.os) (htape:w'.tape=w.tape) (hout:w'.output=w.output) :
  Rel w0 β0 { st with tm:=killT q st.tm,ob:=ob' } β' a w' where
 nt:=h.nt
 df:=h.df
 tm t:=by
  rw[lk_kill]
  by_cases hq:(lk st.tm t).hits q=true
  ·rw[if_pos hq];exact .un _
  ·rw[if_neg hq]
   exact(h.tm t).mono q (by simpa using hq) hF hN hA hA'
 ob:=hob
 uq:=huq
 lt:=hlt
 fr b hb h0:=by
  have hn:β b=none:=by
   cases hx:β b with
   |none=>rfl
   |some x=>exact absurd h0 (h.old b x hx hb)
  exact(hF b hn (Nat.lt_of_lt_of_le hb h.hs)).2.trans (h.fr b hb h0)
 old b x hx hb:=by
  have:=hold b x hx (Nat.lt_of_lt_of_le hb h.hs)
  cases hy:β b with
  |none=>exact absurd hy this
  |some y=>exact h.old b y hy hb
 hs:=Nat.le_trans h.hs hN
 os:=hos.trans h.os
 tape:=htape.trans h.tape
 output:=hout.trans h.output
theorem hits_false:∀v:AV,v.hits (fun _ _=>false)=false:=by
 intro v
 exact AV.rec (motive_1:=fun v=>v.hits (fun _ _=>false)=false) (motive_2:=fun l=>AV.hitsL (fun _ _=>false) l=false)
  (fun _=>by simp[AV.hits]) (fun cs ih=>by simpa[AV.hits]using ih) (fun cs ih=>by simpa[AV.hits]using ih) (fun _=>by simp[AV.hits]) (fun _ _ _ _ _=>by simp[AV.hits])
  (fun _ _ _ _ _=>by simp[AV.hits]) (fun _=>by simp[AV.hits]) (by simp[AV.hits]) (by simp[AV.hitsL]) (fun x xs h1 h2=>by simp[AV.hitsL,h1,h2]) v
theorem Rel.change0(h:Rel w0 β0 st β a w)(ob':List (Nat×Root))(β':Blk)(w':World)
  (hF:∀b,β b=none→b<w.heap.size→β' b=none∧w'.heap[b]?=w.heap[b]?)
  (hN:w.heap.size≤w'.heap.size)
  (hA:∀id p b,β b=some (id,p)→β' b=some (id,p)∧∀cur t,w.heap[b]?=some (.cells cur t (0,0))→∃cur',w'.heap[b]?=some (.cells cur' t (0,0))∧cur'.size=cur.size)
  (hA':∀id p b,β' b=some (id,p)→β b=some (id,p))
  (hob:∀id e k es,lo ob' id=some (e,k,es)→SubR β' w' id [] e k es)
  (hos:w'.os=w.os) (htape:w'.tape=w.tape) (hout:w'.output=w.output) :
  Rel w0 β0 { st with ob:=ob' } β' a w':=by
 have:=h.change (fun _ _=>false) ob' β' w' hF hN (fun id p b _=>hA id p b) (fun id p b _=>hA' id p b) hob
  (fun b b' x hb hb'=>h.uq b b' x (hA' x.1 x.2 b hb) (hA' x.1 x.2 b' hb'))
  (fun b x hb=>Nat.lt_of_lt_of_le (h.lt b x (hA' x.1 x.2 b hb)) hN)
  (fun b x hb _=>by rw[hA' x.1 x.2 b hb];simp) hos htape hout
 exact{ this with tm:=fun t=>by have:=this.tm t;rw[lk_kill,hits_false]at this;simpa using this }
theorem Rel.drew(h:Rel w0 β0 st β a w):Rel w0 β0 st β a w.drew :=
 h.change0 st.ob β w.drew (fun b hb _=>⟨hb,rfl⟩) (Nat.le_refl _) (fun id p b hb=>⟨hb,fun cur t hc=>⟨cur,hc,rfl⟩⟩) (fun id p b hb=>hb)
  (fun id e k es he=>by
   have hm:Moves β β w w.drew id [] id []:=⟨fun b hb _=>⟨hb,rfl⟩,fun b s hb=>⟨hb,rfl⟩,fun b s hb=>hb⟩
   have:=hm.sub (s:=[]) (by simpa using h.ob id e k es he)
   simpa using this) rfl rfl rfl
end Go.Own
namespace Go.Own
theorem idx_inj{i j i' j' k:Nat}(hj:j<k)(hj':j'<k)(h:i*k+j=i'*k+j'):i=i'∧j=j':=by
 have h1:(i*k+j) / k=i:=by rw[Nat.mul_comm,Nat.mul_add_div (by omega),Nat.div_eq_of_lt hj,Nat.add_zero]
 have h2:(i'*k+j') / k=i':=by rw[Nat.mul_comm,Nat.mul_add_div (by omega),Nat.div_eq_of_lt hj',Nat.add_zero]
 have:i=i':=by rw[←h1,←h2,h]
 subst this
 exact⟨rfl,by omega⟩
def setCell(i j:Nat)(x:C)(row:List (List C)):List (List C):=row.modify i fun r=>r.set j x
theorem setCell_length(i j:Nat)(x:C)(row:List (List C)):(setCell i j x row).length=row.length:=by simp[setCell]
theorem setCell_get{i j:Nat}{x:C}{row:List (List C)}{i' j':Nat}{r':List C}{y:C}(h1:(setCell i j x row)[i']?=some r')(h2:r'[j']?=some y) :
  (i'=i∧j'=j∧y=x)∨((i'≠i∨j'≠j)∧∃r0,row[i']?=some r0∧r0[j']?=some y):=by
 simp only[setCell,List.getElem?_modify]at h1
 by_cases hii:i=i'
 ·subst hii
  cases hr:row[i]? with
  |none=>simp[hr]at h1
  |some r0 =>
   simp only[hr,if_true,Option.map_eq_map,Option.map_some,Option.some.injEq]at h1
   subst h1
   rw[List.getElem?_set]at h2
   by_cases hjj:j=j'
   ·subst hjj
    simp only[if_true]at h2
    split at h2
    ·exact .inl ⟨rfl,rfl,by simpa using h2.symm⟩
    ·simp at h2
   ·rw[if_neg hjj]at h2
    exact .inr ⟨.inr (fun e=>hjj e.symm),r0,rfl,h2⟩
 ·simp only[hii,if_false,Option.map_eq_map,Option.map_id']at h1
  exact .inr ⟨.inl (fun e=>hii e.symm),r',by simpa using h1,h2⟩
theorem setCell_rows{i j k:Nat}{x:C}{row:List (List C)}(hk:∀r,r∈row→r.length=k):∀r,r∈setCell i j x row→r.length=k:=by
 intro r hr
 obtain⟨n,hn⟩:=List.mem_iff_getElem?.1 hr
 simp only[setCell,List.getElem?_modify]at hn
 cases h:row[n]? with
 |none=>simp[h]at hn
 |some r0 =>
  simp only[h,Option.map_eq_map,Option.map_some,Option.some.injEq]at hn
  have:=hk r0 (List.mem_of_getElem? h)
  subst hn
  split
  ·simpa using this
  ·exact this
variable {w0:World}{β0:Blk}{st:St}{β β':Blk}{a:Act}{w w':World}
theorem cell_root{id e k ep kp i j b t:Nat}{es row:List (List C)}{path:Pth}{cur cur':Array Value}{u:Value}{x:C}
  (old:SubR β w id [] e k es) (hn:nav e k es path=some (ep,kp,row)) (hj:j<kp) (hb:β b=some (id,path))
  (hh:w.heap[b]?=some (.cells cur t (0,0))) (hh':w'.heap[b]?=some (.cells cur' t (0,0))) (hs:cur'.size=cur.size)
  (ho:∀m,m≠i*kp+j→cur'[m]?=cur[m]?) (hu:cur'[i*kp+j]?=some u) (uq:∀b b' x,β b=some x→β b'=some x→b=b')
  (fz:∀b',β b'=none→b'<w.heap.size→β' b'=none∧w'.heap[b']?=w.heap[b']?)
  (to:∀b' s,β b'=some (id,s)→(∀r,s≠path++(i,j)::r)→β' b'=some (id,s)∧(b'≠b→w'.heap[b']?=w.heap[b']?))
  (back:∀b' s,β' b'=some (id,s)→(∀r,s≠path++(i,j)::r)→β b'=some (id,s))
  (hcell:CV β' w' id path i j x u) (hx:∀e1 k1 xs,x=.sl e1 k1 xs→SubR β' w' id (path++[(i,j)]) e1 k1 xs) :
  SubR β' w' id [] e k (updP es path (setCell i j x)):=by
 have hpb:∀(r:Pth),path≠path++(i,j)::r:=fun r hr=>by have:=congrArg List.length hr;simp at this
 have hne:∀b' s,β b'=some (id,s)→s≠path→b'≠b:=fun b' s h1 h2 h3=>by subst h3;rw[hb]at h1;injection h1 with h1;injection h1 with _ h1;exact h2 h1.symm
 refine updP_sub path [] e k ep kp es row old hn (setCell_length ..) ?_ ⟨fz,?_,?_⟩ ?_
 ·intro s
  simp only[List.nil_append]
  have hrow:=old path ep kp row hn
  simp only[List.nil_append]at hrow
  cases s with
  |nil =>
   intro e' k' es' hs'
   simp only[nav,Option.some.injEq,Prod.mk.injEq]at hs'
   obtain⟨rfl,rfl,rfl⟩:=hs'
   simp only[List.append_nil]
   obtain⟨h0,hr⟩:=hrow
   refine⟨h0,?_⟩
   rcases hr with ⟨rfl,hnb⟩|⟨b2,cap,cur2,hb2,hh2,hl,hm,hsz,h1,h2,h3⟩
   ·exact absurd hb (hnb b)
   ·obtain rfl:=uq b2 b _ hb2 hb
    rw[hh]at hh2
    injection hh2 with hh2
    injection hh2 with e1 e2
    subst e1 e2
    refine .inr ⟨b2,cap,cur',(to b2 path hb hpb).1,hh',by rw[setCell_length];exact hl,hm,hs.trans hsz,?_,setCell_rows h2,?_⟩
    ·rw[setCell_length,←h1];simp[hs]
    ·intro i' j' r' y hi' hj'
     rw[setCell_length]
     have hjk:j'<kp:=by
      have:=setCell_rows (i:=i) (j:=j) (x:=x) h2 r' (List.mem_of_getElem? hi')
      have:=(List.getElem?_eq_some_iff.1 hj').1
      omega
     have hil:i'<row.length:=by have:=(List.getElem?_eq_some_iff.1 hi').1;rwa [setCell_length]at this
     have hlt:i'*kp+j'<row.length*kp:=by
      have h:=Nat.mul_le_mul_right kp (show i'+1≤row.length from hil)
      rw[Nat.add_mul,Nat.one_mul]at h
      omega
     rcases setCell_get hi' hj' with ⟨rfl,rfl,rfl⟩|⟨hne2,r0,hr0,hy0⟩
     ·refine⟨u,?_,hcell⟩
      rw[List.getElem?_take_of_lt hlt]
      simpa using hu
     ·obtain⟨u',hu',hv'⟩:=h3 i' j' r0 y hr0 hy0
      refine⟨u',?_,?_⟩
      ·rw[List.getElem?_take_of_lt hlt]at hu' ⊢
       have:=ho (i'*kp+j') (fun h=>by
        obtain⟨a1,a2⟩:=idx_inj hjk hj h
        rcases hne2 with g|g
        ·exact g a1
        ·exact g a2)
       simpa[this]using hu'
      ·cases y with
       |sc v=>exact hv'
       |fz ys=>exact FR.mono hv' fz
       |no=>exact hv'
       |sl e2 k2 ys =>
        obtain⟨g0,hv'⟩:=hv'
        have hnp:∀r,path++[(i',j')]≠path++(i,j)::r:=fun r hr=>by
         simp only[List.append_cancel_left_eq,List.cons.injEq,Prod.mk.injEq]at hr
         rcases hne2 with g|g
         ·exact g hr.1.1
         ·exact g hr.1.2
        refine⟨g0,?_⟩
        rcases hv' with ⟨rfl,hn0,hnb⟩|⟨b3,cap3,cur3,t3,hb3,hh3,hs3,hl3,rfl⟩
        ·exact .inl ⟨rfl,hn0,fun b hb=>hnb b (back b _ hb hnp)⟩
        ·obtain⟨g1,g2⟩:=to b3 _ hb3 hnp
         exact .inr ⟨b3,cap3,cur3,t3,g1,(g2 (hne b3 _ hb3 (fun h=>by simp at h))).trans hh3,hs3,hl3,rfl⟩
  |cons ij s =>
   obtain⟨i',j'⟩:=ij
   intro e' k' es' hs'
   obtain⟨r',e2,k2,ys,hi',hj',hs2⟩:=nav_cons hs'
   rcases setCell_get hi' hj' with ⟨rfl,rfl,hxe⟩|⟨hne2,r0,hr0,hy0⟩
   ·have:=hx e2 k2 ys hxe.symm s e' k' es' hs2
    simpa using this
   ·have hmv:Moves β β' w w' id (path++[(i',j')]) id (path++[(i',j')]):=by
     have hnp:∀s r,path++[(i',j')]++s≠path++(i,j)::r:=fun s r hr=>by
      simp only[List.append_assoc,List.append_cancel_left_eq,List.cons_append,List.nil_append,List.cons.injEq,Prod.mk.injEq]at hr
      rcases hne2 with g|g
      ·exact g hr.1.1
      ·exact g hr.1.2
     exact⟨fz,fun b s hb=>by
      obtain⟨g1,g2⟩:=to b _ hb (hnp s)
      exact⟨g1,g2 (hne b _ hb (fun h=>by have:=congrArg List.length h;simp at this))⟩,fun b s hb=>back b _ hb (hnp s)⟩
    have hold2:SubR β w id (path++[(i',j')]++[]) e2 k2 ys:=fun s e' k' es' hs=>by
     have hnav:nav e k es (path++(i',j')::s)=some (e',k',es'):=by
      have:∀(p:Pth) (e k:Nat) (es:List (List C)),nav e k es p=some (ep,kp,row)→nav e k es (p++(i',j')::s)=nav ep kp row ((i',j')::s):=by
       intro p
       induction p with
       |nil=>intro e k es h;simp only[nav,Option.some.injEq,Prod.mk.injEq]at h;obtain⟨rfl,rfl,rfl⟩:=h;rfl
       |cons y p ih =>
        intro e k es h
        obtain⟨y1,y2⟩:=y
        obtain⟨r1,e5,k5,xs5,g1,g2,g3⟩:=nav_cons h
        rw[List.cons_append,nav_mk g1 g2]
        exact ih _ _ _ g3
      rw[this path e k es hn,nav_mk hr0 hy0]
      exact hs
     have:=old _ e' k' es' hnav
     simpa using this
    have:=hmv.sub hold2 s e' k' es' hs2
    simpa using this
 ·intro b' s h1 h2
  have hnp:∀r,s≠path++(i,j)::r:=fun r hr=>h2 ((i,j)::r) (by simpa using hr)
  obtain⟨g1,g2⟩:=to b' s h1 hnp
  exact⟨g1,g2 (hne b' s h1 (fun h=>h2 [] (by simpa using h)))⟩
 ·intro b' s h1 h2
  exact back b' s h1 (fun r hr=>h2 ((i,j)::r) (by simpa using hr))
 ·intro k3 n3 u3 h3
  simp only[List.nil_append]at h3 ⊢
  rcases h3 with ⟨rfl,_,hnb⟩|⟨b3,cap3,cur3,t3,hb3,hh3,hs3,hl3,rfl⟩
  ·exact absurd hb (hnb b)
  ·obtain rfl:=uq b3 b _ hb3 hb
   rw[hh]at hh3
   injection hh3 with hh3
   injection hh3 with e1 e2
   subst e1
   exact .inr ⟨b3,cap3,cur',t,(to b3 path hb hpb).1,hh',hs.trans hs3,hl3,rfl⟩
end Go.Own
namespace Go.Own
variable {w0:World}{β0:Blk}{st:St}{β:Blk}{a:Act}{w w':World}
structure OneCell(w w':World)(b t m:Nat)(cur cur':Array Value)(u:Value):Prop where
 hh:w.heap[b]?=some (.cells cur t (0,0))
 hh':w'.heap[b]?=some (.cells cur' t (0,0))
 hs:cur'.size=cur.size
 ho:∀m',m'≠m→cur'[m']?=cur[m']?
 hu:cur'[m]?=some u
 rest:∀b',b'≠b→w'.heap[b']?=w.heap[b']?
 size:w'.heap.size=w.heap.size
 os:w'.os=w.os
 tape:w'.tape=w.tape
 output:w'.output=w.output
theorem OneCell.refl{b t m:Nat}{cur:Array Value}{u:Value}(hh:w.heap[b]?=some (.cells cur t (0,0)))(hu:cur[m]?=some u):OneCell w w b t m cur cur u :=
 ⟨hh,hh,rfl,fun _ _=>rfl,hu,fun _ _=>rfl,rfl,rfl,rfl,rfl⟩
theorem OneCell.store{b t m:Nat}{cur:Array Value}{u:Value}(hh:w.heap[b]?=some (.cells cur t (0,0)))(hm:m<cur.size) :
  OneCell w (w.setCell ⟨b,m,none⟩ u) b t m cur (cur.setIfInBounds m u) u :=
 ⟨hh,heap_setCell_same w b m cur t u hh,by simp,fun m' h=>by rw[Array.getElem?_setIfInBounds_ne (fun e=>h e.symm)],by simp[hm],fun b' h=>heap_setCell_other w ⟨b,m,none⟩ b' u h,by simp,rfl,rfl,rfl⟩
def Plain(β:Blk)(w:World):C→Value→Prop
 |.sc v,u=>u=v∧v.oneCell'=true
 |.fz xs,u=>FR (fun b=>β b=none) w (.fz xs) u
 |.no,u=>u.oneCell'=true
 |.sl ..,_=>False
theorem Plain.cv{β':Blk}{x:C}{u:Value}(h:Plain β w x u)(fz:∀b',β b'=none→b'<w.heap.size→β' b'=none∧w'.heap[b']?=w.heap[b']?)(id:Nat)(path:Pth)(i j:Nat):CV β' w' id path i j x u:=by
 cases x with
 |sc v=>exact h
 |fz xs=>exact FR.mono h fz
 |no=>exact h
 |sl=>exact h.elim
theorem Rel.cell(h:Rel w0 β0 st β a w){id e k ep kp i j b t:Nat}{es row:List (List C)}{path:Pth}{cur cur':Array Value}{u:Value}{x:C}
  (hlo:lo st.ob id=some (e,k,es)) (hn:nav e k es path=some (ep,kp,row)) (hj:j<kp) (hb:β b=some (id,path))
  (hc:OneCell w w' b t (i*kp+j) cur cur' u) (hx:Plain β w x u) :
  Rel w0 β0 { st with ob:=putO st.ob id (e,k,updP es path (setCell i j x)) } β a w':=by
 have fz:∀b',β b'=none→b'<w.heap.size→β b'=none∧w'.heap[b']?=w.heap[b']?:=fun b' h0 _=>⟨h0,hc.rest b' (fun e=>by rw[e,hb]at h0;simp at h0)⟩
 refine h.change0 _ β w' fz (by rw[hc.size];omega) ?_ (fun _ _ _ h=>h) ?_ hc.os hc.tape hc.output
 ·intro id' p b' hb'
  refine⟨hb',fun cur2 t2 h2=>?_⟩
  by_cases e:b'=b
  ·subst e
   rw[hc.hh]at h2
   injection h2 with h2
   injection h2 with e1 e2
   subst e1 e2
   exact⟨cur',hc.hh',hc.hs⟩
  ·exact⟨cur2,by rw[hc.rest b' e];exact h2,rfl⟩
 ·intro id' e' k' es' hl
  rw[lo_put]at hl
  by_cases hid:id=id'
  ·subst hid
   rw[if_pos rfl]at hl
   injection hl with hl
   injection hl with e1 hl
   injection hl with e2 e3
   subst e1 e2 e3
   exact cell_root (h.ob id e k es hlo) hn hj hb hc.hh hc.hh' hc.hs hc.ho hc.hu h.uq fz (fun b' s h1 _=>⟨h1,fun hne=>hc.rest b' hne⟩) (fun _ _ h1 _=>h1)
    (hx.cv fz ..) (fun e1 k1 xs hxe=>by subst hxe;exact hx.elim)
  ·rw[if_neg hid]at hl
   have hm:Moves β β w w' id' [] id' []:=⟨fz,fun b' s hb'=>⟨hb',hc.rest b' (fun e=>by
    rw[e,hb]at hb'
    injection hb' with hb'
    injection hb' with hb' _
    exact hid hb')⟩,fun _ _ h=>h⟩
   have:=hm.sub (s:=[]) (by simpa using h.ob id' e' k' es' hl)
   simpa using this
def under(cp p:Pth):Bool:=cp.isPrefixOf p
theorem under_iff{cp p:Pth}:under cp p=true↔∃r,p=cp++r:=by
 unfold under
 rw[List.isPrefixOf_iff_prefix]
 exact⟨fun ⟨r,hr⟩=>⟨r,hr.symm⟩,fun ⟨r,hr⟩=>⟨r,hr.symm⟩⟩
def moved(sid id:Nat)(cp:Pth)(β:Blk):Blk:=fun b =>
 match β b with
 |none=>none
 |some (i0,p)=>if i0=sid then some (id,cp++p) else if i0=id∧under cp p=true then none else some (i0,p)
theorem slV_of_vr{id k len:Nat}{path:Pth}{u:Value}(h:VR β w (.sl id k path 0 len) u):0<k∧SlV β w id path k len u:=by
 cases h with
 |sl _ _ _ _ _ b cap t cur h0 hb hh hs ho=>exact⟨h0,.inr ⟨b,cap,cur,t,hb,hh,hs,by omega,by simp⟩⟩
 |slN _ _ _ h0 hb=>exact⟨h0,.inl ⟨rfl,rfl,hb⟩⟩
theorem Rel.move(h:Rel w0 β0 st β a w){id sid e k ep kp i j b t se sk:Nat}{es row ses:List (List C)}{path:Pth}{cur cur':Array Value}{u:Value}
  (hlo:lo st.ob id=some (e,k,es)) (hn:nav e k es path=some (ep,kp,row)) (hj:j<kp) (hb:β b=some (id,path))
  (hc:OneCell w w' b t (i*kp+j) cur cur' u) (hsi:sid≠id) (hls:lo st.ob sid=some (se,sk,ses)) (hu:VR β w (.sl sid sk [] 0 ses.length) u) :
  Rel w0 β0 { st with tm:=killT (fun i p=>i==sid||(i==id && !p.isEmpty)) st.tm,ob:=putO (delO st.ob sid) id (e,k,updP es path (setCell i j (.sl se sk ses))) } (moved sid id (path++[(i,j)]) β) a w':=by
 have hpb:∀(r:Pth),path≠path++(i,j)::r:=fun r hr=>by have:=congrArg List.length hr;simp at this
 have hcp:∀r,path++[(i,j)]++r=path++(i,j)::r:=fun r=>by simp
 have fz:∀b',β b'=none→b'<w.heap.size→moved sid id (path++[(i,j)]) β b'=none∧w'.heap[b']?=w.heap[b']?:=fun b' h0 _ =>
  ⟨by simp[moved,h0],hc.rest b' (fun e=>by rw[e,hb]at h0;simp at h0)⟩
 have to:∀b' s,β b'=some (id,s)→(∀r,s≠path++(i,j)::r)→moved sid id (path++[(i,j)]) β b'=some (id,s):=fun b' s h1 h2=>by
  have hu:under (path++[(i,j)]) s=false:=by
   cases hc:under (path++[(i,j)]) s with
   |false=>rfl
   |true=>obtain⟨r,hr⟩:=under_iff.1 hc;exact absurd (hr.trans (hcp r)) (h2 r)
  simp[moved,h1,show ¬id=sid from fun e=>hsi e.symm,hu]
 have back:∀b' s,moved sid id (path++[(i,j)]) β b'=some (id,s)→(∀r,s≠path++(i,j)::r)→β b'=some (id,s):=fun b' s h1 h2=>by
  simp only[moved]at h1
  split at h1
  ·simp at h1
  ·rename_i i0 p hp
   split at h1
   ·injection h1 with h1;injection h1 with _ h1
    exact absurd (h1.symm.trans (hcp p)) (h2 p)
   ·split at h1
    ·simp at h1
    ·rw[hp];exact h1
 have hms:Moves β (moved sid id (path++[(i,j)]) β) w w' sid [] id (path++[(i,j)]):=by
  refine⟨fz,fun b' s hb'=>?_,fun b' s hb'=>?_⟩
  ·simp only[List.nil_append]at hb'
   exact⟨by simp[moved,hb'],hc.rest b' (fun e=>by rw[e,hb]at hb';injection hb' with hb';injection hb' with hb' _;exact hsi hb'.symm)⟩
  ·simp only[moved]at hb'
   split at hb'
   ·simp at hb'
   ·rename_i i0 p hp
    split at hb'
    ·rename_i he
     injection hb' with hb';injection hb' with _ hb'
     simp only[List.append_cancel_left_eq]at hb'
     subst hb' he
     simpa using hp
    ·split at hb'
     ·simp at hb'
     ·rename_i he hne
      injection hb' with hb';injection hb' with e1 e2
      exact absurd ⟨e1,under_iff.2 ⟨s,e2⟩⟩ hne
 have hcell:CV (moved sid id (path++[(i,j)]) β) w' id path i j (.sl se sk ses) u:=by
  obtain⟨g0,g1⟩:=slV_of_vr hu
  exact⟨g0,by have:=hms.slV (s:=[]) (by simpa using g1);simpa using this⟩
 refine h.change _ _ _ w' fz (by rw[hc.size];omega) ?_ ?_ ?_ ?_ ?_ ?_ hc.os hc.tape hc.output
 ·intro id' p b' hq hb'
  simp only[Bool.or_eq_false_iff,Bool.and_eq_false_iff,beq_eq_false_iff_ne,Bool.not_eq_false']at hq
  obtain⟨h1,h2⟩:=hq
  refine⟨?_,fun cur2 t2 hh2=>?_⟩
  ·have hnu:¬(id'=id∧under (path++[(i,j)]) p=true):=fun ⟨e1,e2⟩=>by
    rcases h2 with h2|h2
    ·exact h2 e1
    ·obtain⟨r,hr⟩:=under_iff.1 e2
     subst hr
     simp at h2
   simp only[moved,hb',h1,if_false]
   rw[if_neg hnu]
  ·by_cases e:b'=b
   ·subst e
    rw[hc.hh]at hh2
    injection hh2 with hh2
    injection hh2 with e1 e2
    subst e1 e2
    exact⟨cur',hc.hh',hc.hs⟩
   ·exact⟨cur2,by rw[hc.rest b' e];exact hh2,rfl⟩
 ·intro id' p b' hq hb'
  simp only[Bool.or_eq_false_iff,Bool.and_eq_false_iff,beq_eq_false_iff_ne,Bool.not_eq_false']at hq
  obtain⟨h1,h2⟩:=hq
  simp only[moved]at hb'
  split at hb'
  ·simp at hb'
  ·rename_i i0 p0 hp
   split at hb'
   ·injection hb' with hb';injection hb' with e1 e2
    rcases h2 with h2|h2
    ·exact absurd e1.symm h2
    ·subst e2;simp at h2
   ·split at hb'
    ·simp at hb'
    ·rw[hp];exact hb'
 ·intro id' e' k' es' hl
  rw[lo_put,lo_del]at hl
  by_cases hid:id=id'
  ·subst hid
   rw[if_pos rfl]at hl
   injection hl with hl
   injection hl with e1 hl
   injection hl with e2 e3
   subst e1 e2 e3
   refine cell_root (h.ob id e k es hlo) hn hj hb hc.hh hc.hh' hc.hs hc.ho hc.hu h.uq fz (fun b' s h1 h2=>⟨to b' s h1 h2,fun hne=>hc.rest b' hne⟩) back hcell ?_
   intro e1 k1 xs hxe
   injection hxe with e1 e2 e3
   subst e1 e2 e3
   have:=hms.sub (s:=[]) (by simpa using h.ob sid se sk ses hls)
   simpa using this
  ·rw[if_neg hid]at hl
   by_cases hid2:sid=id'
   ·rw[if_pos hid2]at hl;simp at hl
   ·rw[if_neg hid2]at hl
    have hm:Moves β (moved sid id (path++[(i,j)]) β) w w' id' [] id' []:=by
     refine⟨fz,fun b' s hb'=>⟨?_,hc.rest b' (fun e=>by
      rw[e,hb]at hb'
      injection hb' with hb'
      injection hb' with hb' _
      exact hid hb')⟩,fun b' s hb'=>?_⟩
     ·simp only[moved,hb',show ¬id'=sid from fun e=>hid2 e.symm,if_false,show ¬id'=id from fun e=>hid e.symm,false_and]
     ·simp only[moved]at hb'
      split at hb'
      ·simp at hb'
      ·rename_i i0 p hp
       split at hb'
       ·injection hb' with hb';injection hb' with e1 _;exact absurd e1 hid
       ·split at hb'
        ·simp at hb'
        ·rw[hp];exact hb'
    have:=hm.sub (s:=[]) (by simpa using h.ob id' e' k' es' hl)
    simpa using this
 ·intro b1 b2 x h1 h2
  simp only[moved]at h1 h2
  split at h1
  ·simp at h1
  ·rename_i i1 p1 hp1
   split at h2
   ·simp at h2
   ·rename_i i2 p2 hp2
    have key:∀{i p},β b1=some (i,p)→β b2=some (i,p)→b1=b2:=fun g1 g2=>h.uq b1 b2 _ g1 g2
    split at h1
    ·rename_i g1
     split at h2
     ·rename_i g2
      rw[←h2]at h1
      injection h1 with h1;injection h1 with _ h1
      simp only[List.append_cancel_left_eq]at h1
      subst h1 g1
      rw[g2]at hp2
      exact key hp1 hp2
     ·split at h2
      ·simp at h2
      ·rename_i g2 g3
       rw[←h2]at h1
       injection h1 with h1;injection h1 with e1 e2
       exact absurd ⟨e1.symm,under_iff.2 ⟨p1,e2.symm⟩⟩ g3
    ·split at h1
     ·simp at h1
     ·rename_i g1 g3
      split at h2
      ·rename_i g2
       rw[←h1]at h2
       injection h2 with h2;injection h2 with e1 e2
       exact absurd ⟨e1.symm,under_iff.2 ⟨p2,e2.symm⟩⟩ g3
      ·split at h2
       ·simp at h2
       ·rw[←h2]at h1
        injection h1 with h1;injection h1 with e1 e2
        subst e1 e2
        exact key hp1 hp2
 ·intro b' x hb'
  rw[hc.size]
  simp only[moved]at hb'
  split at hb'
  ·simp at hb'
  ·rename_i i0 p hp
   exact h.lt b' _ hp
 ·intro b' x hb' _ h0
  simp[moved,h0]at hb'
def newR(n id:Nat)(β:Blk):Blk:=fun b =>
 if b=n then some (id,[]) else match β b with
  |none=>none
  |some (i,p)=>if i=id then none else some (i,p)
theorem Rel.newP(h:Rel w0 β0 st β a w)(id e k cap:Nat)(cells:Array Value)(es:List (List C))(hk:0<k)(hs:cells.size=cap*k)(hn:cap≤maxLen)(hle:es.length≤cap)
  (hrows:∀r,r∈es→r.length=k) (h1:∀(i j:Nat) (r:List C) (x:C),es[i]?=some r→r[j]?=some x→∃u,cells[i*k+j]?=some u∧Plain β w x u) :
  Rel w0 β0 { st with tm:=killT (fun i _=>i==id) st.tm,ob:=putO st.ob id (e,k,es) } (newR w.heap.size id β) a (w.alloc (.cells cells e)):=by
 have hold:∀b,b<w.heap.size→(w.alloc (.cells cells e)).heap[b]?=w.heap[b]?:=fun b hb=>heap_alloc_old w _ b hb
 have hnn:∀b x,β b=some x→b≠w.heap.size:=fun b x hb e=>by have:=h.lt b x hb;omega
 refine h.change _ _ _ _ ?_ (by simp) ?_ ?_ ?_ ?_ ?_ ?_ rfl rfl rfl
 ·intro b hb hlt
  exact⟨by simp[newR,hb,Nat.ne_of_lt hlt],hold b hlt⟩
 ·intro id' p b hq hb
  have hlt:=h.lt b _ hb
  have hne:id'≠id:=by simpa using hq
  exact⟨by simp[newR,hb,Nat.ne_of_lt hlt,hne],fun cur t hc=>⟨cur,by rw[hold b hlt];exact hc,rfl⟩⟩
 ·intro id' p b hq hb
  have hne:id'≠id:=by simpa using hq
  simp only[newR]at hb
  split at hb
  ·injection hb with hb;injection hb with hb _;exact absurd hb.symm hne
  ·split at hb
   ·simp at hb
   ·rename_i hp
    split at hb
    ·simp at hb
    ·rw[hp];exact hb
 ·intro id' e' k' es' hl
  rw[lo_put]at hl
  by_cases hid:id=id'
  ·subst hid
   rw[if_pos rfl]at hl
   injection hl with hl
   injection hl with e1 hl
   injection hl with e2 e3
   subst e1 e2 e3
   intro s e' k' es' hs'
   cases s with
   |nil =>
    simp only[nav,Option.some.injEq,Prod.mk.injEq]at hs'
    obtain⟨rfl,rfl,rfl⟩:=hs'
    refine⟨hk,.inr ⟨w.heap.size,cap,cells,by simp[newR],heap_alloc_new w _,hle,hn,hs,?_⟩⟩
    refine⟨?_,hrows,fun i j r x hi hj=>?_⟩
    ·have:=Nat.mul_le_mul_right k hle
     have h2:cells.toList.length=cap*k:=by simp[hs]
     rw[List.length_take,h2];exact Nat.min_eq_left this
    ·have hi':=(List.getElem?_eq_some_iff.1 hi).1
     have hj':=(List.getElem?_eq_some_iff.1 hj).1
     have hr:=hrows r (List.mem_of_getElem? hi)
     obtain⟨u,hu,hv⟩:=h1 i j r x hi hj
     have hlt:i*k+j<es.length*k:=by
      have:=Nat.mul_le_mul_right k (show i+1≤es.length from hi')
      rw[Nat.add_mul,Nat.one_mul]at this
      omega
     refine⟨u,?_,hv.cv (fun b hb hlt=>⟨by simp[newR,hb,Nat.ne_of_lt hlt],hold b hlt⟩) ..⟩
     rw[List.getElem?_take_of_lt hlt]
     simpa using hu
   |cons ij s =>
    obtain⟨i,j⟩:=ij
    obtain⟨r,e1,k1,xs,hi,hj,_⟩:=nav_cons hs'
    obtain⟨u,_,hv⟩:=h1 i j r _ hi hj
    exact hv.elim
  ·rw[if_neg hid]at hl
   have hm:Moves β (newR w.heap.size id β) w (w.alloc (.cells cells e)) id' [] id' []:=by
    refine⟨fun b hb hlt=>⟨by simp[newR,hb,Nat.ne_of_lt hlt],hold b hlt⟩,fun b s hb=>?_,fun b s hb=>?_⟩
    ·have hlt:=h.lt b _ hb
     exact⟨by simp[newR,hb,Nat.ne_of_lt hlt,show ¬id'=id from fun e=>hid e.symm],hold b hlt⟩
    ·simp only[newR]at hb
     split at hb
     ·injection hb with hb;injection hb with hb _;exact absurd hb hid
     ·split at hb
      ·simp at hb
      ·rename_i hp
       split at hb
       ·simp at hb
       ·rw[hp];exact hb
   have:=hm.sub (s:=[]) (by simpa using h.ob id' e' k' es' hl)
   simpa using this
 ·intro b1 b2 x hb1 hb2
  have back:∀b,newR w.heap.size id β b=some x→(b=w.heap.size∧x=(id,[]))∨(β b=some x∧x.1≠id):=fun b hb=>by
   simp only[newR]at hb
   split at hb
   ·rename_i e;injection hb with hb;exact .inl ⟨e,hb.symm⟩
   ·split at hb
    ·simp at hb
    ·rename_i hp
     split at hb
     ·simp at hb
     ·rename_i hne;injection hb with hb;subst hb;exact .inr ⟨hp,hne⟩
  rcases back b1 hb1 with ⟨g1,g2⟩|⟨g1,g2⟩<;>rcases back b2 hb2 with ⟨g3,g4⟩|⟨g3,g4⟩
  ·rw[g1,g3]
  ·rw[g2]at g4;exact absurd rfl g4
  ·rw[g4]at g2;exact absurd rfl g2
  ·exact h.uq b1 b2 x g1 g3
 ·intro b x hb
  simp only[World.size_alloc]
  simp only[newR]at hb
  split at hb
  ·omega
  ·split at hb
   ·simp at hb
   ·rename_i hp;have:=h.lt b _ hp;omega
 ·intro b x hb hlt h0
  simp[newR,Nat.ne_of_lt hlt,h0]at hb
theorem Rel.new(h:Rel w0 β0 st β a w)(id e k n:Nat)(cells:Array Value)(hk:0<k)(hs:cells.size=n*k)(hn:n≤maxLen)(h1:∀u,u∈cells→u.oneCell'=true) :
  Rel w0 β0 { st with tm:=killT (fun i _=>i==id) st.tm,ob:=putO st.ob id (e,k,List.replicate n (List.replicate k .no)) } (newR w.heap.size id β) a (w.alloc (.cells cells e)):=by
 refine h.newP id e k n cells _ hk hs hn (by simp) (fun r hr=>by rw[List.eq_of_mem_replicate hr];simp) fun i j r x hi hj=>?_
 have hi':=(List.getElem?_eq_some_iff.1 hi).1
 simp only[List.length_replicate]at hi'
 rw[List.getElem?_replicate,if_pos hi']at hi
 injection hi with hi
 subst hi
 have hj':=(List.getElem?_eq_some_iff.1 hj).1
 simp only[List.length_replicate]at hj'
 rw[List.getElem?_replicate,if_pos hj']at hj
 injection hj with hj
 subst hj
 have hlt:i*k+j<n*k:=by
  have:=Nat.mul_le_mul_right k (show i+1≤n from hi')
  rw[Nat.add_mul,Nat.one_mul]at this
  omega
 have hsz:i*k+j<cells.size:=by omega
 exact⟨cells[i*k+j],by simp[hsz],h1 _ (Array.getElem_mem hsz)⟩
end Go.Own
namespace Go.Own
variable {w0:World}{β0:Blk}{st:St}{β:Blk}{a:Act}{w w':World}
def shiftR(sid id n:Nat)(β:Blk):Blk:=fun b =>
 match β b with
 |none=>none
 |some (i0,[])=>if i0=sid then none else some (i0,[])
 |some (i0,(i,j)::q)=>if i0=sid then some (id,(n+i,j)::q) else if i0=id∧n≤i then none else some (i0,(i,j)::q)
def rehome(id:Nat)(ob:Option Nat)(β:Blk):Blk:=fun b =>
 if ob=some b then some (id,[]) else match β b with
  |none=>none
  |some (i,p)=>if i=id∧p=[] then none else some (i,p)
theorem own_of{id e k:Nat}{es:List (List C)}{v:Value}(uq:∀b b' x,β b=some x→β b'=some x→b=b')(h:RowAt β w id [] e k es)(hv:SlV β w id [] k es.length v) :
  ∃vs,w.ownsRow 0 e k v es.length vs∧CellsR (CV β w id []) k es vs∧(∀b,v.ownBlock=some b↔β b=some (id,[])):=by
 obtain⟨h0,h⟩:=h
 rcases h with ⟨rfl,hn⟩|⟨b,cap,cur,hb,hh,hl,hm,hs,hc⟩
 ·rcases hv with ⟨rfl,_,_⟩|⟨b,_,_,_,hb,_⟩
  ·exact⟨[],⟨by simp,.inl ⟨rfl,rfl⟩⟩,⟨by simp,fun r hr=>by simp at hr,fun i j r x hi=>by simp at hi⟩,fun b=>⟨fun hb=>by simp[Value.ownBlock]at hb,fun hb=>absurd hb (hn b)⟩⟩
  ·exact absurd hb (hn b)
 ·rcases hv with ⟨_,_,hn⟩|⟨b2,cap2,cur2,t2,hb2,hh2,hs2,hl2,rfl⟩
  ·exact absurd hb (hn b)
  ·obtain rfl:=uq b b2 _ hb hb2
   rw[hh]at hh2
   injection hh2 with hh2
   injection hh2 with e1 e2
   subst e1 e2
   have:cap2=cap:=Nat.eq_of_mul_eq_mul_right h0 (hs2.symm.trans hs)
   subst this
   refine⟨_,⟨hc.1,.inr ⟨b,cap2,cur,rfl,Nat.zero_le _,hh,hl,hm,hs,rfl⟩⟩,hc,fun b'=>⟨fun h=>?_,fun h=>?_⟩⟩
   ·simp[Value.ownBlock]at h
    exact h▸hb
   ·rw[uq b' b _ h hb];rfl
theorem Rel.append(h:Rel w0 β0 st β a w){id sid e k:Nat}{es ys:List (List C)}{v v':Value}{vs news:List Value}(hsi:sid≠id)
  (hlo:lo st.ob id=some (e,k,es)) (hown:w.ownsRow 0 e k v es.length vs) (hcr:CellsR (CV β w id []) k es vs) (hob:∀b,v.ownBlock=some b↔β b=some (id,[]))
  (hown':w'.ownsRow 0 e k v' (es.length+ys.length) (vs++news)) (hg:w.grownBy w' v.ownBlock) (hat:v'.ownBlock=v.ownBlock∨v'.ownBlock=some w.heap.size)
  (hyl:∀r,r∈ys→r.length=k) (hnl:news.length=ys.length*k) (h0:0<k)
  (hys:∀(i j:Nat) (r:List C) (x:C),ys[i]?=some r→r[j]?=some x→∃u,news[i*k+j]?=some u∧CV (rehome id v'.ownBlock (shiftR sid id es.length β)) w' id [] (es.length+i) j x u)
  (hsub:∀(i j:Nat) (r:List C) (e1 k1:Nat) (xs:List (List C)),ys[i]?=some r→r[j]?=some (.sl e1 k1 xs)→SubR (rehome id v'.ownBlock (shiftR sid id es.length β)) w' id [(es.length+i,j)] e1 k1 xs) :
  Rel w0 β0 { st with tm:=killT (fun i p=>i==sid||i==id) st.tm,ob:=putO (delO st.ob sid) id (e,k,es++ys) } (rehome id v'.ownBlock (shiftR sid id es.length β)) a w'
   ∧ VR (rehome id v'.ownBlock (shiftR sid id es.length β)) w' (.sl id k [] 0 (es++ys).length) v':=by
 have hvn:∀b,v'.ownBlock=some b→β b=some (id,[])∨b=w.heap.size:=fun b hb=>by
  rcases hat with g|g
  ·rw[g]at hb;exact .inl ((hob b).1 hb)
  ·rw[g]at hb;injection hb with hb;exact .inr hb.symm
 have keepB:∀b x,β b=some x→x≠(id,[])→w'.heap[b]?=w.heap[b]?:=fun b x hb hx=>hg.block b (h.lt b x hb) (fun e=>by
  have:=(hob b).1 e.symm
  rw[hb]at this
  injection this with this
  exact hx this)
 have hv'b:∀b x,β b=some x→x≠(id,[])→v'.ownBlock≠some b:=fun b x hb hx e=>by
  rcases hvn b e with g|g
  ·rw[hb]at g;injection g with g;exact hx g
  ·have:=h.lt b x hb;omega
 have fz:∀b,β b=none→b<w.heap.size→rehome id v'.ownBlock (shiftR sid id es.length β) b=none∧w'.heap[b]?=w.heap[b]?:=fun b hb hlt=>by
  have h1:v'.ownBlock≠some b:=fun e=>by
   rcases hvn b e with g|g
   ·rw[hb]at g;simp at g
   ·omega
  refine⟨by simp[rehome,h1,shiftR,hb],hg.block b hlt (fun e=>?_)⟩
  have:=(hob b).1 e.symm
  rw[hb]at this
  simp at this
 have toId:∀b i j q,i<es.length→β b=some (id,(i,j)::q)→rehome id v'.ownBlock (shiftR sid id es.length β) b=some (id,(i,j)::q)∧w'.heap[b]?=w.heap[b]?:=fun b i j q hi hb=>by
  refine⟨?_,keepB b _ hb (by simp)⟩
  have h1:=hv'b b _ hb (by simp)
  have h2:¬es.length≤i:=by omega
  simp[rehome,h1,shiftR,hb,show ¬id=sid from fun e=>hsi e.symm,h2]
 have inv:∀b i0 p,rehome id v'.ownBlock (shiftR sid id es.length β) b=some (i0,p)→(p=[]∧i0=id∧v'.ownBlock=some b)∨(i0≠id∧i0≠sid∧β b=some (i0,p)) ∨
   (i0=id∧∃i j q,p=(i,j)::q∧i<es.length∧β b=some (id,p))∨(i0=id∧∃i j q,p=(es.length+i,j)::q∧β b=some (sid,(i,j)::q)):=fun b i0 p hb=>by
  simp only[rehome]at hb
  split at hb
  ·rename_i hv;injection hb with hb;injection hb with h1 h2;exact .inl ⟨h2.symm,h1.symm,hv⟩
  ·simp only[shiftR]at hb
   cases hx:β b with
   |none=>simp[hx]at hb
   |some x =>
    obtain⟨i1,p1⟩:=x
    cases p1 with
    |nil =>
     simp only[hx]at hb
     by_cases hs:i1=sid
     ·simp[hs]at hb
     ·simp only[hs,if_false]at hb
      by_cases hi:i1=id
      ·simp[hi]at hb
      ·simp only[hi,false_and,if_false]at hb
       injection hb with hb;injection hb with h1 h2
       subst h1 h2
       exact .inr (.inl ⟨hi,hs,rfl⟩)
    |cons ij p1 =>
     obtain⟨i,j⟩:=ij
     simp only[hx]at hb
     by_cases hs:i1=sid
     ·simp only[hs,if_true]at hb
      split at hb
      ·rename_i hc;simp at hc
      ·injection hb with hb;injection hb with h1 h2
       exact .inr (.inr (.inr ⟨h1.symm,i,j,p1,h2.symm,by rw[hs]⟩))
     ·simp only[hs,if_false]at hb
      by_cases hg:i1=id∧es.length≤i
      ·simp[hg]at hb
      ·simp only[hg,if_false]at hb
       split at hb
       ·simp at hb
       ·injection hb with hb;injection hb with h1 h2
        subst h1 h2
        by_cases hi:i1=id
        ·subst hi
         exact .inr (.inr (.inl ⟨rfl,i,j,p1,rfl,by have:¬es.length≤i:=fun g=>hg ⟨rfl,g⟩;omega,rfl⟩))
        ·exact .inr (.inl ⟨hi,hs,rfl⟩)
 have backId:∀b i j q,i<es.length→rehome id v'.ownBlock (shiftR sid id es.length β) b=some (id,(i,j)::q)→β b=some (id,(i,j)::q):=fun b i j q hi hb=>by
  rcases inv b _ _ hb with ⟨g,_,_⟩|⟨g,_⟩|⟨_,_,_,_,_,_,g⟩|⟨_,i2,j2,q2,g,_⟩
  ·simp at g
  ·exact absurd rfl g
  ·exact g
  ·injection g with g _;injection g with g _;omega
 have other:∀b i0 p,i0≠id→i0≠sid→(β b=some (i0,p)↔rehome id v'.ownBlock (shiftR sid id es.length β) b=some (i0,p)):=fun b i0 p h1 h2=>by
  constructor
  ·intro hb
   have h3:=hv'b b _ hb (by simp[h1])
   cases p with
   |nil=>simp[rehome,h3,shiftR,hb,h1,h2]
   |cons ij p=>obtain⟨i,j⟩:=ij;simp[rehome,h3,shiftR,hb,h1,h2]
  ·intro hb
   rcases inv b _ _ hb with ⟨_,g,_⟩|⟨_,_,g⟩|⟨g,_⟩|⟨g,_⟩
   ·exact absurd g h1
   ·exact g
   ·exact absurd g h1
   ·exact absurd g h1
 have mvId:∀i j,i<es.length→Moves β (rehome id v'.ownBlock (shiftR sid id es.length β)) w w' id [(i,j)] id [(i,j)]:=fun i j hi =>
  ⟨fz,fun b s hb=>toId b i j s hi hb,fun b s hb=>backId b i j s hi hb⟩
 have own1:∀b,v'.ownBlock=some b→rehome id v'.ownBlock (shiftR sid id es.length β) b=some (id,[]):=fun b hb=>by simp[rehome,hb]
 have none1:v'.ownBlock=none→∀b,rehome id v'.ownBlock (shiftR sid id es.length β) b≠some (id,[]):=fun hv b hb=>by
  rcases inv b _ _ hb with ⟨_,_,g⟩|⟨g,_⟩|⟨_,_,_,_,g,_⟩|⟨_,_,_,_,g,_⟩
  ·rw[hv]at g;simp at g
  ·exact g rfl
  ·simp at g
  ·simp at g
 have hrow:RowAt (rehome id v'.ownBlock (shiftR sid id es.length β)) w' id [] e k (es++ys):=by
  refine⟨h0,?_⟩
  rcases hown'.2 with ⟨rfl,hz⟩|⟨g,cap,cur,rfl,_,hgg,hnc,hcm,hcs,htk⟩
  ·have:es++ys=[]:=List.eq_nil_of_length_eq_zero (by simpa using hz)
   exact .inl ⟨this,none1 rfl⟩
  ·refine .inr ⟨g,cap,cur,own1 g rfl,hgg,by simpa using hnc,hcm,hcs,?_⟩
   rw[List.length_append,htk]
   refine⟨by simp[hcr.1,hnl,Nat.add_mul],fun r hr=>?_,fun i j r x hi hj=>?_⟩
   ·rcases List.mem_append.1 hr with hr|hr
    ·exact hcr.2.1 r hr
    ·exact hyl r hr
   ·by_cases hil:i<es.length
    ·rw[List.getElem?_append_left hil]at hi
     obtain⟨u,hu,hv⟩:=hcr.2.2 i j r x hi hj
     refine⟨u,by rw[List.getElem?_append_left (List.getElem?_eq_some_iff.1 hu).1];exact hu,?_⟩
     cases x with
     |sc v=>exact hv
     |fz ys=>exact FR.mono hv fz
     |no=>exact hv
     |sl e2 k2 xs =>
      obtain⟨g0,hv⟩:=hv
      exact⟨g0,by have:=(mvId i j hil).slV (s:=[]) (by simpa using hv);simpa using this⟩
    ·have hil:es.length≤i:=by omega
     rw[List.getElem?_append_right hil]at hi
     obtain⟨u,hu,hv⟩:=hys (i-es.length) j r x hi hj
     rw[Nat.add_sub_cancel' hil]at hv
     refine⟨u,?_,hv⟩
     have:i*k+j=vs.length+((i-es.length)*k+j):=by
      rw[hcr.1,←Nat.add_assoc,←Nat.add_mul,Nat.add_sub_cancel' hil]
     rw[this,List.getElem?_append_right (by omega),Nat.add_sub_cancel_left]
     exact hu
 refine⟨h.change _ _ _ w' fz hg.size ?_ ?_ ?_ ?_ ?_ ?_ hg.os hg.tape hg.output,?_⟩
 ·intro i0 p b hq hb
  simp only[Bool.or_eq_false_iff,beq_eq_false_iff_ne]at hq
  refine⟨(other b i0 p hq.2 hq.1).1 hb,fun cur t hc=>⟨cur,?_,rfl⟩⟩
  rw[keepB b _ hb (by simp[hq.2])]
  exact hc
 ·intro i0 p b hq hb
  simp only[Bool.or_eq_false_iff,beq_eq_false_iff_ne]at hq
  exact(other b i0 p hq.2 hq.1).2 hb
 ·intro id' e' k' es' hl
  rw[lo_put,lo_del]at hl
  by_cases hid:id=id'
  ·subst hid
   rw[if_pos rfl]at hl
   injection hl with hl
   injection hl with e1 hl
   injection hl with e2 e3
   subst e1 e2 e3
   intro s e' k' es' hs'
   cases s with
   |nil =>
    simp only[nav,Option.some.injEq,Prod.mk.injEq]at hs'
    obtain⟨rfl,rfl,rfl⟩:=hs'
    simpa using hrow
   |cons ij s =>
    obtain⟨i,j⟩:=ij
    obtain⟨r,e1,k1,xs,hi,hj,hs2⟩:=nav_cons hs'
    by_cases hil:i<es.length
    ·rw[List.getElem?_append_left hil]at hi
     have hold:SubR β w id ([(i,j)]++[]) e1 k1 xs:=fun s e' k' es' hs=>by
      have:=h.ob id e k es hlo ((i,j)::s) e' k' es' (by rw[nav_mk hi hj];exact hs)
      simpa using this
     have:=(mvId i j hil).sub hold s e' k' es' hs2
     simpa using this
    ·have hil:es.length≤i:=by omega
     rw[List.getElem?_append_right hil]at hi
     have:=hsub (i-es.length) j r e1 k1 xs hi hj s e' k' es' hs2
     rw[Nat.add_sub_cancel' hil]at this
     simpa using this
  ·rw[if_neg hid]at hl
   by_cases hid2:sid=id'
   ·rw[if_pos hid2]at hl;simp at hl
   ·rw[if_neg hid2]at hl
    have hm:Moves β (rehome id v'.ownBlock (shiftR sid id es.length β)) w w' id' [] id' []:=
     ⟨fz,fun b s hb=>⟨(other b id' _ (fun e=>hid e.symm) (fun e=>hid2 e.symm)).1 hb,keepB b _ hb (by simp[show ¬id'=id from fun e=>hid e.symm])⟩,fun b s hb=>(other b id' _ (fun e=>hid e.symm) (fun e=>hid2 e.symm)).2 hb⟩
    have:=hm.sub (s:=[]) (by simpa using h.ob id' e' k' es' hl)
    simpa using this
 ·intro b1 b2 x h1 h2
  obtain⟨i0,p⟩:=x
  rcases inv b1 _ _ h1 with ⟨g1,g2,g3⟩|⟨g1,g2,g3⟩|⟨g1,i,j,q,g2,g3,g4⟩|⟨g1,i,j,q,g2,g4⟩
  ·subst g1 g2
   rcases inv b2 _ _ h2 with ⟨_,_,f3⟩|⟨f1,_⟩|⟨_,_,_,_,f2,_⟩|⟨_,_,_,_,f2,_⟩
   ·rw[g3]at f3;injection f3
   ·exact absurd rfl f1
   ·simp at f2
   ·simp at f2
  ·exact h.uq b1 b2 _ g3 ((other b2 i0 p g1 g2).2 h2)
  ·subst g1 g2
   exact h.uq b1 b2 _ g4 (backId b2 i j q g3 h2)
  ·subst g1 g2
   rcases inv b2 _ _ h2 with ⟨f1,_⟩|⟨f1,_⟩|⟨_,i2,j2,q2,f2,f3,_⟩|⟨_,i2,j2,q2,f2,f4⟩
   ·simp at f1
   ·exact absurd rfl f1
   ·injection f2 with f2 _;injection f2 with f2 _;omega
   ·injection f2 with f2 f5;injection f2 with f2 f6
    have:i=i2:=by omega
    subst this f5 f6
    exact h.uq b1 b2 _ g4 f4
 ·intro b x hb
  obtain⟨i0,p⟩:=x
  have hlt2:∀y,β b=some y→b<w'.heap.size:=fun y hy=>Nat.lt_of_lt_of_le (h.lt b y hy) hg.size
  rcases inv b _ _ hb with ⟨_,_,g⟩|⟨_,_,g⟩|⟨_,_,_,_,_,_,g⟩|⟨_,_,_,_,_,g⟩
  ·exact(hown'.lt b g).2
  ·exact hlt2 _ g
  ·exact hlt2 _ g
  ·exact hlt2 _ g
 ·intro b x hb hlt
  obtain⟨i0,p⟩:=x
  rcases inv b _ _ hb with ⟨_,_,g⟩|⟨_,_,g⟩|⟨_,_,_,_,_,_,g⟩|⟨_,_,_,_,_,g⟩
  ·rcases hvn b g with g|g
   ·rw[g];simp
   ·omega
  ·rw[g];simp
  ·rw[g];simp
  ·rw[g];simp
 ·rcases hown'.2 with ⟨rfl,hz⟩|⟨g,cap,cur,rfl,_,hgg,hnc,hcm,hcs,htk⟩
  ·have:(es++ys).length=0:=by simpa using hz
   rw[this]
   exact .slN id k [] h0 (none1 rfl)
  ·rw[List.length_append]
   have:=VR.sl (β:=rehome id (Value.ownBlock (.slice (some ⟨g,0,none⟩) (es.length+ys.length) cap)) (shiftR sid id es.length β)) (w:=w') id k [] 0 (es.length+ys.length) g cap e cur h0 (own1 g rfl) hgg hcs (by omega)
   simpa using this
end Go.Own
namespace Go.Own
variable {w0:World}{β0:Blk}{st:St}{β:Blk}{a:Act}{w w':World}
theorem vr_of_slV{id k n:Nat}{path:Pth}{u:Value}(h0:0<k)(h:SlV β w id path k n u):VR β w (.sl id k path 0 n) u:=by
 rcases h with ⟨rfl,rfl,hn⟩|⟨b,cap,cur,t,hb,hh,hs,hl,rfl⟩
 ·exact .slN id k path h0 hn
 ·have:=VR.sl (β:=β) (w:=w) id k path 0 n b cap t cur h0 hb hh hs (by omega)
  simpa using this
theorem sizeOf_in{es:List (List C)}{r:List C}{e k:Nat}{xs:List (List C)}{i j:Nat}(hi:es[i]?=some r)(hj:r[j]?=some (.sl e k xs)):SizeOf.sizeOf xs<SizeOf.sizeOf es:=by
 have h1:=List.sizeOf_lt_of_mem (List.mem_of_getElem? hi)
 have h2:=List.sizeOf_lt_of_mem (List.mem_of_getElem? hj)
 simp at h2
 omega
theorem own_fr{av:Nat→Prop}{id:Nat}(uq:∀b b' x,β b=some x→β b'=some x→b=b')(hav:∀b p,β b=some (id,p)→av b)(hav0:∀b,β b=none→av b)
  (es:List (List C)) (q:Pth) (e k:Nat) (h:SubR β w id q e k es) (off len:Nat) (u:Value) (hv:VR β w (.sl id k q off len) u) (hl:off+len≤es.length) :
  FR av w (.fz ((es.drop off).take len)) u:=by
 obtain⟨h0,hr⟩:=h [] e k es rfl
 simp only[List.append_nil]at hr
 cases hv with
 |slN _ _ _ _ hn=>simp;exact .fzE _ _
 |sl _ _ _ _ _ b cap t cur _ hb hh hs ho =>
  rcases hr with ⟨rfl,hn⟩|⟨b2,cap2,cur2,hb2,hh2,hl2,hm2,hs2,g1,g2,g3⟩
  ·exact absurd hb (hn b)
  ·obtain rfl:=uq b b2 _ hb hb2
   rw[hh]at hh2
   injection hh2 with hh2
   injection hh2 with e1 e2
   subst e1 e2
   by_cases hz:len=0
   ·subst hz;simp;exact .fzE _ _
   ·have hlen:((es.drop off).take len).length=len:=by simp;omega
    have hget:∀i r,((es.drop off).take len)[i]?=some r→es[off+i]?=some r∧i<len:=fun i r hi=>by
     rw[List.getElem?_take]at hi
     split at hi
     ·rw[List.getElem?_drop]at hi;exact⟨hi,by omega⟩
     ·simp at hi
    have hcell:∀i j r x,es[off+i]?=some r→r[j]?=some x→∃v,cur[(off+i)*k+j]?=some v∧CV β w id q (off+i) j x v:=fun i j r x hi hj=>by
     obtain⟨v,hv1,hv2⟩:=g3 (off+i) j r x hi hj
     have h1:=(List.getElem?_eq_some_iff.1 hv1).1
     rw[List.getElem?_take_of_lt (by simp at h1;omega)]at hv1
     exact⟨v,by simpa using hv1,hv2⟩
    have:=FR.fzN (av:=av) (w:=w) ((es.drop off).take len) b (off*k) k (cap-off) (fun i j=>(cur[(off+i)*k+j]?).getD undef)
     (fun hnil=>by rw[hnil]at hlen;simp at hlen;omega) h0 (hav b q hb) (fun r hr=>g2 r (List.mem_of_mem_drop (List.mem_of_mem_take hr))) (by have hcc:cap=cap2:=Nat.eq_of_mul_eq_mul_right h0 (hs.symm.trans hs2);omega)
     (fun i j r x hi hj=>by
      obtain⟨hi',_⟩:=hget i r hi
      obtain⟨v,hv1,hv2⟩:=hcell i j r x hi' hj
      rw[hv1]
      rw[cell_of_row w b _ cur t (0,0) hh,←Nat.add_mul]
      exact hv1)
     (fun i j r x hi hj=>by
      obtain⟨hi',_⟩:=hget i r hi
      obtain⟨v,hv1,hv2⟩:=hcell i j r x hi' hj
      rw[hv1]
      simp only[Option.getD_some]
      cases x with
      |sc v'=>obtain⟨rfl,ho⟩:=hv2;exact .sc _ ho
      |fz ys=>exact FR.mono hv2 (fun b hb _=>⟨hav0 b hb,rfl⟩)
      |no=>exact .no _ hv2
      |sl e1 k1 xs =>
       obtain⟨g0,hv2⟩:=hv2
       refine .sl e1 k1 xs v ?_
       have hsub:SubR β w id (q++[(off+i,j)]) e1 k1 xs:=fun s e' k' es' hs=>by
        have:=h ((off+i,j)::s) e' k' es' (by rw[nav_mk hi' hj];exact hs)
        simpa using this
       have:=own_fr uq hav hav0 xs (q++[(off+i,j)]) e1 k1 hsub 0 xs.length v (vr_of_slV g0 hv2) (by omega)
       simpa using this)
    rw[hlen]at this
    exact this
termination_by SizeOf.sizeOf es
decreasing_by exact sizeOf_in hi' hj
def cToA(id:Nat)(path:Pth)(i j:Nat):C→AV
 |.sc v=>.sc v
 |.fz xs=>.fz xs
 |.sl _ k xs=>.sl id k (path++[(i,j)]) 0 xs.length
 |.no=>.un
theorem CV.vr{id:Nat}{path:Pth}{i j:Nat}{x:C}{u:Value}(h:CV β w id path i j x u):VR β w (cToA id path i j x) u:=by
 cases x with
 |sc v=>obtain⟨rfl,_⟩:=h;exact .sc _
 |fz xs=>exact .fz xs u h
 |sl e k xs=>exact vr_of_slV h.1 h.2
 |no=>exact .un u
def cToF:C→AV
 |.sc v=>.sc v
 |.fz xs=>.fz xs
 |.sl _ _ xs=>.fz xs
 |.no=>.un
theorem FR.vr{x:C}{u:Value}(h:FR (fun b=>β b=none) w x u):VR β w (cToF x) u:=by
 cases h with
 |sc _ _=>exact .sc _
 |no _ _=>exact .un _
 |fzE a c=>exact .fz [] _ (.fzE a c)
 |fzN xs b o k c f h1 h2 h3 h4 h5 h6 h7=>exact .fz xs _ (.fzN xs b o k c f h1 h2 h3 h4 h5 h6 h7)
 |sl e k xs u h=>exact .fz xs u h
def parted(id:Nat)(path:Pth)(nid:Nat)(β:Blk):Blk:=fun b =>
 match β b with
 |none=>none
 |some (i0,p)=>if i0=nid then none else if i0=id∧under path p=true then some (nid,p.drop path.length) else some (i0,p)
theorem nav_append:∀{p:Pth} {e k ep kp:Nat} {es row:List (List C)} (_:nav e k es p=some (ep,kp,row)) (s:Pth),nav e k es (p++s)=nav ep kp row s
 |[],e,k,ep,kp,es,row,h,s=>by simp only[nav,Option.some.injEq,Prod.mk.injEq]at h;obtain⟨rfl,rfl,rfl⟩:=h;rfl
 |(i,j)::p,e,k,ep,kp,es,row,h,s=>by
  obtain⟨r1,e5,k5,xs5,g1,g2,g3⟩:=nav_cons h
  rw[List.cons_append,nav_mk g1 g2]
  exact nav_append g3 s
theorem Rel.detach(h:Rel w0 β0 st β a w){id nid e k ep kp i j e1 k1:Nat}{es row xs:List (List C)}{r:List C}{path:Pth}(hne:nid≠id)
  (hlo:lo st.ob id=some (e,k,es)) (hn:nav e k es path=some (ep,kp,row)) (hi:row[i]?=some r) (hj:r[j]?=some (.sl e1 k1 xs)) :
  Rel w0 β0 { st with tm:=killT (fun i p=>i==nid||(i==id && !p.isEmpty)) st.tm,ob:=putO (putO st.ob id (e,k,updP es path (setCell i j .no))) nid (e1,k1,xs) } (parted id (path++[(i,j)]) nid β) a w
   ∧ ∀u,VR β w (.sl id k1 (path++[(i,j)]) 0 xs.length) u→VR (parted id (path++[(i,j)]) nid β) w (.sl nid k1 [] 0 xs.length) u:=by
 have hcp:∀r,path++[(i,j)]++r=path++(i,j)::r:=fun r=>by simp
 have fz:∀b',β b'=none→b'<w.heap.size→parted id (path++[(i,j)]) nid β b'=none∧w.heap[b']?=w.heap[b']?:=fun b' h0 _=>⟨by simp[parted,h0],rfl⟩
 have to:∀b' s,β b'=some (id,s)→(∀r,s≠path++(i,j)::r)→parted id (path++[(i,j)]) nid β b'=some (id,s):=fun b' s h1 h2=>by
  have hu:under (path++[(i,j)]) s=false:=by
   cases hc:under (path++[(i,j)]) s with
   |false=>rfl
   |true=>obtain⟨r,hr⟩:=under_iff.1 hc;exact absurd (hr.trans (hcp r)) (h2 r)
  simp[parted,h1,show ¬id=nid from fun e=>hne e.symm,hu]
 have inv:∀b' i0 s,parted id (path++[(i,j)]) nid β b'=some (i0,s)→(i0=nid∧β b'=some (id,path++(i,j)::s))∨(i0≠nid∧β b'=some (i0,s)∧(i0=id→∀r,s≠path++(i,j)::r)):=fun b' i0 s hb=>by
  simp only[parted]at hb
  split at hb
  ·simp at hb
  ·rename_i i1 p hp
   split at hb
   ·simp at hb
   ·rename_i g1
    split at hb
    ·rename_i g2
     injection hb with hb;injection hb with e1 e2
     obtain⟨r,hr⟩:=under_iff.1 g2.2
     subst hr
     simp at e2
     subst e2
     exact .inl ⟨e1.symm,by rw[hp,g2.1,hcp]⟩
    ·rename_i g2
     injection hb with hb;injection hb with e1 e2
     subst e1 e2
     exact .inr ⟨g1,hp,fun e r hr=>g2 ⟨e,under_iff.2 ⟨r,hr.trans (hcp r).symm⟩⟩⟩
 have back:∀b' s,parted id (path++[(i,j)]) nid β b'=some (id,s)→(∀r,s≠path++(i,j)::r)→β b'=some (id,s):=fun b' s h1 h2=>by
  rcases inv b' id s h1 with ⟨g,_⟩|⟨_,g,_⟩
  ·exact absurd g.symm hne
  ·exact g
 have hms:Moves β (parted id (path++[(i,j)]) nid β) w w id (path++[(i,j)]) nid []:=by
  refine⟨fz,fun b' s hb'=>⟨?_,rfl⟩,fun b' s hb'=>?_⟩
  ·have:under (path++[(i,j)]) (path++[(i,j)]++s)=true:=under_iff.2 ⟨s,rfl⟩
   simp only[parted,hb']
   rw[if_neg (fun e=>hne e.symm)]
   simp only[true_and]
   rw[if_pos this]
   simp
  ·rcases inv b' nid _ hb' with ⟨_,g⟩|⟨g,_⟩
   ·simpa using g
   ·exact absurd rfl g
 have hold:SubR β w id (path++[(i,j)]++[]) e1 k1 xs:=fun s e' k' es' hs=>by
  have:=h.ob id e k es hlo (path++(i,j)::s) e' k' es' (by rw[nav_append hn,nav_mk hi hj];exact hs)
  simpa using this
 refine⟨h.change _ _ _ w fz (Nat.le_refl _) ?_ ?_ ?_ ?_ ?_ ?_ rfl rfl rfl,fun u hu=>?_⟩
 ·intro id' p b' hq hb'
  simp only[Bool.or_eq_false_iff,Bool.and_eq_false_iff,beq_eq_false_iff_ne,Bool.not_eq_false']at hq
  obtain⟨h1,h2⟩:=hq
  refine⟨?_,fun cur t hc=>⟨cur,hc,rfl⟩⟩
  have hnu:¬(id'=id∧under (path++[(i,j)]) p=true):=fun ⟨e1,e2⟩=>by
   rcases h2 with h2|h2
   ·exact h2 e1
   ·obtain⟨r,hr⟩:=under_iff.1 e2
    subst hr
    simp at h2
  simp only[parted,hb',h1,if_false]
  rw[if_neg hnu]
 ·intro id' p b' hq hb'
  simp only[Bool.or_eq_false_iff,Bool.and_eq_false_iff,beq_eq_false_iff_ne,Bool.not_eq_false']at hq
  rcases inv b' _ _ hb' with ⟨g,_⟩|⟨_,g,_⟩
  ·exact absurd g hq.1
  ·exact g
 ·intro id' e' k' es' hl
  rw[lo_put]at hl
  by_cases hid0:nid=id'
  ·subst hid0
   rw[if_pos rfl]at hl
   injection hl with hl
   injection hl with e1 hl
   injection hl with e2 e3
   subst e1 e2 e3
   have:=hms.sub (s:=[]) (by simpa using hold)
   simpa using this
  ·rw[if_neg hid0,lo_put]at hl
   by_cases hid:id=id'
   ·subst hid
    rw[if_pos rfl]at hl
    injection hl with hl
    injection hl with e1 hl
    injection hl with e2 e3
    subst e1 e2 e3
    have hrow:=h.ob id e k es hlo path ep kp row hn
    simp only[List.nil_append]at hrow
    obtain⟨h0,hr⟩:=hrow
    rcases hr with ⟨rfl,_⟩|⟨b,cap,cur,hb,hh,hl,hm,hsz,g1,g2,g3⟩
    ·simp at hi
    ·obtain⟨u,hu,hv⟩:=g3 i j r _ hi hj
     have hlt:=(List.getElem?_eq_some_iff.1 hu).1
     rw[List.getElem?_take_of_lt (by simp at hlt;omega)]at hu
     have hu':cur[i*kp+j]?=some u:=by simpa using hu
     have hjk:j<kp:=by have:=g2 r (List.mem_of_getElem? hi);have:=(List.getElem?_eq_some_iff.1 hj).1;omega
     exact cell_root (h.ob id e k es hlo) hn hjk hb hh hh rfl (fun _ _=>rfl) hu' h.uq fz (fun b' s h1 h2=>⟨to b' s h1 h2,fun _=>rfl⟩) back hv.one (fun _ _ _ hx=>by simp at hx)
   ·rw[if_neg hid]at hl
    have hm:Moves β (parted id (path++[(i,j)]) nid β) w w id' [] id' []:=by
     refine⟨fz,fun b' s hb'=>⟨?_,rfl⟩,fun b' s hb'=>?_⟩
     ·simp only[parted,hb',show ¬id'=nid from fun e=>hid0 e.symm,if_false,show ¬id'=id from fun e=>hid e.symm,false_and]
     ·rcases inv b' _ _ hb' with ⟨g,_⟩|⟨_,g,_⟩
      ·exact absurd g.symm hid0
      ·exact g
    have:=hm.sub (s:=[]) (by simpa using h.ob id' e' k' es' hl)
    simpa using this
 ·intro b1 b2 x h1 h2
  obtain⟨i0,s⟩:=x
  rcases inv b1 _ _ h1 with ⟨g1,g2⟩|⟨g1,g2,_⟩<;>rcases inv b2 _ _ h2 with ⟨g3,g4⟩|⟨g3,g4,_⟩
  ·exact h.uq b1 b2 _ g2 g4
  ·exact absurd g1 g3
  ·exact absurd g3 g1
  ·exact h.uq b1 b2 _ g2 g4
 ·intro b' x hb'
  obtain⟨i0,s⟩:=x
  rcases inv b' _ _ hb' with ⟨_,g⟩|⟨_,g,_⟩<;>exact h.lt b' _ g
 ·intro b' x hb' _ h0
  simp[parted,h0]at hb'
 ·obtain⟨g0,g1⟩:=slV_of_vr hu
  have:=hms.slV (s:=[]) (by simpa using g1)
  exact vr_of_slV g0 (by simpa using this)
def bare(id:Nat)(β:Blk):Blk:=fun b =>
 match β b with
 |none=>none
 |some (i,p)=>if i=id then none else some (i,p)
theorem Rel.nilRoot(h:Rel w0 β0 st β a w)(id e k:Nat)(h0:0<k) :
  Rel w0 β0 { st with tm:=killT (fun i _=>i==id) st.tm,ob:=putO st.ob id (e,k,[]) } (bare id β) a w∧VR (bare id β) w (.sl id k [] 0 0) (.slice none 0 0):=by
 have inv:∀b i p,bare id β b=some (i,p)→i≠id∧β b=some (i,p):=fun b i p hb=>by
  simp only[bare]at hb
  split at hb
  ·simp at hb
  ·rename_i hp
   split at hb
   ·simp at hb
   ·rename_i hne;injection hb with hb;injection hb with e1 e2;subst e1 e2;exact⟨hne,hp⟩
 have fz:∀b',β b'=none→b'<w.heap.size→bare id β b'=none∧w.heap[b']?=w.heap[b']?:=fun b' hb _=>⟨by simp[bare,hb],rfl⟩
 have hn:∀b p,bare id β b≠some (id,p):=fun b p hb=>(inv b _ _ hb).1 rfl
 refine⟨h.change _ _ _ w fz (Nat.le_refl _) ?_ ?_ ?_ ?_ ?_ ?_ rfl rfl rfl,.slN id k [] h0 (fun b=>hn b [])⟩
 ·intro id' p b hq hb
  have hne:id'≠id:=by simpa using hq
  exact⟨by simp[bare,hb,hne],fun cur t hc=>⟨cur,hc,rfl⟩⟩
 ·intro id' p b hq hb
  exact(inv b _ _ hb).2
 ·intro id' e' k' es' hl
  rw[lo_put]at hl
  by_cases hid:id=id'
  ·subst hid
   rw[if_pos rfl]at hl
   injection hl with hl
   injection hl with e1 hl
   injection hl with e2 e3
   subst e1 e2 e3
   intro s e' k' es' hs'
   cases s with
   |nil =>
    simp only[nav,Option.some.injEq,Prod.mk.injEq]at hs'
    obtain⟨rfl,rfl,rfl⟩:=hs'
    exact⟨h0,.inl ⟨rfl,fun b=>hn b _⟩⟩
   |cons ij s =>
    obtain⟨i,j⟩:=ij
    obtain⟨r,e1,k1,xs,hi,hj,_⟩:=nav_cons hs'
    simp at hi
  ·rw[if_neg hid]at hl
   have hm:Moves β (bare id β) w w id' [] id' []:=
    ⟨fz,fun b s hb=>⟨by simp[bare,hb,show ¬id'=id from fun e=>hid e.symm],rfl⟩,fun b s hb=>(inv b _ _ hb).2⟩
   have:=hm.sub (s:=[]) (by simpa using h.ob id' e' k' es' hl)
   simpa using this
 ·intro b1 b2 x h1 h2
  exact h.uq b1 b2 x (inv b1 x.1 x.2 h1).2 (inv b2 x.1 x.2 h2).2
 ·intro b x hb
  exact h.lt b x (inv b x.1 x.2 hb).2
 ·intro b x hb _ h1
  rw[(inv b x.1 x.2 hb).2]at h1
  simp at h1
end Go.Own
namespace Go.Own
inductive TK where
 |bool
 |int (k:IntKind)
 |str
 |slice (e:Nat)
 |struct (fs:List (Nat×Nat))
 |ifc
 |oth
inductive EK where
 |i
 |s
 |b
structure TI where
 size:Nat
 bytes:Nat
 kind:TK
 zero:List Value
 eqk:List EK:=[]
def eqV:List EK→List Value→List Value→Option Bool
 |[],[],[]=>some true
 |.i::ks,.int .i64 x::xs,.int .i64 y::ys=>(eqV ks xs ys).map fun r=>x==y&&r
 |.s::ks,.string x::xs,.string y::ys=>(eqV ks xs ys).map fun r=>(x.toList==y.toList)&&r
 |.b::ks,.bool x::xs,.bool y::ys=>(eqV ks xs ys).map fun r=>x==y&&r
 |_,_,_=>none
def TK.ok(d:TypeDesc):TK→Prop
 |.bool=>d=.bool
 |.int k=>d=.int k
 |.str=>d=.string
 |.slice e=>d=.slice e
 |.struct fs=>∃flds,d=.struct flds∧flds.toList.map (fun f=>(f.offset,f.type))=fs
 |.ifc=>∃ms,d=.interface ms
 |.oth=>match d with|.struct _=>False|.array _ _=>False|_=>True
def TK.agg:TK→Bool
 |.struct _=>true
 |_=>false
structure TOk(P:Program)(tt:Nat→Option TI):Prop where
 ok:∀t i,tt t=some i→∃info d z,P.info? t=some info∧P.underlying t=some d∧info.size=i.size∧info.bytes=i.bytes∧info.zero=some z∧z.cells.toList=i.zero∧i.kind.ok d
 mixed:P.follows .mixedOrders=true
 eq:∀t i,tt t=some i→i.eqk≠[]→P.eqGuardType P.depth t=false∧∀(w:World) (xs ys:List Value) (b:Bool),eqV i.eqk xs ys=some b→(Op.equal t (.agg xs.toArray) (.agg ys.toArray)).run P w=.ok b w
theorem TOk.isAgg{P:Program}{tt:Nat→Option TI}(h:TOk P tt){t:Nat}{i:TI}(hi:tt t=some i)(w:World):(isAgg t).run P w=.ok i.kind.agg w:=by
 obtain⟨info,d,z,h1,h2,h3,h4,h5,h6,h7⟩:=h.ok t i hi
 simp only[Go.isAgg,Sem.run_bind,run_underlying h2,Result.andThen_ok]
 cases hk:i.kind with
 |bool=>rw[hk]at h7;simp only[TK.ok]at h7;subst h7;rfl
 |int k=>rw[hk]at h7;simp only[TK.ok]at h7;subst h7;rfl
 |str=>rw[hk]at h7;simp only[TK.ok]at h7;subst h7;rfl
 |slice e=>rw[hk]at h7;simp only[TK.ok]at h7;subst h7;rfl
 |struct fs=>rw[hk]at h7;obtain⟨flds,rfl,_⟩:=h7;rfl
 |ifc=>rw[hk]at h7;obtain⟨ms,rfl⟩:=h7;rfl
 |oth =>
  rw[hk]at h7
  simp only[TK.ok]at h7
  cases d<;>first|rfl|exact h7.elim
theorem TOk.sizeOf{P:Program}{tt:Nat→Option TI}(h:TOk P tt){t:Nat}{i:TI}(hi:tt t=some i)(w:World):(Go.sizeOf t).run P w=.ok i.size w:=by
 obtain⟨info,d,z,h1,h2,h3,_⟩:=h.ok t i hi
 simp[Go.sizeOf,typeInfo,h1,h3]
def ev(st:St):Operand→AV
 |.tmp t=>if t<st.nt then lk st.tm t else .un
 |.const v=>.sc v
 |.func f=>.sc (.func (.func f) #[] #[])
 |.global _=>.un
variable {P:Program}{tt:Nat→Option TI}{w0:World}{β0:Blk}{st:St}{β:Blk}{a:Act}{w w':World}
theorem Rel.ev(h:Rel w0 β0 st β a w)(x:Operand):VR β w (ev st x) (a.eval x):=by
 cases x with
 |tmp t =>
  simp only[Own.ev]
  split
  ·rename_i ht
   have:=h.tm t
   rw[←h.nt]at ht
   simp only[Array.getD_eq_getD_getElem?,Array.getElem?_eq_getElem ht,Option.getD_some]at this
   simpa[Act.eval,Array.getD_eq_getD_getElem?,Array.getElem?_eq_getElem ht]using this
  ·exact .un _
 |const v=>exact .sc v
 |func f=>exact .sc _
 |global g=>exact .un _
structure Fr(T:List Nat)(β:Blk)(w:World)(β':Blk)(w':World):Prop where
 to:∀b,b<w.heap.size→(∀id p,β b=some (id,p)→id∉T)→β' b=β b∧w'.heap[b]?=w.heap[b]?
 back:∀b id p,β' b=some (id,p)→id∉T→β b=some (id,p)
def Same(T:List Nat)(β:Blk)(w w':World):Prop :=
 ∀b,b<w.heap.size→(∀id p,β b=some (id,p)→id∉T)→w'.heap[b]?=w.heap[b]?
theorem Fr.refl{T:List Nat}{β:Blk}{w:World}:Fr T β w β w:=⟨fun _ _ _=>⟨rfl,rfl⟩,fun _ _ _ h _=>h⟩
theorem Fr.mono{T T':List Nat}{β β':Blk}{w w':World}(h:Fr T β w β' w')(ht:∀x,x∈T→x∈T'):Fr T' β w β' w':=⟨fun b hb hq=>h.to b hb fun id p e hm=>hq id p e (ht id hm),fun b id p hb hn=>h.back b id p hb fun hm=>hn (ht id hm)⟩
theorem Fr.trans{T:List Nat}{β β' β'':Blk}{w w' w'':World}(h:Fr T β w β' w')(hs:w.heap.size≤w'.heap.size)(h':Fr T β' w' β'' w''):Fr T β w β'' w'':=⟨fun b hb hq=>by
 obtain⟨h1,h2⟩:=h.to b hb hq
 obtain⟨h3,h4⟩:=h'.to b (by omega) (fun id p e=>hq id p (h1▸e))
 exact⟨h3.trans h1,h4.trans h2⟩,fun b id p hb hn=>h.back b id p (h'.back b id p hb hn) hn⟩
theorem Same.refl{T:List Nat}{β:Blk}{w:World}:Same T β w w:=fun _ _ _=>rfl
def Sound(P:Program)(o:Oper)(st:St)(v:AV)(st':St)(T:List Nat):Prop :=
 ∀(w0:World) (β0 β:Blk) (a:Act) (w:World),Rel w0 β0 st β a w→∀(K:Act→World→Prop) (Q:Exit→Act→World→Prop),(∀(β':Blk) (u:Value) (w':World),Rel w0 β0 st' β' a w'→VR β' w' v u→Fr T β w β' w'→w.heap.size≤w'.heap.size→K (a.put o.dst u) w')→o.wp P a w K Q
def Val(P:Program)(o:Oper)(st:St)(v:AV)(T:List Nat):Prop :=
 ∀(β:Blk) (a:Act) (w:World),(∀x,VR β w (Own.ev st x) (a.eval x))→(∀b b' x,β b=some x→β b'=some x→b=b') →
  (∀id e k es,lo st.ob id=some (e,k,es)→SubR β w id [] e k es)→∃u,(∀w2,Same T β w w2→(execOp a.eval o).run P w2=.ok (.value u) w2)∧VR β w v u
theorem Val.sound{o:Oper}{v:AV}{T:List Nat}(h:Val P o st v T):Sound P o st v st []:=by
 intro w0 β0 β a w hr K Q hK
 obtain⟨u,hu,hv⟩:=h β a w hr.ev hr.uq hr.ob
 unfold Oper.wp
 rw[hu w .refl]
 exact hK β u w hr hv .refl (Nat.le_refl _)
def intB(op:BinOp)(k:IntKind)(x y:Int):Option Value :=
 match op with
 |.add=>some (.int k (k.wrap (x+y)))
 |.sub=>some (.int k (k.wrap (x-y)))
 |.mul=>some (.int k (k.wrap (x*y)))
 |.quo=>if y=0 then none else some (.int k (k.wrap (x.tdiv y)))
 |.rem=>if y=0 then none else some (.int k (x.tmod y))
 |.and=>some (.int k (k.wrap (BitVec.ofInt k.bits x &&& BitVec.ofInt k.bits y).toNat))
 |.or=>some (.int k (k.wrap (BitVec.ofInt k.bits x ||| BitVec.ofInt k.bits y).toNat))
 |.xor=>some (.int k (k.wrap (BitVec.ofInt k.bits x ^^^ BitVec.ofInt k.bits y).toNat))
 |.andNot=>some (.int k (k.wrap (BitVec.ofInt k.bits x &&& ~~~ BitVec.ofInt k.bits y).toNat))
 |.eql=>some (.bool (x==y))
 |.neq=>some (.bool (x !=y))
 |.lss=>some (.bool (x<y))
 |.leq=>some (.bool (x≤y))
 |.gtr=>some (.bool (x>y))
 |.geq=>some (.bool (x≥y))
 |_=>none
def shB(op:BinOp)(k:IntKind)(x y:Int):Option Value :=
 if y<0 then none else
 match op with
 |.shl=>some (.int k (k.wrap (x*2 ^ (min y.toNat k.bits))))
 |.shr=>some (.int k (x.fdiv (2 ^ (min y.toNat k.bits))))
 |_=>none
def strB(op:BinOp)(x y:ByteArray):Option Value :=
 match op with
 |.add=>if ((x.size+y.size:Nat):Int)>IntKind.i64.max then none else some (.string (x++y))
 |.eql=>some (.bool (x.toList==y.toList))
 |.neq=>some (.bool !(x.toList==y.toList))
 |.lss=>some (.bool (Op.bytesLess x.toList y.toList))
 |.leq=>some (.bool (Op.bytesLess x.toList y.toList||x.toList==y.toList))
 |.gtr=>some (.bool !(Op.bytesLess x.toList y.toList||x.toList==y.toList))
 |.geq=>some (.bool !(Op.bytesLess x.toList y.toList))
 |_=>none
def binV(op:BinOp)(x y:Value):Option Value :=
 match x,y with
 |.int k a,.int k' b=>if op=.shl∨op=.shr then shB op k a b else if k=k' then intB op k a b else none
 |.string a,.string b=>strB op a b
 |_,_=>none
theorem run_binV{op:BinOp}{x y u:Value}(h:binV op x y=some u)(t:TypeId)(w:World):(binOp op t x y).run P w=.ok u w:=by
 unfold binV at h
 split at h
 ·rename_i k a k' b
  split at h
  ·rename_i hop
   unfold shB at h
   split at h
   ·simp at h
   ·rename_i hb
    rcases hop with rfl|rfl<;>simp only[Option.some.injEq]at h<;>subst h<;>simp[binOp,Op.shift,hb]
  ·rename_i hop
   split at h
   ·rename_i hk
    subst hk
    unfold intB at h
    cases op<;>simp at h hop<;>first
     |(obtain⟨h1,rfl⟩:=h;simp[binOp,Op.intArith,Op.intDiv,Op.intBits,Op.intCmp,h1])
     |(subst h;simp[binOp,Op.intArith,Op.intDiv,Op.intBits,Op.intCmp])
   ·simp at h
 ·rename_i a b
  unfold strB at h
  cases op<;>simp only[Option.some.injEq,reduceCtorEq]at h<;>first
   |(subst h;simp[binOp,Op.stringOp])
   |(split at h<;>simp only[Option.some.injEq,reduceCtorEq]at h;rename_i hc;subst h;simp only[binOp,Op.stringOp];rw[if_neg hc];rfl)
 ·simp at h
end Go.Own
namespace Go.Own
variable {P:Program}{tt:Nat→Option TI}{w0:World}{β0:Blk}{st:St}{β:Blk}{a:Act}{w w':World}
def scs:List AV→Option (List Value)
 |[]=>some []
 |.sc v::r=>(scs r).map (v::·)
 |_::_=>none
def lenA:AV→Option Int
 |.fz xs=>some xs.length
 |.sl _ _ _ _ len=>some len
 |.sc (.string s)=>some s.size
 |.sc (.slice none 0 0)=>some 0
 |_=>none
def bt(s:ByteArray)(i:Int):Int:=if h:i.toNat<s.size then ((s[i.toNat]'h).toNat:Int) else 0
def putAt:List AV→Nat→List AV→List AV
 |cs,_,[]=>cs
 |cs,o,x::xs=>putAt (cs.set o x) (o+1) xs
def cellsA:AV→List AV
 |.agg cs=>cs
 |x=>[x]
def partA(agg:Bool)(n:Nat)(cs:List AV)(off:Nat):Option AV :=
 if agg then (if off+n≤cs.length then some (.agg ((cs.drop off).take n)) else none) else cs[off]?
def kd(tt:Nat→Option TI)(t:Nat):Option TK:=(tt t).map TI.kind
def pickA(c x y:AV):Option AV :=
 match c with
 |.sc (.bool true)=>some x
 |.sc (.bool false)=>some y
 |_=>none
def nilA(x:AV):Option AV :=
 match x with
 |.ptr id k p i j=>some (.ptr id k p i j)
 |.fp cs=>some (.fp cs)
 |.sc (.pointer (some a))=>some (.sc (.pointer (some a)))
 |_=>none
def eqA(tt:Nat→Option TI)(t:Nat)(us vs:List AV):Option Bool :=
 match tt t with
 |some ti=>(scs us).bind fun us=>(scs vs).bind fun vs=>if ti.eqk.isEmpty then none else eqV ti.eqk us vs
 |none=>none
def ifcV(k:Option TK)(op:BinOp)(u v:Value):Option Value :=
 match k,v with
 |some .ifc,.nilIface=>match op,u with
  |.eql,.nilIface=>some (.bool true)
  |.eql,.iface _ _=>some (.bool false)
  |.neq,.nilIface=>some (.bool false)
  |.neq,.iface _ _=>some (.bool true)
  |_,_=>none
 |_,_=>none
def binA(tt:Nat→Option TI)(op:BinOp)(t:Nat)(x y:AV):Option AV :=
 match x,y with
 |.sc u,.sc v=>(binV op u v).map .sc
 |.agg us,.agg vs=>match op with
  |.eql=>(eqA tt t us vs).map fun b=>.sc (.bool b)
  |.neq=>(eqA tt t us vs).map fun b=>.sc (.bool !b)
  |_=>none
 |_,_=>none
def unA(op:UnOp)(x:AV):Option AV :=
 match op,x with
 |.not,.sc (.bool b)=>some (.sc (.bool !b))
 |.neg,.sc (.int k n)=>some (.sc (.int k (k.wrap (0-n))))
 |_,_=>none
def convA(tt:Nat→Option TI)(src dst:Nat)(x:AV):Option AV :=
 match kd tt src,kd tt dst,x with
 |some (.int _),some (.int k),.sc (.int _ n)=>some (.sc (.int k (k.wrap n)))
 |some .str,some .str,.sc (.string s)=>some (.sc (.string s))
 |_,_,_=>none
def indexA(tt:Nat→Option TI)(t:Nat)(x i:AV):Option AV :=
 match kd tt t,x,i with
 |some .str,.sc (.string s),.sc (.int _ i)=>if 0≤i∧i<s.size then some (.sc (.int .u8 (bt s i))) else none
 |_,_,_=>none
def extractA(x:AV)(i:Nat):Option AV :=
 match x with
 |.tup vs=>vs[i]?
 |_=>none
def fieldT(tt:Nat→Option TI)(s f:Nat):Option (Nat×TI):=
 match kd tt s with
 |some (.struct fs)=>(fs[f]?).bind fun x=>(tt x.2).map fun ti=>(x.1,ti)
 |_=>none
def fieldAddrA(tt:Nat→Option TI)(s:Nat)(x:AV)(f:Nat):Option AV :=
 match fieldT tt s f with
 |some (off,ti)=>if ti.size=0 then none else match x with
  |.ptr id k p i j=>some (.ptr id k p i (j+off))
  |.fp cs=>if off<cs.length then some (.fp (cs.drop off)) else none
  |.sc (.pointer (some ⟨b,n,none⟩))=>some (.sc (.pointer (some ⟨b,n+off,none⟩)))
  |_=>none
 |none=>none
def fieldA(tt:Nat→Option TI)(s:Nat)(x:AV)(f:Nat):Option AV :=
 match fieldT tt s f with
 |some (off,ti)=>match x with
  |.agg cs=>partA ti.kind.agg ti.size cs off
  |_=>none
 |none=>none
def elemT(tt:Nat→Option TI)(t:Nat):Option (Nat×TI):=
 match kd tt t with
 |some (.slice e)=>(tt e).map fun ti=>(e,ti)
 |_=>none
def indexAddrA(tt:Nat→Option TI)(t:Nat)(x i:AV):Option AV :=
 match elemT tt t,i with
 |some (_,ti),.sc (.int _ i)=>match x with
  |.sl id k p off len=>if 0≤i∧i<len∧ti.size=k then some (.ptr id k p (off+i.toNat) 0) else none
  |.fz xs=>if 0≤i then (match xs[i.toNat]? with|some r=>if ti.size=r.length∧0<r.length then some (.fp r) else none|none=>none) else none
  |_=>none
 |_,_=>none
def lenS(tt:Nat→Option TI)(t:Nat)(x:AV):Option AV :=
 match kd tt t with
 |some (.slice _)=>match x with
  |.fz xs=>some (.sc (.int .i64 xs.length))
  |.sl _ _ _ _ len=>some (.sc (.int .i64 len))
  |.sc (.slice none 0 0)=>some (.sc (.int .i64 0))
  |_=>none
 |some .str=>match x with
  |.sc (.string s)=>some (.sc (.int .i64 s.size))
  |_=>none
 |_=>none
def minA(x y:AV):Option AV :=
 match x,y with
 |.sc (.int k x),.sc (.int _ y)=>some (.sc (.int k (if y<x then y else x)))
 |_,_=>none
def maxA(x y:AV):Option AV :=
 match x,y with
 |.sc (.int k x),.sc (.int _ y)=>some (.sc (.int k (if y>x then y else x)))
 |_,_=>none
theorem VR.sc_inv{v u:Value}(h:VR β w (.sc v) u):u=v:=by cases h;rfl
theorem scs_vr:∀{cs:List AV} {vs:List Value},scs cs=some vs→cs=vs.map .sc
 |[],vs,h=>by simp[scs]at h;subst h;rfl
 |.sc v::r,vs,h=>by
  simp only[scs,Option.map_eq_some_iff]at h
  obtain⟨vs',h1,rfl⟩:=h
  rw[scs_vr h1];rfl
 |.agg _::_,_,h|.tup _::_,_,h|.fz _::_,_,h|.sl ..::_,_,h|.ptr ..::_,_,h|.fp _::_,_,h|.un::_,_,h=>by simp[scs]at h
theorem VR.agg_sc{vs:List Value}{u:Value}(h:VR β w (.agg (vs.map .sc)) u):u=.agg vs.toArray:=by
 cases h with
 |agg cs us f hl hu h1 hx =>
  congr 1
  apply Array.ext'
  apply List.ext_getElem?
  intro i
  by_cases hi:i<vs.length
  ·have hc:(vs.map AV.sc)[i]?=some (.sc vs[i]):=by simp[hi]
   have:=(hx i _ hc).sc_inv
   have h2:=hu i _ hc
   rw[this]at h2
   simpa[hi]using h2
  ·have h2:us.toList.length=vs.length:=by simpa using hl.symm
   rw[List.getElem?_eq_none (by omega),List.getElem?_eq_none (by simp;omega)]
theorem TOk.kd{P:Program}{tt:Nat→Option TI}(h:TOk P tt){t:Nat}{k:TK}(hk:kd tt t=some k):∃d,P.underlying t=some d∧k.ok d:=by
 simp only[Own.kd,Option.map_eq_some_iff]at hk
 obtain⟨i,h1,rfl⟩:=hk
 obtain⟨_,d,_,_,h2,_,_,_,_,h3⟩:=h.ok t i h1
 exact⟨d,h2,h3⟩
section sound
variable {o:Oper}{T:List Nat}
theorem sound_move{x:Operand}(ho:o.op=.move x∨o.op=.assign x):Val P o st (ev st x) T:=by
 refine fun β a w he uq ob=>⟨a.eval x,fun w2 hS=>?_,he x⟩
 rcases ho with h|h<;>simp[execOp,h]
theorem sound_pick{c x y:Operand}{v:AV}(ho:o.op=.pick c x y)(hv:pickA (ev st c) (ev st x) (ev st y)=some v):Val P o st v T:=by
 intro β a w he uq ob
 unfold pickA at hv
 have hc:=he c
 split at hv
 ·rename_i h;rw[h]at hc;have:=hc.sc_inv;injection hv with hv;subst hv
  exact⟨a.eval x,fun w2 hS=>by simp[execOp,ho,this,asBool],he x⟩
 ·rename_i h;rw[h]at hc;have:=hc.sc_inv;injection hv with hv;subst hv
  exact⟨a.eval y,by simp[execOp,ho,this,asBool],he y⟩
 ·simp at hv
theorem sound_nil{x:Operand}{v:AV}(ho:o.op=.nilCheck x)(hv:nilA (ev st x)=some v):Val P o st v T:=by
 intro β a w he uq ob
 have hx:=he x
 unfold nilA at hv
 split at hv
 ·rename_i h;injection hv with hv;subst hv;rw[h]at hx
  generalize a.eval x=u at hx
  refine⟨a.eval x,fun w2 hS=>?_,by rw[←h];exact he x⟩
  have hx2:=he x
  rw[h]at hx2
  simp only[execOp,ho]
  generalize a.eval x=u at hx2
  cases hx2
  simp
 ·rename_i h;injection hv with hv;subst hv
  refine⟨a.eval x,fun w2 hS=>?_,by rw[←h];exact he x⟩
  have hx2:=he x
  rw[h]at hx2
  simp only[execOp,ho]
  generalize a.eval x=u at hx2
  cases hx2
  simp
 ·rename_i ad h;injection hv with hv;subst hv
  refine⟨a.eval x,fun w2 hS=>?_,by rw[←h];exact he x⟩
  have hx2:=he x
  rw[h]at hx2
  have:=hx2.sc_inv
  simp[execOp,ho,this]
 ·simp at hv
theorem run_eqA(tok:TOk P tt){t:Nat}{us vs:List AV}{b:Bool}(h:eqA tt t us vs=some b){u v:Value}(hu:VR β w (.agg us) u)(hv:VR β w (.agg vs) v) :
  P.eqGuardType P.depth t=false∧∃xs ys:Array Value,u=.agg xs∧v=.agg ys∧∀w,(Op.equal t u v).run P w=.ok b w:=by
 unfold eqA at h
 split at h
 ·rename_i ti hti
  simp only[Option.bind_eq_some_iff]at h
  obtain⟨xs,h1,ys,h2,h3⟩:=h
  split at h3
  ·simp at h3
  ·rename_i hne
   rw[scs_vr h1]at hu
   rw[scs_vr h2]at hv
   have e1:=hu.agg_sc
   have e2:=hv.agg_sc
   subst e1 e2
   obtain⟨g1,g2⟩:=tok.eq t ti hti (by intro h;simp[h]at hne)
   exact⟨g1,_,_,rfl,rfl,fun w=>g2 w xs ys b h3⟩
 ·simp at h
theorem runEqIface{t:Nat}{ms:Array (String×TypeId)}(hu:P.underlying t=some (.interface ms))(d ta:Nat)(va:Value):(Op.equalIn (d+1) t (.iface ta va) .nilIface).run P w=.ok false w:=by
 simp only[Op.equalIn,Sem.run_bind,run_underlying hu,Result.andThen_ok,Sem.run_pure]
theorem runEqIface0{t:Nat}{ms:Array (String×TypeId)}(hu:P.underlying t=some (.interface ms))(d:Nat):(Op.equalIn (d+1) t .nilIface .nilIface).run P w=.ok true w:=by
 simp only[Op.equalIn,Sem.run_bind,run_underlying hu,Result.andThen_ok,Sem.run_pure]
theorem sound_bin(tok:TOk P tt){op:BinOp}{t t2:Nat}{x y:Operand}{v:AV}(ho:o.op=.binOp op t x y t2)(hv:binA tt op t (ev st x) (ev st y)=some v):Val P o st v T:=by
 intro β a w he uq ob
 have hx:=he x
 have hy:=he y
 unfold binA at hv
 split at hv
 ·rename_i u1 u2 h1 h2
  rw[h1]at hx
  rw[h2]at hy
  have ex:=hx.sc_inv
  have ey:=hy.sc_inv
  simp only[Option.map_eq_some_iff]at hv
  obtain⟨r,hr,rfl⟩:=hv
  refine⟨r,fun w2 hS=>?_,.sc r⟩
  have hrun:=run_binV (P:=P) hr t w2
  have hg:(eqGuard op t x y u1 u2).run P w2=.ok () w2:=by
   unfold binV at hr
   split at hr
   ·cases op<;>simp[eqGuard]
   ·cases op<;>simp[eqGuard]
   ·simp at hr
  simp[execOp,ho,ex,ey,hg,hrun]
 ·rename_i us vs h1 h2
  rw[h1]at hx
  rw[h2]at hy
  split at hv
  ·simp only[Option.map_eq_some_iff]at hv
   obtain⟨b,hb,rfl⟩:=hv
   obtain⟨hg,xs,ys,e1,e2,hrun⟩:=run_eqA tok hb hx hy
   rw[e1,e2]at hrun
   exact⟨.bool b,fun w2 hS=>by simp[execOp,ho,e1,e2,eqGuard,hg,binOp,hrun],.sc _⟩
  ·simp only[Option.map_eq_some_iff]at hv
   obtain⟨b,hb,rfl⟩:=hv
   obtain⟨hg,xs,ys,e1,e2,hrun⟩:=run_eqA tok hb hx hy
   rw[e1,e2]at hrun
   exact⟨.bool !b,fun w2 hS=>by simp[execOp,ho,e1,e2,eqGuard,hg,binOp,hrun],.sc _⟩
  ·simp at hv
 ·simp at hv
theorem sound_ifc(tok:TOk P tt){op:BinOp}{t t2:Nat}{x:Operand}{u r:Value}(ho:o.op=.binOp op t x (.const .nilIface) t2)(hx0:ev st x=.sc u)(hr:ifcV (kd tt t) op u .nilIface=some r):Val P o st (.sc r) T:=by
 intro β a w he uq ob
 have hx:=he x
 rw[hx0]at hx
 have ex:=hx.sc_inv
 have ey:a.eval (.const .nilIface)=.nilIface:=rfl
 unfold ifcV at hr
 split at hr
 ·rename_i hkd _
  obtain⟨d,g1,ms,rfl⟩:=tok.kd hkd
  have e1:∀(w2:World) ta va,(Op.equal t (.iface ta va) .nilIface).run P w2=.ok false w2:=fun w2 ta va=>runEqIface g1 9999 ta va
  have e2:∀(w2:World),(Op.equal t .nilIface .nilIface).run P w2=.ok true w2:=fun w2=>runEqIface0 g1 9999
  refine⟨r,fun w2 hS=>?_,.sc r⟩
  split at hr
  all_goals (try(simp at hr;done))
  all_goals (injection hr with hr;subst hr;simp[execOp,ho,ex,ey,eqGuard,binOp,e1,e2])
 ·simp at hr
theorem sound_un{op:UnOp}{t:Nat}{x:Operand}{v:AV}(ho:o.op=.unOp op t x)(hv:unA op (ev st x)=some v):Val P o st v T:=by
 intro β a w he uq ob
 have hx:=he x
 unfold unA at hv
 split at hv
 ·rename_i h;rw[h]at hx;have:=hx.sc_inv;injection hv with hv;subst hv
  exact⟨_,fun w2 hS=>by simp[execOp,ho,this,Op.unary],.sc _⟩
 ·rename_i h;rw[h]at hx;have:=hx.sc_inv;injection hv with hv;subst hv
  exact⟨_,fun w2 hS=>by simp[execOp,ho,this,Op.unary,Op.intArith],.sc _⟩
 ·simp at hv
theorem sound_conv(tok:TOk P tt){src dst:Nat}{x:Operand}{v:AV}(ho:o.op=.convert src dst x)(hv:convA tt src dst (ev st x)=some v):Val P o st v T:=by
 intro β a w he uq ob
 have hx:=he x
 unfold convA at hv
 split at hv
 ·rename_i k1 k2 k3 n h1 h2 h3
  rw[h3]at hx;have:=hx.sc_inv;injection hv with hv;subst hv
  obtain⟨d1,g1,rfl⟩:=tok.kd h1
  obtain⟨d2,g2,rfl⟩:=tok.kd h2
  exact⟨_,fun w2 hS=>by simp[execOp,ho,this,convert,run_underlying g1,run_underlying g2,Conv.intToInt],.sc _⟩
 ·rename_i s h1 h2 h3
  rw[h3]at hx;have:=hx.sc_inv;injection hv with hv;subst hv
  obtain⟨d1,g1,rfl⟩:=tok.kd h1
  obtain⟨d2,g2,rfl⟩:=tok.kd h2
  exact⟨_,fun w2 hS=>by simp[execOp,ho,this,convert,run_underlying g1,run_underlying g2],.sc _⟩
 ·simp at hv
theorem sound_index(tok:TOk P tt){t:Nat}{x i:Operand}{v:AV}(ho:o.op=.index t x i)(hv:indexA tt t (ev st x) (ev st i)=some v):Val P o st v T:=by
 intro β a w he uq ob
 have hx:=he x
 have hi:=he i
 unfold indexA at hv
 split at hv
 ·rename_i s k n h1 h2 h3
  rw[h2]at hx
  rw[h3]at hi
  have ex:=hx.sc_inv
  have ei:=hi.sc_inv
  split at hv
  ·rename_i hb
   injection hv with hv
   subst hv
   obtain⟨d1,g1,rfl⟩:=tok.kd h1
   have hlt:n.toNat<s.size:=by omega
   refine⟨_,fun w2 hS=>?_,.sc _⟩
   have hget:(if 0≤n then s[n.toNat]? else none)=some (s[n.toNat]'hlt):=by
    rw[if_pos hb.1]
    exact getElem?_pos s n.toNat hlt
   simp[execOp,ho,ex,ei,Instr.index,asIntOf,run_underlying g1,hb.1,hlt,bt]
  ·simp at hv
 ·simp at hv
theorem sound_extract{x:Operand}{i:Nat}{v:AV}(ho:o.op=.extract x i)(hv:extractA (ev st x) i=some v):Val P o st v T:=by
 intro β a w he uq ob
 have hx:=he x
 unfold extractA at hv
 split at hv
 ·rename_i vs h
  rw[h]at hx
  have e1:∃(us:Array Value) (f:Nat→Value),a.eval x=.tuple us∧us[i]?=some (f i)∧VR β w v (f i):=by
   generalize a.eval x=u at hx
   cases hx with
   |tup _ us f hl hu hx=>exact⟨us,f,rfl,hu i v hv,hx i v hv⟩
  obtain⟨us,f,h1,h2,h3⟩:=e1
  exact⟨f i,fun w2 hS=>by simp[execOp,ho,h1,Instr.extract,h2],h3⟩
 ·simp at hv
theorem sound_len(tok:TOk P tt){x:Operand}{t:Nat}{v:AV}(ho:o.op=.call { callee:=.builtin .len,args:=#[x],argTypes:=#[t] })(hv:lenS tt t (ev st x)=some v):Val P o st v T:=by
 intro β a w he uq ob
 have hx:=he x
 unfold lenS at hv
 split at hv
 ·rename_i e hk
  obtain⟨d,g1,rfl⟩:=tok.kd hk
  split at hv
  ·rename_i xs h
   injection hv with hv;subst hv
   rw[h]at hx
   have:∃p c,a.eval x=.slice p xs.length c:=by
    generalize a.eval x=u at hx
    cases hx with
    |fz _ _ h=>cases h with
     |fzE p c=>exact⟨_,_,rfl⟩
     |fzN=>exact⟨_,_,rfl⟩
   obtain⟨p,c,h1⟩:=this
   exact⟨_,fun w2 hS=>by simp[execOp,ho,resolve,invoke,builtin,h1,Builtin.len_,run_underlying g1,goInt],.sc _⟩
  ·rename_i id k p off len h
   injection hv with hv;subst hv
   rw[h]at hx
   have:∃p c,a.eval x=.slice p len c:=by
    generalize a.eval x=u at hx
    cases hx<;>exact⟨_,_,rfl⟩
   obtain⟨p,c,h1⟩:=this
   exact⟨_,fun w2 hS=>by simp[execOp,ho,resolve,invoke,builtin,h1,Builtin.len_,run_underlying g1,goInt],.sc _⟩
  ·rename_i h
   injection hv with hv;subst hv
   rw[h]at hx
   have h1:=hx.sc_inv
   exact⟨_,fun w2 hS=>by simp[execOp,ho,resolve,invoke,builtin,h1,Builtin.len_,run_underlying g1,goInt],.sc _⟩
  ·simp at hv
 ·rename_i hk
  obtain⟨d,g1,rfl⟩:=tok.kd hk
  split at hv
  ·rename_i s h
   injection hv with hv;subst hv
   rw[h]at hx
   have h1:=hx.sc_inv
   exact⟨_,fun w2 hS=>by simp[execOp,ho,resolve,invoke,builtin,h1,Builtin.len_,run_underlying g1,goInt],.sc _⟩
  ·simp at hv
 ·simp at hv
theorem sound_min{x y:Operand}{ts:Array TypeId}{v:AV}(ho:o.op=.call { callee:=.builtin .min,args:=#[x,y],argTypes:=ts })(hv:minA (ev st x) (ev st y)=some v):Val P o st v T:=by
 intro β a w he uq ob
 have hx:=he x
 have hy:=he y
 unfold minA at hv
 split at hv
 ·rename_i h1 h2
  rw[h1]at hx
  rw[h2]at hy
  have ex:=hx.sc_inv
  have ey:=hy.sc_inv
  injection hv with hv;subst hv
  exact⟨_,fun w2 hS=>by simp[execOp,ho,resolve,invoke,builtin,ex,ey,Builtin.min_,Builtin.min2],.sc _⟩
 ·simp at hv
theorem sound_max{x y:Operand}{ts:Array TypeId}{v:AV}(ho:o.op=.call { callee:=.builtin .max,args:=#[x,y],argTypes:=ts })(hv:maxA (ev st x) (ev st y)=some v):Val P o st v T:=by
 intro β a w he uq ob
 have hx:=he x
 have hy:=he y
 unfold maxA at hv
 split at hv
 ·rename_i h1 h2
  rw[h1]at hx
  rw[h2]at hy
  have ex:=hx.sc_inv
  have ey:=hy.sc_inv
  injection hv with hv;subst hv
  exact⟨_,fun w2 hS=>by simp[execOp,ho,resolve,invoke,builtin,ex,ey,Builtin.max_,Builtin.max2],.sc _⟩
 ·simp at hv
end sound
end Go.Own
namespace Go.Own
variable {P:Program}{tt:Nat→Option TI}{w0:World}{β0:Blk}{st:St}{β:Blk}{a:Act}{w w':World}{o:Oper}{T:List Nat}
theorem TOk.field(tok:TOk P tt){s f off:Nat}{ti:TI}(h:fieldT tt s f=some (off,ti)) :
  ∃flds fld,P.underlying s=some (.struct flds)∧flds[f]?=some fld∧fld.offset=off∧tt fld.type=some ti:=by
 unfold fieldT at h
 split at h
 ·rename_i fs hk
  obtain⟨d,g1,flds,rfl,g2⟩:=tok.kd hk
  simp only[Option.bind_eq_some_iff,Option.map_eq_some_iff,Prod.mk.injEq]at h
  obtain⟨x,h1,ti',h2,h3,rfl⟩:=h
  rw[←g2,List.getElem?_map]at h1
  simp only[Option.map_eq_some_iff]at h1
  obtain⟨fld,h4,rfl⟩:=h1
  exact⟨flds,fld,g1,by simpa using h4,h3,h2⟩
 ·simp at h
theorem TOk.elem(tok:TOk P tt){t e:Nat}{ti:TI}(h:elemT tt t=some (e,ti)):P.underlying t=some (.slice e)∧tt e=some ti:=by
 unfold elemT at h
 split at h
 ·rename_i e' hk
  obtain⟨d,g1,rfl⟩:=tok.kd hk
  simp only[Option.map_eq_some_iff,Prod.mk.injEq]at h
  obtain⟨ti',h1,rfl,rfl⟩:=h
  exact⟨g1,h1⟩
 ·simp at h
theorem add_plain(b o n:Nat):(⟨b,o,none⟩:Addr).add n=⟨b,o+n,none⟩:=by
 unfold Addr.add
 split
 ·rename_i h;subst h;rfl
 ·rfl
theorem VR.ptr_inv{id k:Nat}{p:Pth}{i j:Nat}{u:Value}(h:VR β w (.ptr id k p i j) u):∃b t cur,β b=some (id,p)∧w.heap[b]?=some (.cells cur t (0,0))∧u=.pointer (some ⟨b,i*k+j,none⟩):=by
 cases h with
 |ptr _ _ _ _ _ b t cur h1 h2=>exact⟨b,t,cur,h1,h2,rfl⟩
theorem VR.fp_inv{cs:List C}{u:Value}(h:VR β w (.fp cs) u):∃(b o:Nat) (f:Nat→Value),β b=none∧b<w.heap.size∧(∀(j:Nat) (x:C),cs[j]?=some x→w.cell? ⟨b,o+j,none⟩=some (f j)) ∧
  (∀(j:Nat) (x:C),cs[j]?=some x→FR (fun b=>β b=none) w x (f j))∧u=.pointer (some ⟨b,o,none⟩):=by
 cases h with
 |fp _ b o f h1 h2 h3 h4=>exact⟨b,o,f,h1,h2,h3,h4,rfl⟩
theorem VR.agg_inv{cs:List AV}{u:Value}(h:VR β w (.agg cs) u):∃(us:Array Value) (f:Nat→Value),cs.length=us.size∧(∀(i:Nat) (x:AV),cs[i]?=some x→us[i]?=some (f i)) ∧
  (∀(i:Nat) (x:AV),cs[i]?=some x→(f i).oneCell'=true)∧(∀(i:Nat) (x:AV),cs[i]?=some x→VR β w x (f i))∧u=.agg us:=by
 cases h with
 |agg _ us f h1 h2 h3 h4=>exact⟨us,f,h1,h2,h3,h4,rfl⟩
theorem sound_fieldAddr(tok:TOk P tt){s f:Nat}{x:Operand}{v:AV}(ho:o.op=.fieldAddr s x f)(hv:fieldAddrA tt s (ev st x) f=some v):Val P o st v T:=by
 intro β a w he uq ob
 have hx:=he x
 unfold fieldAddrA at hv
 split at hv
 ·rename_i off ti hf
  obtain⟨flds,fld,g1,g2,g3,g4⟩:=tok.field hf
  split at hv
  ·simp at hv
  ·rename_i hsz
   have hrun:∀b n,a.eval x=.pointer (some ⟨b,n,none⟩)→∀w2,Same T β w w2→(execOp a.eval o).run P w2=.ok (.value (.pointer (some ⟨b,n+off,none⟩))) w2:=fun b n h w2 hS=>by
    simp[execOp,ho,h,Instr.fieldAt,Instr.sureAddr,run_underlying g1,g2,fieldPlace,tok.sizeOf g4,hsz,g3,add_plain]
   split at hv
   ·rename_i id k p i j h
    injection hv with hv;subst hv
    rw[h]at hx
    obtain⟨b,t,cur,h1,h2,h3⟩:=hx.ptr_inv
    refine⟨_,hrun b _ h3,?_⟩
    rw[Nat.add_assoc]
    exact .ptr id k p i (j+off) b t cur h1 h2
   ·rename_i cs h
    split at hv
    ·injection hv with hv;subst hv
     rw[h]at hx
     obtain⟨b,n,fn,h1,h2,h3,h4,h5⟩:=hx.fp_inv
     refine⟨_,hrun b n h5,.fp _ b (n+off) (fun j=>fn (off+j)) h1 h2 (fun j y hj=>?_) (fun j y hj=>?_)⟩
     ·rw[List.getElem?_drop]at hj
      have:=h3 _ y hj
      rwa [←Nat.add_assoc]at this
     ·rw[List.getElem?_drop]at hj
      exact h4 _ y hj
    ·simp at hv
   ·rename_i b n h
    injection hv with hv;subst hv
    rw[h]at hx
    exact⟨_,hrun b n hx.sc_inv,.sc _⟩
   ·simp at hv
 ·simp at hv
theorem part_vr{cs:List AV}{us:Array Value}{f:Nat→Value}(h1:cs.length=us.size)(h2:∀(i:Nat) (x:AV),cs[i]?=some x→us[i]?=some (f i))
  (h3:∀(i:Nat) (x:AV),cs[i]?=some x→(f i).oneCell'=true) (h4:∀(i:Nat) (x:AV),cs[i]?=some x→VR β w x (f i)) (off n:Nat) (hle:off+n≤cs.length) :
  VR β w (.agg ((cs.drop off).take n)) (.agg (us.extract off (off+n))):=by
 refine .agg _ _ (fun i=>f (off+i)) (by simp;omega) (fun i x hi=>?_) (fun i x hi=>?_) (fun i x hi=>?_)
 all_goals
  rw[List.getElem?_take]at hi
  split at hi
  ·rename_i hlt
   rw[List.getElem?_drop]at hi
   first
    |(rw[Array.getElem?_extract,if_pos (by have:=(List.getElem?_eq_some_iff.1 hi).1;omega)];exact h2 _ x hi)
    |exact h3 _ x hi
    |exact h4 _ x hi
  ·simp at hi
theorem sound_field(tok:TOk P tt){s f:Nat}{x:Operand}{v:AV}(ho:o.op=.field s x f)(hv:fieldA tt s (ev st x) f=some v):Val P o st v T:=by
 intro β a w he uq ob
 have hx:=he x
 unfold fieldA at hv
 split at hv
 ·rename_i off ti hf
  obtain⟨flds,fld,g1,g2,g3,g4⟩:=tok.field hf
  split at hv
  ·rename_i cs h
   rw[h]at hx
   obtain⟨us,fn,h1,h2,h3,h4,h5⟩:=hx.agg_inv
   unfold partA at hv
   have ha:=fun w=>tok.isAgg g4 w
   split at hv
   ·rename_i hagg
    split at hv
    ·rename_i hle
     injection hv with hv;subst hv
     rw[hagg]at ha
     exact⟨_,fun w2 hS=>by simp[execOp,ho,h5,Instr.field,run_underlying g1,g2,asAgg,part,ha,tok.sizeOf g4,g3],part_vr h1 h2 h3 h4 off ti.size hle⟩
    ·simp at hv
   ·rename_i hagg
    have hagg:ti.kind.agg=false:=by simpa using hagg
    rw[hagg]at ha
    exact⟨_,fun w2 hS=>by simp[execOp,ho,h5,Instr.field,run_underlying g1,g2,asAgg,part,ha,g3,h2 off v hv],h4 off v hv⟩
  ·simp at hv
 ·simp at hv
theorem sound_indexAddr(tok:TOk P tt){t:Nat}{x i:Operand}{v:AV}(ho:o.op=.indexAddr t x i)(hv:indexAddrA tt t (ev st x) (ev st i)=some v):Val P o st v T:=by
 intro β a w he uq ob
 have hx:=he x
 have hi:=he i
 unfold indexAddrA at hv
 split at hv
 ·rename_i e ti k n hel hin
  obtain⟨g1,g2⟩:=tok.elem hel
  rw[hin]at hi
  have ei:=hi.sc_inv
  split at hv
  ·rename_i id k' p off len h
   split at hv
   ·rename_i hb
    injection hv with hv;subst hv
    rw[h]at hx
    have:∃b cap t' cur,a.eval x=.slice (some ⟨b,off*k',none⟩) len (cap-off)∧β b=some (id,p)∧w.heap[b]?=some (.cells cur t' (0,0)):=by
     generalize a.eval x=u at hx
     cases hx with
     |sl _ _ _ _ _ b cap t' cur h0 h1 h2 h3 h4=>exact⟨b,cap,t',cur,rfl,h1,h2⟩
     |slN=>omega
    obtain⟨b,cap,t',cur,h1,h2,h3⟩:=this
    refine⟨.pointer (some ⟨b,(off+n.toNat)*k'+0,none⟩),fun w2 hS=>?_,.ptr id k' p _ 0 b t' cur h2 h3⟩
    simp[execOp,ho,h1,ei,Instr.indexAt,asIntOf,run_underlying g1,hb.1,hb.2.1,tok.sizeOf g2,hb.2.2,add_plain,Nat.add_mul]
   ·simp at hv
  ·rename_i xs h
   split at hv
   ·rename_i hn
    split at hv
    ·rename_i r hr
     split at hv
     ·rename_i hk
      injection hv with hv;subst hv
      rw[h]at hx
      have hlt:=(List.getElem?_eq_some_iff.1 hr).1
      have:∃(b ob c:Nat) (f:Nat→Value),a.eval x=.slice (some ⟨b,ob,none⟩) xs.length c∧β b=none∧b<w.heap.size∧(∀(j:Nat) (y:C),r[j]?=some y→w.cell? ⟨b,ob+n.toNat*r.length+j,none⟩=some (f j)) ∧
        (∀(j:Nat) (y:C),r[j]?=some y→FR (fun b=>β b=none) w y (f j)):=by
       generalize a.eval x=u at hx
       cases hx with
       |fz _ _ hfr=>cases hfr with
        |fzE=>simp at hr
        |fzN _ b ob k0 c f hne h0 hav hkk hl hc hxx =>
         have hrl:=hkk r (List.mem_of_getElem? hr)
         refine⟨b,ob,c,f n.toNat,rfl,hav,FR.lt hne h0 hkk hc,fun j y hj=>?_,fun j y hj=>hxx _ j r y hr hj⟩
         rw[hrl]
         exact hc _ j r y hr hj
      obtain⟨b,ob,c,f,h1,h2,h3,h4,h5⟩:=this
      refine⟨.pointer (some ⟨b,ob+n.toNat*r.length,none⟩),fun w2 hS=>?_,.fp r b _ f h2 h3 h4 h5⟩
      have hn2:n<(xs.length:Int):=by omega
      simp[execOp,ho,h1,ei,Instr.indexAt,asIntOf,run_underlying g1,hn,hn2,tok.sizeOf g2,hk.1,add_plain]
     ·simp at hv
    ·simp at hv
   ·simp at hv
  ·simp at hv
 ·simp at hv
def bndA(d:Int)(x:Option AV):Option Int :=
 match x with
 |none=>some d
 |some (.sc (.int _ n))=>some n
 |_=>none
def sliceA(tt:Nat→Option TI)(t:Nat)(x:AV)(lo hi:Option AV):Option AV :=
 match x with
 |.sc (.string s)=>match kd tt t,bndA 0 lo,bndA s.size hi with
  |some .str,some l,some h=>if 0≤l∧l≤h∧h≤s.size then some (.sc (.string (s.extract l.toNat h.toNat))) else none
  |_,_,_=>none
 |.fz xs=>match elemT tt t,bndA 0 lo,bndA xs.length hi with
  |some (_,ti),some l,some h=>if 0≤l∧l≤h∧h≤xs.length∧(∀r,r∈xs→r.length=ti.size) then some (.fz ((xs.drop l.toNat).take (h.toNat-l.toNat))) else none
  |_,_,_=>none
 |.sl id k p off len=>match elemT tt t,bndA 0 lo,bndA len hi with
  |some (_,ti),some l,some h=>if 0≤l∧l<h∧h≤len∧ti.size=k then some (.sl id k p (off+l.toNat) (h.toNat-l.toNat)) else if l=0∧h≤len∧0≤h∧ti.size=k then some (.sl id k p off h.toNat) else none
  |_,_,_=>none
 |_=>none
theorem bnd_inv{d n:Int}{lo:Option Operand}(he:∀x,VR β w (ev st x) (a.eval x))(h:bndA d (lo.map (ev st))=some n) :
  (lo=none∧n=d)∨∃x k,lo=some x∧a.eval x=.int k n:=by
 cases lo with
 |none=>simp only[Option.map_none,bndA,Option.some.injEq]at h;exact .inl ⟨rfl,h.symm⟩
 |some x =>
  simp only[Option.map_some]at h
  have hx:=he x
  cases hv:ev st x with
  |sc v =>
   rw[hv]at h hx
   cases v<;>simp only[bndA,Option.some.injEq,reduceCtorEq]at h
   subst h
   exact .inr ⟨x,_,rfl,hx.sc_inv⟩
  |_=>rw[hv]at h;simp[bndA]at h
theorem run_bounds{isS:Bool}{len cap:Nat}{lo hi:Option Operand}{l h:Int}(he:∀x,VR β w (ev st x) (a.eval x))(hl:bndA 0 (lo.map (ev st))=some l)(hh:bndA len (hi.map (ev st))=some h)
  (h0:0≤l) (h1:l≤h) (h2:h≤cap):(Instr.sliceBounds isS len cap (lo.map a.eval) (hi.map a.eval) none).run P w'=.ok (l.toNat,h.toNat,cap) w':=by
 have hb:∀(n:Int) (y:Nat) (k:IntKind) (c:BoundsCode),0≤n→n≤y→(Instr.sliceBound (.int k n) y c).run P w'=.ok n.toNat w':=fun n y k c g1 g2=>by
  simp[Instr.sliceBound,asIntOf,g1,g2]
 have e1:(h.toNat:Int)=h:=by omega
 rcases bnd_inv he hl with ⟨rfl,rfl⟩|⟨x,k,rfl,hx⟩<;>rcases bnd_inv he hh with ⟨rfl,rfl⟩|⟨y,k2,rfl,hy⟩
 ·simp[Instr.sliceBounds]
 ·simp[Instr.sliceBounds,hy,hb h cap k2 _ (by omega) h2]
 ·simp[Instr.sliceBounds,hx,hb l len k _ h0 h1]
 ·simp[Instr.sliceBounds,hx,hy,hb h cap k2 _ (by omega) h2,hb l h.toNat k _ h0 (by omega)]
theorem sound_slice(tok:TOk P tt){t:Nat}{x:Operand}{lo hi:Option Operand}{v:AV}(ho:o.op=.slice t x lo hi none)(hv:sliceA tt t (ev st x) (lo.map (ev st)) (hi.map (ev st))=some v):Val P o st v T:=by
 intro β a w he uq ob
 have hx:=he x
 unfold sliceA at hv
 split at hv
 ·rename_i s h
  rw[h]at hx
  have ex:=hx.sc_inv
  split at hv
  ·rename_i l hh hk hl hhi
   split at hv
   ·rename_i hb
    injection hv with hv;subst hv
    obtain⟨d,g1,rfl⟩:=tok.kd hk
    have hrun:=fun w2:World=>run_bounds (P:=P) (w':=w2) (isS:=false) (cap:=s.size) he hl hhi hb.1 hb.2.1 hb.2.2
    exact⟨_,fun w2 hS=>by simp[execOp,ho,ex,Instr.sliceAt,Instr.slice,run_underlying g1,hrun],.sc _⟩
   ·simp at hv
  ·simp at hv
 ·rename_i xs h
  rw[h]at hx
  split at hv
  ·rename_i e ti l hh hel hl hhi
   split at hv
   ·rename_i hb
    injection hv with hv;subst hv
    obtain⟨g1,g2⟩:=tok.elem hel
    obtain⟨b1,b2,b3,b4⟩:=hb
    have:∃p c,a.eval x=.slice p xs.length c∧FR (fun b=>β b=none) w (.fz xs) (.slice p xs.length c):=by
     generalize a.eval x=u at hx
     cases hx with
     |fz _ _ hfr=>cases hfr with
      |fzE p c=>exact⟨p,c,rfl,.fzE p c⟩
      |fzN _ b ob k0 c f g1 g2 g3 g4 g5 g6 g7=>exact⟨_,c,rfl,.fzN xs b ob k0 c f g1 g2 g3 g4 g5 g6 g7⟩
    obtain⟨p,c,h1,hfr⟩:=this
    have hc:xs.length≤c∨xs=[]:=by
     cases hfr with
     |fzE=>exact .inr rfl
     |fzN _ _ _ _ _ _ _ _ _ _ hl=>exact .inl hl.1
    have hcap:hh≤(c:Int)∨xs=[]:=by rcases hc with hc|hc;exact .inl (by omega);exact .inr hc
    by_cases hz:hh≤(c:Int)
    ·have hrun:=fun w2:World=>run_bounds (P:=P) (w':=w2) (isS:=true) (len:=xs.length) (cap:=c) he hl hhi b1 b2 hz
     refine⟨.slice (if c=l.toNat then p else p.map (·.add (l.toNat*ti.size))) (hh.toNat-l.toNat) (c-l.toNat),fun w2 hS=>by simp[execOp,ho,h1,Instr.sliceAt,Instr.slice,run_underlying g1,hrun,tok.sizeOf g2],?_⟩
     by_cases hlen:hh.toNat-l.toNat=0
     ·rw[hlen];simp;exact .fz _ _ (.fzE _ _)
     ·cases hfr with
      |fzE=>simp at b3;omega
      |fzN _ b ob k0 _ f q1 q2 q3 q4 q5 q6 q7 =>
       have hk0:ti.size=k0:=by
        cases xs with
        |nil=>exact absurd rfl q1
        |cons r rs=>rw[←b4 r (by simp),q4 r (by simp)]
       have hle:(((xs.drop l.toNat).take (hh.toNat-l.toNat))).length=hh.toNat-l.toNat:=by simp;omega
       rw[if_neg (by omega)]
       simp only[Option.map_some,add_plain]
       have hget:∀i r,((xs.drop l.toNat).take (hh.toNat-l.toNat))[i]?=some r→xs[l.toNat+i]?=some r:=fun i r hi=>by
        rw[List.getElem?_take]at hi
        split at hi
        ·rwa [List.getElem?_drop]at hi
        ·simp at hi
       have:=FR.fzN (av:=fun b=>β b=none) (w:=w) ((xs.drop l.toNat).take (hh.toNat-l.toNat)) b (ob+l.toNat*k0) k0 (c-l.toNat) (fun i j=>f (l.toNat+i) j)
        (fun hn=>by rw[hn]at hle;simp at hle;omega) q2 q3 (fun r hr=>q4 r (List.mem_of_mem_drop (List.mem_of_mem_take hr))) (by omega)
        (fun i j r y hi hj=>by have:=q6 _ j r y (hget i r hi) hj;rw[Nat.add_assoc ob,←Nat.add_mul];exact this)
        (fun i j r y hi hj=>q7 _ j r y (hget i r hi) hj)
       rw[hle,←hk0]at this
       rw[hk0]at this ⊢
       exact .fz _ _ this
    ·have hxs:xs=[]:=by rcases hcap with g|g;exact absurd g hz;exact g
     subst hxs
     simp at b3
     exact absurd (by omega:hh≤(c:Int)) hz
   ·simp at hv
  ·simp at hv
 ·rename_i id k p off len h
  rw[h]at hx
  split at hv
  ·rename_i e ti l hh hel hl hhi
   obtain⟨g1,g2⟩:=tok.elem hel
   have hrun:∀(q:Option Addr) (c:Nat),a.eval x=.slice q len c→0≤l→l≤hh→hh≤(c:Int) →
     ∀w2,Same T β w w2→(execOp a.eval o).run P w2=.ok (.value (.slice (if c=l.toNat then q else q.map (·.add (l.toNat*ti.size))) (hh.toNat-l.toNat) (c-l.toNat))) w2:=fun q c h1 b1 b2 b3 w2 hS=>by
    have hrun:=run_bounds (P:=P) (w':=w2) (isS:=true) (len:=len) (cap:=c) he hl hhi b1 b2 b3
    simp[execOp,ho,h1,Instr.sliceAt,Instr.slice,run_underlying g1,hrun,tok.sizeOf g2]
   split at hv
   ·rename_i hb
    obtain⟨b1,b2,b3,b4⟩:=hb
    injection hv with hv;subst hv
    generalize hu:a.eval x=u at hx
    cases hx with
    |slN=>omega
    |sl _ _ _ _ _ b cap t' cur q0 q1 q2 q3 q4 =>
     refine⟨_,hrun _ _ hu b1 (by omega) (by omega),?_⟩
     rw[if_neg (by omega)]
     simp only[Option.map_some,add_plain]
     have:=VR.sl (β:=β) (w:=w) id k p (off+l.toNat) (hh.toNat-l.toNat) b cap t' cur q0 q1 q2 q3 (by omega)
     rw[Nat.add_mul]at this
     rw[b4,Nat.sub_sub]
     exact this
   ·split at hv
    ·rename_i hb
     obtain⟨b1,b2,b3,b4⟩:=hb
     injection hv with hv;subst hv
     subst b1
     generalize hu:a.eval x=u at hx
     cases hx with
     |slN _ _ _ q0 q1 =>
      have:hh=0:=by omega
      subst this
      exact⟨_,hrun _ _ hu (by omega) (by omega) (by omega),by simpa using VR.slN id k p q0 q1⟩
     |sl _ _ _ _ _ b cap t' cur q0 q1 q2 q3 q4 =>
      refine⟨_,hrun _ _ hu (by omega) (by omega) (by omega),?_⟩
      have:=VR.sl (β:=β) (w:=w) id k p off hh.toNat b cap t' cur q0 q1 q2 q3 (by omega)
      have e1:(if cap-off=(0:Int).toNat then some (⟨b,off*k,none⟩:Addr) else Option.map (fun (y:Addr)=>y.add ((0:Int).toNat*ti.size)) (some ⟨b,off*k,none⟩))=some ⟨b,off*k,none⟩:=by
       split<;>simp[add_plain]
      rw[e1]
      simpa using this
    ·simp at hv
  ·simp at hv
 ·simp at hv
end Go.Own
namespace Go.Own
variable {P:Program}{tt:Nat→Option TI}{w0:World}{β0:Blk}{st st':St}{β:Blk}{a:Act}{w w':World}{o:Oper}{T:List Nat}
def loadL(id:Nat)(p:Pth)(i:Nat):Nat→List C→List AV
 |_,[]=>[]
 |j,x::xs=>cToA id p i j x::loadL id p i (j+1) xs
theorem range_get{n m i:Nat}(h:(List.range n)[i]?=some m):m=i∧i<n:=by
 rw[List.getElem?_eq_some_iff]at h
 obtain⟨h1,h2⟩:=h
 simp at h1 h2
 exact⟨h2.symm,h1⟩
theorem loadL_length(id:Nat)(p:Pth)(i:Nat):∀(xs:List C) (j:Nat),(loadL id p i j xs).length=xs.length
 |[],_=>rfl
 |x::xs,j=>by simp[loadL,loadL_length id p i xs]
theorem loadL_get(id:Nat)(p:Pth)(i:Nat):∀(xs:List C) (j n:Nat),(loadL id p i j xs)[n]?=(xs[n]?).map (cToA id p i (j+n))
 |[],_,_=>by simp[loadL]
 |x::xs,j,0=>by simp[loadL]
 |x::xs,j,n+1=>by simp[loadL,loadL_get id p i xs (j+1) n,Nat.add_assoc,Nat.add_comm 1 n]
def rowA(st:St)(id:Nat)(p:Pth):Option (Nat×Nat×List (List C)):=
 match lo st.ob id with
 |some (e,k,es)=>nav e k es p
 |none=>none
def loadA(tt:Nat→Option TI)(st:St)(t:Nat)(x:AV):Option AV :=
 match tt t with
 |none=>none
 |some ti=>match x with
  |.ptr id k p i j=>match rowA st id p with
   |some (_,k',row)=>if k'=k then (match row[i]? with
    |some r=>if ti.kind.agg then (if j+ti.size≤r.length then some (.agg (loadL id p i j ((r.drop j).take ti.size))) else none) else (r[j]?).map (cToA id p i j)
    |none=>none) else none
   |none=>none
  |.fp cs=>if ti.kind.agg then (if ti.size≤cs.length then some (.agg ((cs.take ti.size).map cToF)) else none) else (cs[0]?).map cToF
  |_=>none
theorem rowA_at{id:Nat}{p:Pth}{e k b:Nat}{row:List (List C)}(uq:∀b b' x,β b=some x→β b'=some x→b=b')
  (ob:∀id e k es,lo st.ob id=some (e,k,es)→SubR β w id [] e k es) (h:rowA st id p=some (e,k,row)) (hb:β b=some (id,p)) :
  ∃cap cur,w.heap[b]?=some (.cells cur e (0,0))∧row.length≤cap∧cur.size=cap*k∧(∀r,r∈row→r.length=k) ∧
   ∀(i j:Nat) (r:List C) (x:C),row[i]?=some r→r[j]?=some x→∃u,cur[i*k+j]?=some u∧CV β w id p i j x u:=by
 unfold rowA at h
 split at h
 ·rename_i e0 k0 es hlo
  have hr:=ob id e0 k0 es hlo p e k row h
  simp only[List.nil_append]at hr
  obtain⟨h0,hr⟩:=hr
  rcases hr with ⟨_,hn⟩|⟨b2,cap,cur,hb2,hh,hl,hm,hs,g1,g2,g3⟩
  ·exact absurd hb (hn b)
  ·obtain rfl:=uq b b2 _ hb hb2
   refine⟨cap,cur,hh,hl,hs,g2,fun i j r x hi hj=>?_⟩
   obtain⟨u,hu,hv⟩:=g3 i j r x hi hj
   have:=(List.getElem?_eq_some_iff.1 hu).1
   rw[List.getElem?_take_of_lt (by simp at this;omega)]at hu
   exact⟨u,by simpa using hu,hv⟩
 ·simp at h
theorem run_loadVar_agg(tok:TOk P tt){t:Nat}{ti:TI}(hti:tt t=some ti)(hagg:ti.kind.agg=true)(b n:Nat)(us:List Value)(hl:us.length=ti.size)
  (h:∀(j:Nat) (u:Value),us[j]?=some u→w.cell? ⟨b,n+j,none⟩=some u):(loadVar t ⟨b,n,none⟩).run P w=.ok (.agg us.toArray) w:=by
 have h1:=run_loadCells_list (P:=P) w ⟨b,n,none⟩ us (fun j u hj=>by rw[add_plain];exact h j u hj)
 rw[hl]at h1
 have ha:=tok.isAgg hti w
 rw[hagg]at ha
 simp[loadVar,ha,tok.sizeOf hti,h1]
theorem run_loadVar_one(tok:TOk P tt){t:Nat}{ti:TI}(hti:tt t=some ti)(hagg:ti.kind.agg=false)(ad:Addr)(u:Value)(h:w.cell? ad=some u):(loadVar t ad).run P w=.ok u w:=by
 have ha:=tok.isAgg hti w
 rw[hagg]at ha
 simp[loadVar,ha,h]
theorem sound_load(tok:TOk P tt){t:Nat}{x:Operand}{v:AV}(ho:o.op=.load t x)(hv:loadA tt st t (ev st x)=some v)(hT:∀id k p i j,ev st x=.ptr id k p i j→id∉T):Val P o st v T:=by
 intro β a w he uq ob
 have hx:=he x
 unfold loadA at hv
 split at hv
 ·simp at hv
 ·rename_i ti hti
  split at hv
  ·rename_i id k p i j h
   rw[h]at hx
   obtain⟨b,t',cur0,h1,h2,h3⟩:=hx.ptr_inv
   have hsame:∀w2,Same T β w w2→∀n,w2.cell? ⟨b,n,none⟩=w.cell? ⟨b,n,none⟩:=fun w2 hS n=>by
    have hlt:b<w.heap.size:=(Array.getElem?_eq_some_iff.1 h2).1
    exact World.cell?_of_block (hS b hlt (fun id' p' e=>by rw[h1]at e;injection e with e;injection e with e _;subst e;exact hT _ _ _ _ _ h))
   split at hv
   ·rename_i e k' row hrow
    split at hv
    ·rename_i hk
     subst hk
     obtain⟨cap,cur,hh,hl,hs,hr,hc⟩:=rowA_at uq ob hrow h1
     split at hv
     ·rename_i r hri
      have hcell:∀(n:Nat) (y:C),r[n]?=some y→∃u,w.cell? ⟨b,i*k'+n,none⟩=some u∧CV β w id p i n y u:=fun n y hn=>by
       obtain⟨u,hu,hcv⟩:=hc i n r y hri hn
       exact⟨u,by rw[cell_of_row w b _ cur e (0,0) hh];exact hu,hcv⟩
      split at hv
      ·rename_i hagg
       split at hv
       ·rename_i hle
        injection hv with hv;subst hv
        have hall:∀(n:Nat) (y:C),((r.drop j).take ti.size)[n]?=some y→∃u,w.cell? ⟨b,i*k'+j+n,none⟩=some u∧CV β w id p i (j+n) y u:=fun n y hn=>by
         rw[List.getElem?_take]at hn
         split at hn
         ·rw[List.getElem?_drop]at hn
          have:=hcell _ y hn
          rwa [←Nat.add_assoc]at this
         ·simp at hn
        have hlen:((r.drop j).take ti.size).length=ti.size:=by simp;omega
        let f:Nat→Value:=fun n=>(w.cell? ⟨b,i*k'+j+n,none⟩).getD undef
        have hf:∀(n:Nat) (y:C),((r.drop j).take ti.size)[n]?=some y→w.cell? ⟨b,i*k'+j+n,none⟩=some (f n)∧CV β w id p i (j+n) y (f n):=fun n y hn=>by
         obtain⟨u,hu,hcv⟩:=hall n y hn
         simp only[f,hu,Option.getD_some]
         exact⟨trivial,hcv⟩
        have hrun:=fun w2 hS=>run_loadVar_agg (w:=w2) tok hti hagg b (i*k'+j) ((List.range ti.size).map f) (by simp) (fun n u hn=>by
         rw[List.getElem?_map]at hn
         simp only[Option.map_eq_some_iff]at hn
         obtain⟨m,hm,rfl⟩:=hn
         obtain⟨rfl,hm2⟩:=range_get hm
         obtain⟨y,hy⟩:∃y,((r.drop j).take ti.size)[m]?=some y:=⟨_,List.getElem?_eq_getElem (by rw[hlen];exact hm2)⟩
         rw[hsame w2 hS];exact(hf m y hy).1)
        refine⟨.agg ((List.range ti.size).map f).toArray,fun w2 hS=>by simp only[execOp,ho,h3,Instr.loadAt,Instr.sureAddr,Sem.run_bind,Sem.run_pure,Result.andThen_ok,hrun w2 hS],?_⟩
        refine .agg _ _ f (by rw[loadL_length,hlen];simp) (fun n y hn=>?_) (fun n y hn=>?_) (fun n y hn=>?_)
        all_goals
         rw[loadL_get,Option.map_eq_some_iff]at hn
         obtain⟨c,hc1,rfl⟩:=hn
         have hn2:=(List.getElem?_eq_some_iff.1 hc1).1
         rw[hlen]at hn2
        ·simp[hn2]
        ·exact(hf n c hc1).2.one
        ·exact(hf n c hc1).2.vr
       ·simp at hv
      ·rename_i hagg
       simp only[Option.map_eq_some_iff]at hv
       obtain⟨c,hc1,rfl⟩:=hv
       obtain⟨u,hu,hcv⟩:=hcell j c hc1
       exact⟨u,fun w2 hS=>by simp[execOp,ho,h3,Instr.loadAt,Instr.sureAddr,run_loadVar_one tok hti (by simpa using hagg) _ u ((hsame w2 hS _).trans hu)],hcv.vr⟩
     ·simp at hv
    ·simp at hv
   ·simp at hv
  ·rename_i cs h
   rw[h]at hx
   obtain⟨b,n,f,h1,h2,h3,h4,h5⟩:=hx.fp_inv
   have hsame:∀w2,Same T β w w2→∀n,w2.cell? ⟨b,n,none⟩=w.cell? ⟨b,n,none⟩:=fun w2 hS n =>
    World.cell?_of_block (hS b h2 (fun id' p' e=>by rw[h1]at e;simp at e))
   split at hv
   ·rename_i hagg
    split at hv
    ·rename_i hle
     injection hv with hv;subst hv
     have hlen:(cs.take ti.size).length=ti.size:=by simp;omega
     have hrun:=fun w2 hS=>run_loadVar_agg (w:=w2) tok hti hagg b n ((List.range ti.size).map f) (by simp) (fun j u hj=>by
      rw[List.getElem?_map]at hj
      simp only[Option.map_eq_some_iff]at hj
      obtain⟨m,hm,rfl⟩:=hj
      obtain⟨rfl,hm2⟩:=range_get hm
      rw[hsame w2 hS];exact h3 m _ (List.getElem?_eq_getElem (by omega)))
     refine⟨.agg ((List.range ti.size).map f).toArray,fun w2 hS=>by simp only[execOp,ho,h5,Instr.loadAt,Instr.sureAddr,Sem.run_bind,Sem.run_pure,Result.andThen_ok,hrun w2 hS],?_⟩
     have hg:∀(m:Nat) (y:AV),((cs.take ti.size).map cToF)[m]?=some y→m<ti.size∧∃c,cs[m]?=some c∧y=cToF c:=fun m y hm=>by
      rw[List.getElem?_map,Option.map_eq_some_iff]at hm
      obtain⟨c,hc1,rfl⟩:=hm
      rw[List.getElem?_take]at hc1
      split at hc1
      ·rename_i hlt;exact⟨hlt,c,hc1,rfl⟩
      ·simp at hc1
     refine .agg _ _ f (by simp;omega) (fun m y hm=>?_) (fun m y hm=>?_) (fun m y hm=>?_)
     all_goals obtain⟨hlt,c,hc1,rfl⟩:=hg m y hm
     ·simp[hlt]
     ·exact(h4 m c hc1).one
     ·exact(h4 m c hc1).vr
    ·simp at hv
   ·rename_i hagg
    simp only[Option.map_eq_some_iff]at hv
    obtain⟨c,hc1,rfl⟩:=hv
    have hu:=h3 0 c hc1
    rw[Nat.add_zero]at hu
    exact⟨f 0,fun w2 hS=>by simp[execOp,ho,h5,Instr.loadAt,Instr.sureAddr,run_loadVar_one tok hti (by simpa using hagg) _ _ ((hsame w2 hS _).trans hu)],(h4 0 c hc1).vr⟩
  ·simp at hv
mutual
def rids:AV→List Nat
 |.sl id _ _ _ _=>[id]
 |.ptr id _ _ _ _=>[id]
 |.agg cs=>ridsL cs
 |.tup cs=>ridsL cs
 |_=>[]
def ridsL:List AV→List Nat
 |[]=>[]
 |x::xs=>rids x++ridsL xs
end
def killOf(id:Nat):AV→Nat→Pth→Bool
 |.sl sid _ _ _ _=>fun i p=>i==sid||(i==id && !p.isEmpty)
 |_=>fun _ _=>false
def fill1(st:St)(id:Nat)(p:Pth)(i j:Nat)(v:AV):Option St :=
 match lo st.ob id with
 |none=>none
 |some (e,k,es)=>match nav e k es p with
  |none=>none
  |some (_,kp,row)=>if j<kp∧i<row.length then (match v with
   |.sc u=>if u.oneCell' then some { st with ob:=putO st.ob id (e,k,updP es p (setCell i j (.sc u))) } else none
   |.fz xs=>some { st with ob:=putO st.ob id (e,k,updP es p (setCell i j (.fz xs))) }
   |.sl sid sk [] 0 len=>match lo st.ob sid with
    |some (se,sk',ses)=>if sid≠id∧sk'=sk∧len=ses.length then
      some { st with tm:=killT (fun i p=>i==sid||(i==id && !p.isEmpty)) st.tm,ob:=putO (delO st.ob sid) id (e,k,updP es p (setCell i j (.sl se sk ses))) } else none
    |none=>none
   |_=>none) else none
def fillL(st:St)(id:Nat)(p:Pth)(i:Nat):Nat→List AV→Option St
 |_,[]=>some st
 |j,v::vs=>if (AV.hitsL (killOf id v) vs)=false then (fill1 st id p i j v).bind fun st'=>fillL st' id p i (j+1) vs else none
theorem fill1_at{id i j:Nat}{p:Pth}{v:AV}(h:fill1 st id p i j v=some st'):∃e k es ep kp row,lo st.ob id=some (e,k,es)∧nav e k es p=some (ep,kp,row)∧j<kp∧i<row.length:=by
 unfold fill1 at h
 split at h
 ·simp at h
 ·rename_i e k es h1
  split at h
  ·simp at h
  ·rename_i ep kp row h2
   split at h
   ·rename_i h3
    exact⟨e,k,es,ep,kp,row,h1,h2,h3.1,h3.2⟩
   ·simp at h
theorem fill1_rel(hr:Rel w0 β0 st β a w){id i j b t kp:Nat}{p:Pth}{v:AV}{u:Value}{cur cur':Array Value}(h:fill1 st id p i j v=some st')(hv:VR β w v u)
  (hb:β b=some (id,p)) (hk:∀e k es ep kp' row,lo st.ob id=some (e,k,es)→nav e k es p=some (ep,kp',row)→kp'=kp)
  (hc:OneCell w w' b t (i*kp+j) cur cur' u) :
  ∃β',Rel w0 β0 st' β' a w'∧(∀v' u',v'.hits (killOf id v)=false→VR β w v' u'→VR β' w' v' u')∧β' b=some (id,p) ∧
   (∀e k es ep kp' row,lo st'.ob id=some (e,k,es)→nav e k es p=some (ep,kp',row)→kp'=kp)∧Fr (id::rids v) β w β' w':=by
 have frs:∀T,id∈T→Fr T β w β w':=fun T hT=>⟨fun b' hb' hq=>⟨rfl,hc.rest b' (fun e=>by subst e;exact hq id p hb hT)⟩,fun _ _ _ h _=>h⟩
 obtain⟨e,k,es,ep,kp0,row,h1,h2,h3,h4⟩:=fill1_at h
 obtain rfl:=hk _ _ _ _ _ _ h1 h2
 have navU:∀(x:C) e' k' es' ep' kp' row',(e,k,updP es p (setCell i j x))=(e',k',es')→nav e' k' es' p=some (ep',kp',row')→kp'=kp0:=by
  intro x e' k' es' ep' kp' row' he hn
  injection he with e1 he
  injection he with e2 e3
  subst e1 e2 e3
  have:∀(p:Pth) (e k:Nat) (es:List (List C)),nav e k es p=some (ep,kp0,row)→nav e k (updP es p (setCell i j x)) p=some (ep,kp0,setCell i j x row):=by
   intro p
   induction p with
   |nil=>intro e k es h;simp only[nav,Option.some.injEq,Prod.mk.injEq]at h;obtain⟨rfl,rfl,rfl⟩:=h;rfl
   |cons y p ih =>
    intro e k es h
    obtain⟨y1,y2⟩:=y
    obtain⟨r1,e5,k5,xs5,g1,g2,g3⟩:=nav_cons h
    have:=ih _ _ _ g3
    simp only[updP,nav,List.getElem?_modify,if_true,g1,Option.map_eq_map,Option.map_some,Option.bind_some,g2]
    exact this
  rw[this p e k es h2]at hn
  injection hn with hn;injection hn with _ hn;injection hn with hn _
  exact hn.symm
 have same:(∀b',b'≠b→w'.heap[b']?=w.heap[b']?):=hc.rest
 have vrs:∀v' u',VR β w v' u'→VR β w' v' u':=fun v' u' hvr=>by
  refine hvr.mono (fun _ _=>false) (hits_false v') (fun b' h0 _=>⟨h0,hc.rest b' (fun e=>by rw[e,hb]at h0;simp at h0)⟩) (by rw[hc.size];omega) (fun id' p' b' _ hb'=>⟨hb',fun cur2 t2 hh2=>?_⟩) (fun _ _ _ _ h=>h)
  by_cases e:b'=b
  ·subst e
   rw[hc.hh]at hh2
   injection hh2 with hh2
   injection hh2 with e1 e2
   subst e1 e2
   exact⟨cur',hc.hh',hc.hs⟩
  ·exact⟨cur2,by rw[hc.rest b' e];exact hh2,rfl⟩
 unfold fill1 at h
 simp only[h1,h2,h3,h4,and_self,if_true]at h
 split at h
 ·rename_i u'
  split at h
  ·rename_i hone
   injection h with h
   subst h
   obtain rfl:=hv.sc_inv
   refine⟨β,hr.cell h1 h2 h3 hb hc (x:=.sc u) ⟨rfl,hone⟩,fun v' u' _ h=>vrs v' u' h,hb,fun e' k' es' ep' kp' row' hl hn=>?_,frs _ (by simp)⟩
   simp only[lo_put,if_true,Option.some.injEq]at hl
   exact navU _ _ _ _ _ _ _ hl hn
  ·simp at h
 ·rename_i xs
  injection h with h
  subst h
  refine⟨β,hr.cell h1 h2 h3 hb hc (x:=.fz xs) (by cases hv with|fz _ _ h=>exact h),fun v' u' _ h=>vrs v' u' h,hb,fun e' k' es' ep' kp' row' hl hn=>?_,frs _ (by simp)⟩
  simp only[lo_put,if_true,Option.some.injEq]at hl
  exact navU _ _ _ _ _ _ _ hl hn
 ·rename_i sid sk len
  split at h
  ·rename_i se sk' ses hls
   split at h
   ·rename_i hcond
    obtain⟨c1,c2,c3⟩:=hcond
    subst c2 c3
    injection h with h
    subst h
    have hrel:=hr.move h1 h2 h3 hb hc c1 hls hv
    have hcp:∀r,p++[(i,j)]++r=p++(i,j)::r:=fun r=>by simp
    refine⟨_,hrel,fun v' u' hh hvr=>?_,?_,fun e' k' es' ep' kp' row' hl hn=>?_,?_⟩
    ·have hz:=(hits_false v')
     refine hvr.mono _ hh (fun b' h0 _=>⟨by simp[moved,h0],hc.rest b' (fun e=>by rw[e,hb]at h0;simp at h0)⟩) (by rw[hc.size];omega) ?_ ?_
     ·intro id' p' b' hq hb'
      simp only[killOf,Bool.or_eq_false_iff,Bool.and_eq_false_iff,beq_eq_false_iff_ne,Bool.not_eq_false']at hq
      obtain⟨g1,g2⟩:=hq
      refine⟨?_,fun cur2 t2 hh2=>?_⟩
      ·have hnu:¬(id'=id∧under (p++[(i,j)]) p'=true):=fun ⟨e1,e2⟩=>by
        rcases g2 with g2|g2
        ·exact g2 e1
        ·obtain⟨r,hr⟩:=under_iff.1 e2
         subst hr
         simp at g2
       simp only[moved,hb',g1,if_false]
       rw[if_neg hnu]
      ·by_cases e:b'=b
       ·subst e
        rw[hc.hh]at hh2
        injection hh2 with hh2
        injection hh2 with e1 e2
        subst e1 e2
        exact⟨cur',hc.hh',hc.hs⟩
       ·exact⟨cur2,by rw[hc.rest b' e];exact hh2,rfl⟩
     ·intro id' p' b' hq hb'
      simp only[killOf,Bool.or_eq_false_iff,Bool.and_eq_false_iff,beq_eq_false_iff_ne,Bool.not_eq_false']at hq
      obtain⟨g1,g2⟩:=hq
      simp only[moved]at hb'
      split at hb'
      ·simp at hb'
      ·rename_i i0 p0 hp
       split at hb'
       ·injection hb' with hb';injection hb' with e1 e2
        rcases g2 with g2|g2
        ·exact absurd e1.symm g2
        ·subst e2;simp at g2
       ·split at hb'
        ·simp at hb'
        ·rw[hp];exact hb'
    ·have hnu:¬(id=id∧under (p++[(i,j)]) p=true):=fun ⟨_,e2⟩=>by
      obtain⟨r,hr⟩:=under_iff.1 e2
      have:=congrArg List.length hr
      simp at this
     simp only[true_and]at hnu
     simp only[moved,hb,show ¬id=sid from fun e=>c1 e.symm,if_false,true_and]
     rw[if_neg hnu]
    ·simp only[lo_put,if_true,Option.some.injEq]at hl
     exact navU _ _ _ _ _ _ _ hl hn
    ·refine⟨fun b' hb' hq=>⟨?_,hc.rest b' (fun e=>by subst e;exact hq id p hb (by simp))⟩,fun b' i1 p1 hb' hn=>?_⟩
     case refine_2 =>
      simp only[rids,List.mem_cons,List.not_mem_nil,or_false,not_or]at hn
      simp only[moved]at hb'
      split at hb'
      ·simp at hb'
      ·rename_i i0 p0 hp
       split at hb'
       ·injection hb' with hb';injection hb' with e1 e2;exact absurd e1.symm hn.1
       ·split at hb'
        ·simp at hb'
        ·rw[hp];exact hb'
     cases hx:β b' with
     |none=>simp[moved,hx]
     |some x =>
      obtain⟨i0,p0⟩:=x
      have:=hq i0 p0 hx
      simp only[rids,List.mem_cons,List.not_mem_nil,or_false,not_or]at this
      simp[moved,hx,this.1,this.2]
   ·simp at h
  ·simp at h
 ·simp at h
end Go.Own
namespace Go.Own
variable {P:Program}{tt:Nat→Option TI}{w0:World}{β0:Blk}{st st':St}{β:Blk}{a:Act}{w w':World}{o:Oper}{T:List Nat}
def VRs(β:Blk)(w:World)(vs:List AV)(us:List Value):Prop :=
 us.length=vs.length∧∀(n:Nat) (v:AV) (u:Value),vs[n]?=some v→us[n]?=some u→VR β w v u∧u.oneCell'=true
theorem VRs.tail{v:AV}{vs:List AV}{u:Value}{us:List Value}(h:VRs β w (v::vs) (u::us)):VRs β w vs us :=
 ⟨by have:=h.1;simpa using this,fun n v' u' h1 h2=>h.2 (n+1) v' u' (by simpa using h1) (by simpa using h2)⟩
theorem fill1_cell(hr:Rel w0 β0 st β a w){id i j b kp:Nat}{p:Pth}{v:AV}(h:fill1 st id p i j v=some st')
  (hb:β b=some (id,p)) (hk:∀e k es ep kp' row,lo st.ob id=some (e,k,es)→nav e k es p=some (ep,kp',row)→kp'=kp) :
  ∃cur t,w.heap[b]?=some (.cells cur t (0,0))∧i*kp+j<cur.size:=by
 obtain⟨e,k,es,ep,kp0,row,h1,h2,h3,h4⟩:=fill1_at h
 obtain rfl:=hk _ _ _ _ _ _ h1 h2
 obtain⟨cap,cur,g1,g2,g3,_⟩:=rowA_at (id:=id) (p:=p) (e:=ep) (k:=kp0) (row:=row) hr.uq hr.ob (by simp[rowA,h1,h2]) hb
 refine⟨cur,ep,g1,?_⟩
 have:=Nat.mul_le_mul_right kp0 (show i+1≤cap by omega)
 rw[Nat.add_mul,Nat.one_mul]at this
 omega
theorem fillL_store:∀(vs:List AV) (us:List Value) (j n:Nat) (st:St) (β:Blk) (w:World) {id i b ob kp:Nat} {p:Pth},Rel w0 β0 st β a w→fillL st id p i j vs=some st'→β b=some (id,p) →
  (∀e k es ep kp' row,lo st.ob id=some (e,k,es)→nav e k es p=some (ep,kp',row)→kp'=kp)→VRs β w vs us→ob+n=i*kp+j →
  ∃β' w',(storeCells ⟨b,ob,none⟩ us n).run P w=.ok () w'∧Rel w0 β0 st' β' a w'∧Fr (id::ridsL vs) β w β' w'∧w'.heap.size=w.heap.size
 |[],us,j,n,st,β,w,id,i,b,ob,kp,p,hr,h,hb,hk,hv,he=>by
  simp only[fillL,Option.some.injEq]at h
  subst h
  have:us=[]:=List.eq_nil_of_length_eq_zero (by simpa using hv.1)
  subst this
  exact⟨β,w,by simp[storeCells],hr,.refl,rfl⟩
 |v::vs,us,j,n,st,β,w,id,i,b,ob,kp,p,hr,h,hb,hk,hv,he=>by
  simp only[fillL]at h
  split at h
  ·rename_i hkill
   simp only[Option.bind_eq_some_iff]at h
   obtain⟨st1,h1,h2⟩:=h
   cases us with
   |nil=>have:=hv.1;simp at this
   |cons u us =>
    obtain⟨cur,t,g1,g2⟩:=fill1_cell hr h1 hb hk
    obtain⟨hvr,hone⟩:=hv.2 0 v u rfl rfl
    have hc:OneCell w (w.setCell ⟨b,i*kp+j,none⟩ u) b t (i*kp+j) cur (cur.setIfInBounds (i*kp+j) u) u:=OneCell.store g1 g2
    obtain⟨β1,r1,r2,r3,r4,r5⟩:=fill1_rel hr h1 hvr hb hk hc
    have hvs:VRs β1 (w.setCell ⟨b,i*kp+j,none⟩ u) vs us:=⟨hv.tail.1,fun m v' u' e1 e2=>by
     obtain⟨q1,q2⟩:=hv.tail.2 m v' u' e1 e2
     exact⟨r2 v' u' (AV.hitsL_get hkill m v' e1) q1,q2⟩⟩
    obtain⟨β2,w2,s1,s2,s3,s4⟩:=fillL_store (ob:=ob) vs us (j+1) (n+1) st1 β1 _ r1 h2 r3 r4 hvs (by omega)
    refine⟨β2,w2,?_,s2,Fr.trans (r5.mono (fun y hy=>by simp only[List.mem_cons,ridsL,List.mem_append]at hy ⊢;rcases hy with rfl|hy<;>simp[*])) (by rw[hc.size];omega) (s3.mono (fun y hy=>by simp only[List.mem_cons,ridsL,List.mem_append]at hy ⊢;rcases hy with rfl|hy<;>simp[*])),s4.trans hc.size⟩
    have hcell:w.cell? ⟨b,i*kp+j,none⟩=some (cur[i*kp+j]'g2):=by rw[cell_of_row w b _ cur t (0,0) g1];simp[g2]
    have hfrz:w.frozen? ⟨b,i*kp+j,none⟩=false:=frozen_of_row w b _ cur t g1
    simp only[storeCells,Sem.run_bind,add_plain,he,run_store P w _ u .plain hone,hcell,hfrz,Bool.false_eq_true,if_false,Result.andThen_ok]
    exact s1
  ·simp at h
theorem fillL_init:∀(vs:List AV) (us:List Value) (j:Nat) (st:St) (β:Blk) {id i b kp:Nat} {p:Pth},Rel w0 β0 st β a w→fillL st id p i j vs=some st'→β b=some (id,p) →
  (∀e k es ep kp' row,lo st.ob id=some (e,k,es)→nav e k es p=some (ep,kp',row)→kp'=kp)→VRs β w vs us →
  (∀(n:Nat) (u:Value),us[n]?=some u→w.cell? ⟨b,i*kp+j+n,none⟩=some u) →
  ∃β',Rel w0 β0 st' β' a w∧(∀v' u',(∀v,v∈vs→v'.hits (killOf id v)=false)→VR β w v' u'→VR β' w v' u')∧β' b=some (id,p) ∧
   (∀e k es ep kp' row,lo st'.ob id=some (e,k,es)→nav e k es p=some (ep,kp',row)→kp'=kp)∧Fr (id::ridsL vs) β w β' w
 |[],us,j,st,β,id,i,b,kp,p,hr,h,hb,hk,hv,hc=>by
  simp only[fillL,Option.some.injEq]at h
  subst h
  exact⟨β,hr,fun v' u' _ h=>h,hb,hk,.refl⟩
 |v::vs,us,j,st,β,id,i,b,kp,p,hr,h,hb,hk,hv,hcell=>by
  simp only[fillL]at h
  split at h
  ·rename_i hkill
   simp only[Option.bind_eq_some_iff]at h
   obtain⟨st1,h1,h2⟩:=h
   cases us with
   |nil=>have:=hv.1;simp at this
   |cons u us =>
    obtain⟨cur,t,g1,g2⟩:=fill1_cell hr h1 hb hk
    obtain⟨hvr,hone⟩:=hv.2 0 v u rfl rfl
    have hu:cur[i*kp+j]?=some u:=by
     have:=hcell 0 u rfl
     rw[Nat.add_zero,cell_of_row w b _ cur t (0,0) g1]at this
     exact this
    have hc:OneCell w w b t (i*kp+j) cur cur u:=OneCell.refl g1 hu
    obtain⟨β1,r1,r2,r3,r4,r5⟩:=fill1_rel hr h1 hvr hb hk hc
    have hvs:VRs β1 w vs us:=⟨hv.tail.1,fun m v' u' e1 e2=>by
     obtain⟨q1,q2⟩:=hv.tail.2 m v' u' e1 e2
     exact⟨r2 v' u' (AV.hitsL_get hkill m v' e1) q1,q2⟩⟩
    obtain⟨β2,s1,s2,s3,s4,s5⟩:=fillL_init vs us (j+1) st1 β1 r1 h2 r3 r4 hvs (fun m u' hm=>by
     have:=hcell (m+1) u' (by simpa using hm)
     rwa [show i*kp+j+(m+1)=i*kp+(j+1)+m by omega]at this)
    refine⟨β2,s1,fun v' u' hh hvr=>s2 v' u' (fun x hx=>hh x (List.mem_cons_of_mem _ hx)) (r2 v' u' (hh v (by simp)) hvr),s3,s4,Fr.trans (r5.mono (fun y hy=>by simp only[List.mem_cons,ridsL,List.mem_append]at hy ⊢;rcases hy with rfl|hy<;>simp[*])) (Nat.le_refl _) (s5.mono (fun y hy=>by simp only[List.mem_cons,ridsL,List.mem_append]at hy ⊢;rcases hy with rfl|hy<;>simp[*]))⟩
  ·simp at h
def storeA(tt:Nat→Option TI)(st:St)(t:Nat)(p x:AV):Option St :=
 match tt t with
 |none=>none
 |some ti=>match p with
  |.ptr id k q i j=>match rowA st id q with
   |some (_,k',_)=>if k'=k∧(cellsA x).length=ti.size∧(ti.kind.agg=true∨ti.size=1) then fillL st id q i j (cellsA x) else none
   |none=>none
  |_=>none
theorem cells_vr{x:AV}{u:Value}(h:VR β w x u)(hx:∀vs,x≠.tup vs)(hz:∀v,x=.sc v→v.oneCell'=true)(hu:x≠.un):VRs β w (cellsA x) u.cells.toList:=by
 cases h with
 |un=>exact absurd rfl hu
 |tup=>exact absurd rfl (hx _)
 |agg cs us f hl h1 h2 h3 =>
  refine⟨by simp[cellsA,Value.cells,hl],fun n v u e1 e2=>?_⟩
  have:us[n]?=some u:=by simpa[Value.cells]using e2
  rw[h1 n v e1]at this
  injection this with this
  subst this
  exact⟨h3 n v e1,h2 n v e1⟩
 |sc _ =>
  have h0:=hz _ rfl
  have hc:Value.cells u=#[u]:=by cases u<;>first|rfl|(simp[Value.oneCell']at h0;done)
  refine⟨by simp[cellsA,hc],fun n v' u' e1 e2=>?_⟩
  rw[hc]at e2
  cases n with
  |zero =>
   simp only[cellsA,List.getElem?_cons_zero,Option.some.injEq]at e1 e2
   subst e1 e2
   exact⟨.sc _,h0⟩
  |succ n=>simp[cellsA]at e1
 |fz xs u h =>
  have h1:Value.cells u=#[u]:=by cases h<;>rfl
  refine⟨by simp[cellsA,h1],fun n v' u' e1 e2=>?_⟩
  rw[h1]at e2
  cases n with
  |zero =>
   simp only[cellsA,List.getElem?_cons_zero,Option.some.injEq]at e1 e2
   subst e1 e2
   exact⟨.fz xs _ h,h.one⟩
  |succ n=>simp[cellsA]at e1
 |sl id k path off len b cap t cur h0 hb hh hs ho =>
  refine⟨by simp[cellsA,Value.cells],fun n v' u' e1 e2=>?_⟩
  cases n with
  |zero =>
   simp only[cellsA,Value.cells,List.getElem?_cons_zero,Option.some.injEq]at e1 e2
   subst e1 e2
   exact⟨.sl id k path off len b cap t cur h0 hb hh hs ho,rfl⟩
  |succ n=>simp[cellsA]at e1
 |slN id k path h0 hb =>
  refine⟨by simp[cellsA,Value.cells],fun n v' u' e1 e2=>?_⟩
  cases n with
  |zero =>
   simp only[cellsA,Value.cells,List.getElem?_cons_zero,Option.some.injEq]at e1 e2
   subst e1 e2
   exact⟨.slN id k path h0 hb,rfl⟩
  |succ n=>simp[cellsA]at e1
 |ptr id k path i j b t cur hb hh =>
  refine⟨by simp[cellsA,Value.cells],fun n v' u' e1 e2=>?_⟩
  cases n with
  |zero =>
   simp only[cellsA,Value.cells,List.getElem?_cons_zero,Option.some.injEq]at e1 e2
   subst e1 e2
   exact⟨.ptr id k path i j b t cur hb hh,rfl⟩
  |succ n=>simp[cellsA]at e1
 |fp cs b o f h1 h2 h3 h4 =>
  refine⟨by simp[cellsA,Value.cells],fun n v' u' e1 e2=>?_⟩
  cases n with
  |zero =>
   simp only[cellsA,Value.cells,List.getElem?_cons_zero,Option.some.injEq]at e1 e2
   subst e1 e2
   exact⟨.fp cs b o f h1 h2 h3 h4,rfl⟩
  |succ n=>simp[cellsA]at e1
theorem fill1_ok{id i j:Nat}{p:Pth}{x:AV}(h:fill1 st id p i j x=some st'):(∀vs,x≠.tup vs)∧(∀v,x=.sc v→v.oneCell'=true)∧x≠.un:=by
 unfold fill1 at h
 split at h
 ·simp at h
 ·split at h
  ·simp at h
  ·split at h
   ·cases x with
    |sc v =>
     refine⟨fun _ h=>(by simp at h),fun v' e=>?_,fun h=>by simp at h⟩
     injection e with e
     subst e
     dsimp only at h
     split at h
     ·assumption
     ·simp at h
    |un=>simp at h
    |tup vs=>simp at h
    |_=>exact⟨fun _ h=>(by simp at h),fun _ h=>(by simp at h),fun h=>by simp at h⟩
   ·simp at h
theorem fillL_ok{id i j:Nat}{p:Pth}{x:AV}(h:fillL st id p i j (cellsA x)=some st'):(∀vs,x≠.tup vs)∧(∀v,x=.sc v→v.oneCell'=true)∧x≠.un:=by
 cases x with
 |agg cs=>exact⟨fun _ h=>(by simp at h),fun _ h=>(by simp at h),fun h=>by simp at h⟩
 |_ =>
  simp only[cellsA,fillL]at h
  split at h
  ·simp only[Option.bind_eq_some_iff]at h
   obtain⟨s1,h1,_⟩:=h
   exact fill1_ok h1
  ·simp at h
theorem rids_cells(x:AV)(hx:∀vs,x≠.tup vs):ridsL (cellsA x)=rids x:=by
 cases x<;>simp[cellsA,ridsL,rids]<;>exact absurd rfl (hx _)
theorem sound_store(tok:TOk P tt){t:Nat}{p x:Operand}(hd:o.dst=none)(ho:o.op=.store t p x)(hv:storeA tt st t (ev st p) (ev st x)=some st'):Sound P o st .un st' (rids (ev st p)++rids (ev st x)):=by
 intro w0 β0 β a w hr K Q hK
 unfold storeA at hv
 split at hv
 ·simp at hv
 ·rename_i ti hti
  split at hv
  ·rename_i id k q i j hp
   split at hv
   ·rename_i e k' row hrow
    split at hv
    ·rename_i hcond
     obtain⟨rfl,hl,hagg⟩:=hcond
     have hpv:=hr.ev p
     rw[hp]at hpv
     obtain⟨b,t',cur,h1,h2,h3⟩:=hpv.ptr_inv
     obtain⟨g1,g2,g3⟩:=fillL_ok hv
     have hvr:=cells_vr (hr.ev x) g1 g2 g3
     have hk:∀e k es ep kp' row',lo st.ob id=some (e,k,es)→nav e k es q=some (ep,kp',row')→kp'=k':=fun e1 k1 es1 ep1 kp1 row1 q1 q2=>by
      simp only[rowA,q1]at hrow
      rw[q2]at hrow
      injection hrow with hrow;injection hrow with _ hrow;injection hrow with hrow _
     obtain⟨β',w',s1,s2,s3,s4⟩:=fillL_store (ob:=i*k'+j) (P:=P) (cellsA (ev st x)) (a.eval x).cells.toList j 0 st β w hr hv h1 hk hvr (by omega)
     have hsz:(a.eval x).cells.size=ti.size:=by rw[←hl,←hvr.1];simp
     unfold Oper.wp
     have hrun:(execOp a.eval o).run P w=.ok .skip w':=by
      simp[execOp,ho,h3,Instr.storeAt,Instr.sureAddr,storeVar,tok.sizeOf hti,hsz,s1]
     rw[hrun]
     exact hK β' undef w' s2 (.un _) (s3.mono (by rw[hp];simp[rids,rids_cells _ g1])) (by omega)
    ·simp at hv
   ·simp at hv
  ·simp at hv
end Go.Own
namespace Go.Own
variable {P:Program}{tt:Nat→Option TI}{w0:World}{β0:Blk}{st st':St}{β:Blk}{a:Act}{w w':World}{o:Oper}{T:List Nat}
def putV:Array Value→Nat→List Value→Array Value
 |cs,_,[]=>cs
 |cs,o,u::us=>putV (cs.setIfInBounds o u) (o+1) us
theorem putV_size:∀(us:List Value) (cs:Array Value) (o:Nat),(putV cs o us).size=cs.size
 |[],_,_=>rfl
 |u::us,cs,o=>by simp[putV,putV_size us]
theorem putV_get:∀(us:List Value) (cs:Array Value) (o m:Nat),o+us.length≤cs.size→(putV cs o us)[m]?=if o≤m∧m<o+us.length then us[m-o]? else cs[m]?
 |[],cs,o,m,_=>by simp only[putV,List.length_nil];rw[if_neg (by omega)]
 |u::us,cs,o,m,h=>by
  simp only[List.length_cons]at h
  rw[putV,putV_get us _ _ _ (by simp;omega)]
  by_cases h1:o+1≤m∧m<o+1+us.length
  ·rw[if_pos h1,if_pos (by simp;omega)]
   obtain⟨k,hk⟩:∃k,m-o=k+1:=⟨m-o-1,by omega⟩
   rw[hk,List.getElem?_cons_succ]
   congr 1
   omega
  ·rw[if_neg h1]
   by_cases h2:m=o
   ·subst h2
    rw[if_pos (by simp),Nat.sub_self]
    simp[show m<cs.size by omega]
   ·rw[if_neg (by simp;omega),Array.getElem?_setIfInBounds_ne (fun e=>h2 e.symm)]
theorem foldl_put:∀(us:List Value) (s off:Nat) (cs:Array Value),(us.zipIdx s).foldl (fun cs x=>cs.setIfInBounds (off+x.2) x.1) cs=putV cs (off+s) us
 |[],_,_,_=>rfl
 |u::us,s,off,cs=>by
  simp only[List.zipIdx_cons,List.foldl_cons,putV]
  rw[foldl_put us (s+1) off]
  rfl
def fillV(place:Nat→Option (Nat×Nat))(cells:Array Value):List (Nat×Value)→Option (Array Value)
 |[]=>some cells
 |(i,v)::rest=>match place i with
  |none=>none
  |some (off,size)=>if v.cells.size≠size∨off+v.cells.size>cells.size then none else fillV place (putV cells off v.cells.toList) rest
theorem fill_eq(place:Nat→Option (Nat×Nat)):∀(l:List (Nat×Value)) (cells:Array Value),Instr.fill place cells l=fillV place cells l
 |[],_=>rfl
 |(i,v)::rest,cells=>by
  simp only[Instr.fill,fillV]
  cases place i with
  |none=>rfl
  |some x =>
   obtain⟨off,size⟩:=x
   simp only[bne_iff_ne,ne_eq,Bool.or_eq_true,decide_eq_true_eq]
   split
   ·rfl
   ·rw[fill_eq place rest]
    congr 1
    rw[←Array.foldl_toList]
    have:=foldl_put v.cells.toList 0 off cells
    simpa using this
def VRa(β:Blk)(w:World)(cs:List AV)(us:Array Value):Prop :=
 us.size=cs.length∧∀(n:Nat) (v:AV) (u:Value),cs[n]?=some v→us[n]?=some u→VR β w v u∧u.oneCell'=true
theorem putAt_length:∀(xs cs:List AV) (o:Nat),(putAt cs o xs).length=cs.length
 |[],_,_=>rfl
 |x::xs,cs,o=>by simp[putAt,putAt_length xs]
theorem putAt_get:∀(xs cs:List AV) (o m:Nat),o+xs.length≤cs.length→(putAt cs o xs)[m]?=if o≤m∧m<o+xs.length then xs[m-o]? else cs[m]?
 |[],cs,o,m,_=>by simp only[putAt,List.length_nil];rw[if_neg (by omega)]
 |x::xs,cs,o,m,h=>by
  simp only[List.length_cons]at h
  rw[putAt,putAt_get xs _ _ _ (by simp;omega)]
  by_cases h1:o+1≤m∧m<o+1+xs.length
  ·rw[if_pos h1,if_pos (by simp;omega)]
   obtain⟨k,hk⟩:∃k,m-o=k+1:=⟨m-o-1,by omega⟩
   rw[hk,List.getElem?_cons_succ]
   congr 1
   omega
  ·rw[if_neg h1]
   by_cases h2:m=o
   ·subst h2
    rw[if_pos (by simp),Nat.sub_self]
    simp[show m<cs.length by omega]
   ·rw[if_neg (by simp;omega),List.getElem?_set_ne (fun e=>h2 e.symm)]
theorem VRa.put{cs xs:List AV}{us:Array Value}{vs:List Value}{off:Nat}(h:VRa β w cs us)(hx:VRs β w xs vs)(hle:off+xs.length≤cs.length):VRa β w (putAt cs off xs) (putV us off vs):=by
 refine⟨by rw[putV_size,putAt_length];exact h.1,fun n v u h1 h2=>?_⟩
 rw[putAt_get _ _ _ _ hle]at h1
 rw[putV_get _ _ _ _ (by rw[hx.1,h.1];exact hle),hx.1]at h2
 split at h1
 ·rename_i hc;rw[if_pos hc]at h2;exact hx.2 _ v u h1 h2
 ·rename_i hc;rw[if_neg hc]at h2;exact h.2 n v u h1 h2
theorem zeros_vra{zs:List Value}{us:Array Value}(h:us.toList=zs)(h1:zs.all (·.oneCell')=true):VRa β w (zs.map .sc) us:=by
 refine⟨by simp[←h],fun n v u e1 e2=>?_⟩
 rw[List.getElem?_map,Option.map_eq_some_iff]at e1
 obtain⟨z,e3,rfl⟩:=e1
 have e4:us.toList[n]?=some u:=by simpa using e2
 rw[h,e3]at e4
 injection e4 with e4
 subst e4
 exact⟨.sc _,List.all_eq_true.1 h1 z (List.mem_of_getElem? e3)⟩
theorem vr_of_vra{cs:List AV}{us:Array Value}(h:VRa β w cs us):VR β w (.agg cs) (.agg us):=by
 refine .agg cs us (fun n=>(us[n]?).getD undef) h.1.symm (fun n x hn=>?_) (fun n x hn=>?_) (fun n x hn=>?_)
 all_goals
  have hlt:n<us.size:=by rw[h.1];exact(List.getElem?_eq_some_iff.1 hn).1
  have hu:us[n]?=some us[n]:=by simp[hlt]
  obtain⟨g1,g2⟩:=h.2 n x _ hn hu
  first|(simp only[hu,Option.getD_some];assumption)|simp only[hu,Option.getD_some]
def okA:AV→Bool
 |.tup _=>false
 |.un=>false
 |.sc v=>v.oneCell'
 |_=>true
theorem okA_cells{x:AV}{u:Value}(h:VR β w x u)(hx:okA x=true):VRs β w (cellsA x) u.cells.toList:=by
 refine cells_vr h (fun vs e=>by subst e;simp[okA]at hx) (fun v e=>by subst e;exact hx) (fun e=>by subst e;simp[okA]at hx)
def buildL(tt:Nat→Option TI)(st:St)(t:Nat):List AV→List (Nat×Operand)→Option (List AV)
 |cs,[]=>some cs
 |cs,(f,x)::rest=>match fieldT tt t f with
  |some (off,ti)=>if okA (ev st x)=true∧(cellsA (ev st x)).length=ti.size∧off+ti.size≤cs.length then buildL tt st t (putAt cs off (cellsA (ev st x))) rest else none
  |none=>none
def buildA(tt:Nat→Option TI)(st:St)(t:Nat)(parts:List (Nat×Operand)):Option AV :=
 match tt t with
 |some ti=>if ti.kind.agg=true∧ti.zero.all (·.oneCell')=true then (buildL tt st t (ti.zero.map .sc) parts).map .agg else none
 |none=>none
theorem build_fill(tok:TOk P tt){t:Nat}{flds:Array Field}{pl:List (Nat×Nat)}(hu:P.underlying t=some (.struct flds))(hpl:flds.toList.mapM (fun f=>(P.info? f.type).map fun i=>(f.offset,i.size))=some pl)
  (he:∀x,VR β w (ev st x) (a.eval x)):∀(parts:List (Nat×Operand)) (cs cs':List AV) (us:Array Value),buildL tt st t cs parts=some cs'→VRa β w cs us →
  ∃us',fillV (pl[·]?) us (parts.map fun x=>(x.1,a.eval x.2))=some us'∧VRa β w cs' us'
 |[],cs,cs',us,h,hv=>by simp only[buildL,Option.some.injEq]at h;subst h;exact⟨us,rfl,hv⟩
 |(f,x)::rest,cs,cs',us,h,hv=>by
  simp only[buildL]at h
  split at h
  ·rename_i off ti hf
   split at h
   ·rename_i hc
    obtain⟨c1,c2,c3⟩:=hc
    have hx:=okA_cells (he x) c1
    obtain⟨flds',fld,g1,g2,g3,g4⟩:=tok.field hf
    rw[hu]at g1
    injection g1 with g1;injection g1 with g1
    subst g1
    obtain⟨info,_,_,i1,_,i3,_⟩:=tok.ok _ _ g4
    have hplf:pl[f]?=some (off,ti.size):=by
     have:∀(l:List Field) (pl:List (Nat×Nat)) (n:Nat),l.mapM (fun f=>(P.info? f.type).map fun i=>(f.offset,i.size))=some pl→l[n]?=some fld→pl[n]?=some (off,ti.size):=by
      intro l
      induction l with
      |nil=>intro pl n h1 h2;simp at h2
      |cons y l ih =>
       intro pl n h1 h2
       simp only[List.mapM_cons,Option.bind_eq_bind,Option.pure_def,Option.bind_eq_some_iff,Option.map_eq_some_iff,Option.some.injEq]at h1
       obtain⟨z,⟨i,hi,rfl⟩,zs,hzs,rfl⟩:=h1
       cases n with
       |zero =>
        simp only[List.getElem?_cons_zero,Option.some.injEq]at h2
        subst h2
        rw[i1]at hi
        injection hi with hi
        subst hi
        simp[g3,i3]
       |succ n=>simpa using ih zs n hzs (by simpa using h2)
     exact this _ pl f hpl (by simpa using g2)
    have hsz:(a.eval x).cells.size=ti.size:=by rw[←c2,←hx.1];simp
    obtain⟨us',s1,s2⟩:=build_fill tok hu hpl he rest _ cs' _ h (hv.put hx (by rw[c2];exact c3))
    refine⟨us',?_,s2⟩
    simp only[List.map_cons,fillV,hplf]
    rw[if_neg (by rw[hsz,hv.1];omega)]
    exact s1
   ·simp at h
  ·simp at h
theorem TOk.places(tok:TOk P tt){t:Nat}{ti:TI}(hti:tt t=some ti)(hagg:ti.kind.agg=true):∃flds,P.underlying t=some (.struct flds):=by
 obtain⟨info,d,z,h1,h2,h3,h4,h5,h6,h7⟩:=tok.ok t ti hti
 cases hk:ti.kind with
 |struct fs=>rw[hk]at h7;obtain⟨flds,rfl,_⟩:=h7;exact⟨flds,h2⟩
 |_=>rw[hk]at hagg;simp[TK.agg]at hagg
theorem mapM_total{α γ:Type}(f:α→Option γ):∀(l:List α),(∀x,x∈l→(f x).isSome=true)→∃r,l.mapM f=some r
 |[],_=>⟨[],rfl⟩
 |x::l,h=>by
  obtain⟨y,hy⟩:=Option.isSome_iff_exists.1 (h x (by simp))
  obtain⟨r,hr⟩:=mapM_total f l (fun x hx=>h x (List.mem_cons_of_mem _ hx))
  exact⟨y::r,by simp[List.mapM_cons,hy,hr]⟩
def fieldsOk(tt:Nat→Option TI)(t:Nat):Bool :=
 match kd tt t with
 |some (.struct fs)=>fs.all fun x=>(tt x.2).isSome
 |_=>false
theorem TOk.placesOf(tok:TOk P tt){t:Nat}(hf:fieldsOk tt t=true):∃flds pl,P.underlying t=some (.struct flds)∧flds.toList.mapM (fun f=>(P.info? f.type).map fun i=>(f.offset,i.size))=some pl:=by
 unfold fieldsOk at hf
 split at hf
 ·rename_i fs hk
  obtain⟨d,g1,flds,rfl,g2⟩:=tok.kd hk
  obtain⟨pl,hpl⟩:=mapM_total (fun (f:Field)=>(P.info? f.type).map fun i=>(f.offset,i.size)) flds.toList (fun f hm=>by
   have:(f.offset,f.type)∈fs:=by rw[←g2];exact List.mem_map.2 ⟨f,hm,rfl⟩
   have:=List.all_eq_true.1 hf _ this
   obtain⟨ti,hti⟩:=Option.isSome_iff_exists.1 this
   obtain⟨info,_,_,h1,_⟩:=tok.ok _ _ hti
   simp[h1])
  exact⟨flds,pl,g1,hpl⟩
 ·simp at hf
theorem sound_build(tok:TOk P tt){t:Nat}{parts:Array (Nat×Operand)}{v:AV}(ho:o.op=.build t parts)(hv:buildA tt st t parts.toList=some v)(hf:fieldsOk tt t=true):Val P o st v T:=by
 intro β a w he uq ob
 unfold buildA at hv
 split at hv
 ·rename_i ti hti
  split at hv
  ·rename_i hc
   simp only[Option.map_eq_some_iff]at hv
   obtain⟨cs',h1,rfl⟩:=hv
   obtain⟨flds,pl,hu,hpl⟩:=tok.placesOf hf
   obtain⟨info,d,z,i1,i2,i3,i4,i5,i6,i7⟩:=tok.ok t ti hti
   obtain⟨us',s1,s2⟩:=build_fill tok hu hpl he parts.toList (ti.zero.map .sc) cs' z.cells h1 (zeros_vra i6 hc.2)
   refine⟨.agg us',fun w2 hS=>?_,vr_of_vra s2⟩
   have hb:P.built t (parts.map fun x=>(x.1,a.eval x.2)).toList=some us':=by
    unfold Program.built
    simp only[i1,hu,i5,hpl]
    rw[fill_eq]
    simpa using s1
   have:=run_build (P:=P) w2 t (parts.map fun x=>(x.1,a.eval x.2)) us' hb
   simp[execOp,ho,this]
  ·simp at hv
 ·simp at hv
theorem newR_at{n id:Nat}:newR n id β n=some (id,[]):=by simp[newR]
theorem newR_fr{id e:Nat}{cells:Array Value}{T:List Nat}(hT:id∈T):Fr T β w (newR w.heap.size id β) (w.alloc (.cells cells e)):=by
 refine⟨fun b hb hq=>⟨?_,heap_alloc_old w _ b hb⟩,fun b i1 p1 hb hn=>?_⟩
 case refine_2 =>
  simp only[newR]at hb
  split at hb
  ·injection hb with hb;injection hb with e1 _;exact absurd (e1▸hT) hn
  ·split at hb
   ·simp at hb
   ·rename_i hp
    split at hb
    ·simp at hb
    ·rw[hp];exact hb
 have hne:b≠w.heap.size:=Nat.ne_of_lt hb
 cases hx:β b with
 |none=>simp[newR,hne,hx]
 |some x =>
  obtain⟨i0,p0⟩:=x
  have:i0≠id:=fun e=>hq i0 p0 hx (e▸hT)
  simp[newR,hne,hx,this]
theorem newR_vr(hr:Rel w0 β0 st β a w){id e:Nat}{cells:Array Value}{v:AV}{u:Value}(hv:VR β w v u)(hq:v.hits (fun i _=>i==id)=false) :
  VR (newR w.heap.size id β) (w.alloc (.cells cells e)) v u:=by
 have hold:∀b,b<w.heap.size→(w.alloc (.cells cells e)).heap[b]?=w.heap[b]?:=fun b hb=>heap_alloc_old w _ b hb
 refine hv.mono _ hq (fun b hb hlt=>⟨by simp[newR,hb,Nat.ne_of_lt hlt],hold b hlt⟩) (by simp) (fun id' p b hq hb=>?_) (fun id' p b hq hb=>?_)
 ·have hlt:=hr.lt b _ hb
  have hne:id'≠id:=by simpa using hq
  exact⟨by simp[newR,hb,Nat.ne_of_lt hlt,hne],fun cur t hc=>⟨cur,by rw[hold b hlt];exact hc,rfl⟩⟩
 ·have hne:id'≠id:=by simpa using hq
  simp only[newR]at hb
  split at hb
  ·injection hb with hb;injection hb with hb _;exact absurd hb.symm hne
  ·split at hb
   ·simp at hb
   ·rename_i hp
    split at hb
    ·simp at hb
    ·rw[hp];exact hb
def zeroA(st:St)(nid t:Nat)(ti:TI)(n:Nat):St :=
 { st with tm:=killT (fun i _=>i==nid) st.tm,ob:=putO st.ob nid (t,ti.size,List.replicate n (ti.zero.map .sc)) }
def zeroOk(ti:TI):Bool:=decide (0<ti.size)&&decide (ti.zero.length=ti.size)&&ti.zero.all (·.oneCell')
theorem zero_rel(hr:Rel w0 β0 st β a w){nid t n:Nat}{ti:TI}(hz:zeroOk ti=true)(hn:n≤maxLen)(cells:Array Value)(hs:cells.size=n*ti.size)
  (hc:∀(i j:Nat) (u:Value),i<n→ti.zero[j]?=some u→cells[i*ti.size+j]?=some u) :
  Rel w0 β0 (zeroA st nid t ti n) (newR w.heap.size nid β) a (w.alloc (.cells cells t)):=by
 simp only[zeroOk,Bool.and_eq_true,decide_eq_true_eq]at hz
 obtain⟨⟨z1,z2⟩,z3⟩:=hz
 refine hr.newP nid t ti.size n cells _ z1 hs hn (by simp) (fun r h=>by rw[List.eq_of_mem_replicate h];simpa using z2) fun i j r x hi hj=>?_
 have hi':=(List.getElem?_eq_some_iff.1 hi).1
 simp only[List.length_replicate]at hi'
 rw[List.getElem?_replicate,if_pos hi']at hi
 injection hi with hi
 subst hi
 rw[List.getElem?_map,Option.map_eq_some_iff]at hj
 obtain⟨z,hz,rfl⟩:=hj
 exact⟨z,hc i j z hi' hz,rfl,List.all_eq_true.1 z3 z (List.mem_of_getElem? hz)⟩
def allocA(tt:Nat→Option TI)(st:St)(nid t:Nat):Option (AV×St):=
 match tt t with
 |some ti=>if zeroOk ti=true then some (.ptr nid ti.size [] 0 0,zeroA st nid t ti 1) else none
 |none=>none
theorem sound_alloc(tok:TOk P tt){t nid:Nat}{v:AV}(ho:o.op=.alloc t)(hv:allocA tt st nid t=some (v,st')):Sound P o st v st' [nid]:=by
 intro w0 β0 β a w hr K Q hK
 unfold allocA at hv
 split at hv
 ·rename_i ti hti
  split at hv
  ·rename_i hz
   injection hv with hv
   injection hv with e1 e2
   subst e1 e2
   obtain⟨info,d,z,i1,i2,i3,i4,i5,i6,i7⟩:=tok.ok t ti hti
   have hz':=hz
   simp only[zeroOk,Bool.and_eq_true,decide_eq_true_eq]at hz'
   have hsz:z.cells.size=ti.size:=by rw[←hz'.1.2,←i6];simp
   have hrel:=zero_rel (n:=1) (nid:=nid) (t:=t) hr hz (by simp[maxLen]) z.cells (by rw[hsz];omega) (fun i j u hi hj=>by
    have:i=0:=by omega
    subst this
    rw[←i6]at hj
    simpa using hj)
   unfold Oper.wp
   have hrun:(execOp a.eval o).run P w=.ok (.value (.pointer (some ⟨w.heap.size,0,none⟩))) (w.alloc (.cells z.cells t)):=by
    simp[execOp,ho,Instr.alloc,zeroValue,typeInfo,i1,i5,newVar,newRow]
   rw[hrun]
   refine hK _ _ _ hrel ?_ (newR_fr (by simp)) (by rw[World.size_alloc];omega)
   have:=VR.ptr (β:=newR w.heap.size nid β) (w:=w.alloc (.cells z.cells t)) nid ti.size [] 0 0 w.heap.size t z.cells newR_at (heap_alloc_new w _)
   simpa using this
  ·simp at hv
 ·simp at hv
def bareA(st:St)(nid t k n:Nat):St :=
 { st with tm:=killT (fun i _=>i==nid) st.tm,ob:=putO st.ob nid (t,k,List.replicate n (List.replicate k .no)) }
def boxA(tt:Nat→Option TI)(st:St)(nid t:Nat)(x:AV):Option (AV×St):=
 match tt t with
 |some ti=>if 0<ti.size∧(cellsA x).length=ti.size∧AV.hitsL (fun i _=>i==nid) (cellsA x)=false then
   (fillL (bareA st nid t ti.size 1) nid [] 0 0 (cellsA x)).map fun st'=>(.ptr nid ti.size [] 0 0,st') else none
 |none=>none
theorem sound_box(tok:TOk P tt){t nid:Nat}{x:Operand}{v:AV}(ho:o.op=.box t x)(hv:boxA tt st nid t (ev st x)=some (v,st')):Sound P o st v st' (nid::rids (ev st x)):=by
 intro w0 β0 β a w hr K Q hK
 unfold boxA at hv
 split at hv
 ·rename_i ti hti
  split at hv
  ·rename_i hc
   obtain⟨c1,c2,c3⟩:=hc
   simp only[Option.map_eq_some_iff,Prod.mk.injEq]at hv
   obtain⟨st1,h1,rfl,rfl⟩:=hv
   obtain⟨g1,g2,g3⟩:=fillL_ok h1
   have hvr:=cells_vr (hr.ev x) g1 g2 g3
   have hsz:(a.eval x).cells.size=ti.size:=by rw[←c2,←hvr.1];simp
   have hrel:=hr.new nid t ti.size 1 (a.eval x).cells c1 (by rw[hsz];omega) (by simp[maxLen]) (fun u hu=>by
    obtain⟨n,hn⟩:=Array.mem_iff_getElem?.1 hu
    have hlt:n<(cellsA (ev st x)).length:=by
     have:=(Array.getElem?_eq_some_iff.1 hn).1
     rw[←hvr.1];simpa using this
    exact(hvr.2 n _ u (List.getElem?_eq_getElem hlt) (by simpa using hn)).2)
   obtain⟨β',s1,_,s3,_,s5⟩:=fillL_init (w:=w.alloc (.cells (a.eval x).cells t)) (b:=w.heap.size) (kp:=ti.size) (cellsA (ev st x)) (a.eval x).cells.toList 0 (bareA st nid t ti.size 1) _ hrel h1 newR_at
    (fun e k es ep kp' row q1 q2=>by
     simp only[bareA,lo_put,if_true,Option.some.injEq]at q1
     injection q1 with e1 q1;injection q1 with e2 e3
     subst e1 e2 e3
     simp only[nav,Option.some.injEq,Prod.mk.injEq]at q2
     exact q2.2.1.symm)
    ⟨hvr.1,fun n v' u' e1 e2=>by
     obtain⟨q1,q2⟩:=hvr.2 n v' u' e1 e2
     exact⟨newR_vr hr q1 (AV.hitsL_get c3 n v' e1),q2⟩⟩
    (fun n u hn=>by
     simp only[Nat.zero_mul,Nat.zero_add]
     rw[World.cell?_alloc_new]
     simpa using hn)
   unfold Oper.wp
   have hrun:(execOp a.eval o).run P w=.ok (.value (.pointer (some ⟨w.heap.size,0,none⟩))) (w.alloc (.cells (a.eval x).cells t)):=by
    simp[execOp,ho,Instr.box,newVar,newRow]
   rw[hrun]
   refine hK _ _ _ s1 ?_ (Fr.trans (newR_fr (id:=nid) (e:=t) (cells:=(a.eval x).cells) (T:=nid::rids (ev st x)) (by simp)) (by simp) (by rw[←rids_cells _ g1];exact s5)) (by simp)
   have:=VR.ptr (β:=β') (w:=w.alloc (.cells (a.eval x).cells t)) nid ti.size [] 0 0 w.heap.size t (a.eval x).cells s3 (heap_alloc_new w _)
   simpa using this
  ·simp at hv
 ·simp at hv
end Go.Own
namespace Go.Own
variable {P:Program}{tt:Nat→Option TI}{w0:World}{β0:Blk}{st st':St}{β:Blk}{a:Act}{w w':World}{o:Oper}{T:List Nat}
def toC:AV→Option C
 |.sc v=>if v.oneCell' then some (.sc v) else none
 |.fz xs=>some (.fz xs)
 |_=>none
def toCs:List AV→Option (List C)
 |[]=>some []
 |x::xs=>match toC x,toCs xs with
  |some c,some cs=>some (c::cs)
  |_,_=>none
theorem toC_plain{x:AV}{u:Value}{c:C}(h:VR β w x u)(hc:toC x=some c):Plain β w c u:=by
 cases h with
 |sc v =>
  simp only[toC]at hc
  split at hc
  ·rename_i h1
   injection hc with hc
   subst hc
   exact⟨rfl,h1⟩
  ·simp at hc
 |fz xs u h =>
  simp only[toC,Option.some.injEq]at hc
  subst hc
  exact h
 |_=>simp[toC]at hc
theorem toCs_spec:∀{xs:List AV} {cs:List C} (_:toCs xs=some cs),cs.length=xs.length∧∀(n:Nat) (c:C),cs[n]?=some c→∃x,xs[n]?=some x∧toC x=some c
 |[],cs,h=>by simp only[toCs,Option.some.injEq]at h;subst h;simp
 |x::xs,cs,h=>by
  simp only[toCs]at h
  split at h
  ·rename_i c cs' h1 h2
   injection h with h
   subst h
   obtain⟨g1,g2⟩:=toCs_spec h2
   refine⟨by simp[g1],fun n y hy=>?_⟩
   cases n with
   |zero=>simp only[List.getElem?_cons_zero,Option.some.injEq]at hy;subst hy;exact⟨x,rfl,h1⟩
   |succ n=>exact g2 n y (by simpa using hy)
  ·simp at h
def rowC(k:Nat)(x:AV):Option (List C):=if okA x=true∧(cellsA x).length=k then toCs (cellsA x) else none
def rowCs(k:Nat):List AV→Option (List (List C))
 |[]=>some []
 |x::xs=>match rowC k x,rowCs k xs with
  |some c,some cs=>some (c::cs)
  |_,_=>none
theorem rowCs_spec{k:Nat}:∀{xs:List AV} {cs:List (List C)} (_:rowCs k xs=some cs),cs.length=xs.length∧(∀x,x∈xs→okA x=true∧(cellsA x).length=k)∧∀(n:Nat) (c:List C),cs[n]?=some c→∃x,xs[n]?=some x∧rowC k x=some c
 |[],cs,h=>by simp only[rowCs,Option.some.injEq]at h;subst h;simp
 |x::xs,cs,h=>by
  simp only[rowCs]at h
  split at h
  ·rename_i c cs' h1 h2
   injection h with h
   subst h
   obtain⟨g1,g3,g2⟩:=rowCs_spec h2
   refine⟨by simp[g1],fun y hy=>?_,fun n y hy=>?_⟩
   ·rcases List.mem_cons.1 hy with rfl|hy
    ·unfold rowC at h1
     split at h1
     ·assumption
     ·simp at h1
    ·exact g3 y hy
   ·cases n with
    |zero=>simp only[List.getElem?_cons_zero,Option.some.injEq]at hy;subst hy;exact⟨x,rfl,h1⟩
    |succ n=>exact g2 n y (by simpa using hy)
  ·simp at h
theorem rowC_len{k:Nat}{x:AV}{r:List C}(h:rowC k x=some r):r.length=k:=by
 unfold rowC at h
 split at h
 ·rename_i hc
  rw[(toCs_spec h).1];exact hc.2
 ·simp at h
theorem rowC_plain{k:Nat}{x:AV}{u:Value}{r:List C}(hv:VR β w x u)(h:rowC k x=some r):u.cells.size=k∧∀(j:Nat) (c:C),r[j]?=some c→∃u',u.cells[j]?=some u'∧Plain β w c u':=by
 unfold rowC at h
 split at h
 ·rename_i hc
  have hvs:=okA_cells hv hc.1
  have hsz:u.cells.size=k:=by rw[←hc.2,←hvs.1];simp
  refine⟨hsz,fun j c hj=>?_⟩
  obtain⟨x',h1,h2⟩:=(toCs_spec h).2 j c hj
  have hlt:j<u.cells.size:=by rw[hsz,←hc.2];exact(List.getElem?_eq_some_iff.1 h1).1
  refine⟨u.cells[j],by simp[hlt],?_⟩
  exact toC_plain (hvs.2 j x' _ h1 (by simp[hlt])).1 h2
 ·simp at h
theorem fill_dense(k:Nat):∀(vals:List Value) (s:Nat) (cells:Array Value),(∀v,v∈vals→v.cells.size=k)→(s+vals.length)*k≤cells.size →
  ∃cells',fillV (fun i=>some (i*k,k)) cells ((vals.zipIdx s).map fun x=>(x.2,x.1))=some cells'∧cells'.size=cells.size ∧
   (∀(i j:Nat) (v:Value),vals[i]?=some v→j<k→cells'[(s+i)*k+j]?=v.cells[j]?)∧(∀m,m<s*k→cells'[m]?=cells[m]?)
 |[],s,cells,_,_=>⟨cells,rfl,rfl,fun i j v h=>by simp at h,fun m _=>rfl⟩
 |v::vals,s,cells,hk,hle=>by
  have hv:=hk v (by simp)
  simp only[List.length_cons]at hle
  have hle2:s*k+k≤cells.size:=by
   have:(s+1)*k≤(s+(vals.length+1))*k:=Nat.mul_le_mul_right _ (by omega)
   rw[Nat.add_mul,Nat.one_mul]at this
   omega
  obtain⟨cs,h1,h2,h3,h4⟩:=fill_dense k vals (s+1) (putV cells (s*k) v.cells.toList) (fun v hv=>hk v (List.mem_cons_of_mem _ hv)) (by rw[putV_size];rw[show s+1+vals.length=s+(vals.length+1) by omega];exact hle)
  refine⟨cs,?_,by rw[h2,putV_size],fun i j u hi hj=>?_,fun m hm=>?_⟩
  ·simp only[List.zipIdx_cons,List.map_cons,fillV]
   rw[if_neg (by rw[hv];omega)]
   exact h1
  ·cases i with
   |zero =>
    simp only[List.getElem?_cons_zero,Option.some.injEq]at hi
    subst hi
    have hs1:(s+1)*k=s*k+k:=by rw[Nat.add_mul,Nat.one_mul]
    rw[Nat.add_zero,h4 _ (by omega),putV_get _ _ _ _ (by simp[hv];omega),if_pos (by simp[hv];omega)]
    simp
   |succ i =>
    have:=h3 i j u (by simpa using hi) hj
    rwa [show s+1+i=s+(i+1) by omega]at this
  ·have hs1:(s+1)*k=s*k+k:=by rw[Nat.add_mul,Nat.one_mul]
   rw[h4 m (by omega),putV_get _ _ _ _ (by simp[hv];omega),if_neg (by omega)]
def newSl(st:St)(nid e k:Nat)(es:List (List C)):AV×St :=
 (.sl nid k [] 0 es.length,{ st with tm:=killT (fun i _=>i==nid) st.tm,ob:=putO st.ob nid (e,k,es) })
def buildSliceA(tt:Nat→Option TI)(st:St)(nid t n:Nat)(parts:List (Nat×Operand)):Option (AV×St):=
 match elemT tt t with
 |some (e,ti)=>if parts.map (·.1)=List.range n∧0<ti.size∧n*ti.size≤16777216 then
   (rowCs ti.size (parts.map fun p=>ev st p.2)).map fun es=>newSl st nid e ti.size es else none
 |none=>none
theorem zip_of{α:Type}:∀(l:List (Nat×α)) (s:Nat),l.map (·.1)=List.range' s l.length→l=((l.map (·.2)).zipIdx s).map fun x=>(x.2,x.1)
 |[],_,_=>rfl
 |(i,x)::l,s,h=>by
  simp only[List.map_cons,List.length_cons,List.range'_succ,List.cons.injEq]at h
  obtain⟨rfl,h⟩:=h
  simp only[List.map_cons,List.zipIdx_cons]
  rw[←zip_of l (i+1) h]
theorem new_sound{nid e k:Nat}{es:List (List C)}{cells:Array Value}(hr:Rel w0 β0 st β a w)(hk:0<k)(hs:cells.size=es.length*k)(hn:es.length≤maxLen)(hrows:∀r,r∈es→r.length=k)
  (h1:∀(i j:Nat) (r:List C) (x:C),es[i]?=some r→r[j]?=some x→∃u,cells[i*k+j]?=some u∧Plain β w x u) :
  Rel w0 β0 (newSl st nid e k es).2 (newR w.heap.size nid β) a (w.alloc (.cells cells e))∧VR (newR w.heap.size nid β) (w.alloc (.cells cells e)) (newSl st nid e k es).1 (.slice (some ⟨w.heap.size,0,none⟩) es.length es.length):=by
 refine⟨hr.newP nid e k es.length cells es hk hs hn (Nat.le_refl _) hrows h1,?_⟩
 have:=VR.sl (β:=newR w.heap.size nid β) (w:=w.alloc (.cells cells e)) nid k [] 0 es.length w.heap.size es.length e cells hk newR_at (heap_alloc_new w _) hs (by omega)
 simpa[newSl]using this
theorem sound_buildSlice(tok:TOk P tt){t nid n:Nat}{parts:Array (Nat×Operand)}{v:AV}(ho:o.op=.buildSlice t n parts)(hv:buildSliceA tt st nid t n parts.toList=some (v,st')):Sound P o st v st' [nid]:=by
 intro w0 β0 β a w hr K Q hK
 unfold buildSliceA at hv
 split at hv
 ·rename_i e ti hel
  split at hv
  ·rename_i hc
   obtain⟨c1,c2,c3⟩:=hc
   simp only[Option.map_eq_some_iff]at hv
   obtain⟨es,he,hv⟩:=hv
   obtain⟨g1,g2⟩:=tok.elem hel
   obtain⟨info,d,z,i1,i2,i3,i4,i5,i6,i7⟩:=tok.ok e ti g2
   obtain⟨r1,r2,r3⟩:=rowCs_spec he
   have hpl:parts.toList.length=n:=by have:=congrArg List.length c1;simpa using this
   have hlen:es.length=n:=by rw[r1,List.length_map];exact hpl
   have hvals:∀u,u∈parts.toList.map (fun p=>a.eval p.2)→u.cells.size=ti.size:=fun u hu=>by
    obtain⟨p,hp,rfl⟩:=List.mem_map.1 hu
    obtain⟨q1,q2⟩:=r2 (ev st p.2) (List.mem_map.2 ⟨p,hp,rfl⟩)
    have:=okA_cells (hr.ev p.2) q1
    rw[←q2,←this.1];simp
   have hz:=zip_of (parts.toList.map fun p=>(p.1,a.eval p.2)) 0 (by rw[List.map_map];simp only[List.length_map,hpl];rw[←List.range_eq_range'];exact c1)
   obtain⟨cells,f1,f2,f3,f4⟩:=fill_dense ti.size (parts.toList.map fun p=>a.eval p.2) 0 (if n*ti.size=0 then #[] else (Array.range (n*ti.size)).map (z.cells[· % z.cells.size]!)) hvals (by
    split
    ·rename_i h0;simp only[List.length_map,hpl];simp;omega
    ·simp[hpl])
   have hsz:cells.size=n*ti.size:=by
    rw[f2]
    split
    ·rename_i h0;simp[h0]
    ·simp
   have hfill:Instr.fill (fun i=>some (i*ti.size,ti.size)) (if n*ti.size=0 then #[] else (Array.range (n*ti.size)).map (z.cells[· % z.cells.size]!)) (parts.toList.map fun p=>(p.1,a.eval p.2))=some cells:=by
    rw[fill_eq,hz,List.map_map]
    exact f1
   have hrun:(execOp a.eval o).run P w=.ok (.value (.slice (some ⟨w.heap.size,0,none⟩) n n)) (w.alloc (.cells cells e)):=by
    by_cases h0:n*ti.size=0
    ·rw[if_pos h0]at hfill
     have hn0:n=0:=by rcases Nat.mul_eq_zero.1 h0 with h|h<;>omega
     subst hn0
     have hp0:parts=#[]:=by
      apply Array.ext'
      simpa using List.eq_nil_of_length_eq_zero hpl
     subst hp0
     simp only[List.map_nil,Instr.fill,Option.some.injEq]at hfill
     subst hfill
     simp[execOp,ho,Instr.buildSlice,run_underlying g1,Go.sizeOf,typeInfo,i1,Instr.fill,newRow,Array.range_zero']
    ·rw[if_neg h0]at hfill
     have:=run_buildSlice (P:=P) w t e n (parts.map fun x=>(x.1,a.eval x.2)) cells info z g1 i1 i5 (by rw[i3];omega) (by rw[i3];exact h0) (by rw[i3];simpa using hfill)
     simp[execOp,ho,this]
   have hrows:∀r,r∈es→r.length=ti.size:=fun r hr=>by
    obtain⟨m,hm⟩:=List.mem_iff_getElem?.1 hr
    obtain⟨x,_,hx⟩:=r3 m r hm
    exact rowC_len hx
   obtain⟨s1,s2⟩:=new_sound (nid:=nid) (e:=e) hr c2 (by rw[hsz,hlen]) (by rw[hlen];simp only[maxLen];have:=Nat.mul_le_mul_left n c2;omega) hrows (cells:=cells) (fun i j r x hi hj=>by
    obtain⟨y,hy,hrc⟩:=r3 i r hi
    rw[List.getElem?_map,Option.map_eq_some_iff]at hy
    obtain⟨p,hp,rfl⟩:=hy
    obtain⟨_,q2⟩:=rowC_plain (hr.ev p.2) hrc
    obtain⟨u,hu,hpl⟩:=q2 j x hj
    refine⟨u,?_,hpl⟩
    have hj':j<ti.size:=by rw[←hrows r (List.mem_of_getElem? hi)];exact(List.getElem?_eq_some_iff.1 hj).1
    have:=f3 i j (a.eval p.2) (by rw[List.getElem?_map,hp];rfl) hj'
    rw[Nat.zero_add]at this
    rw[this];exact hu)
   unfold Oper.wp
   rw[hrun]
   injection hv with e1 e2
   subst e1 e2
   have:=hK _ _ _ s1 s2 (newR_fr (by simp)) (by simp)
   rw[hlen]at this
   exact this
  ·simp at hv
 ·simp at hv
def makeA(tt:Nat→Option TI)(st:St)(nid t:Nat)(l c:AV):Option (AV×St):=
 match elemT tt t,l,c with
 |some (e,ti),.sc (.int _ l),.sc (.int _ c)=>if zeroOk ti=true∧0≤l∧l≤c∧(ti.bytes:Int)*c≤281474976710656∧c≤9223372036854775807 then
   some (newSl st nid e ti.size (List.replicate l.toNat (ti.zero.map .sc))) else none
 |_,_,_=>none
theorem sound_make(tok:TOk P tt){t nid:Nat}{l c:Operand}{v:AV}(ho:o.op=.makeSlice t l c)(hv:makeA tt st nid t (ev st l) (ev st c)=some (v,st')):Sound P o st v st' [nid]:=by
 intro w0 β0 β a w hr K Q hK
 unfold makeA at hv
 split at hv
 ·rename_i e ti kl l' kc c' hel hl hc
  split at hv
  ·rename_i hcond
   obtain⟨c1,c2,c3,c4,c5⟩:=hcond
   injection hv with hv
   obtain⟨g1,g2⟩:=tok.elem hel
   obtain⟨info,d,z,i1,i2,i3,i4,i5,i6,i7⟩:=tok.ok e ti g2
   have el:=hr.ev l
   have ec:=hr.ev c
   rw[hl]at el
   rw[hc]at ec
   have el:=el.sc_inv
   have ec:=ec.sc_inv
   have hrun:=run_make (P:=P) w t e info z g1 i1 i5 kl kc l' c' c2 c3 (by rw[i4];exact c4) c5
   have hz':=c1
   simp only[zeroOk,Bool.and_eq_true,decide_eq_true_eq]at hz'
   obtain⟨⟨z1,z2⟩,z3⟩:=hz'
   have hzs:z.cells.size=ti.size:=by rw[←z2,←i6];simp
   have hmade:(madeCells z.cells (c'.toNat*ti.size)).size=c'.toNat*ti.size:=size_madeCells _ _
   have hmax:c'.toNat≤maxLen:=by simp only[maxLen];omega
   have hrel:=hr.newP nid e ti.size c'.toNat (madeCells z.cells (c'.toNat*ti.size)) (List.replicate l'.toNat (ti.zero.map .sc)) z1 hmade hmax (by simp;omega)
    (fun r h=>by rw[List.eq_of_mem_replicate h];simpa using z2) (fun i j r x hi hj=>by
     have hi':=(List.getElem?_eq_some_iff.1 hi).1
     simp only[List.length_replicate]at hi'
     rw[List.getElem?_replicate,if_pos hi']at hi
     injection hi with hi
     subst hi
     rw[List.getElem?_map,Option.map_eq_some_iff]at hj
     obtain⟨zv,hz,rfl⟩:=hj
     have hj2:=(List.getElem?_eq_some_iff.1 hz).1
     rw[z2]at hj2
     have hlt:i*ti.size+j<c'.toNat*ti.size:=by
      have:=Nat.mul_le_mul_right ti.size (show i+1≤c'.toNat by omega)
      rw[Nat.add_mul,Nat.one_mul]at this
      omega
     refine⟨zv,?_,rfl,List.all_eq_true.1 z3 zv (List.mem_of_getElem? hz)⟩
     simp only[madeCells,Array.getElem?_map,Array.getElem?_range,hlt,if_true,Option.map_some,Option.some.injEq]
     have hmod:(i*ti.size+j) % z.cells.size=j:=by rw[hzs,Nat.mul_comm,Nat.mul_add_mod,Nat.mod_eq_of_lt hj2]
     rw[hmod]
     have:z.cells.toList[j]?=some zv:=by rw[i6];exact hz
     have h3:z.cells[j]?=some zv:=by simpa using this
     rw[getElem!_def,h3])
   have hvr:=VR.sl (β:=newR w.heap.size nid β) (w:=w.alloc (.cells (madeCells z.cells (c'.toNat*ti.size)) e)) nid ti.size [] 0 l'.toNat w.heap.size c'.toNat e _ z1 newR_at (heap_alloc_new w _) hmade (by omega)
   unfold Oper.wp
   have hrun2:(execOp a.eval o).run P w=.ok (.value (.slice (some ⟨w.heap.size,0,none⟩) l'.toNat c'.toNat)) (w.alloc (.cells (madeCells z.cells (c'.toNat*ti.size)) e)):=by
    rw[i3]at hrun
    simp[execOp,ho,el,ec,hrun]
   rw[hrun2]
   simp only[newSl,List.length_replicate,Prod.mk.injEq]at hv
   obtain⟨rfl,rfl⟩:=hv
   refine hK _ _ _ hrel ?_ (newR_fr (by simp)) (by simp)
   simpa using hvr
  ·simp at hv
 ·simp at hv
end Go.Own
