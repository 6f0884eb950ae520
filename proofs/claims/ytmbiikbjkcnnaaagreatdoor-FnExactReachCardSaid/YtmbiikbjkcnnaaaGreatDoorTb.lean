import Derived.Test.YtmbiikbjkcnnaaaGreatDoorTa
import Derived.Laws.BytesArg
import Derived.OrdersHeld
import Derived.Still
/- Lemmas for the proof in the last text of this claim. -/
set_option linter.unusedVariables false
set_option linter.unusedSimpArgs false
namespace Go.Own
variable {P:Program}{tt:Nat→Option TI}{w0:World}{β0:Blk}{st st':St}{β:Blk}{a:Act}{w w':World}{o:Oper}{T:List Nat}
def frz:C→C
 |.sl _ _ xs=>.fz xs
 |x=>x
def plainC:C→Bool
 |.sl ..=>false
 |_=>true
theorem frz_plain{x:C}{u:Value}(h:FR (fun b=>β b=none) w x u):Plain β w (frz x) u:=by
 cases h with
 |sc _ h=>exact⟨rfl,h⟩
 |no _ h=>exact h
 |fzE a c=>exact .fzE a c
 |fzN xs b o k c f h1 h2 h3 h4 h5 h6 h7=>exact .fzN xs b o k c f h1 h2 h3 h4 h5 h6 h7
 |sl e k xs u h=>exact h
theorem cv_plain{id:Nat}{p:Pth}{i j:Nat}{x:C}{u:Value}(h:CV β w id p i j x u)(hp:plainC x=true):Plain β w x u:=by
 cases x with
 |sc v=>exact h
 |fz xs=>exact h
 |sl e k xs=>simp[plainC]at hp
 |no=>exact h
theorem plain_one{x:C}{u:Value}(h:Plain β w x u):u.oneCell'=true:=by
 cases x with
 |sc v=>obtain⟨rfl,h⟩:=h;exact h
 |fz xs=>exact FR.one h
 |sl e k xs=>exact h.elim
 |no=>exact h
theorem frz_plainC(x:C):plainC (frz x)=true:=by cases x<;>rfl
def srcA(st:St)(k:Nat)(y:AV):Option (List (List C)):=
 match y with
 |.fz ys=>if ys.all (fun r=>r.length==k)=true then some (ys.map (·.map frz)) else none
 |.sl id k' p off len=>match rowA st id p with
  |some (_,k2,row)=>if k'=k∧k2=k∧off+len≤row.length∧((row.drop off).take len).all (fun r=>r.all plainC)=true then some ((row.drop off).take len) else none
  |none=>none
 |.sc (.slice none 0 0)=>some []
 |_=>none
def SrcV(β:Blk)(w:World)(k:Nat)(ys:List (List C))(u:Value):Prop :=
 (∃c:Nat,u=.slice none 0 c∧ys=[]) ∨
 ∃(ad:Addr) (c:Nat) (news:List Value),u=.slice (some ad) ys.length c∧news.length=ys.length*k∧(∀(j:Nat) (x:Value),news[j]?=some x→w.cell? (ad.add j)=some x) ∧
  (∀r,r∈ys→r.length=k∧r.all plainC=true)∧∀(i j:Nat) (r:List C) (x:C),ys[i]?=some r→r[j]?=some x→∃u,news[i*k+j]?=some u∧Plain β w x u
theorem src_of{k:Nat}{ys:List (List C)}{b o c:Nat}(h0:0<k)(hk:∀r,r∈ys→r.length=k∧r.all plainC=true)
  (hc:∀(i j:Nat) (r:List C) (x:C),ys[i]?=some r→r[j]?=some x→∃u,w.cell? ⟨b,o+i*k+j,none⟩=some u∧Plain β w x u) :
  SrcV β w k ys (.slice (some ⟨b,o,none⟩) ys.length c):=by
 have hall:∀m,m<ys.length*k→∃u,w.cell? ⟨b,o+m,none⟩=some u∧∀(i j:Nat) (r:List C) (x:C),i*k+j=m→ys[i]?=some r→r[j]?=some x→Plain β w x u:=fun m hm=>by
  have hi:m / k<ys.length:=Nat.div_lt_of_lt_mul (by rw[Nat.mul_comm];exact hm)
  have hr:=List.getElem?_eq_getElem hi
  have hj:m % k<(ys[m / k]).length:=by rw[(hk _ (List.getElem_mem hi)).1];exact Nat.mod_lt _ h0
  obtain⟨u,hu,hp⟩:=hc _ _ _ _ hr (List.getElem?_eq_getElem hj)
  have he:m / k*k+m % k=m:=Nat.div_add_mod' m k
  refine⟨u,by rw[Nat.add_assoc,he]at hu;exact hu,fun i j r x hm' hi' hj'=>?_⟩
  have hjk:j<k:=by rw[←(hk r (List.mem_of_getElem? hi')).1];exact(List.getElem?_eq_some_iff.1 hj').1
  obtain⟨e1,e2⟩:m / k=i∧m % k=j:=by
   subst hm'
   exact⟨by rw[Nat.mul_comm,Nat.mul_add_div h0,Nat.div_eq_of_lt hjk];simp,by rw[Nat.mul_comm,Nat.mul_add_mod,Nat.mod_eq_of_lt hjk]⟩
  subst e1 e2
  rw[hr]at hi'
  injection hi' with hi'
  subst hi'
  rw[List.getElem?_eq_getElem hj]at hj'
  injection hj' with hj'
  subst hj'
  exact hp
 refine .inr ⟨_,c,(List.range (ys.length*k)).map fun m=>(w.cell? ⟨b,o+m,none⟩).getD undef,rfl,by simp,fun j x hj=>?_,hk,fun i j r x hi hj=>?_⟩
 ·rw[List.getElem?_map,Option.map_eq_some_iff]at hj
  obtain⟨m,hm,rfl⟩:=hj
  obtain⟨rfl,hlt⟩:=range_get hm
  obtain⟨u,hu,_⟩:=hall m hlt
  rw[add_plain,hu]
  rfl
 ·have hjk:j<k:=by rw[←(hk r (List.mem_of_getElem? hi)).1];exact(List.getElem?_eq_some_iff.1 hj).1
  have hil:=(List.getElem?_eq_some_iff.1 hi).1
  have hlt:i*k+j<ys.length*k:=by
   have:=Nat.mul_le_mul_right k (show i+1≤ys.length by omega)
   rw[Nat.add_mul,Nat.one_mul]at this
   omega
  obtain⟨u,hu,hp⟩:=hall _ hlt
  refine⟨u,?_,hp i j r x rfl hi hj⟩
  rw[List.getElem?_map,List.getElem?_range hlt]
  simp[hu]
theorem src_vr{k:Nat}{y:AV}{u:Value}{ys:List (List C)}(h0:0<k)(uq:∀b b' x,β b=some x→β b'=some x→b=b')(ob:∀id e k es,lo st.ob id=some (e,k,es)→SubR β w id [] e k es)
  (hv:VR β w y u) (h:srcA st k y=some ys):SrcV β w k ys u:=by
 unfold srcA at h
 split at h
 ·rename_i zs
  split at h
  ·rename_i hk
   injection h with h
   subst h
   cases hv with
   |fz _ _ hfr=>cases hfr with
    |fzE a c =>
     cases a with
     |none=>exact .inl ⟨c,rfl,rfl⟩
     |some ad=>exact .inr ⟨ad,c,[],rfl,by simp,fun j x hj=>by simp at hj,fun r hr=>by simp at hr,fun i j r x hi=>by simp at hi⟩
    |fzN _ b o k0 c f g1 g2 g3 g4 g5 g6 g7 =>
     have hkk:∀r,r∈zs→r.length=k:=fun r hr=>by have:=List.all_eq_true.1 hk r hr;simpa using this
     have hk0:k0=k:=by
      cases zs with
      |nil=>exact absurd rfl g1
      |cons r rs=>rw[←g4 r (by simp),hkk r (by simp)]
     subst hk0
     have:=src_of (β:=β) (w:=w) (ys:=zs.map (·.map frz)) (b:=b) (o:=o) (c:=c) h0 (fun r hr=>by
      obtain⟨r',hr',rfl⟩:=List.mem_map.1 hr
      refine⟨by simpa using hkk r' hr',?_⟩
      simp[List.all_eq_true,frz_plainC]) (fun i j r x hi hj=>by
      rw[List.getElem?_map,Option.map_eq_some_iff]at hi
      obtain⟨r',hi',rfl⟩:=hi
      rw[List.getElem?_map,Option.map_eq_some_iff]at hj
      obtain⟨x',hj',rfl⟩:=hj
      exact⟨_,g6 i j r' x' hi' hj',frz_plain (g7 i j r' x' hi' hj')⟩)
     simpa using this
  ·simp at h
 ·rename_i id k' p off len
  split at h
  ·rename_i e k2 row hrow
   split at h
   ·rename_i hc
    obtain⟨rfl,rfl,c3,c4⟩:=hc
    injection h with h
    subst h
    have hlen:((row.drop off).take len).length=len:=by simp;omega
    generalize hu:u=u' at hv
    cases hv with
    |slN=>exact .inl ⟨0,rfl,by apply List.eq_nil_of_length_eq_zero;omega⟩
    |sl _ _ _ _ _ b cap t cur q0 q1 q2 q3 q4 =>
     subst hu
     obtain⟨cap2,cur2,hh,hl,hs,hrk,hcc⟩:=rowA_at uq ob hrow q1
     have hget:∀i r,((row.drop off).take len)[i]?=some r→row[off+i]?=some r:=fun i r hi=>by
      rw[List.getElem?_take]at hi
      split at hi
      ·rwa [List.getElem?_drop]at hi
      ·simp at hi
     have:=src_of (β:=β) (w:=w) (ys:=(row.drop off).take len) (b:=b) (o:=off*k2) (c:=cap-off) h0 (fun r hr=>⟨hrk r (List.mem_of_mem_drop (List.mem_of_mem_take hr)),List.all_eq_true.1 c4 r hr⟩) (fun i j r x hi hj=>by
      obtain⟨v,hv1,hv2⟩:=hcc _ j r x (hget i r hi) hj
      refine⟨v,?_,cv_plain hv2 ?_⟩
      ·rw[cell_of_row w b _ cur2 e (0,0) hh,←Nat.add_mul];exact hv1
      ·exact List.all_eq_true.1 (List.all_eq_true.1 c4 r (List.mem_of_getElem? hi)) x (List.mem_of_getElem? hj))
     rw[hlen]at this
     exact this
   ·simp at h
  ·simp at h
 ·injection h with h
  subst h
  obtain rfl:=hv.sc_inv
  exact .inl ⟨0,rfl,rfl⟩
 ·simp at h
def appO(st:St)(id:Nat)(e k:Nat)(es ys:List (List C)):AV×St :=
 (.sl id k [] 0 (es++ys).length,{ st with tm:=killT (fun i _=>i==id) st.tm,ob:=putO st.ob id (e,k,es++ys) })
def dstA(st:St)(nid e k:Nat)(x:AV):Option (Nat×List (List C)×St):=
 match x with
 |.sl id k' [] 0 len=>match lo st.ob id with
  |some (e',k2,es)=>if e'=e∧k'=k∧k2=k∧len=es.length then some (id,es,st) else none
  |none=>none
 |.sl id k' (q::p) 0 len=>match lo st.ob id with
  |some (e0,k0,es0)=>match nav e0 k0 es0 ((q::p).dropLast) with
   |some (_,_,row)=>match (row[((q::p).getLast (by simp)).1]?).bind (fun r=>r[((q::p).getLast (by simp)).2]?) with
    |some (.sl e1 k1 xs)=>if e1=e∧k1=k∧k'=k∧nid≠id∧len=xs.length then
      some (nid,xs,{ st with tm:=killT (fun i p=>i==nid||(i==id && !p.isEmpty)) st.tm,ob:=putO (putO st.ob id (e0,k0,updP es0 ((q::p).dropLast) (setCell ((q::p).getLast (by simp)).1 ((q::p).getLast (by simp)).2 .no))) nid (e1,k1,xs) }) else none
    |_=>none
   |none=>none
  |none=>none
 |.sc (.slice none 0 0)=>some (nid,[],{ st with tm:=killT (fun i _=>i==nid) st.tm,ob:=putO st.ob nid (e,k,[]) })
 |_=>none
def appendA(tt:Nat→Option TI)(st:St)(nid t:Nat)(x y:AV):Option (AV×St):=
 match elemT tt t with
 |some (e,ti)=>match srcA st ti.size y,dstA st nid e ti.size x with
  |some ys,some (id,es,st1)=>if zeroOk ti=true∧(es.length+ys.length)*ti.bytes≤140737488355328∧es.length+ys.length≤9223372036854775807 then some (appO st1 id e ti.size es ys) else none
  |_,_=>none
 |none=>none
theorem bare_fr{id:Nat}:Fr [id] β w (bare id β) w:=by
 refine⟨fun b hb hq=>⟨?_,rfl⟩,fun b i1 p1 hb hn=>?_⟩
 case refine_2 =>
  simp only[bare]at hb
  split at hb
  ·simp at hb
  ·rename_i hp
   split at hb
   ·simp at hb
   ·rw[hp];exact hb
 cases hx:β b with
 |none=>simp[bare,hx]
 |some x =>
  obtain⟨i0,p0⟩:=x
  have:=hq i0 p0 hx
  simp only[List.mem_cons,List.not_mem_nil,or_false]at this
  simp[bare,hx,this]
theorem parted_fr{id nid:Nat}{p:Pth}:Fr [id,nid] β w (parted id p nid β) w:=by
 refine⟨fun b hb hq=>⟨?_,rfl⟩,fun b i1 p1 hb hn=>?_⟩
 case refine_2 =>
  simp only[List.mem_cons,List.not_mem_nil,or_false,not_or]at hn
  simp only[parted]at hb
  split at hb
  ·simp at hb
  ·rename_i hp
   split at hb
   ·simp at hb
   ·split at hb
    ·injection hb with hb;injection hb with e1 e2;exact absurd e1.symm hn.2
    ·rw[hp];exact hb
 cases hx:β b with
 |none=>simp[parted,hx]
 |some x =>
  obtain⟨i0,p0⟩:=x
  have:=hq i0 p0 hx
  simp only[List.mem_cons,List.not_mem_nil,or_false,not_or]at this
  simp[parted,hx,this.1,this.2]
def cutR(id n:Nat)(β:Blk):Blk:=fun b =>
 match β b with
 |none=>none
 |some (i0,[])=>some (i0,[])
 |some (i0,(i,j)::q)=>if i0=id∧n≤i then none else some (i0,(i,j)::q)
theorem Rel.appendP(h:Rel w0 β0 st β a w){id e k:Nat}{es ys:List (List C)}{v v':Value}{vs news:List Value}
  (hlo:lo st.ob id=some (e,k,es)) (hown:w.ownsRow 0 e k v es.length vs) (hcr:CellsR (CV β w id []) k es vs) (hob:∀b,v.ownBlock=some b↔β b=some (id,[]))
  (hown':w'.ownsRow 0 e k v' (es.length+ys.length) (vs++news)) (hg:w.grownBy w' v.ownBlock) (hat:v'.ownBlock=v.ownBlock∨v'.ownBlock=some w.heap.size)
  (hyl:∀r,r∈ys→r.length=k∧r.all plainC=true) (hnl:news.length=ys.length*k) (h0:0<k)
  (hysP:∀(i j:Nat) (r:List C) (x:C),ys[i]?=some r→r[j]?=some x→∃u,news[i*k+j]?=some u∧Plain β w x u) :
  Rel w0 β0 { st with tm:=killT (fun i p=>i==id) st.tm,ob:=putO st.ob id (e,k,es++ys) } (rehome id v'.ownBlock (cutR id es.length β)) a w'
   ∧ VR (rehome id v'.ownBlock (cutR id es.length β)) w' (.sl id k [] 0 (es++ys).length) v'∧Fr [id] β w (rehome id v'.ownBlock (cutR id es.length β)) w'∧w.heap.size≤w'.heap.size:=by
 have hvn:∀b,v'.ownBlock=some b→β b=some (id,[])∨b=w.heap.size:=fun b hb=>by
  rcases hat with g|g
  ·rw[g]at hb;exact .inl ((hob b).1 hb)
  ·rw[g]at hb;injection hb with hb;exact .inr hb.symm
 have keepB:∀b x,β b=some x→x≠(id,[])→w'.heap[b]?=w.heap[b]?:=fun b x hb hx=>hg.block b (h.lt b x hb) (fun e=>by
  have:=(hob b).1 e.symm
  rw[hb]at this
  injection this with this
  exact hx this)
 have hv'b:∀b x,β b=some x→x≠(id,[])→v'.ownBlock≠some b:=fun b x hb hx e=>by
  rcases hvn b e with g|g
  ·rw[hb]at g;injection g with g;exact hx g
  ·have:=h.lt b x hb;omega
 have fz:∀b,β b=none→b<w.heap.size→rehome id v'.ownBlock (cutR id es.length β) b=none∧w'.heap[b]?=w.heap[b]?:=fun b hb hlt=>by
  have h1:v'.ownBlock≠some b:=fun e=>by
   rcases hvn b e with g|g
   ·rw[hb]at g;simp at g
   ·omega
  refine⟨by simp[rehome,h1,cutR,hb],hg.block b hlt (fun e=>?_)⟩
  have:=(hob b).1 e.symm
  rw[hb]at this
  simp at this
 have toId:∀b i j q,i<es.length→β b=some (id,(i,j)::q)→rehome id v'.ownBlock (cutR id es.length β) b=some (id,(i,j)::q)∧w'.heap[b]?=w.heap[b]?:=fun b i j q hi hb=>by
  refine⟨?_,keepB b _ hb (by simp)⟩
  have h1:=hv'b b _ hb (by simp)
  have h2:¬es.length≤i:=by omega
  simp[rehome,h1,cutR,hb,h2]
 have inv:∀b i0 p,rehome id v'.ownBlock (cutR id es.length β) b=some (i0,p)→(p=[]∧i0=id∧v'.ownBlock=some b)∨(i0≠id∧β b=some (i0,p)) ∨
   (i0=id∧∃i j q,p=(i,j)::q∧i<es.length∧β b=some (id,p)):=fun b i0 p hb=>by
  simp only[rehome]at hb
  split at hb
  ·rename_i hv;injection hb with hb;injection hb with h1 h2;exact .inl ⟨h2.symm,h1.symm,hv⟩
  ·simp only[cutR]at hb
   cases hx:β b with
   |none=>simp[hx]at hb
   |some x =>
    obtain⟨i1,p1⟩:=x
    cases p1 with
    |nil =>
     simp only[hx]at hb
     by_cases hi:i1=id
     ·simp[hi]at hb
     ·simp only[hi,false_and,if_false]at hb
      injection hb with hb;injection hb with h1 h2
      subst h1 h2
      exact .inr (.inl ⟨hi,rfl⟩)
    |cons ij p1 =>
     obtain⟨i,j⟩:=ij
     simp only[hx]at hb
     by_cases hg:i1=id∧es.length≤i
     ·simp[hg]at hb
     ·simp only[hg,if_false]at hb
      split at hb
      ·simp at hb
      ·injection hb with hb;injection hb with h1 h2
       subst h1 h2
       by_cases hi:i1=id
       ·subst hi
        exact .inr (.inr ⟨rfl,i,j,p1,rfl,by have:¬es.length≤i:=fun g=>hg ⟨rfl,g⟩;omega,rfl⟩)
       ·exact .inr (.inl ⟨hi,rfl⟩)
 have backId:∀b i j q,i<es.length→rehome id v'.ownBlock (cutR id es.length β) b=some (id,(i,j)::q)→β b=some (id,(i,j)::q):=fun b i j q hi hb=>by
  rcases inv b _ _ hb with ⟨g,_,_⟩|⟨g,_⟩|⟨_,_,_,_,_,_,g⟩
  ·simp at g
  ·exact absurd rfl g
  ·exact g
 have other:∀b i0 p,i0≠id→(β b=some (i0,p)↔rehome id v'.ownBlock (cutR id es.length β) b=some (i0,p)):=fun b i0 p h1=>by
  constructor
  ·intro hb
   have h3:=hv'b b _ hb (by simp[h1])
   cases p with
   |nil=>simp[rehome,h3,cutR,hb,h1]
   |cons ij p=>obtain⟨i,j⟩:=ij;simp[rehome,h3,cutR,hb,h1]
  ·intro hb
   rcases inv b _ _ hb with ⟨_,g,_⟩|⟨_,g⟩|⟨g,_⟩
   ·exact absurd g h1
   ·exact g
   ·exact absurd g h1
 have mvId:∀i j,i<es.length→Moves β (rehome id v'.ownBlock (cutR id es.length β)) w w' id [(i,j)] id [(i,j)]:=fun i j hi =>
  ⟨fz,fun b s hb=>toId b i j s hi hb,fun b s hb=>backId b i j s hi hb⟩
 have own1:∀b,v'.ownBlock=some b→rehome id v'.ownBlock (cutR id es.length β) b=some (id,[]):=fun b hb=>by simp[rehome,hb]
 have none1:v'.ownBlock=none→∀b,rehome id v'.ownBlock (cutR id es.length β) b≠some (id,[]):=fun hv b hb=>by
  rcases inv b _ _ hb with ⟨_,_,g⟩|⟨g,_⟩|⟨_,_,_,_,g,_⟩
  ·rw[hv]at g;simp at g
  ·exact g rfl
  ·simp at g
 have hrow:RowAt (rehome id v'.ownBlock (cutR id es.length β)) w' id [] e k (es++ys):=by
  refine⟨h0,?_⟩
  rcases hown'.2 with ⟨rfl,hz⟩|⟨g,cap,cur,rfl,_,hgg,hnc,hcm,hcs,htk⟩
  ·have:es++ys=[]:=List.eq_nil_of_length_eq_zero (by simpa using hz)
   exact .inl ⟨this,none1 rfl⟩
  ·refine .inr ⟨g,cap,cur,own1 g rfl,hgg,by simpa using hnc,hcm,hcs,?_⟩
   rw[List.length_append,htk]
   refine⟨by simp[hcr.1,hnl,Nat.add_mul],fun r hr=>?_,fun i j r x hi hj=>?_⟩
   ·rcases List.mem_append.1 hr with hr|hr
    ·exact hcr.2.1 r hr
    ·exact(hyl r hr).1
   ·by_cases hil:i<es.length
    ·rw[List.getElem?_append_left hil]at hi
     obtain⟨u,hu,hv⟩:=hcr.2.2 i j r x hi hj
     refine⟨u,by rw[List.getElem?_append_left (List.getElem?_eq_some_iff.1 hu).1];exact hu,?_⟩
     cases x with
     |sc v=>exact hv
     |fz ys=>exact FR.mono hv fz
     |no=>exact hv
     |sl e2 k2 xs =>
      obtain⟨g0,hv⟩:=hv
      exact⟨g0,by have:=(mvId i j hil).slV (s:=[]) (by simpa using hv);simpa using this⟩
    ·have hil:es.length≤i:=by omega
     rw[List.getElem?_append_right hil]at hi
     obtain⟨u,hu,hv⟩:=hysP (i-es.length) j r x hi hj
     refine⟨u,?_,hv.cv fz id [] i j⟩
     have:i*k+j=vs.length+((i-es.length)*k+j):=by
      rw[hcr.1,←Nat.add_assoc,←Nat.add_mul,Nat.add_sub_cancel' hil]
     rw[this,List.getElem?_append_right (by omega),Nat.add_sub_cancel_left]
     exact hu
 refine⟨h.change _ _ _ w' fz hg.size ?_ ?_ ?_ ?_ ?_ ?_ hg.os hg.tape hg.output,?_,⟨fun b hb hq=>?_,fun b i1 p1 hb hn=>(other b i1 p1 (by simpa using hn)).2 hb⟩,hg.size⟩
 ·intro i0 p b hq hb
  simp only[beq_eq_false_iff_ne]at hq
  refine⟨(other b i0 p hq).1 hb,fun cur t hc=>⟨cur,?_,rfl⟩⟩
  rw[keepB b _ hb (by simp[hq])]
  exact hc
 ·intro i0 p b hq hb
  simp only[beq_eq_false_iff_ne]at hq
  exact(other b i0 p hq).2 hb
 ·intro id' e' k' es' hl
  rw[lo_put]at hl
  by_cases hid:id=id'
  ·subst hid
   rw[if_pos rfl]at hl
   injection hl with hl
   injection hl with e1 hl
   injection hl with e2 e3
   subst e1 e2 e3
   intro s e' k' es' hs'
   cases s with
   |nil =>
    simp only[nav,Option.some.injEq,Prod.mk.injEq]at hs'
    obtain⟨rfl,rfl,rfl⟩:=hs'
    simpa using hrow
   |cons ij s =>
    obtain⟨i,j⟩:=ij
    obtain⟨r,e1,k1,xs,hi,hj,hs2⟩:=nav_cons hs'
    by_cases hil:i<es.length
    ·rw[List.getElem?_append_left hil]at hi
     have hold:SubR β w id ([(i,j)]++[]) e1 k1 xs:=fun s e' k' es' hs=>by
      have:=h.ob id e k es hlo ((i,j)::s) e' k' es' (by rw[nav_mk hi hj];exact hs)
      simpa using this
     have:=(mvId i j hil).sub hold s e' k' es' hs2
     simpa using this
    ·have hil:es.length≤i:=by omega
     rw[List.getElem?_append_right hil]at hi
     have:=List.all_eq_true.1 (hyl r (List.mem_of_getElem? hi)).2 _ (List.mem_of_getElem? hj)
     simp[plainC]at this
  ·rw[if_neg hid]at hl
   ·have hm:Moves β (rehome id v'.ownBlock (cutR id es.length β)) w w' id' [] id' []:=
     ⟨fz,fun b s hb=>⟨(other b id' _ (fun e=>hid e.symm)).1 hb,keepB b _ hb (by simp[show ¬id'=id from fun e=>hid e.symm])⟩,fun b s hb=>(other b id' _ (fun e=>hid e.symm)).2 hb⟩
    have:=hm.sub (s:=[]) (by simpa using h.ob id' e' k' es' hl)
    simpa using this
 ·intro b1 b2 x h1 h2
  obtain⟨i0,p⟩:=x
  rcases inv b1 _ _ h1 with ⟨g1,g2,g3⟩|⟨g1,g3⟩|⟨g1,i,j,q,g2,g3,g4⟩
  ·subst g1 g2
   rcases inv b2 _ _ h2 with ⟨_,_,f3⟩|⟨f1,_⟩|⟨_,_,_,_,f2,_⟩
   ·rw[g3]at f3;injection f3
   ·exact absurd rfl f1
   ·simp at f2
  ·exact h.uq b1 b2 _ g3 ((other b2 i0 p g1).2 h2)
  ·subst g1 g2
   exact h.uq b1 b2 _ g4 (backId b2 i j q g3 h2)
 ·intro b x hb
  obtain⟨i0,p⟩:=x
  have hlt2:∀y,β b=some y→b<w'.heap.size:=fun y hy=>Nat.lt_of_lt_of_le (h.lt b y hy) hg.size
  rcases inv b _ _ hb with ⟨_,_,g⟩|⟨_,g⟩|⟨_,_,_,_,_,_,g⟩
  ·exact(hown'.lt b g).2
  ·exact hlt2 _ g
  ·exact hlt2 _ g
 ·intro b x hb hlt
  obtain⟨i0,p⟩:=x
  rcases inv b _ _ hb with ⟨_,_,g⟩|⟨_,g⟩|⟨_,_,_,_,_,_,g⟩
  ·rcases hvn b g with g|g
   ·rw[g];simp
   ·omega
  ·rw[g];simp
  ·rw[g];simp
 ·rcases hown'.2 with ⟨rfl,hz⟩|⟨g,cap,cur,rfl,_,hgg,hnc,hcm,hcs,htk⟩
  ·have:(es++ys).length=0:=by simpa using hz
   rw[this]
   exact .slN id k [] h0 (none1 rfl)
  ·rw[List.length_append]
   have:=VR.sl (β:=rehome id (Value.ownBlock (.slice (some ⟨g,0,none⟩) (es.length+ys.length) cap)) (cutR id es.length β)) (w:=w') id k [] 0 (es.length+ys.length) g cap e cur h0 (own1 g rfl) hgg hcs (by omega)
   simpa using this
 ·cases hx:β b with
  |none=>exact⟨(fz b hx hb).1,(fz b hx hb).2⟩
  |some x =>
   obtain⟨i0,p0⟩:=x
   have hne:i0≠id:=by have:=hq i0 p0 hx;simpa using this
   exact⟨(other b i0 p0 hne).1 hx,keepB b _ hx (by simp[hne])⟩
theorem SrcV.mono{k:Nat}{ys:List (List C)}{u:Value}{β':Blk}(h:SrcV β w k ys u)(fz:∀b',β b'=none→b'<w.heap.size→β' b'=none):SrcV β' w k ys u:=by
 rcases h with h|⟨ad,c,news,h1,h2,h3,h4,h5⟩
 ·exact .inl h
 ·refine .inr ⟨ad,c,news,h1,h2,h3,h4,fun i j r x hi hj=>?_⟩
  obtain⟨u,hu,hp⟩:=h5 i j r x hi hj
  refine⟨u,hu,?_⟩
  cases x with
  |sc v=>exact hp
  |fz xs=>exact FR.mono hp (fun b hb hlt=>⟨fz b hb hlt,rfl⟩)
  |no=>exact hp
  |sl=>exact hp.elim
theorem dst_rel(hr:Rel w0 β0 st β a w){nid e k id:Nat}{x:AV}{u:Value}{es:List (List C)}{st1:St}(h0:0<k)(hv:VR β w x u)(h:dstA st nid e k x=some (id,es,st1)) :
  ∃β1,Rel w0 β0 st1 β1 a w∧VR β1 w (.sl id k [] 0 es.length) u∧lo st1.ob id=some (e,k,es)∧Fr (nid::rids x) β w β1 w∧(∀b',β b'=none→b'<w.heap.size→β1 b'=none)∧id∈nid::rids x:=by
 unfold dstA at h
 split at h
 ·rename_i id' k' len
  split at h
  ·rename_i e' k2 es' hlo
   split at h
   ·rename_i hc
    obtain⟨rfl,rfl,rfl,rfl⟩:=hc
    simp only[Option.some.injEq,Prod.mk.injEq]at h
    obtain⟨rfl,rfl,rfl⟩:=h
    exact⟨β,hr,hv,hlo,.refl,fun b h _=>h,by simp[rids]⟩
   ·simp at h
  ·simp at h
 ·rename_i id' k' q p len
  split at h
  ·rename_i e0 k0 es0 hlo
   split at h
   ·rename_i ep kp row hn
    split at h
    ·rename_i e1 k1 xs hcell
     split at h
     ·rename_i hc
      obtain⟨rfl,rfl,rfl,hne,rfl⟩:=hc
      simp only[Option.some.injEq,Prod.mk.injEq]at h
      obtain⟨rfl,rfl,rfl⟩:=h
      simp only[Option.bind_eq_some_iff]at hcell
      obtain⟨r,hi,hj⟩:=hcell
      obtain⟨g1,g2⟩:=hr.detach hne hlo hn hi hj
      have hpath:(q::p).dropLast++[((q::p).getLast (by simp))]=q::p:=List.dropLast_concat_getLast (by simp)
      rw[show ((((q::p).getLast (by simp)).1,((q::p).getLast (by simp)).2):Nat×Nat)=(q::p).getLast (by simp) from rfl,hpath]at g1 g2
      refine⟨_,g1,g2 u hv,by simp[lo_put],(parted_fr (w:=w)).mono (fun y hy=>by simp[rids]at hy ⊢;rcases hy with rfl|rfl<;>simp),fun b hb _=>by simp[parted,hb],by simp⟩
     ·simp at h
    ·simp at h
   ·simp at h
  ·simp at h
 ·simp only[Option.some.injEq,Prod.mk.injEq]at h
  obtain⟨rfl,rfl,rfl⟩:=h
  obtain rfl:=hv.sc_inv
  obtain⟨g1,g2⟩:=hr.nilRoot nid e k h0
  exact⟨_,g1,g2,by simp[lo_put],bare_fr.mono (fun y hy=>by simp at hy ⊢;exact .inl hy),fun b hb _=>by simp[bare,hb],by simp⟩
 ·simp at h
theorem run_append_none{base:Nat}{t ty e:TypeId}{i:TypeInfo}{size:Nat}(ht:P.underlying t=some (.slice e))(hi:P.info? e=some i){v:Value}{n c:Nat}{xs:List Value}(hown:w.ownsRow base e size v n xs) :
  (Builtin.append_ #[t,t] ty #[v,.slice none 0 c]).run P w=.ok v w:=by
 rcases hown.2 with ⟨rfl,rfl⟩|⟨g,cap,cur,rfl,hbg,hg,hnc,hcm,hcs,htake⟩
 ·simp[Builtin.append_,run_underlying ht,Go.sizeOf,typeInfo,hi,Builtin.lenOf,Builtin.firstCells]
 ·simp[Builtin.append_,run_underlying ht,Go.sizeOf,typeInfo,hi,Builtin.lenOf,Builtin.firstCells,hnc,storeCells]
theorem sound_append(tok:TOk P tt){t nid:Nat}{x y:Operand}{v:AV}(ho:o.op=.call { callee:=.builtin .append,args:=#[x,y],argTypes:=#[t,t] })
  (hv:appendA tt st nid t (ev st x) (ev st y)=some (v,st')):Sound P o st v st' (nid::rids (ev st x)):=by
 intro w0 β0 β a w hr K Q hK
 unfold appendA at hv
 split at hv
 ·rename_i e ti hel
  split at hv
  ·rename_i ys id es st1 hs hd
   split at hv
   ·rename_i hc
    obtain⟨c1,c2,c3⟩:=hc
    simp only[Option.some.injEq,appO,Prod.mk.injEq]at hv
    obtain⟨rfl,rfl⟩:=hv
    obtain⟨g1,g2⟩:=tok.elem hel
    obtain⟨info,d,z,i1,i2,i3,i4,i5,i6,i7⟩:=tok.ok e ti g2
    have hz':=c1
    simp only[zeroOk,Bool.and_eq_true,decide_eq_true_eq]at hz'
    obtain⟨⟨z1,z2⟩,z3⟩:=hz'
    have hzs:z.cells.size=ti.size:=by rw[←z2,←i6];simp
    obtain⟨β1,r1,r2,r3,r4,r5,r6⟩:=dst_rel hr z1 (hr.ev x) hd
    have hsrc:=(src_vr z1 hr.uq hr.ob (hr.ev y) hs).mono r5
    have hrow:=r1.ob id e ti.size es r3 [] e ti.size es rfl
    simp only[List.append_nil]at hrow
    obtain⟨_,hslv⟩:=slV_of_vr r2
    obtain⟨vs,o1,o2,o3⟩:=own_of r1.uq hrow hslv
    have step:∀(v':Value) (w':World) (news:List Value),(Builtin.append_ #[t,t] o.type #[a.eval x,a.eval y]).run P w=.ok v' w'→w'.ownsRow 0 e ti.size v' (es.length+ys.length) (vs++news)→w.grownBy w' (a.eval x).ownBlock →
      (v'.ownBlock=(a.eval x).ownBlock∨v'.ownBlock=some w.heap.size)→(∀r,r∈ys→r.length=ti.size∧r.all plainC=true)→news.length=ys.length*ti.size →
      (∀(i j:Nat) (r:List C) (x:C),ys[i]?=some r→r[j]?=some x→∃u,news[i*ti.size+j]?=some u∧Plain β1 w x u)→o.wp P a w K Q:=by
     intro v' w' news hrun q1 q2 q3 q4 q5 q6
     obtain⟨s1,s2,s3,s4⟩:=r1.appendP r3 o1 o2 o3 q1 q2 q3 q4 q5 z1 q6
     unfold Oper.wp
     have hrun2:(execOp a.eval o).run P w=.ok (.value v') w':=by
      simp[execOp,ho,resolve,invoke,builtin,hrun]
     rw[hrun2]
     exact hK _ _ _ s1 s2 (r4.trans (Nat.le_refl _) (s3.mono (fun y hy=>by simp only[List.mem_cons,List.not_mem_nil,or_false]at hy;exact hy▸r6))) s4
    rcases hsrc with ⟨c,hu,rfl⟩|⟨ad,c,news,hu,n1,n2,n3,n4⟩
    ·refine step (a.eval x) w [] ?_ ?_ ⟨rfl,rfl,rfl,Nat.le_refl _,fun _ _ _=>rfl⟩ (.inl rfl) (fun r hr=>by simp at hr) (by simp) (fun i j r x hi=>by simp at hi)
     ·rw[hu];exact run_append_none g1 i1 o1
     ·simpa using o1
    ·have hone:∀u,u∈news→u.oneCell'=true:=fun u hu=>by
      obtain⟨m,hm⟩:=List.mem_iff_getElem?.1 hu
      have hml:=(List.getElem?_eq_some_iff.1 hm).1
      rw[n1]at hml
      have hi:m / ti.size<ys.length:=Nat.div_lt_of_lt_mul (by rw[Nat.mul_comm];exact hml)
      have hr:=List.getElem?_eq_getElem hi
      have hj:m % ti.size<(ys[m / ti.size]).length:=by rw[(n3 _ (List.getElem_mem hi)).1];exact Nat.mod_lt _ z1
      obtain⟨u',hu',hp⟩:=n4 _ _ _ _ hr (List.getElem?_eq_getElem hj)
      have he:m / ti.size*ti.size+m % ti.size=m:=Nat.div_add_mod' m ti.size
      rw[he,hm]at hu'
      injection hu' with hu'
      subst hu'
      exact plain_one hp
     obtain⟨v',w',hrun,q1,q2,q3,q4⟩:=run_append_own_at (P:=P) w 0 t o.type e info z ti.size ti.bytes g1 i1 i5 i3 i4 hzs z1 (a.eval x) es.length vs o1 ad ys.length c news n1 n2 hone (by simp only[maxLen];omega) c2 (Nat.zero_le _)
     refine step v' w' news (by rw[hu];exact hrun) q1 q2 q4 n3 n1 n4
   ·simp at hv
  ·simp at hv
 ·simp at hv
end Go.Own
namespace Go.Own
variable {P:Program}{tt:Nat→Option TI}{w0:World}{β0:Blk}{st st':St}{β:Blk}{a:Act}{w w':World}{o:Oper}{T:List Nat}
def bytesC:List (List C)→Option (List Int)
 |[]=>some []
 |[.sc (.int .u8 b)]::r=>(bytesC r).map (b::·)
 |_=>none
theorem bytesC_spec:∀{es:List (List C)} {bs:List Int} (_:bytesC es=some bs),es=bs.map fun b=>[.sc (.int .u8 b)]
 |[],bs,h=>by simp only[bytesC,Option.some.injEq]at h;subst h;rfl
 |r::es,bs,h=>by
  unfold bytesC at h
  split at h
  ·rename_i h0;simp at h0
  ·rename_i b es' h0
   injection h0 with e1 e2
   subst e1 e2
   simp only[Option.map_eq_some_iff]at h
   obtain⟨bs',h1,rfl⟩:=h
   simp[bytesC_spec h1]
  ·simp at h
def bytesA(st:St)(x:AV):Option (List Int):=(srcA st 1 x).bind bytesC
def convS(tt:Nat→Option TI)(st:St)(e d:Nat)(x:AV):Option AV :=
 match kd tt e,kd tt d with
 |some (.int .u8),some .str=>(bytesA st x).map fun bs=>.sc (.string (strOfNums bs))
 |_,_=>none
theorem sound_convS(tok:TOk P tt){src dst e:Nat}{x:Operand}{v:AV}(ho:o.op=.convert src dst x)(hk:kd tt src=some (.slice e))(hv:convS tt st e dst (ev st x)=some v):Val P o st v []:=by
 intro β a w he uq ob
 unfold convS at hv
 split at hv
 ·rename_i c1 c2
  obtain⟨d1,g1,rfl⟩:=tok.kd hk
  obtain⟨d2,g2,rfl⟩:=tok.kd c1
  obtain⟨d3,g3,rfl⟩:=tok.kd c2
  simp only[Option.map_eq_some_iff]at hv
  obtain⟨bs,hb,rfl⟩:=hv
  unfold bytesA at hb
  simp only[Option.bind_eq_some_iff]at hb
  obtain⟨ys,hs,hb⟩:=hb
  have hys:=bytesC_spec hb
  subst hys
  have hsrc:=src_vr (w:=w) (by omega:0<1) uq ob (he x) hs
  refine⟨.string (strOfNums bs),fun w2 hS=>?_,.sc _⟩
  have key:(convert src dst (a.eval x)).run P w2=.ok (.string (strOfNums bs)) w2:=by
   rcases hsrc with ⟨c,hu,hnil⟩|⟨ad,c,news,hu,n1,n2,n3,n4⟩
   ·have:bs=[]:=by simpa using hnil
    subst this
    rw[hu]
    exact run_convert_bytes_nil w2 src e g1 g2 0 c dst g3
   ·rw[hu]
    have hone:∀i,i<bs.length→w2.cell? (ad.add i)=some (.int .u8 (bs.getD i 0)):=fun i hi=>by
     obtain⟨u',h1,h2⟩:=n4 i 0 [.sc (.int .u8 (bs.getD i 0))] (.sc (.int .u8 (bs.getD i 0))) (by simp[List.getElem?_map,List.getElem?_eq_getElem hi,List.getD]) rfl
     obtain⟨rfl,_⟩:=h2
     simp only[Nat.mul_one,Nat.add_zero]at h1
     have:=n2 i _ h1
     exact cell_same this (hS _ (cell_lt this) (fun _ _ _ h=>by simp at h))
    have hl:(loadCells ad bs.length).run P w2=.ok (bs.map (Value.int .u8)).toArray w2:=by
     have:=run_loadCells_list (P:=P) w2 ad (bs.map (Value.int .u8)) (fun j v hj=>by
      have hjl:j<bs.length:=by
       rcases Nat.lt_or_ge j bs.length with h|h
       ·exact h
       ·simp[List.getElem?_eq_none (show (bs.map (Value.int .u8)).length≤j by simpa using h)]at hj
      rw[hone j hjl]
      simp[List.getElem?_eq_getElem hjl]at hj
      subst hj
      simp[List.getD,List.getElem?_eq_getElem hjl])
     simpa using this
    simp only[List.length_map]
    rw[run_convert_bytes_string w2 src dst e _ bs.length c g1 g2 g3,run_bytesToString w2 _ bs.length c bs hl,foldl_push_bytes]
    simp[strOfNums,ByteArray.empty,ByteArray.emptyWithCapacity]
    rfl
  simp[execOp,ho,key]
 ·simp at hv
def convX(tt:Nat→Option TI)(st:St)(s d:Nat)(x:AV):Option AV :=
 match kd tt s with
 |some (.slice e)=>convS tt st e d x
 |_=>convA tt s d x
theorem sound_convX(tok:TOk P tt){src dst:Nat}{x:Operand}{v:AV}(ho:o.op=.convert src dst x)(hv:convX tt st src dst (ev st x)=some v):Val P o st v []:=by
 unfold convX at hv
 split at hv
 ·rename_i e hk;exact sound_convS tok ho hk hv
 ·exact sound_conv tok ho hv
def buildOneA(tt:Nat→Option TI)(st:St)(nid t n:Nat)(parts:List (Nat×Operand)):Option (AV×St):=
 match elemT tt t,parts with
 |some (e,ti),[(0,x)]=>if n=1∧0<ti.size∧ti.size≤16777216∧(cellsA (ev st x)).length=ti.size∧AV.hitsL (fun i _=>i==nid) (cellsA (ev st x))=false then
   (fillL (bareA st nid e ti.size 1) nid [] 0 0 (cellsA (ev st x))).map fun st'=>(.sl nid ti.size [] 0 1,st') else none
 |_,_=>none
theorem sound_buildOne(tok:TOk P tt){t nid n:Nat}{parts:Array (Nat×Operand)}{v:AV}(ho:o.op=.buildSlice t n parts)(hv:buildOneA tt st nid t n parts.toList=some (v,st')) :
  Sound P o st v st' (nid::ridsL (parts.toList.map fun p=>ev st p.2)):=by
 intro w0 β0 β a w hr K Q hK
 unfold buildOneA at hv
 split at hv
 ·rename_i e ti x hel hparts
  split at hv
  ·rename_i hc
   obtain⟨rfl,c1,c4,c2,c3⟩:=hc
   simp only[Option.map_eq_some_iff,Prod.mk.injEq]at hv
   obtain⟨st1,h1,rfl,rfl⟩:=hv
   obtain⟨u1,u2⟩:=tok.elem hel
   obtain⟨info,d,z,i1,i2,i3,i4,i5,i6,i7⟩:=tok.ok e ti u2
   obtain⟨g1,g2,g3⟩:=fillL_ok h1
   have hvr:=cells_vr (hr.ev x) g1 g2 g3
   have hsz:(a.eval x).cells.size=ti.size:=by rw[←c2,←hvr.1];simp
   have hrel:=hr.new nid e ti.size 1 (a.eval x).cells c1 (by rw[hsz];omega) (by simp[maxLen]) (fun u hu=>by
    obtain⟨n,hn⟩:=Array.mem_iff_getElem?.1 hu
    have hlt:n<(cellsA (ev st x)).length:=by
     have:=(Array.getElem?_eq_some_iff.1 hn).1
     rw[←hvr.1];simpa using this
    exact(hvr.2 n _ u (List.getElem?_eq_getElem hlt) (by simpa using hn)).2)
   obtain⟨β',s1,_,s3,_,s5⟩:=fillL_init (w:=w.alloc (.cells (a.eval x).cells e)) (b:=w.heap.size) (kp:=ti.size) (cellsA (ev st x)) (a.eval x).cells.toList 0 (bareA st nid e ti.size 1) _ hrel h1 newR_at
    (fun e k es ep kp' row q1 q2=>by
     simp only[bareA,lo_put,if_true,Option.some.injEq]at q1
     injection q1 with e1 q1;injection q1 with e2 e3
     subst e1 e2 e3
     simp only[nav,Option.some.injEq,Prod.mk.injEq]at q2
     exact q2.2.1.symm)
    ⟨hvr.1,fun n v' u' e1 e2=>by
     obtain⟨q1,q2⟩:=hvr.2 n v' u' e1 e2
     exact⟨newR_vr hr q1 (AV.hitsL_get c3 n v' e1),q2⟩⟩
    (fun n u hn=>by
     simp only[Nat.zero_mul,Nat.zero_add]
     rw[World.cell?_alloc_new]
     simpa using hn)
   have hfill:Instr.fill (fun i=>some (i*ti.size,ti.size)) ((Array.range (1*ti.size)).map (z.cells[· % z.cells.size]!)) [(0,a.eval x)]=some (a.eval x).cells:=by
    obtain⟨cells,f1,f2,f3,f4⟩:=fill_dense ti.size [a.eval x] 0 ((Array.range (1*ti.size)).map (z.cells[· % z.cells.size]!)) (fun u hu=>by
     simp only[List.mem_cons,List.not_mem_nil,or_false]at hu;subst hu;exact hsz) (by simp)
    have hce:cells=(a.eval x).cells:=by
     apply Array.ext
     ·rw[f2,hsz];simp
     ·intro j hj1 hj2
      have:=f3 0 j (a.eval x) rfl (by rw[←hsz];exact hj2)
      simp only[Nat.zero_add,Nat.zero_mul]at this
      rw[Array.getElem?_eq_getElem hj1,Array.getElem?_eq_getElem hj2]at this
      simpa using this
    rw[fill_eq,←hce]
    exact f1
   have hpa:parts=#[(0,x)]:=by
    apply Array.ext'
    simpa using hparts
   have hrun:(execOp a.eval o).run P w=.ok (.value (.slice (some ⟨w.heap.size,0,none⟩) 1 1)) (w.alloc (.cells (a.eval x).cells e)):=by
    have:=run_buildSlice (P:=P) w t e 1 (parts.map fun x=>(x.1,a.eval x.2)) (a.eval x).cells info z u1 i1 i5 (by rw[i3];omega) (by rw[i3];omega) (by rw[i3,hpa];simpa using hfill)
    simp[execOp,ho,this]
   unfold Oper.wp
   rw[hrun]
   have hT:ridsL (parts.toList.map fun p=>ev st p.2)=rids (ev st x):=by rw[hparts];simp[ridsL]
   rw[hT]at hK
   refine hK _ _ _ s1 ?_ (Fr.trans (newR_fr (id:=nid) (e:=e) (cells:=(a.eval x).cells) (T:=nid::rids (ev st x)) (by simp)) (by simp) (by rw[←rids_cells _ g1];exact s5)) (by simp)
   have:=VR.sl (β:=β') (w:=w.alloc (.cells (a.eval x).cells e)) nid ti.size [] 0 1 w.heap.size 1 e (a.eval x).cells c1 s3 (heap_alloc_new w _) (by rw[hsz];omega) (by omega)
   simpa using this
  ·simp at hv
 ·simp at hv
end Go.Own
namespace Go.Own
variable {P:Program}{tt:Nat→Option TI}{w0:World}{β0:Blk}{st st':St}{β:Blk}{a:Act}{w w':World}{o:Oper}{T:List Nat}
section
variable {id sid n:Nat}{v v':Value}
theorem shift_inv(hsi:sid≠id):∀b i0 p,rehome id v'.ownBlock (shiftR sid id n β) b=some (i0,p)→(p=[]∧i0=id∧v'.ownBlock=some b)∨(i0≠id∧i0≠sid∧β b=some (i0,p)) ∨
   (i0=id∧∃i j q,p=(i,j)::q∧i<n∧β b=some (id,p))∨(i0=id∧∃i j q,p=(n+i,j)::q∧β b=some (sid,(i,j)::q)):=fun b i0 p hb=>by
 simp only[rehome]at hb
 split at hb
 ·rename_i hv;injection hb with hb;injection hb with h1 h2;exact .inl ⟨h2.symm,h1.symm,hv⟩
 ·simp only[shiftR]at hb
  cases hx:β b with
  |none=>simp[hx]at hb
  |some x =>
   obtain⟨i1,p1⟩:=x
   cases p1 with
   |nil =>
    simp only[hx]at hb
    by_cases hs:i1=sid
    ·simp[hs]at hb
    ·simp only[hs,if_false]at hb
     by_cases hi:i1=id
     ·simp[hi]at hb
     ·simp only[hi,false_and,if_false]at hb
      injection hb with hb;injection hb with h1 h2
      subst h1 h2
      exact .inr (.inl ⟨hi,hs,rfl⟩)
   |cons ij p1 =>
    obtain⟨i,j⟩:=ij
    simp only[hx]at hb
    by_cases hs:i1=sid
    ·simp only[hs,if_true]at hb
     split at hb
     ·rename_i hc;simp at hc
     ·injection hb with hb;injection hb with h1 h2
      exact .inr (.inr (.inr ⟨h1.symm,i,j,p1,h2.symm,by rw[hs]⟩))
    ·simp only[hs,if_false]at hb
     by_cases hg:i1=id∧n≤i
     ·simp[hg]at hb
     ·simp only[hg,if_false]at hb
      split at hb
      ·simp at hb
      ·injection hb with hb;injection hb with h1 h2
       subst h1 h2
       by_cases hi:i1=id
       ·subst hi
        exact .inr (.inr (.inl ⟨rfl,i,j,p1,rfl,by have:¬n≤i:=fun g=>hg ⟨rfl,g⟩;omega,rfl⟩))
       ·exact .inr (.inl ⟨hi,hs,rfl⟩)
theorem shift_own(hsi:sid≠id)(lt:∀b x,β b=some x→b<w.heap.size)(hob:∀b,v.ownBlock=some b↔β b=some (id,[]))(hat:v'.ownBlock=v.ownBlock∨v'.ownBlock=some w.heap.size) :
  ∀b x,β b=some x→x≠(id,[])→v'.ownBlock≠some b:=fun b x hb hx e=>by
 rcases hat with g|g
 ·rw[g]at e
  have:=(hob b).1 e
  rw[hb]at this;injection this with g;exact hx g
 ·rw[g]at e;injection e with e;have:=lt b x hb;omega
theorem shift_moves(hsi:sid≠id)(lt:∀b x,β b=some x→b<w.heap.size)(hob:∀b,v.ownBlock=some b↔β b=some (id,[]))(hat:v'.ownBlock=v.ownBlock∨v'.ownBlock=some w.heap.size)(hg:w.grownBy w' v.ownBlock)(i j:Nat) :
  Moves β (rehome id v'.ownBlock (shiftR sid id n β)) w w' sid [(i,j)] id [(n+i,j)]:=by
 have keepB:∀b x,β b=some x→x≠(id,[])→w'.heap[b]?=w.heap[b]?:=fun b x hb hx=>hg.block b (lt b x hb) (fun e=>by
  have:=(hob b).1 e.symm
  rw[hb]at this
  injection this with this
  exact hx this)
 have own:=shift_own hsi lt hob hat
 refine⟨fun b hb hlt=>?_,fun b s hb=>?_,fun b s hb=>?_⟩
 ·have h1:v'.ownBlock≠some b:=fun e=>by
   rcases hat with g|g
   ·rw[g]at e
    have:=(hob b).1 e
    rw[hb]at this;simp at this
   ·rw[g]at e;injection e with e;omega
  refine⟨by simp[rehome,h1,shiftR,hb],hg.block b hlt (fun e=>?_)⟩
  have:=(hob b).1 e.symm
  rw[hb]at this
  simp at this
 ·have hb':β b=some (sid,(i,j)::s):=hb
  have h1:=own b _ hb' (by simp)
  refine⟨?_,keepB b _ hb' (by simp)⟩
  simp[rehome,h1,shiftR,hb']
 ·rcases shift_inv hsi b _ _ hb with ⟨g,_,_⟩|⟨g,_⟩|⟨_,i2,j2,q2,g,g2,_⟩|⟨_,i2,j2,q2,g,g2⟩
  ·simp at g
  ·exact absurd rfl g
  ·injection g with g _;injection g with g _;omega
  ·injection g with g g3;injection g with g g4
   have:i=i2:=by omega
   subst this g3 g4
   exact g2
theorem shift_fr(hsi:sid≠id)(lt:∀b x,β b=some x→b<w.heap.size)(hob:∀b,v.ownBlock=some b↔β b=some (id,[]))(hat:v'.ownBlock=v.ownBlock∨v'.ownBlock=some w.heap.size)(hg:w.grownBy w' v.ownBlock) :
  Fr [id,sid] β w (rehome id v'.ownBlock (shiftR sid id n β)) w':=by
 have own:=shift_own hsi lt hob hat
 refine⟨fun b hlt hq=>?_,fun b i0 p hb hn=>?_⟩
 ·cases hx:β b with
  |none=>exact(shift_moves (n:=n) hsi lt hob hat hg 0 0).fz b hx hlt
  |some x =>
   obtain⟨i0,p⟩:=x
   have:=hq i0 p hx
   simp only[List.mem_cons,List.not_mem_nil,or_false,not_or]at this
   have h1:=own b _ hx (by simp[this.1])
   refine⟨?_,hg.block b hlt (fun e=>?_)⟩
   ·cases p with
    |nil=>simp[rehome,h1,shiftR,hx,this.1,this.2]
    |cons ij p=>obtain⟨i,j⟩:=ij;simp[rehome,h1,shiftR,hx,this.1,this.2]
   ·have:=(hob b).1 e.symm
    rw[hx]at this
    injection this with this
    injection this with this _
    simp_all
 ·simp only[List.mem_cons,List.not_mem_nil,or_false,not_or]at hn
  rcases shift_inv hsi b _ _ hb with ⟨_,g,_⟩|⟨_,_,g⟩|⟨g,_⟩|⟨g,_⟩
  ·exact absurd g hn.1
  ·exact g
  ·exact absurd g hn.1
  ·exact absurd g hn.1
end
def moveO(st:St)(id sid e k:Nat)(es ys:List (List C)):AV×St :=
 (.sl id k [] 0 (es++ys).length,{ st with tm:=killT (fun i p=>i==sid||i==id) st.tm,ob:=putO (delO st.ob sid) id (e,k,es++ys) })
def appendMA(tt:Nat→Option TI)(st:St)(nid t:Nat)(x y:AV):Option (AV×St):=
 match elemT tt t,y with
 |some (e,ti),.sl sid sk [] 0 len=>match dstA st nid e ti.size x with
  |some (id,es,st1)=>match lo st1.ob sid,lo st.ob sid with
   |some (se,sk',ys),some _=>if zeroOk ti=true∧sid≠id∧sid≠nid∧(rids x).contains sid=false∧sk'=ti.size∧sk=ti.size∧len=ys.length∧0<ys.length∧(es.length+ys.length)*ti.bytes≤140737488355328∧es.length+ys.length≤9223372036854775807 then
     some (moveO st1 id sid e ti.size es ys) else none
   |_,_=>none
  |none=>none
 |_,_=>none
theorem sound_appendM(tok:TOk P tt){t nid:Nat}{x y:Operand}{v:AV}(ho:o.op=.call { callee:=.builtin .append,args:=#[x,y],argTypes:=#[t,t] })
  (hv:appendMA tt st nid t (ev st x) (ev st y)=some (v,st')):Sound P o st v st' (nid::rids (ev st x)++rids (ev st y)):=by
 intro w0 β0 β a w hr K Q hK
 unfold appendMA at hv
 split at hv
 ·rename_i e ti sid sk len hel hy
  split at hv
  ·rename_i id es st1 hd
   split at hv
   ·rename_i se sk' ys x0 hls hls0
    split at hv
    ·rename_i hc
     obtain⟨c1,c2,c2b,c2c,rfl,c5,rfl,c6,c3,c4⟩:=hc
     subst c5
     simp only[Option.some.injEq,moveO,Prod.mk.injEq]at hv
     obtain⟨rfl,rfl⟩:=hv
     obtain⟨g1,g2⟩:=tok.elem hel
     obtain⟨info,d,z,i1,i2,i3,i4,i5,i6,i7⟩:=tok.ok e ti g2
     have hz':=c1
     simp only[zeroOk,Bool.and_eq_true,decide_eq_true_eq]at hz'
     obtain⟨⟨z1,z2⟩,z3⟩:=hz'
     have hzs:z.cells.size=ti.size:=by rw[←z2,←i6];simp
     obtain⟨β1,r1,r2,r3,r4,r5,r6⟩:=dst_rel hr z1 (hr.ev x) hd
     have hnot:sid∉nid::rids (ev st x):=by
      simp only[List.mem_cons,not_or]
      exact⟨c2b,by simpa using c2c⟩
     have hvy:VR β1 w (.sl sid ti.size [] 0 ys.length) (a.eval y):=by
      have:=hr.ev y
      rw[hy]at this
      refine this.mono (fun i _ => !(i==sid)) (by simp[AV.hits]) (fun b hb _=>⟨r5 b hb (by assumption),rfl⟩) (Nat.le_refl _) (fun i p b hq hb=>?_) (fun i p b hq hb=>?_)
      ·have hi:i=sid:=by simpa using hq
       subst hi
       have hlt:=hr.lt b _ hb
       obtain⟨q1,_⟩:=r4.to b hlt (fun id' p' e'=>by rw[hb]at e';injection e' with e';injection e' with e' _;exact e'▸hnot)
       exact⟨q1.trans hb,fun cur t hc=>⟨cur,hc,rfl⟩⟩
      ·have hi:i=sid:=by simpa using hq
       subst hi
       exact r4.back b _ _ hb hnot
     have hrow:=r1.ob id e ti.size es r3 [] e ti.size es rfl
     simp only[List.append_nil]at hrow
     obtain⟨_,hslv⟩:=slV_of_vr r2
     obtain⟨vs,o1,o2,o3⟩:=own_of r1.uq hrow hslv
     have hrowS:=r1.ob sid se ti.size ys hls [] se ti.size ys rfl
     simp only[List.append_nil]at hrowS
     obtain⟨_,hslS⟩:=slV_of_vr hvy
     obtain⟨news,p1,p2,p3⟩:=own_of r1.uq hrowS hslS
     obtain⟨n1,n3,n4⟩:=p2
     obtain⟨ad,c,hu,n2⟩:∃ad c,a.eval y=.slice (some ad) ys.length c∧∀(j:Nat) (x:Value),news[j]?=some x→w.cell? (ad.add j)=some x:=by
      rcases p1.2 with ⟨_,h0⟩|⟨g,cap,cur,hv,_,hgg,hnc,hcm,hcs,htk⟩
      ·omega
      ·refine⟨⟨g,0,none⟩,cap,hv,fun j x hj=>?_⟩
       rw[←htk,List.getElem?_take]at hj
       split at hj
       ·rw[add_plain,Nat.zero_add,cell_of_row w g _ cur _ (0,0) hgg]
        simpa using hj
       ·simp at hj
     have hone:∀u,u∈news→u.oneCell'=true:=fun u hu=>by
      obtain⟨m,hm⟩:=List.mem_iff_getElem?.1 hu
      have hml:=(List.getElem?_eq_some_iff.1 hm).1
      rw[n1]at hml
      have hi:m / ti.size<ys.length:=Nat.div_lt_of_lt_mul (by rw[Nat.mul_comm];exact hml)
      have hr:=List.getElem?_eq_getElem hi
      have hj:m % ti.size<(ys[m / ti.size]).length:=by rw[n3 _ (List.getElem_mem hi)];exact Nat.mod_lt _ z1
      obtain⟨u',hu',hp⟩:=n4 _ _ _ _ hr (List.getElem?_eq_getElem hj)
      have he:m / ti.size*ti.size+m % ti.size=m:=Nat.div_add_mod' m ti.size
      rw[he,hm]at hu'
      injection hu' with hu'
      subst hu'
      exact hp.one
     obtain⟨v',w',hrun,q1,q2,q3,q4⟩:=run_append_own_at (P:=P) w 0 t o.type e info z ti.size ti.bytes g1 i1 i5 i3 i4 hzs z1 (a.eval x) es.length vs o1 ad ys.length c news n1 n2 hone (by simp only[maxLen];omega) c3 (Nat.zero_le _)
     have hmv:=fun i j=>shift_moves (w':=w') (n:=es.length) c2 r1.lt o3 q4 q2 i j
     obtain⟨s1,s2⟩:=r1.append c2 r3 o1 o2 o3 q1 q2 q4 n3 n1 z1 (fun i j r x hi hj=>by
      obtain⟨u,hu,hcv⟩:=n4 i j r x hi hj
      refine⟨u,hu,?_⟩
      cases x with
      |sc v=>exact hcv
      |fz ys=>exact FR.mono hcv (hmv 0 0).fz
      |no=>exact hcv
      |sl e2 k2 xs =>
       obtain⟨g0,hcv⟩:=hcv
       exact⟨g0,by have:=(hmv i j).slV (s:=[]) (by simpa using hcv);simpa using this⟩) (fun i j r e1 k1 xs hi hj=>by
      have hold:SubR β1 w sid ([(i,j)]++[]) e1 k1 xs:=fun s e' k' es' hs=>by
       have:=r1.ob sid se ti.size ys hls ((i,j)::s) e' k' es' (by rw[nav_mk hi hj];exact hs)
       simpa using this
      have:=(hmv i j).sub hold
      simpa using this)
     unfold Oper.wp
     have hrun2:(execOp a.eval o).run P w=.ok (.value v') w':=by
      simp[execOp,ho,resolve,invoke,builtin,hu,hrun]
     rw[hrun2]
     refine hK _ _ _ s1 s2 ?_ q2.size
     have hT:rids (ev st y)=[sid]:=by rw[hy];rfl
     rw[hT]
     refine Fr.trans (r4.mono (fun z hz=>List.mem_append_left _ hz)) (Nat.le_refl _) ((shift_fr c2 r1.lt o3 q4 q2).mono (fun z hz=>?_))
     simp only[List.mem_cons,List.not_mem_nil,or_false]at hz
     rcases hz with rfl|rfl
     ·exact List.mem_append_left _ r6
     ·simp
    ·simp at hv
   ·simp at hv
  ·simp at hv
 ·simp at hv
end Go.Own
set_option linter.unusedSectionVars false
namespace Go.Own
variable {P:Program}{tt:Nat→Option TI}{w0:World}{β0:Blk}{st st':St}{β:Blk}{a:Act}{w w':World}{o:Oper}{T:List Nat}
def pureA(tt:Nat→Option TI)(st:St)(o:Op):Option AV :=
 match o with
 |.move x=>some (ev st x)
 |.assign x=>some (ev st x)
 |.pick c x y=>pickA (ev st c) (ev st x) (ev st y)
 |.nilCheck x=>nilA (ev st x)
 |.binOp op t x (.const .nilIface) _=>match ev st x with
  |.sc u=>(ifcV (kd tt t) op u .nilIface).map .sc
  |_=>none
 |.binOp op t x y _=>binA tt op t (ev st x) (ev st y)
 |.unOp op _ x=>unA op (ev st x)
 |.convert s d x=>convA tt s d (ev st x)
 |.index t x i=>indexA tt t (ev st x) (ev st i)
 |.extract x i=>extractA (ev st x) i
 |.fieldAddr s x f=>fieldAddrA tt s (ev st x) f
 |.field s x f=>fieldA tt s (ev st x) f
 |.indexAddr t x i=>indexAddrA tt t (ev st x) (ev st i)
 |.slice t x lo hi none=>sliceA tt t (ev st x) (lo.map (ev st)) (hi.map (ev st))
 |.build t parts=>if fieldsOk tt t=true then buildA tt st t parts.toList else none
 |.call ⟨.builtin .len,⟨[x]⟩,⟨[t]⟩⟩=>lenS tt t (ev st x)
 |.call ⟨.builtin .min,⟨[x,y]⟩,_⟩=>minA (ev st x) (ev st y)
 |.call ⟨.builtin .max,⟨[x,y]⟩,_⟩=>maxA (ev st x) (ev st y)
 |_=>none
theorem val_pure(tok:TOk P tt){v:AV}(h:pureA tt st o.op=some v):Val P o st v T:=by
 generalize hop:o.op=op at h
 unfold pureA at h
 split at h
 ·injection h with h;subst h;exact sound_move (.inl hop)
 ·injection h with h;subst h;exact sound_move (.inr hop)
 ·exact sound_pick hop h
 ·exact sound_nil hop h
 ·split at h
  ·rename_i u hu
   simp only[Option.map_eq_some_iff]at h
   obtain⟨r,hr,rfl⟩:=h
   exact sound_ifc tok hop hu hr
  ·simp at h
 ·exact sound_bin tok hop h
 ·exact sound_un hop h
 ·exact sound_conv tok hop h
 ·exact sound_index tok hop h
 ·exact sound_extract hop h
 ·exact sound_fieldAddr tok hop h
 ·exact sound_field tok hop h
 ·exact sound_indexAddr tok hop h
 ·exact sound_slice tok hop h
 ·split at h
  ·rename_i hf;exact sound_build tok hop h hf
  ·simp at h
 ·exact sound_len tok hop h
 ·exact sound_min hop h
 ·exact sound_max hop h
 ·simp at h
def loadIn(T:List Nat):AV→Bool
 |.ptr id _ _ _ _=>T.contains id
 |_=>false
def plainPs(st:St)(parts:List (Nat×Operand)):Bool:=(ridsL (parts.map fun p=>ev st p.2)).isEmpty
def movesA(st:St)(y:AV):Bool :=
 match y with
 |.sl id _ [] 0 _=>match lo st.ob id with
  |some (_,_,rows)=>rows.any fun r=>r.any fun c => !plainC c
  |none=>false
 |_=>false
def stepA(tt:Nat→Option TI)(st:St)(nid:Nat)(o:Op):Option (AV×St×List Nat):=
 match o with
 |.load t x=>(loadA tt st t (ev st x)).map fun v=>(v,st,[])
 |.store t p x=>(storeA tt st t (ev st p) (ev st x)).map fun st'=>(.un,st',rids (ev st p)++rids (ev st x))
 |.alloc t=>(allocA tt st nid t).map fun r=>(r.1,r.2,[nid])
 |.box t x=>(boxA tt st nid t (ev st x)).map fun r=>(r.1,r.2,nid::rids (ev st x))
 |.buildSlice t n parts=>if plainPs st parts.toList=true then (buildSliceA tt st nid t n parts.toList).map fun r=>(r.1,r.2,[nid])
  else (buildOneA tt st nid t n parts.toList).map fun r=>(r.1,r.2,nid::ridsL (parts.toList.map fun p=>ev st p.2))
 |.makeSlice t l c=>(makeA tt st nid t (ev st l) (ev st c)).map fun r=>(r.1,r.2,[nid])
 |.call ⟨.builtin .append,⟨[x,y]⟩,⟨[t,t']⟩⟩=>if t=t' then (if movesA st (ev st y)=true then (appendMA tt st nid t (ev st x) (ev st y)).map fun r=>(r.1,r.2,nid::rids (ev st x)++rids (ev st y))
  else (appendA tt st nid t (ev st x) (ev st y)).map fun r=>(r.1,r.2,nid::rids (ev st x))) else none
 |.convert s d x=>(convX tt st s d (ev st x)).map fun v=>(v,st,[])
 |op=>(pureA tt st op).map fun v=>(v,st,[])
def dstOk(st:St)(o:Oper):Bool :=
 match o.op with
 |.store ..=>o.dst.isNone
 |_=>match o.dst with
  |some d=>decide (d<st.nt)
  |none=>true
theorem sound_stepA(tok:TOk P tt){nid:Nat}{v:AV}(hd:dstOk st o=true)(h:stepA tt st nid o.op=some (v,st',T)):Sound P o st v st' T:=by
 generalize hop:o.op=op at h
 unfold stepA at h
 split at h
 ·simp only[Option.map_eq_some_iff,Prod.mk.injEq]at h
  obtain⟨v',h1,rfl,rfl,rfl⟩:=h
  exact(sound_load (T:=[]) tok hop h1 (fun _ _ _ _ _ _ h=>by simp at h)).sound
 ·simp only[Option.map_eq_some_iff,Prod.mk.injEq]at h
  obtain⟨v',h1,rfl,rfl,rfl⟩:=h
  refine sound_store tok ?_ hop h1
  simp only[dstOk,hop]at hd
  cases hx:o.dst with
  |none=>rfl
  |some d=>rw[hx]at hd;simp at hd
 ·simp only[Option.map_eq_some_iff,Prod.mk.injEq]at h
  obtain⟨⟨v',s'⟩,h1,rfl,rfl,rfl⟩:=h
  exact sound_alloc tok hop h1
 ·simp only[Option.map_eq_some_iff,Prod.mk.injEq]at h
  obtain⟨⟨v',s'⟩,h1,rfl,rfl,rfl⟩:=h
  exact sound_box tok hop h1
 ·split at h
  ·simp only[Option.map_eq_some_iff,Prod.mk.injEq]at h
   obtain⟨⟨v',s'⟩,h1,rfl,rfl,rfl⟩:=h
   exact sound_buildSlice tok hop h1
  ·simp only[Option.map_eq_some_iff,Prod.mk.injEq]at h
   obtain⟨⟨v',s'⟩,h1,rfl,rfl,rfl⟩:=h
   exact sound_buildOne tok hop h1
 ·simp only[Option.map_eq_some_iff,Prod.mk.injEq]at h
  obtain⟨⟨v',s'⟩,h1,rfl,rfl,rfl⟩:=h
  exact sound_make tok hop h1
 ·split at h
  ·rename_i ht
   subst ht
   split at h
   ·simp only[Option.map_eq_some_iff,Prod.mk.injEq]at h
    obtain⟨⟨v',s'⟩,h1,rfl,rfl,rfl⟩:=h
    exact sound_appendM tok hop h1
   ·simp only[Option.map_eq_some_iff,Prod.mk.injEq]at h
    obtain⟨⟨v',s'⟩,h1,rfl,rfl,rfl⟩:=h
    exact sound_append tok hop h1
  ·simp at h
 ·simp only[Option.map_eq_some_iff,Prod.mk.injEq]at h
  obtain⟨v',h1,rfl,rfl,rfl⟩:=h
  exact(sound_convX tok hop h1).sound
 ·simp only[Option.map_eq_some_iff,Prod.mk.injEq]at h
  obtain⟨v',h1,rfl,rfl,rfl⟩:=h
  subst hop
  exact(val_pure (T:=[]) tok h1).sound
class Laid where
 S:Nat→Prop
 ok:World→Prop
 mono:∀w w':World,(∀b,S b→w'.heap[b]?=w.heap[b]?)→ok w→ok w'
structure LW[Laid](w:World)(β:Blk):Prop where
 ok:Laid.ok w
 sz:∀b,Laid.S b→b<w.heap.size
 fz:∀b,Laid.S b→β b=none
variable [Laid]
def DD:Nat:=1000000000
structure RL(w0:World)(β0:Blk)(st:St)(β:Blk)(a:Act)(w:World):Prop where
 rel:Rel w0 β0 st β a w
 lw:LW w0 β0
 to:∀b,b<w0.heap.size→∀id p,β0 b=some (id,p)→DD≤id→β b=some (id,p)∧w.heap[b]?=w0.heap[b]?
 back:∀b id p,β b=some (id,p)→DD≤id→β0 b=some (id,p)
 lt0:∀b x,β0 b=some x→b<w0.heap.size
def below(T:List Nat):Bool:=T.all fun x=>decide (x<DD)
theorem RL.next{β':Blk}{a':Act}(h:RL w0 β0 st β a w)(hr:Rel w0 β0 st' β' a' w')(hf:Fr T β w β' w')(hT:below T=true):RL w0 β0 st' β' a' w' where
 rel:=hr
 lw:=h.lw
 to b hb id p h0 hd:=by
  obtain⟨h1,h2⟩:=h.to b hb id p h0 hd
  obtain⟨h3,h4⟩:=hf.to b (Nat.lt_of_lt_of_le hb h.rel.hs) (fun id' p' e hm=>by
   rw[h1]at e
   injection e with e;injection e with e _
   subst e
   have:=List.all_eq_true.1 hT _ hm
   simp only[decide_eq_true_eq]at this
   omega)
  exact⟨h3.trans h1,h4.trans h2⟩
 back b id p hb hd:=h.back b id p (hf.back b id p hb (fun hm=>by
  have:=List.all_eq_true.1 hT _ hm
  simp only[decide_eq_true_eq]at this
  omega)) hd
 lt0:=h.lt0
theorem RL.laid(h:RL w0 β0 st β a w):LW w β:=by
 have hn:∀b,Laid.S b→β b=none∧w.heap[b]?=w0.heap[b]?:=fun b hb=>by
  have hlt:b<w0.heap.size:=h.lw.sz b hb
  refine⟨?_,h.rel.fr b hlt (h.lw.fz b hb)⟩
  cases hx:β b with
  |none=>rfl
  |some x=>exact absurd (h.lw.fz b hb) (h.rel.old b x hx hlt)
 exact⟨Laid.mono w0 w (fun b hb=>(hn b hb).2) h.lw.ok,fun b hb=>Nat.lt_of_lt_of_le (h.lw.sz b hb) h.rel.hs,fun b hb=>(hn b hb).1⟩
theorem RL.same{a':Act}(h:RL w0 β0 st β a w)(hr:Rel w0 β0 st' β a' w):RL w0 β0 st' β a' w:=h.next (T:=[]) hr .refl rfl
def putSt(st:St)(dst:Option Nat)(v:AV):St :=
 match dst with
 |some d=>{ st with tm:=putT st.tm d v }
 |none=>st
theorem RL.put(h:RL w0 β0 st β a w){dst:Option Nat}{v:AV}{u:Value}(hd:∀d,dst=some d→d<st.nt)(hv:VR β w v u):RL w0 β0 (putSt st dst v) β (a.put dst u) w:=by
 cases dst with
 |none=>exact h
 |some d=>exact h.same (h.rel.put d (hd d rfl) hv)
theorem dst_lt(h:dstOk st o=true):∀d,o.dst=some d→d<st.nt:=fun d hd=>by
 unfold dstOk at h
 split at h
 ·rw[hd]at h;simp at h
 ·rw[hd]at h;simpa using h
theorem sound_nt{v:AV}{a:Act}(h1:Rel w0 β0 st β a w){β':Blk}(h2:Rel w0 β0 st' β' a w'):st'.nt=st.nt:=h2.nt.symm.trans h1.nt
def post(Φ:Exit→St→Prop)(w0:World)(β0:Blk):Exit→Act→World→Prop:=fun e a w=>∃st β,Φ e st∧RL w0 β0 st β a w
def norm(Ψ:St→Prop):Exit→St→Prop:=fun e st=>e=.normal∧Ψ st
def WPL(P:Program)(ops:Array Oper)(l:List Oper)(st:St)(Ψ:St→Prop):Prop :=
 ∀w0 β0 β a w,RL w0 β0 st β a w→wpList P ops (post (norm Ψ) w0 β0) l a w
theorem WPL.nil{ops:Array Oper}{Ψ:St→Prop}(h:Ψ st):WPL P ops [] st Ψ:=fun w0 β0 β a w hr=>⟨st,β,⟨rfl,h⟩,hr⟩
def wantA(ops:Array Oper)(st:St)(o:Oper):Option Bool :=
 match o.guard with
 |none=>some true
 |some (j,want)=>match (ops[j]?).bind (·.dst) with
  |some d=>match ev st (.tmp d) with
   |.sc v=>some (match v with|.bool b=>b==want|_=>false)
   |_=>none
  |none=>none
theorem want_of{ops:Array Oper}{b:Bool}(hr:Rel w0 β0 st β a w)(h:wantA ops st o=some b):Region.wanted o (yielded ops a.tmps)=b:=by
 unfold wantA at h
 unfold Region.wanted
 cases hg:o.guard with
 |none=>rw[hg]at h;simpa using h
 |some g =>
  obtain⟨j,want⟩:=g
  rw[hg]at h
  dsimp only at h ⊢
  split at h
  ·rename_i d hd
   have hv:=hr.ev (.tmp d)
   split at h
   ·rename_i v hb
    injection h with h
    subst h
    rw[hb]at hv
    have:=hv.sc_inv
    simp only[Act.eval,Array.getD_eq_getD_getElem?]at this
    unfold yielded
    rw[hd]
    simp only[Option.bind_some]
    cases hx:a.tmps[d]? with
    |none=>rw[hx]at this;simp only[Option.getD_none]at this;subst this;rfl
    |some y =>
     rw[hx]at this
     simp only[Option.getD_some]at this
     subst this
     cases y<;>simp
   ·simp at h
  ·simp at h
def fin(d:Option Nat)(r:AV×St×List Nat):Option St:=if below r.2.2=true then some (putSt r.2.1 d r.1) else none
def stepO(tt:Nat→Option TI)(ops:Array Oper)(st:St)(o:Oper):Option St :=
 match wantA ops st o with
 |some true=>if dstOk st o=true then (stepA tt st (o.dst.getD 0) o.op).bind (fin o.dst) else none
 |some false=>if dstOk st o=true then some (putSt st o.dst (.sc undef)) else none
 |none=>none
def runL(tt:Nat→Option TI)(ops:Array Oper):List Oper→St→Option St
 |[],st=>some st
 |o::l,st=>(stepO tt ops st o).bind (runL tt ops l)
theorem WPL.cons(tok:TOk P tt){ops:Array Oper}{l:List Oper}{Ψ:St→Prop}(h:stepO tt ops st o=some st')(hk:WPL P ops l st' Ψ):WPL P ops (o::l) st Ψ:=by
 intro w0 β0 β a w hr
 unfold stepO at h
 split at h
 ·rename_i hw
  split at h
  ·rename_i hd
   simp only[Option.bind_eq_some_iff]at h
   obtain⟨⟨v,st1,T⟩,h1,h2⟩:=h
   unfold fin at h2
   split at h2
   ·rename_i hT
    injection h2 with h2
    subst h2
    simp only[wpList,want_of hr.rel hw,if_true]
    refine .inl (sound_stepA tok hd h1 w0 β0 β a w hr.rel _ _ fun β' u w' hr' hv hf hs=>?_)
    exact hk w0 β0 β' _ w' ((hr.next hr' hf hT).put (fun d e=>by rw[sound_nt (v:=v) hr.rel hr'];exact dst_lt hd d e) hv)
   ·simp at h2
  ·simp at h
 ·rename_i hw
  split at h
  ·rename_i hd
   injection h with h
   subst h
   simp only[wpList,want_of hr.rel hw,Bool.false_eq_true,if_false]
   exact hk w0 β0 β _ w (hr.put (dst_lt hd) (.sc _))
  ·simp at h
 ·simp at h
theorem WPL.run(tok:TOk P tt){ops:Array Oper}{Ψ:St→Prop}:∀(n:Nat) {l:List Oper} {st st':St} (_:runL tt ops (l.take n) st=some st') (_:WPL P ops (l.drop n) st' Ψ),WPL P ops l st Ψ
 |0,l,st,st',h,hk=>by
  simp only[List.take_zero,runL,Option.some.injEq]at h
  subst h
  simpa using hk
 |n+1,[],st,st',h,hk=>by
  simp only[List.take_nil,runL,Option.some.injEq]at h
  subst h
  simpa using hk
 |n+1,o::l,st,st',h,hk=>by
  simp only[List.take_succ_cons,runL,Option.bind_eq_some_iff]at h
  obtain⟨s1,h1,h2⟩:=h
  exact WPL.cons tok h1 (WPL.run tok n h2 (by simpa using hk))
theorem WPL.all(tok:TOk P tt){ops:Array Oper}{Ψ:St→Prop}{l:List Oper}(h:runL tt ops l st=some st')(hΨ:Ψ st'):WPL P ops l st Ψ:=by
 refine WPL.run tok l.length (st':=st') (by simpa using h) ?_
 simpa using WPL.nil hΨ
end Go.Own
namespace Go.Own
variable {P:Program}{tt:Nat→Option TI}{w0:World}{β0:Blk}{st st':St}{β:Blk}{a:Act}{w w':World}{o:Oper}{T:List Nat}[Laid]
def Stp(P:Program)(o:Oper)(st:St)(T:List Nat)(Ψ:St→Prop):Prop :=
 ∀w0 β0 β a w,RL w0 β0 st β a w→∀Q,o.wp P a w (fun a' w'=>∃st' β',Ψ st'∧RL w0 β0 st' β' a' w'∧Fr T β w β' w'∧w.heap.size≤w'.heap.size) Q
theorem Fr.put{β':Blk}(h:Fr T β w β' w'):Fr T β w β' w':=h
theorem Stp.step(tok:TOk P tt){nid:Nat}{v:AV}(hd:dstOk st o=true)(h:stepA tt st nid o.op=some (v,st',T))(hT:below T=true):Stp P o st T (fun s=>s=putSt st' o.dst v):=by
 intro w0 β0 β a w hr Q
 refine sound_stepA tok hd h w0 β0 β a w hr.rel _ _ fun β' u w' hr' hv hf hs=>?_
 exact⟨_,β',rfl,(hr.next hr' hf hT).put (fun d e=>by rw[sound_nt (v:=v) hr.rel hr'];exact dst_lt hd d e) hv,hf,hs⟩
theorem WPL.stp{ops:Array Oper}{l:List Oper}{Ψ Ψ':St→Prop}(hw:wantA ops st o=some true)(h:Stp P o st T Ψ')(hk:∀s,Ψ' s→WPL P ops l s Ψ):WPL P ops (o::l) st Ψ:=by
 intro w0 β0 β a w hr
 simp only[wpList,want_of hr.rel hw,if_true]
 refine .inl (Oper.wp_mono ?_ (h w0 β0 β a w hr _))
 rintro a' w' ⟨st',β',h1,h2,_⟩
 exact hk st' h1 w0 β0 β' a' w' h2
def fnd:List (Nat×Nat)→Nat→Option Nat
 |[],_=>none
 |(a,b)::r,i=>if a=i then some b else fnd r i
structure ConPost(β:Blk)(w:World)(ins:List AV)(args:Array Value)(keep:List Nat)(Φ:AV→List (Nat×Root)→Prop)(u:Value)(w':World)(res:AV)(ob':List (Nat×Root))(β':Blk):Prop where
 ok:Φ res ob'
 res:VR β' w' res u
 ob:∀id e k es,lo ob' id=some (e,k,es)→SubR β' w' id [] e k es
 uq:∀b b' x,β' b=some x→β' b'=some x→b=b'
 lt:∀b x,β' b=some x→b<w'.heap.size
 keep:∀i,i∈keep→∀v,ins[i]?=some v→VR β' w' v (args.getD i undef)
 fr:∀b,b<w.heap.size→β b=none→w'.heap[b]?=w.heap[b]?
 old:∀b x,β' b=some x→b<w.heap.size→β b≠none
 hs:w.heap.size≤w'.heap.size
 os:w'.os=w.os
 tape:w'.tape=w.tape
 output:w'.output=w.output
 to:∀b id p,β b=some (id,p)→DD≤id→β' b=some (id,p)∧w'.heap[b]?=w.heap[b]?
 back:∀b id p,β' b=some (id,p)→DD≤id→β b=some (id,p)
structure Con(P:Program)(f:Nat)(ins:List AV)(ob:List (Nat×Root))(keep:List Nat)(Φ:AV→List (Nat×Root)→Prop):Prop where
 fn:∃fn,P.funcs[f]?=some fn∧(fn.name == "runtime.NumGoroutine")=false∧fn.body.isNone=false
 run:∀(β:Blk) (w:World) (args:Array Value),LW w β→args.size=ins.length→(∀i v,ins[i]?=some v→VR β w v (args.getD i undef)) →
  (∀id e k es,lo ob id=some (e,k,es)→SubR β w id [] e k es)→(∀b b' x,β b=some x→β b'=some x→b=b')→(∀b x,β b=some x→b<w.heap.size) →
  Calls P f args w (fun e w'=>∃u res ob' β',e=.returned u∧ConPost β w ins args keep Φ u w' res ob' β')
theorem Con.mono{f:Nat}{ins:List AV}{ob:List (Nat×Root)}{keep:List Nat}{Φ Φ':AV→List (Nat×Root)→Prop}(h:Con P f ins ob keep Φ)(hΦ:∀r o,Φ r o→Φ' r o):Con P f ins ob keep Φ' :=
 ⟨h.fn,fun β w args hl h1 h2 h3 h4 h5=>(h.run β w args hl h1 h2 h3 h4 h5).mono fun e w' ⟨u,res,ob',β',he,hp⟩=>⟨u,res,ob',β',he,{ hp with ok:=hΦ _ _ hp.ok }⟩⟩
def inB(ren:List (Nat×Nat))(lent:List Nat)(β:Blk):Blk:=fun b =>
 match β b with
 |none=>none
 |some (i,p)=>match fnd ren i with
  |some j=>some (j,p)
  |none=>if lent.contains i then none else some (DD+i,p)
def outB(lent:List Nat)(nw:List (Nat×Nat))(n:Nat)(β β':Blk):Blk:=fun b =>
 match β' b with
 |some (j,p)=>if DD≤j then (if (nw.map (·.2)).contains (j-DD) then none else some (j-DD,p)) else (fnd nw j).map fun i=>(i,p)
 |none=>match β b with
  |some (i,p)=>if lent.contains i=true∧b<n then some (i,p) else none
  |none=>none
theorem fnd_mem:∀{l:List (Nat×Nat)} {i j:Nat} (_:fnd l i=some j),(i,j)∈l
 |[],i,j,h=>by simp[fnd]at h
 |(a,b)::r,i,j,h=>by
  simp only[fnd]at h
  split at h
  ·rename_i e;injection h with h;subst e h;simp
  ·exact List.mem_cons_of_mem _ (fnd_mem h)
theorem fnd_of_mem:∀{l:List (Nat×Nat)} {i j:Nat} (_:(l.map (·.1)).Nodup) (_:(i,j)∈l),fnd l i=some j
 |[],i,j,_,h=>by simp at h
 |(a,b)::r,i,j,hn,h=>by
  simp only[List.map_cons,List.nodup_cons]at hn
  rcases List.mem_cons.1 h with h|h
  ·injection h with h1 h2;subst h1 h2;simp[fnd]
  ·have:a≠i:=fun e=>hn.1 (e▸List.mem_map.2 ⟨(i,j),h,rfl⟩)
   simp only[fnd,if_neg this]
   exact fnd_of_mem hn.2 h
theorem fnd_inj:∀{l:List (Nat×Nat)} {i i' j:Nat} (_:(l.map (·.2)).Nodup) (_:fnd l i=some j) (_:fnd l i'=some j),i=i'
 |[],i,i',j,_,h,_=>by simp[fnd]at h
 |(a,b)::r,i,i',j,hn,h,h'=>by
  simp only[List.map_cons,List.nodup_cons]at hn
  simp only[fnd]at h h'
  split at h
  ·rename_i e
   injection h with h
   subst e h
   split at h'
   ·rename_i e;exact e
   ·exact absurd (List.mem_map.2 ⟨_,fnd_mem h',rfl⟩) hn.1
  ·split at h'
   ·rename_i e
    injection h' with h'
    subst e h'
    exact absurd (List.mem_map.2 ⟨_,fnd_mem h,rfl⟩) hn.1
   ·exact fnd_inj hn.2 h h'
theorem fnd_img{l:List (Nat×Nat)}{i j:Nat}(h:fnd l i=some j):j∈l.map (·.2):=List.mem_map.2 ⟨_,fnd_mem h,rfl⟩
theorem fnd_dom{l:List (Nat×Nat)}{i j:Nat}(h:fnd l i=some j):i∈l.map (·.1):=List.mem_map.2 ⟨_,fnd_mem h,rfl⟩
mutual
def deepFz:C→C
 |.sl _ _ xs=>.fz (dzLL xs)
 |.fz xs=>.fz (dzLL xs)
 |.sc v=>.sc v
 |.no=>.no
def dzL:List C→List C
 |[]=>[]
 |x::xs=>deepFz x::dzL xs
def dzLL:List (List C)→List (List C)
 |[]=>[]
 |x::xs=>dzL x::dzLL xs
end
theorem dzL_map:∀xs:List C,dzL xs=xs.map deepFz
 |[]=>rfl
 |x::xs=>by simp[dzL,dzL_map xs]
theorem dzLL_map:∀xs:List (List C),dzLL xs=xs.map dzL
 |[]=>rfl
 |x::xs=>by simp[dzLL,dzLL_map xs]
theorem FR.deep{av:Nat→Prop}{x:C}{u:Value}(h:FR av w x u):FR av w (deepFz x) u:=by
 induction h with
 |sc v h=>exact .sc v h
 |no u h=>exact .no u h
 |fzE a c=>exact .fzE a c
 |fzN xs b o k c f hne h0 hav hk hl hc hx ih =>
  simp only[deepFz]
  have hlen:(dzLL xs).length=xs.length:=by rw[dzLL_map];simp
  have:=FR.fzN (av:=av) (w:=w) (dzLL xs) b o k c f (fun h=>by rw[h]at hlen;exact hne (List.eq_nil_of_length_eq_zero hlen.symm)) h0 hav (fun r hr=>by
   rw[dzLL_map]at hr
   obtain⟨r',hr',rfl⟩:=List.mem_map.1 hr
   rw[dzL_map,List.length_map]
   exact hk r' hr') (by rw[hlen];exact hl) (fun i j r x hi hj=>by
   rw[dzLL_map,List.getElem?_map,Option.map_eq_some_iff]at hi
   obtain⟨r',hi',rfl⟩:=hi
   rw[dzL_map,List.getElem?_map,Option.map_eq_some_iff]at hj
   obtain⟨x',hj',rfl⟩:=hj
   exact hc i j r' x' hi' hj') (fun i j r x hi hj=>by
   rw[dzLL_map,List.getElem?_map,Option.map_eq_some_iff]at hi
   obtain⟨r',hi',rfl⟩:=hi
   rw[dzL_map,List.getElem?_map,Option.map_eq_some_iff]at hj
   obtain⟨x',hj',rfl⟩:=hj
   exact ih i j r' x' hi' hj')
  rw[hlen]at this
  exact this
 |sl e k xs u h ih=>exact ih
def cv1(st:St)(ren:List (Nat×Nat))(lent:List Nat):AV→Option AV
 |.sc v=>some (.sc v)
 |.fz xs=>some (.fz xs)
 |.fp cs=>some (.fp cs)
 |.un=>some .un
 |.sl i k p off len=>match fnd ren i with
  |some j=>some (.sl j k p off len)
  |none=>if lent.contains i then (match rowA st i p with
   |some (_,k',row)=>if k'=k∧off+len≤row.length then some (.fz (dzLL ((row.drop off).take len))) else none
   |none=>none) else none
 |.ptr i k p a b=>match fnd ren i with
  |some j=>some (.ptr j k p a b)
  |none=>if lent.contains i then (match rowA st i p with
   |some (_,k',row)=>match row[a]? with
    |some r=>if k'=k then some (.fp (dzL (r.drop b))) else none
    |none=>none
   |none=>none) else none
 |.agg _=>none
 |.tup _=>none
def cvL(st:St)(ren:List (Nat×Nat))(lent:List Nat):List AV→Option (List AV)
 |[]=>some []
 |x::xs=>match cv1 st ren lent x,cvL st ren lent xs with
  |some y,some ys=>some (y::ys)
  |_,_=>none
def cvA(st:St)(ren:List (Nat×Nat))(lent:List Nat):AV→Option AV
 |.agg cs=>(cvL st ren lent cs).map .agg
 |v=>cv1 st ren lent v
theorem cvL_get{ren:List (Nat×Nat)}{lent:List Nat}:∀{xs ys:List AV} (_:cvL st ren lent xs=some ys),ys.length=xs.length∧∀(n:Nat) (y:AV),ys[n]?=some y→∃x,xs[n]?=some x∧cv1 st ren lent x=some y
 |[],ys,h=>by simp only[cvL,Option.some.injEq]at h;subst h;simp
 |x::xs,ys,h=>by
  simp only[cvL]at h
  split at h
  ·rename_i y ys' h1 h2
   injection h with h
   subst h
   obtain⟨g1,g2⟩:=cvL_get h2
   refine⟨by simp[g1],fun n z hz=>?_⟩
   cases n with
   |zero=>simp only[List.getElem?_cons_zero,Option.some.injEq]at hz;subst hz;exact⟨x,rfl,h1⟩
   |succ n=>exact g2 n z (by simpa using hz)
  ·simp at h
theorem inB_none{ren:List (Nat×Nat)}{lent:List Nat}{b:Nat}(h:β b=none):inB ren lent β b=none:=by simp[inB,h]
theorem subR_nav{id e k:Nat}{es:List (List C)}{p:Pth}{ep kp:Nat}{row:List (List C)}(h:SubR β w id [] e k es)(hn:nav e k es p=some (ep,kp,row)):SubR β w id p ep kp row:=fun s e' k' es' hs=>by
 have:=h (p++s) e' k' es' (by rw[nav_append hn];exact hs)
 simpa using this
theorem rowA_sub{id e k:Nat}{p:Pth}{row:List (List C)}(ob:∀id e k es,lo st.ob id=some (e,k,es)→SubR β w id [] e k es)(h:rowA st id p=some (e,k,row)):SubR β w id p e k row:=by
 unfold rowA at h
 split at h
 ·rename_i e0 k0 es hlo;exact subR_nav (ob id e0 k0 es hlo) h
 ·simp at h
theorem inj_inB{ren:List (Nat×Nat)}{lent:List Nat}(h1:(ren.map (·.2)).Nodup)(h2:∀j,j∈ren.map (·.2)→j<DD){b i j:Nat}{p:Pth}(hr:fnd ren i=some j)(hb:inB ren lent β b=some (j,p)):β b=some (i,p):=by
 simp only[inB]at hb
 split at hb
 ·simp at hb
 ·rename_i i0 p0 hx
  split at hb
  ·rename_i j0 hj
   injection hb with hb;injection hb with e1 e2
   subst e1 e2
   rw[hx,fnd_inj h1 hj hr]
  ·split at hb
   ·simp at hb
   ·injection hb with hb;injection hb with e1 e2
    have:=h2 j (fnd_img hr)
    omega
theorem cv1_vr{ren:List (Nat×Nat)}{lent:List Nat}(uq:∀b b' x,β b=some x→β b'=some x→b=b')(ob:∀id e k es,lo st.ob id=some (e,k,es)→SubR β w id [] e k es)
  (h1:(ren.map (·.2)).Nodup) (h2:∀j,j∈ren.map (·.2)→j<DD) {v v':AV} {u:Value} (hv:VR β w v u) (h:cv1 st ren lent v=some v'):VR (inB ren lent β) w v' u:=by
 have hfz:∀b,β b=none→b<w.heap.size→inB ren lent β b=none∧w.heap[b]?=w.heap[b]?:=fun b hb _=>⟨inB_none hb,rfl⟩
 have hto:∀{i j b:Nat} {p:Pth},fnd ren i=some j→β b=some (i,p)→inB ren lent β b=some (j,p):=fun hr hb=>by simp[inB,hb,hr]
 cases hv with
 |un=>simp only[cv1,Option.some.injEq]at h;subst h;exact .un _
 |sc=>simp only[cv1,Option.some.injEq]at h;subst h;exact .sc _
 |fz xs _ hf=>simp only[cv1,Option.some.injEq]at h;subst h;exact .fz xs u (hf.mono hfz)
 |fp cs b o f hav hlt hc hx=>simp only[cv1,Option.some.injEq]at h;subst h;exact .fp cs b o f (inB_none hav) hlt hc (fun j x hj=>(hx j x hj).mono hfz)
 |sl i k p off len b cap t cur g0 hb hh hs ho =>
  simp only[cv1]at h
  split at h
  ·rename_i j hj
   injection h with h;subst h
   exact .sl j k p off len b cap t cur g0 (hto hj hb) hh hs ho
  ·rename_i hj
   split at h
   ·rename_i hl
    split at h
    ·rename_i e k' row hrow
     split at h
     ·rename_i hc
      obtain⟨rfl,hle⟩:=hc
      injection h with h;subst h
      have:=own_fr (av:=fun b=>inB ren lent β b=none) uq (fun b' p' hb'=>by simp only[inB,hb',hj,hl,if_true]) (fun b' hb'=>inB_none hb') row p e k' (rowA_sub ob hrow) off len _
       (.sl i k' p off len b cap t cur g0 hb hh hs ho) hle
      exact .fz _ _ this.deep
     ·simp at h
    ·simp at h
   ·simp at h
 |slN i k p g0 hb =>
  simp only[cv1]at h
  split at h
  ·rename_i j hj
   injection h with h;subst h
   exact .slN j k p g0 (fun b hb'=>hb b (inj_inB h1 h2 hj hb'))
  ·rename_i hj
   split at h
   ·rename_i hl
    split at h
    ·rename_i e k' row hrow
     split at h
     ·injection h with h;subst h
      simp only[List.take_zero,dzLL]
      exact .fz _ _ (.fzE _ _)
     ·simp at h
    ·simp at h
   ·simp at h
 |ptr i k p a b blk t cur hb hh =>
  simp only[cv1]at h
  split at h
  ·rename_i j hj
   injection h with h;subst h
   exact .ptr j k p a b blk t cur (hto hj hb) hh
  ·rename_i hj
   split at h
   ·rename_i hl
    split at h
    ·rename_i e k' row hrow
     split at h
     ·rename_i r hr
      split at h
      ·rename_i hk
       subst hk
       injection h with h;subst h
       obtain⟨cap,cur',hh',hle,hsz,hrk,hcc⟩:=rowA_at uq ob hrow hb
       have hlt:blk<w.heap.size:=(Array.getElem?_eq_some_iff.1 hh).1
       have hget:∀(j:Nat) (x:C),(dzL (r.drop b))[j]?=some x→∃(y:C) (v:Value),r[b+j]?=some y∧x=deepFz y∧cur'[a*k'+(b+j)]?=some v∧CV β w i p a (b+j) y v:=fun j x hx=>by
        rw[dzL_map,List.getElem?_map,Option.map_eq_some_iff]at hx
        obtain⟨y,hy,rfl⟩:=hx
        rw[List.getElem?_drop]at hy
        obtain⟨v,hv1,hv2⟩:=hcc a (b+j) r y hr hy
        exact⟨y,v,hy,rfl,hv1,hv2⟩
       refine .fp _ blk (a*k'+b) (fun j=>(cur'[a*k'+(b+j)]?).getD undef) (by simp only[inB,hb,hj,hl,if_true]) hlt (fun j x hx=>?_) (fun j x hx=>?_)
       ·obtain⟨y,v,q1,q2,q3,q4⟩:=hget j x hx
        rw[cell_of_row w blk _ cur' e (0,0) hh',Nat.add_assoc,q3]
        rfl
       ·obtain⟨y,v,q1,rfl,q3,q4⟩:=hget j x hx
        rw[q3]
        simp only[Option.getD_some]
        refine FR.deep ?_
        cases y with
        |sc v'=>obtain⟨rfl,ho⟩:=q4;exact .sc _ ho
        |fz ys=>exact FR.mono q4 hfz
        |no=>exact .no _ q4
        |sl e1 k1 xs =>
         obtain⟨g0,q4⟩:=q4
         refine .sl e1 k1 xs v ?_
         have hsub:SubR β w i (p++[(a,b+j)]) e1 k1 xs:=fun s e' k' es' hs=>by
          have:=rowA_sub ob hrow ((a,b+j)::s) e' k' es' (by rw[nav_mk hr q1];exact hs)
          simpa using this
         have:=own_fr (av:=fun b=>inB ren lent β b=none) uq (fun b' p' hb'=>by simp only[inB,hb',hj,hl,if_true]) (fun b' hb'=>inB_none hb') xs (p++[(a,b+j)]) e1 k1 hsub 0 xs.length v (vr_of_slV g0 q4) (by omega)
         simpa using this
      ·simp at h
     ·simp at h
    ·simp at h
   ·simp at h
 |agg=>simp[cv1]at h
 |tup=>simp[cv1]at h
theorem cvA_vr{ren:List (Nat×Nat)}{lent:List Nat}(uq:∀b b' x,β b=some x→β b'=some x→b=b')(ob:∀id e k es,lo st.ob id=some (e,k,es)→SubR β w id [] e k es)
  (h1:(ren.map (·.2)).Nodup) (h2:∀j,j∈ren.map (·.2)→j<DD) {v v':AV} {u:Value} (hv:VR β w v u) (h:cvA st ren lent v=some v'):VR (inB ren lent β) w v' u:=by
 cases v with
 |agg cs =>
  simp only[cvA,Option.map_eq_some_iff]at h
  obtain⟨ys,hy,rfl⟩:=h
  obtain⟨us,f,g1,g2,g3,g4,rfl⟩:=hv.agg_inv
  obtain⟨k1,k2⟩:=cvL_get hy
  refine .agg ys us f (k1.trans g1) (fun n y hn=>?_) (fun n y hn=>?_) (fun n y hn=>?_)
  all_goals obtain⟨x,hx,hc⟩:=k2 n y hn
  ·exact g2 n x hx
  ·exact g3 n x hx
  ·exact cv1_vr uq ob h1 h2 (g4 n x hx) hc
 |_=>exact cv1_vr uq ob h1 h2 hv h
end Go.Own
namespace Go.Own
variable {P:Program}{tt:Nat→Option TI}{w0:World}{β0:Blk}{st st':St}{β:Blk}{a:Act}{w w':World}{o:Oper}{T:List Nat}[Laid]
def nodupB:List Nat→Bool
 |[]=>true
 |x::xs => !xs.contains x&&nodupB xs
theorem nodupB_spec:∀{l:List Nat} (_:nodupB l=true),l.Nodup
 |[],_=>List.nodup_nil
 |x::xs,h=>by
  simp only[nodupB,Bool.and_eq_true,Bool.not_eq_true']at h
  refine List.nodup_cons.2 ⟨fun hm=>?_,nodupB_spec h.2⟩
  have:=h.1
  simp[hm]at this
def callOk(ren:List (Nat×Nat))(lent:List Nat)(nw:List (Nat×Nat)):Bool :=
 nodupB (ren.map (·.1))&&nodupB (ren.map (·.2))&&below (ren.map (·.2))&&below (ren.map (·.1))&&below lent&&lent.all (fun i=>(fnd ren i).isNone) &&
 nodupB (nw.map (·.1))&&nodupB (nw.map (·.2))&&below (nw.map (·.2))&&lent.all (fun i => !(nw.map (·.2)).contains i)&&below (nw.map (·.1))
structure CallOk(ren:List (Nat×Nat))(lent:List Nat)(nw:List (Nat×Nat)):Prop where
 r1:(ren.map (·.1)).Nodup
 r2:(ren.map (·.2)).Nodup
 r3:∀j,j∈ren.map (·.2)→j<DD
 r4:∀j,j∈ren.map (·.1)→j<DD
 l1:∀j,j∈lent→j<DD
 l2:∀j,j∈lent→fnd ren j=none
 n1:(nw.map (·.1)).Nodup
 n2:(nw.map (·.2)).Nodup
 n3:∀j,j∈nw.map (·.2)→j<DD
 n4:∀j,j∈lent→j∉nw.map (·.2)
 n5:∀j,j∈nw.map (·.1)→j<DD
theorem below_spec{l:List Nat}(h:below l=true):∀j,j∈l→j<DD:=fun j hj=>by simpa using List.all_eq_true.1 h j hj
theorem callOk_spec{ren:List (Nat×Nat)}{lent:List Nat}{nw:List (Nat×Nat)}(h:callOk ren lent nw=true):CallOk ren lent nw:=by
 simp only[callOk,Bool.and_eq_true]at h
 obtain⟨⟨⟨⟨⟨⟨⟨⟨⟨⟨h1,h2⟩,h3⟩,h4⟩,h5⟩,h6⟩,h7⟩,h8⟩,h9⟩,h10⟩,h11⟩:=h
 exact⟨nodupB_spec h1,nodupB_spec h2,below_spec h3,below_spec h4,below_spec h5,fun j hj=>by simpa using List.all_eq_true.1 h6 j hj,nodupB_spec h7,nodupB_spec h8,below_spec h9,fun j hj hm=>by have:=List.all_eq_true.1 h10 j hj;simp only[Bool.not_eq_true',List.contains_eq_mem,decide_eq_false_iff_not]at this;exact this hm,below_spec h11⟩
def obIn(st:St):List (Nat×Nat)→List (Nat×Root)
 |[]=>[]
 |(i,j)::r=>match lo st.ob i with
  |some x=>(j,x)::obIn st r
  |none=>obIn st r
theorem lo_obIn:∀{ren:List (Nat×Nat)} {j:Nat} {x:Root} (_:lo (obIn st ren) j=some x),∃i,(i,j)∈ren∧lo st.ob i=some x
 |[],j,x,h=>by simp[obIn,lo]at h
 |(i,j0)::r,j,x,h=>by
  simp only[obIn]at h
  split at h
  ·rename_i y hy
   simp only[lo]at h
   split at h
   ·rename_i e
    injection h with h
    subst e h
    exact⟨i,by simp,hy⟩
   ·obtain⟨i',h1,h2⟩:=lo_obIn h
    exact⟨i',List.mem_cons_of_mem _ h1,h2⟩
  ·obtain⟨i',h1,h2⟩:=lo_obIn h
   exact⟨i',List.mem_cons_of_mem _ h1,h2⟩
def obOut(ob':List (Nat×Root)):List (Nat×Nat)→List (Nat×Root)
 |[]=>[]
 |(j,i)::r=>match lo ob' j with
  |some x=>(i,x)::obOut ob' r
  |none=>obOut ob' r
theorem lo_obOut{ob':List (Nat×Root)}:∀{nw:List (Nat×Nat)} {rest:List (Nat×Root)} {i:Nat} {x:Root} (_:lo (obOut ob' nw++rest) i=some x),(∃j,(j,i)∈nw∧lo ob' j=some x)∨lo rest i=some x
 |[],rest,i,x,h=>.inr (by simpa[obOut]using h)
 |(j,i0)::r,rest,i,x,h=>by
  simp only[obOut]at h
  split at h
  ·rename_i y hy
   simp only[List.cons_append,lo]at h
   split at h
   ·rename_i e
    injection h with h
    subst e h
    exact .inl ⟨j,by simp,hy⟩
   ·rcases lo_obOut h with ⟨j',h1,h2⟩|h
    ·exact .inl ⟨j',List.mem_cons_of_mem _ h1,h2⟩
    ·exact .inr h
  ·rcases lo_obOut h with ⟨j',h1,h2⟩|h
   ·exact .inl ⟨j',List.mem_cons_of_mem _ h1,h2⟩
   ·exact .inr h
theorem lo_filter{q:Nat→Bool}:∀{ob:List (Nat×Root)} {i:Nat} {x:Root} (_:lo (ob.filter fun y=>q y.1) i=some x),lo ob i=some x∧q i=true
 |[],i,x,h=>by simp[lo]at h
 |(k,v)::r,i,x,h=>by
  simp only[List.filter_cons]at h
  split at h
  ·rename_i hq
   simp only[lo]at h ⊢
   split at h
   ·rename_i e
    subst e
    rw[if_pos rfl]
    exact⟨h,hq⟩
   ·rename_i e
    rw[if_neg e]
    exact lo_filter h
  ·rename_i hq
   obtain⟨h1,h2⟩:=lo_filter h
   simp only[lo]
   rw[if_neg (fun e=>by subst e;exact hq h2)]
   exact⟨h1,h2⟩
def rn0(nw:List (Nat×Nat)):AV→AV
 |.sc v=>.sc v
 |.fz xs=>.fz xs
 |.fp cs=>.fp cs
 |.sl j k p off len=>match fnd nw j with
  |some i=>.sl i k p off len
  |none=>.un
 |.ptr j k p x y=>match fnd nw j with
  |some i=>.ptr i k p x y
  |none=>.un
 |_=>.un
def rn1(nw:List (Nat×Nat)):AV→AV
 |.agg cs=>.agg (cs.map (rn0 nw))
 |v=>rn0 nw v
def rnT(nw:List (Nat×Nat)):AV→AV
 |.tup cs=>.tup (cs.map (rn1 nw))
 |v=>rn1 nw v
def nz0:AV→Bool
 |.fz []=>true
 |.fz _=>false
 |.fp _=>false
 |_=>true
def nz1:AV→Bool
 |.agg cs=>cs.all nz0
 |v=>nz0 v
def nzT:AV→Bool
 |.tup cs=>cs.all nz1
 |v=>nz1 v
mutual
def scC:C→Bool
 |.sc _=>true
 |.no=>true
 |.fz []=>true
 |.fz (_::_)=>false
 |.sl _ _ xs=>scLL xs
def scL:List C→Bool
 |[]=>true
 |x::xs=>scC x&&scL xs
def scLL:List (List C)→Bool
 |[]=>true
 |x::xs=>scL x&&scLL xs
end
def flat(es:List (List C)):Bool:=scLL es
theorem scL_get:∀{r:List C} (_:scL r=true) {j:Nat} {x:C} (_:r[j]?=some x),scC x=true
 |[],_,j,x,h=>by simp at h
 |y::ys,h,0,x,hx=>by
  simp only[scL,Bool.and_eq_true]at h
  simp at hx
  exact hx▸h.1
 |y::ys,h,j+1,x,hx=>by
  simp only[scL,Bool.and_eq_true]at h
  exact scL_get h.2 (by simpa using hx)
theorem scLL_get:∀{es:List (List C)} (_:scLL es=true) {i:Nat} {r:List C} (_:es[i]?=some r),scL r=true
 |[],_,i,r,h=>by simp at h
 |y::ys,h,0,r,hr=>by
  simp only[scLL,Bool.and_eq_true]at h
  simp at hr
  exact hr▸h.1
 |y::ys,h,i+1,r,hr=>by
  simp only[scLL,Bool.and_eq_true]at h
  exact scLL_get h.2 (by simpa using hr)
theorem flat_nav:∀(s:Pth) {e k e' k':Nat} {es es':List (List C)} (_:flat es=true) (_:nav e k es s=some (e',k',es')),flat es'=true
 |[],e,k,e',k',es,es',h,hn=>by
  simp only[nav,Option.some.injEq,Prod.mk.injEq]at hn
  obtain⟨_,_,rfl⟩:=hn
  exact h
 |(i,j)::s,e,k,e',k',es,es',h,hn=>by
  obtain⟨r,e1,k1,xs,hi,hj,hn⟩:=nav_cons hn
  have h1:=scL_get (scLL_get h hi) hj
  exact flat_nav s (es:=xs) (by simpa[scC,flat]using h1) hn
def keptQ(ren nw:List (Nat×Nat))(i:Nat):Bool:=(fnd ren i).isSome||(nw.map (·.2)).contains i
def surv0(ren nw:List (Nat×Nat))(kP kS:List Nat)(v:AV):AV :=
 match v with
 |.ptr i k [] x y=>if kP.contains i then v else if keptQ ren nw i then .un else v
 |.sl i k [] off len=>if kS.contains i then v else if keptQ ren nw i then .un else v
 |v=>if v.hits (fun i _=>keptQ ren nw i) then .un else v
def surv1(ren nw:List (Nat×Nat))(kP kS:List Nat):AV→AV
 |.agg cs=>.agg (cs.map (surv0 ren nw kP kS))
 |v=>surv0 ren nw kP kS v
def surv(ren nw:List (Nat×Nat))(kP kS:List Nat):AV→AV
 |.tup cs=>.tup (cs.map (surv1 ren nw kP kS))
 |v=>surv1 ren nw kP kS v
def callSt(st:St)(ren nw:List (Nat×Nat))(kP kS:List Nat)(ob':List (Nat×Root)):St :=
 { st with tm:=st.tm.map (fun x=>(x.1,surv ren nw kP kS x.2)),ob:=obOut ob' nw++st.ob.filter (fun x => !keptQ ren nw x.1) }
theorem lk_map(f:AV→AV)(hf:f .un=.un)(t:Nat):∀(tm:List (Nat×AV)),lk (tm.map fun x=>(x.1,f x.2)) t=f (lk tm t)
 |[]=>by simp[lk,hf]
 |(k,v)::r=>by
  have ih:=lk_map f hf t r
  simp only[List.map_cons,lk]
  split
  ·rfl
  ·exact ih
section back
variable {ren:List (Nat×Nat)}{lent:List Nat}{nw:List (Nat×Nat)}{n:Nat}{β':Blk}
theorem out_inv{b i:Nat}{p:Pth}(h:outB lent nw n β β' b=some (i,p)) :
  (∃j,DD≤j∧β' b=some (j,p)∧j-DD=i∧i∉nw.map (·.2))∨(∃j,j<DD∧β' b=some (j,p)∧fnd nw j=some i)∨(β' b=none∧β b=some (i,p)∧i∈lent∧b<n):=by
 simp only[outB]at h
 split at h
 ·rename_i j p' hx
  split at h
  ·rename_i hd
   split at h
   ·simp at h
   ·rename_i hn
    injection h with h;injection h with e1 e2
    subst e1 e2
    exact .inl ⟨j,hd,hx,rfl,by simpa using hn⟩
  ·rename_i hd
   simp only[Option.map_eq_some_iff]at h
   obtain⟨i',h1,h2⟩:=h
   injection h2 with e1 e2
   subst e1 e2
   exact .inr (.inl ⟨j,by omega,hx,h1⟩)
 ·rename_i hx
  split at h
  ·rename_i i' p' hy
   split at h
   ·rename_i hc
    injection h with h;injection h with e1 e2
    subst e1 e2
    exact .inr (.inr ⟨hx,hy,by simpa using hc.1,hc.2⟩)
   ·simp at h
  ·simp at h
theorem out_own{b i j:Nat}{p:Pth}(hok:CallOk ren lent nw)(h:fnd nw j=some i)(hj:j<DD)(hb:β' b=some (j,p)):outB lent nw n β β' b=some (i,p):=by
 simp only[outB,hb]
 rw[if_neg (by omega),h]
 rfl
end back
theorem rn0_vr{ren:List (Nat×Nat)}{lent:List Nat}{nw:List (Nat×Nat)}{n:Nat}{β':Blk}(hok:CallOk ren lent nw)(hnd:∀j,j∈nw.map (·.1)→j<DD)
  (hfz:∀b,β' b=none→b<w.heap.size→lent=[]→outB lent nw n β β' b=none) {v:AV} {u:Value} (hv:VR β' w v u) (hz:lent=[]∨nz0 v=true) (h1:(∀cs,v≠.agg cs)∧∀cs,v≠.tup cs):VR (outB lent nw n β β') w (rn0 nw v) u:=by
 have back:∀{i j b:Nat} {p:Pth},fnd nw j=some i→outB lent nw n β β' b=some (i,p)→β' b=some (j,p):=fun {i j b p} hj hb=>by
  rcases out_inv hb with ⟨j',q1,q2,q3,q4⟩|⟨j',q1,q2,q3⟩|⟨q1,q2,q3,q4⟩
  ·exact absurd (fnd_img hj) q4
  ·rw[q2,fnd_inj hok.n2 q3 hj]
  ·exact absurd (fnd_img hj) (hok.n4 _ q3)
 cases hv with
 |un=>exact .un _
 |sc=>exact .sc _
 |fz xs _ hf =>
  simp only[rn0]
  cases xs with
  |nil=>cases hf with
   |fzE=>exact .fz _ _ (.fzE _ _)
   |fzN _ _ _ _ _ _ h=>exact absurd rfl h
  |cons r rs =>
   rcases hz with hl|hz
   ·exact .fz _ _ (hf.mono fun b hb hlt=>⟨hfz b hb hlt hl,rfl⟩)
   ·simp[nz0]at hz
 |fp cs b o f hav hlt hc hx =>
  rcases hz with hl|hz
  ·exact .fp cs b o f (hfz b hav hlt hl) hlt hc (fun j x hj=>(hx j x hj).mono fun b hb hlt=>⟨hfz b hb hlt hl,rfl⟩)
  ·simp[nz0]at hz
 |sl j k p off len b cap t cur g0 hb hh hs ho =>
  simp only[rn0]
  split
  ·rename_i i hi
   exact .sl i k p off len b cap t cur g0 (out_own hok hi (hnd j (fnd_dom hi)) hb) hh hs ho
  ·exact .un _
 |slN j k p g0 hb =>
  simp only[rn0]
  split
  ·rename_i i hi
   exact .slN i k p g0 (fun b hb'=>hb b (back hi hb'))
  ·exact .un _
 |ptr j k p x y b t cur hb hh =>
  simp only[rn0]
  split
  ·rename_i i hi
   exact .ptr i k p x y b t cur (out_own hok hi (hnd j (fnd_dom hi)) hb) hh
  ·exact .un _
 |agg=>exact absurd rfl (h1.1 _)
 |tup=>exact absurd rfl (h1.2 _)
theorem rn0_vr'{ren:List (Nat×Nat)}{lent:List Nat}{nw:List (Nat×Nat)}{n:Nat}{β':Blk}(hok:CallOk ren lent nw)(hnd:∀j,j∈nw.map (·.1)→j<DD)
  (hfz:∀b,β' b=none→b<w.heap.size→lent=[]→outB lent nw n β β' b=none) {v:AV} {u:Value} (hv:VR β' w v u) (hz:lent=[]∨nz0 v=true):VR (outB lent nw n β β') w (rn0 nw v) u:=by
 cases v with
 |agg cs=>exact .un _
 |tup cs=>exact .un _
 |_=>exact rn0_vr hok hnd hfz hv hz ⟨fun _ h=>by simp at h,fun _ h=>by simp at h⟩
theorem rn1_vr{ren:List (Nat×Nat)}{lent:List Nat}{nw:List (Nat×Nat)}{n:Nat}{β':Blk}(hok:CallOk ren lent nw)(hnd:∀j,j∈nw.map (·.1)→j<DD)
  (hfz:∀b,β' b=none→b<w.heap.size→lent=[]→outB lent nw n β β' b=none) {v:AV} {u:Value} (hv:VR β' w v u) (hz:lent=[]∨nz1 v=true):VR (outB lent nw n β β') w (rn1 nw v) u:=by
 cases v with
 |agg cs =>
  obtain⟨us,f,g1,g2,g3,g4,rfl⟩:=hv.agg_inv
  simp only[rn1]
  refine .agg _ us f (by simpa using g1) (fun m y hm=>?_) (fun m y hm=>?_) (fun m y hm=>?_)
  all_goals
   rw[List.getElem?_map,Option.map_eq_some_iff]at hm
   obtain⟨x,hx,rfl⟩:=hm
  ·exact g2 m x hx
  ·exact g3 m x hx
  ·refine rn0_vr' hok hnd hfz (g4 m x hx) (hz.imp id fun h=>?_)
   exact List.all_eq_true.1 h x (List.mem_of_getElem? hx)
 |tup cs=>exact .un _
 |_=>exact rn0_vr hok hnd hfz hv hz ⟨fun _ h=>by simp at h,fun _ h=>by simp at h⟩
theorem rnT_vr{ren:List (Nat×Nat)}{lent:List Nat}{nw:List (Nat×Nat)}{n:Nat}{β':Blk}(hok:CallOk ren lent nw)(hnd:∀j,j∈nw.map (·.1)→j<DD)
  (hfz:∀b,β' b=none→b<w.heap.size→lent=[]→outB lent nw n β β' b=none) {v:AV} {u:Value} (hv:VR β' w v u) (hz:lent=[]∨nzT v=true):VR (outB lent nw n β β') w (rnT nw v) u:=by
 cases v with
 |tup cs =>
  simp only[rnT]
  cases hv with
  |tup _ us f g1 g2 g4 =>
   refine .tup _ us f (by simpa using g1) (fun m y hm=>?_) (fun m y hm=>?_)
   all_goals
    rw[List.getElem?_map,Option.map_eq_some_iff]at hm
    obtain⟨x,hx,rfl⟩:=hm
   ·exact g2 m x hx
   ·refine rn1_vr hok hnd hfz (g4 m x hx) (hz.imp id fun h=>?_)
    exact List.all_eq_true.1 h x (List.mem_of_getElem? hx)
 |agg cs=>exact rn1_vr hok hnd hfz hv hz
 |_=>exact rn1_vr hok hnd hfz hv hz
end Go.Own
namespace Go.Own
attribute [local irreducible] DD
variable {P:Program}{tt:Nat→Option TI}{w0:World}{β0:Blk}{st st':St}{β:Blk}{a:Act}{w w':World}{o:Oper}{T:List Nat}[Laid]
theorem sub_out{ren:List (Nat×Nat)}{lent:List Nat}{nw:List (Nat×Nat)}{n:Nat}{β':Blk}(hok:CallOk ren lent nw)
  (hfz:∀b,β' b=none→b<w.heap.size→lent=[]→outB lent nw n β β' b=none) {i j e k:Nat} {es:List (List C)} (hj:fnd nw j=some i) (h:SubR β' w j [] e k es) (hz:lent=[]∨flat es=true) :
  SubR (outB lent nw n β β') w i [] e k es:=by
 have hjd:=hok.n5 j (fnd_dom hj)
 have back:∀b p,outB lent nw n β β' b=some (i,p)→β' b=some (j,p):=fun b p hb=>by
  rcases out_inv hb with ⟨j',q1,q2,q3,q4⟩|⟨j',q1,q2,q3⟩|⟨q1,q2,q3,q4⟩
  ·exact absurd (fnd_img hj) q4
  ·rw[q2,fnd_inj hok.n2 q3 hj]
  ·exact absurd (fnd_img hj) (hok.n4 _ q3)
 have to:∀b p,β' b=some (j,p)→outB lent nw n β β' b=some (i,p):=fun b p hb=>out_own hok hj hjd hb
 rcases hz with hl|hz
 ·have hm:Moves β' (outB lent nw n β β') w w j [] i []:=⟨fun b hb hlt=>⟨hfz b hb hlt hl,rfl⟩,fun b s hb=>⟨to b s hb,rfl⟩,fun b s hb=>back b s hb⟩
  have:=hm.sub (s:=[]) (by simpa using h)
  simpa using this
 ·intro s e' k' es' hs
  have hz:=flat_nav s hz hs
  obtain⟨h0,hr⟩:=h s e' k' es' hs
  refine⟨h0,?_⟩
  simp only[List.nil_append]at hr ⊢
  rcases hr with ⟨rfl,hn⟩|⟨b,cap,cur,q1,q2,q3,q4,q5,q6,q7,q8⟩
  ·exact .inl ⟨rfl,fun b hb=>hn b (back b _ hb)⟩
  ·refine .inr ⟨b,cap,cur,to b _ q1,q2,q3,q4,q5,q6,q7,fun i' j' r x hi hj'=>?_⟩
   obtain⟨u,hu,hv⟩:=q8 i' j' r x hi hj'
   refine⟨u,hu,?_⟩
   have hsc:=scL_get (scLL_get hz hi) hj'
   cases x with
   |sc v=>exact hv
   |no=>exact hv
   |fz xs =>
    cases xs with
    |nil =>
     cases hv with
     |fzE=>exact .fzE _ _
     |fzN _ _ _ _ _ _ h=>exact absurd rfl h
    |cons=>simp[scC]at hsc
   |sl e1 k1 xs =>
    obtain⟨g0,hv⟩:=hv
    refine⟨g0,?_⟩
    rcases hv with ⟨rfl,hn0,hnb⟩|⟨b3,cap3,cur3,t3,hb3,hh3,hs3,hl3,rfl⟩
    ·exact .inl ⟨rfl,hn0,fun b hb=>hnb b (back b _ hb)⟩
    ·exact .inr ⟨b3,cap3,cur3,t3,to b3 _ hb3,hh3,hs3,hl3,rfl⟩
def insA(st:St)(ren:List (Nat×Nat))(lent:List Nat):List Operand→Option (List AV)
 |[]=>some []
 |x::xs=>match cvA st ren lent (ev st x),insA st ren lent xs with
  |some y,some ys=>some (y::ys)
  |_,_=>none
theorem insA_get{ren:List (Nat×Nat)}{lent:List Nat}:∀{xs:List Operand} {ys:List AV} (_:insA st ren lent xs=some ys),ys.length=xs.length∧∀(n:Nat) (y:AV),ys[n]?=some y→∃x,xs[n]?=some x∧cvA st ren lent (ev st x)=some y
 |[],ys,h=>by simp only[insA,Option.some.injEq]at h;subst h;simp
 |x::xs,ys,h=>by
  simp only[insA]at h
  split at h
  ·rename_i y ys' h1 h2
   injection h with h
   subst h
   obtain⟨g1,g2⟩:=insA_get h2
   refine⟨by simp[g1],fun n z hz=>?_⟩
   cases n with
   |zero=>simp only[List.getElem?_cons_zero,Option.some.injEq]at hz;subst hz;exact⟨x,rfl,h1⟩
   |succ n=>exact g2 n z (by simpa using hz)
  ·simp at h
def comps:AV→List AV
 |.agg cs=>cs
 |v=>[v]
theorem comp_vr{ren:List (Nat×Nat)}{lent:List Nat}{v c:AV}{u:Value}(hv:VR β w v u)(hc:c∈comps v) :
  ∃u',VR β w c u'∧∀(β':Blk) (w':World) (v':AV),cvA st ren lent v=some v'→VR β' w' v' u→∃c',cv1 st ren lent c=some c'∧VR β' w' c' u':=by
 cases v with
 |agg cs =>
  obtain⟨us,f,g1,g2,g3,g4,rfl⟩:=hv.agg_inv
  obtain⟨n,hn⟩:=List.mem_iff_getElem?.1 hc
  refine⟨f n,g4 n c hn,fun β' w' v' h1 h2=>?_⟩
  simp only[cvA,Option.map_eq_some_iff]at h1
  obtain⟨ys,hy,rfl⟩:=h1
  obtain⟨k1,k2⟩:=cvL_get hy
  obtain⟨us',f',r1,r2,r3,r4,he⟩:=h2.agg_inv
  injection he with he
  subst he
  have hlt:=(List.getElem?_eq_some_iff.1 hn).1
  obtain⟨y,hyn⟩:∃y,ys[n]?=some y:=⟨_,List.getElem?_eq_getElem (by rw[k1];exact hlt)⟩
  obtain⟨x,hx,hcv⟩:=k2 n y hyn
  have hxn:cs[n]?=some c:=hn
  rw[hx]at hxn
  injection hxn with hxn
  subst hxn
  refine⟨y,hcv,?_⟩
  have e1:=g2 n x hx
  have e2:=r2 n y hyn
  rw[e1]at e2
  injection e2 with e2
  rw[e2]
  exact r4 n y hyn
 |tup cs =>
  simp only[comps,List.mem_cons,List.not_mem_nil,or_false]at hc
  subst hc
  exact⟨u,hv,fun β' w' v' h1 _=>by simp[cvA,cv1]at h1⟩
 |_ =>
  simp only[comps,List.mem_cons,List.not_mem_nil,or_false]at hc
  subst hc
  exact⟨u,hv,fun β' w' v' h1 h2=>⟨v',h1,h2⟩⟩
def KeptP(st:St)(ren nw:List (Nat×Nat))(keep:List Nat)(args:List Operand)(i:Nat):Prop :=
 ∃m x k a b j,m∈keep∧args[m]?=some x∧.ptr i k [] a b∈comps (ev st x)∧fnd ren i=some j∧fnd nw j=some i
def KeptS(st:St)(ren nw:List (Nat×Nat))(keep:List Nat)(args:List Operand)(i:Nat):Prop :=
 ∃m x k a b j,m∈keep∧args[m]?=some x∧.sl i k [] a b∈comps (ev st x)∧fnd ren i=some j∧fnd nw j=some i
theorem Stp.call{f:Nat}{ins:List AV}{ob:List (Nat×Root)}{keep:List Nat}{Φ:AV→List (Nat×Root)→Prop}{args:Array Operand}{tys:Array TypeId}{ren nw:List (Nat×Nat)}{lent kP kS:List Nat}
  (hc:Con P f ins ob keep Φ) (ho:o.op=.call { callee:=.value (.func f),args:=args,argTypes:=tys }) (hok:callOk ren lent nw=true) (hins:insA st ren lent args.toList=some ins) (hob:obIn st ren=ob)
  (hd:dstOk st o=true) (hkP:∀i,i∈kP→KeptP st ren nw keep args.toList i) (hkS:∀i,i∈kS→KeptS st ren nw keep args.toList i)
  (hz:∀res ob',Φ res ob'→lent=[]∨(nzT res=true∧∀j,j∈nw.map (·.1)→∀e k es,lo ob' j=some (e,k,es)→flat es=true)) :
  Stp P o st (ren.map (·.1)++nw.map (·.2)) (fun s=>∃res ob',Φ res ob'∧s=putSt (callSt st ren nw kP kS ob') o.dst (rnT nw res)):=by
 intro w0 β0 β a w hr Q
 have hk:=callOk_spec hok
 have rel:=hr.rel
 obtain⟨hil,hig⟩:=insA_get hins
 have hrun:(execOp a.eval o).run P w=.ok (.enter f (args.map a.eval)) w:=by
  obtain⟨fn,f1,f2,f3⟩:=hc.fn
  simp[execOp,ho,resolve,invoke,Act.eval,Deferred.ofValue,callFunc,f1]
  rw[if_neg (by simpa using f2)]
  rw[if_neg (fun hn=>by rw[hn]at f3;simp at f3)]
 unfold Oper.wp
 rw[hrun]
 simp only[Oper.upon]
 have hargs:∀(n:Nat) (x:Operand),args.toList[n]?=some x→(args.map a.eval).getD n undef=a.eval x:=fun n x hx=>by
  have:args[n]?=some x:=by simpa using hx
  simp[Array.getD_eq_getD_getElem?,this]
 have hsub:∀i j e k es,fnd ren i=some j→lo st.ob i=some (e,k,es)→SubR (inB ren lent β) w j [] e k es:=fun i j e k es hij hl=>by
  have hm:Moves β (inB ren lent β) w w i [] j []:=⟨fun b hb _=>⟨inB_none hb,rfl⟩,fun b s hb=>⟨by simp[inB,show β b=some (i,s) from hb,hij],rfl⟩,fun b s hb=>inj_inB hk.r2 hk.r3 hij hb⟩
  have:=hm.sub (s:=[]) (by simpa using rel.ob i e k es hl)
  simpa using this
 have huq1:∀b b' x,inB ren lent β b=some x→inB ren lent β b'=some x→b=b':=fun b b' x h1 h2=>by
  obtain⟨j,p⟩:=x
  have inv:∀b,inB ren lent β b=some (j,p)→(∃i,fnd ren i=some j∧β b=some (i,p))∨(∃i,j=DD+i∧β b=some (i,p)):=fun b h=>by
   simp only[inB]at h
   split at h
   ·simp at h
   ·rename_i i0 p0 hx
    split at h
    ·rename_i j0 hj
     injection h with h;injection h with e1 e2
     subst e1 e2
     exact .inl ⟨i0,hj,hx⟩
    ·split at h
     ·simp at h
     ·injection h with h;injection h with e1 e2
      subst e2
      exact .inr ⟨i0,e1.symm,hx⟩
  rcases inv b h1 with ⟨i,q1,q2⟩|⟨i,q1,q2⟩<;>rcases inv b' h2 with ⟨i',q3,q4⟩|⟨i',q3,q4⟩
  ·have:=fnd_inj hk.r2 q1 q3
   subst this
   exact rel.uq b b' _ q2 q4
  ·have:=hk.r3 j (fnd_img q1);omega
  ·have:=hk.r3 j (fnd_img q3);omega
  ·have:i=i':=by omega
   subst this
   exact rel.uq b b' _ q2 q4
 have hlt1:∀b x,inB ren lent β b=some x→b<w.heap.size:=fun b x hb=>by
  cases hx:β b with
  |none=>rw[inB_none hx]at hb;simp at hb
  |some y=>exact rel.lt b y hx
 refine(hc.run (inB ren lent β) w (args.map a.eval) ⟨hr.laid.ok,hr.laid.sz,fun b hb=>inB_none (hr.laid.fz b hb)⟩ (by rw[hil];simp) (fun n v hn=>?_) (fun j e k es hl=>?_) huq1 hlt1).mono fun e w' hpost=>?_
 ·obtain⟨x,hx,hcv⟩:=hig n v hn
  rw[hargs n x hx]
  exact cvA_vr rel.uq rel.ob hk.r2 hk.r3 (rel.ev x) hcv
 ·rw[←hob]at hl
  obtain⟨i,hm,hl⟩:=lo_obIn hl
  exact hsub i j e k es (fnd_of_mem hk.r1 hm) hl
 obtain⟨u,res,ob',β',rfl,cp⟩:=hpost
 have none1:∀b,β b=none→b<w.heap.size→β' b=none∧w'.heap[b]?=w.heap[b]?:=fun b hb hlt=>by
  refine⟨?_,cp.fr b hlt (inB_none hb)⟩
  cases hx:β' b with
  |none=>rfl
  |some x=>exact absurd (inB_none hb) (cp.old b x hx hlt)
 have fzO:∀b,β b=none→b<w.heap.size→outB lent nw w.heap.size β β' b=none∧w'.heap[b]?=w.heap[b]?:=fun b hb hlt=>by
  obtain⟨h1,h2⟩:=none1 b hb hlt
  exact⟨by simp[outB,h1,hb],h2⟩
 have lentO:∀b i p,i∈lent→β b=some (i,p)→outB lent nw w.heap.size β β' b=some (i,p)∧w'.heap[b]?=w.heap[b]?:=fun b i p hi hb=>by
  have hlt:=rel.lt b _ hb
  have hin:inB ren lent β b=none:=by simp[inB,hb,hk.l2 i hi,hi]
  have h1:β' b=none:=by
   cases hx:β' b with
   |none=>rfl
   |some x=>exact absurd hin (cp.old b x hx hlt)
  exact⟨by simp[outB,h1,hb,hi,hlt],cp.fr b hlt hin⟩
 have forO:∀b i p,fnd ren i=none→i∉lent→i∉nw.map (·.2)→β b=some (i,p)→outB lent nw w.heap.size β β' b=some (i,p)∧w'.heap[b]?=w.heap[b]?:=fun b i p h1 h2 h3 hb=>by
  have hin:inB ren lent β b=some (DD+i,p):=by simp[inB,hb,h1,h2]
  obtain⟨g1,g2⟩:=cp.to b _ _ hin (by omega)
  refine⟨?_,g2⟩
  simp only[outB,g1]
  rw[if_pos (by omega),Nat.add_sub_cancel_left,if_neg (by simpa using h3)]
 have keepO:∀b i p,fnd ren i=none→i∉nw.map (·.2)→β b=some (i,p)→outB lent nw w.heap.size β β' b=some (i,p)∧w'.heap[b]?=w.heap[b]?:=fun b i p h1 h3 hb=>by
  by_cases h2:i∈lent
  ·exact lentO b i p h2 hb
  ·exact forO b i p h1 h2 h3 hb
 have backO:∀b i p,i∉nw.map (·.2)→outB lent nw w.heap.size β β' b=some (i,p)→β b=some (i,p):=fun b i p hi hb=>by
  rcases out_inv hb with ⟨j,q1,q2,q3,q4⟩|⟨j,q1,q2,q3⟩|⟨q1,q2,q3,q4⟩
  ·have hin:=cp.back b j p q2 q1
   simp only[inB]at hin
   split at hin
   ·simp at hin
   ·rename_i i0 p0 hx
    split at hin
    ·rename_i j0 hj
     injection hin with hin;injection hin with e1 e2
     have:=hk.r3 j0 (fnd_img hj)
     omega
    ·split at hin
     ·simp at hin
     ·injection hin with hin;injection hin with e1 e2
      subst e2
      rw[hx]
      have:i0=i:=by omega
      rw[this]
  ·exact absurd (fnd_img q3) hi
  ·exact q2
 have someO:∀b x,outB lent nw w.heap.size β β' b=some x→b<w.heap.size→β b≠none:=fun b x hb hlt hn=>by
  rw[(fzO b hn hlt).1]at hb
  simp at hb
 have fzOut:∀b,β' b=none→b<w'.heap.size→lent=[]→outB lent nw w.heap.size β β' b=none:=fun b hb _ hl=>by
  subst hl
  simp only[outB,hb]
  cases hx:β b with
  |none=>rfl
  |some x=>simp
 have hfr:Fr (ren.map (·.1)++nw.map (·.2)) β w (outB lent nw w.heap.size β β') w':=by
  refine⟨fun b hlt hq=>?_,fun b i p hb hi=>backO b i p (fun hm=>hi (List.mem_append_right _ hm)) hb⟩
  cases hx:β b with
  |none=>exact fzO b hx hlt
  |some x =>
   obtain⟨i,p⟩:=x
   have:=hq i p hx
   simp only[List.mem_append,not_or]at this
   refine keepO b i p ?_ this.2 hx
   cases hf:fnd ren i with
   |none=>rfl
   |some j=>exact absurd (fnd_dom hf) this.1
 have vrKeep:∀(v:AV) (u:Value),VR β w v u→v.hits (fun i _=>keptQ ren nw i)=false→VR (outB lent nw w.heap.size β β') w' v u:=fun v u hv hq=>by
  refine hv.mono _ hq fzO cp.hs (fun i p b hq hb=>?_) (fun i p b hq hb=>?_)
  all_goals
   simp only[keptQ,Bool.or_eq_false_iff,Option.isSome_eq_false_iff,Option.isNone_iff_eq_none]at hq
   have h3:i∉nw.map (·.2):=by simpa using hq.2
  ·obtain⟨h1,h2⟩:=keepO b i p hq.1 h3 hb
   exact⟨h1,fun cur t hc=>⟨cur,by rw[h2];exact hc,rfl⟩⟩
  ·exact backO b i p h3 hb
 have insOf:∀m x,m∈keep→args.toList[m]?=some x→∃v',cvA st ren lent (ev st x)=some v'∧VR β' w' v' (a.eval x):=fun m x h1 h2=>by
  obtain⟨y,hy⟩:∃y,ins[m]?=some y:=⟨_,List.getElem?_eq_getElem (by rw[hil];exact(List.getElem?_eq_some_iff.1 h2).1)⟩
  obtain⟨x',hx',hcv⟩:=hig m y hy
  rw[h2]at hx'
  injection hx' with hx'
  subst hx'
  have:=cp.keep m h1 y hy
  rw[hargs m x h2]at this
  exact⟨y,hcv,this⟩
 have kptr:∀i,i∈kP→∀b,β b=some (i,[])→outB lent nw w.heap.size β β' b=some (i,[])∧∃cur t,w'.heap[b]?=some (.cells cur t (0,0)):=fun i hi b hb=>by
  obtain⟨m,x,k,c,d,j,h1,h2,h3,h4,h5⟩:=hkP i hi
  obtain⟨u',hv,hv'⟩:=comp_vr (st:=st) (ren:=ren) (lent:=lent) (rel.ev x) h3
  obtain⟨b1,t1,cur1,g1,g2,g3⟩:=hv.ptr_inv
  have hb1:=rel.uq _ _ _ g1 hb
  subst hb1
  obtain⟨v',e1,e2⟩:=insOf m x h1 h2
  obtain⟨c',e3,hv2⟩:=hv' β' w' v' e1 e2
  simp only[cv1,h4,Option.some.injEq]at e3
  subst e3
  rw[g3]at hv2
  obtain⟨b2,t2,cur2,q1,q2,q3⟩:=hv2.ptr_inv
  injection q3 with q3;injection q3 with q3;injection q3 with q3
  subst q3
  exact⟨out_own hk h5 (hk.n5 j (fnd_dom h5)) q1,cur2,t2,q2⟩
 have vrS:∀i,i∈kS→∀(k off len:Nat) (u:Value),VR β w (.sl i k [] off len) u→VR (outB lent nw w.heap.size β β') w' (.sl i k [] off len) u:=fun i hi k off len u hv=>by
  obtain⟨m,x,k0,c,d,j,h1,h2,h3,h4,h5⟩:=hkS i hi
  obtain⟨z,hv1,hv'⟩:=comp_vr (st:=st) (ren:=ren) (lent:=lent) (rel.ev x) h3
  obtain⟨v',e1,e2⟩:=insOf m x h1 h2
  obtain⟨c',e3,hv2⟩:=hv' β' w' v' e1 e2
  simp only[cv1,h4,Option.some.injEq]at e3
  subst e3
  have hjd:=hk.n5 j (fnd_dom h5)
  cases hv1 with
  |slN _ _ _ g0 hn =>
   cases hv2 with
   |slN _ _ _ g0' hn' =>
    cases hv with
    |slN _ _ _ f0 fn =>
     refine .slN i k [] f0 fun b hb=>?_
     rcases out_inv hb with ⟨j',q1,q2,q3,q4⟩|⟨j',q1,q2,q3⟩|⟨q1,q2,q3,q4⟩
     ·exact absurd (fnd_img h5) q4
     ·rw[fnd_inj hk.n2 q3 h5]at q2;exact hn' b q2
     ·exact absurd (fnd_img h5) (hk.n4 _ q3)
    |sl _ _ _ _ _ b _ _ _ _ fb=>exact absurd fb (hn b)
  |sl _ _ _ _ _ b1 cap1 t1 cur1 g0 g1 g2 g3 g4 =>
   generalize hz2:Value.slice (some ⟨b1,c*k0,none⟩) d (cap1-c)=z2 at hv2
   cases hv2 with
   |slN=>simp at hz2
   |sl _ _ _ _ _ b2 cap2 t2 cur2 f0 f1 f2 f3 f4 =>
    injection hz2 with e1 e2 e3
    injection e1 with e1;injection e1 with e1
    subst e1
    have hcap:cap1=cap2:=by omega
    subst hcap
    have ho:=out_own (n:=w.heap.size) (β:=β) hk h5 hjd f1
    cases hv with
    |slN _ _ _ _ hn=>exact absurd g1 (hn _)
    |sl _ _ _ _ _ b3 cap3 t3 cur3 r0 r1 r2 r3 r4 =>
     have:=rel.uq _ _ _ r1 g1
     subst this
     rw[g2]at r2
     injection r2 with r2;injection r2 with r2 r5
     subst r2 r5
     exact .sl i k [] off len b3 cap3 t2 cur2 r0 ho f2 (by rw[f3,←g3,r3]) r4
 have vrSurv0:∀(v:AV) (u:Value),VR β w v u→VR (outB lent nw w.heap.size β β') w' (surv0 ren nw kP kS v) u:=fun v u hv=>by
  unfold surv0
  split
  ·rename_i i k x y
   split
   ·rename_i hm
    obtain⟨b,t,cur,g1,g2,rfl⟩:=hv.ptr_inv
    obtain⟨q1,cur',t',q2⟩:=kptr i (by simpa using hm) b g1
    exact .ptr i k [] x y b t' cur' q1 q2
   ·split
    ·exact .un _
    ·rename_i hq
     exact vrKeep _ _ hv (by simpa[AV.hits]using hq)
  ·rename_i i k off len
   split
   ·rename_i hm
    exact vrS i (by simpa using hm) k off len u hv
   ·split
    ·exact .un _
    ·rename_i hq
     exact vrKeep _ _ hv (by simpa[AV.hits]using hq)
  ·split
   ·exact .un _
   ·rename_i hq
    exact vrKeep _ _ hv (by simpa using hq)
 have vrSurv1:∀(v:AV) (u:Value),VR β w v u→VR (outB lent nw w.heap.size β β') w' (surv1 ren nw kP kS v) u:=fun v u hv=>by
  cases v with
  |agg cs =>
   obtain⟨us,f,g1,g2,g3,g4,rfl⟩:=hv.agg_inv
   simp only[surv1]
   refine .agg _ us f (by simpa using g1) (fun m y hm=>?_) (fun m y hm=>?_) (fun m y hm=>?_)
   all_goals
    rw[List.getElem?_map,Option.map_eq_some_iff]at hm
    obtain⟨x,hx,rfl⟩:=hm
   ·exact g2 m x hx
   ·exact g3 m x hx
   ·exact vrSurv0 _ _ (g4 m x hx)
  |_=>exact vrSurv0 _ _ hv
 have vrSurv:∀(v:AV) (u:Value),VR β w v u→VR (outB lent nw w.heap.size β β') w' (surv ren nw kP kS v) u:=fun v u hv=>by
  cases v with
  |tup cs =>
   simp only[surv]
   cases hv with
   |tup _ us f g1 g2 g4 =>
    refine .tup _ us f (by simpa using g1) (fun m y hm=>?_) (fun m y hm=>?_)
    all_goals
     rw[List.getElem?_map,Option.map_eq_some_iff]at hm
     obtain⟨x,hx,rfl⟩:=hm
    ·exact g2 m x hx
    ·exact vrSurv1 _ _ (g4 m x hx)
  |agg cs=>exact vrSurv1 _ _ hv
  |_=>exact vrSurv1 _ _ hv
 have hrel:Rel w0 β0 (callSt st ren nw kP kS ob') (outB lent nw w.heap.size β β') a w':=by
  refine{ nt:=rel.nt,df:=rel.df,tm:=fun t=>?_,ob:=fun i e k es hl=>?_,uq:=fun b b' x h1 h2=>?_,lt:=fun b x hb=>?_,fr:=fun b hb h0=>?_,old:=fun b x hb hlt=>?_,hs:=Nat.le_trans rel.hs cp.hs,os:=cp.os.trans rel.os,tape:=cp.tape.trans rel.tape,output:=cp.output.trans rel.output }
  ·simp only[callSt]
   rw[lk_map (surv ren nw kP kS) (by simp[surv,surv1,surv0,AV.hits])]
   exact vrSurv _ _ (rel.tm t)
  ·simp only[callSt]at hl
   rcases lo_obOut hl with ⟨j,hm,hlj⟩|hl
   ·have hj:=fnd_of_mem hk.n1 hm
    exact sub_out hk fzOut hj (cp.ob j e k es hlj) ((hz res ob' cp.ok).imp id fun h=>h.2 j (fnd_dom hj) e k es hlj)
   ·obtain⟨hl,hq⟩:=lo_filter (q:=fun i => !keptQ ren nw i) hl
    simp only[keptQ,Bool.not_or,Bool.and_eq_true,Bool.not_eq_true',Option.isSome_eq_false_iff,Option.isNone_iff_eq_none]at hq
    have h3:i∉nw.map (·.2):=by simpa using hq.2
    have hm:Moves β (outB lent nw w.heap.size β β') w w' i [] i []:=⟨fzO,fun b s hb=>keepO b i _ hq.1 h3 hb,fun b s hb=>backO b i _ h3 hb⟩
    have:=hm.sub (s:=[]) (by simpa using rel.ob i e k es hl)
    simpa using this
  ·obtain⟨i,p⟩:=x
   by_cases hi:i∈nw.map (·.2)
   ·have inv:∀b,outB lent nw w.heap.size β β' b=some (i,p)→∃j,fnd nw j=some i∧β' b=some (j,p):=fun b hb=>by
     rcases out_inv hb with ⟨j,q1,q2,q3,q4⟩|⟨j,q1,q2,q3⟩|⟨q1,q2,q3,q4⟩
     ·exact absurd hi q4
     ·exact⟨j,q3,q2⟩
     ·exact absurd hi (hk.n4 i q3)
    obtain⟨j,q1,q2⟩:=inv b h1
    obtain⟨j',q3,q4⟩:=inv b' h2
    have:=fnd_inj hk.n2 q1 q3
    subst this
    exact cp.uq b b' _ q2 q4
   ·exact rel.uq b b' _ (backO b i p hi h1) (backO b' i p hi h2)
  ·obtain⟨i,p⟩:=x
   rcases out_inv hb with ⟨j,q1,q2,q3,q4⟩|⟨j,q1,q2,q3⟩|⟨q1,q2,q3,q4⟩
   ·exact cp.lt b _ q2
   ·exact cp.lt b _ q2
   ·exact Nat.lt_of_lt_of_le q4 cp.hs
  ·have hn:β b=none:=by
    cases hx:β b with
    |none=>rfl
    |some x=>exact absurd h0 (rel.old b x hx hb)
   exact(fzO b hn (Nat.lt_of_lt_of_le hb rel.hs)).2.trans (rel.fr b hb h0)
  ·have:=someO b x hb (Nat.lt_of_lt_of_le hlt rel.hs)
   cases hy:β b with
   |none=>exact absurd hy this
   |some y=>exact rel.old b y hy hlt
 have hbel:below (ren.map (·.1)++nw.map (·.2))=true:=by
  unfold below
  rw[List.all_append,Bool.and_eq_true]
  exact⟨List.all_eq_true.2 fun j hj=>by simpa using hk.r4 j hj,List.all_eq_true.2 fun j hj=>by simpa using hk.n3 j hj⟩
 refine⟨_,_,⟨res,ob',cp.ok,rfl⟩,(hr.next hrel hfr hbel).put (fun d e=>dst_lt hd d e) ?_,hfr,cp.hs⟩
 exact rnT_vr hk hk.n5 fzOut cp.res ((hz res ob' cp.ok).imp id fun h=>h.1)
end Go.Own
namespace Go.Own
variable {P:Program}{tt:Nat→Option TI}{w0:World}{β0:Blk}{st st':St}{β:Blk}{a:Act}{w w':World}{o:Oper}{T:List Nat}[Laid]
section
variable {ops:Array Oper}{Q:Exit→Act→World→Prop}{md:Region.Mode}{E:List Nat}
def ZSame(Z:Nat→Prop)(w w':World):Prop:=∀b,Z b→w'.heap[b]?=w.heap[b]?
def wpAnyZ(P:Program)(md:Region.Mode)(ops:Array Oper)(Q:Exit→Act→World→Prop)(E:List Nat):Nat→Array Bool→(Nat→Prop)→Act→World→Prop
 |0,listed,_,a,w=>Region.ready md ops listed=[]∧Q .normal a w
 |fuel+1,listed,Z,a,w =>
  (Region.ready md ops listed=[]→Q .normal a w) ∧
  ∀i∈Region.ready md ops listed,wpOp P ops Q i (fun a' w'=>∃Z',(i∈E∨(ZSame Z w w'∧∀b,Z b→Z' b))∧wpAnyZ P md ops Q E fuel (listed.setIfInBounds i true) Z' a' w') a w
theorem wpAnyZ_first{i:Nat}{oi:Oper}{v:Value}(hi:ops[i]?=some oi)(hsel:∀(j:Nat) (o:Oper) cs b,ops[j]?=some o→o.op≠.select cs b)
  (hQ:∀c a w,Q (.panic c) (a.put oi.dst v) w→Q (.panic c) a w) :
  ∀(fuel:Nat) (listed:Array Bool) (Z:Nat→Prop) (a:Act) (w:World),(∀j oj,ops[j]?=some oj→j≠i→listed.getD j true=false→(∀e∈oj.after,Region.binds md e=true→e.on≠i)→oi.apart ops oj=true) →
   (∀e,e∈E→listed.getD e true=false→∃oe,ops[e]?=some oe∧∃x∈oe.after,Region.binds md x=true∧x.on=i) →
   i∈Region.ready md ops listed→YieldsIf P ops (ZSame Z w) oi v a →
   wpAnyZ P md ops Q E fuel (listed.setIfInBounds i true) Z (a.put oi.dst v) w→wpAnyZ P md ops Q E (fuel+1) listed Z a w:=by
 intro fuel
 induction fuel with
 |zero =>
  intro listed Z a w _ _ hr hy H
  refine⟨fun h=>(by rw[h]at hr;cases hr),fun j hj=>?_⟩
  by_cases hji:j=i
  ·subst hji;exact hy.wpOp hi (fun b _=>rfl) ⟨Z,.inr ⟨fun b _=>rfl,fun b h=>h⟩,H⟩
  ·have:=ready_mono hj hji
   rw[H.1]at this
   cases this
 |succ fuel ih =>
  intro listed Z a w hfree hE hr hy H
  refine⟨fun h=>(by rw[h]at hr;cases hr),fun j hj=>?_⟩
  by_cases hji:j=i
  ·subst hji;exact hy.wpOp hi (fun b _=>rfl) ⟨Z,.inr ⟨fun b _=>rfl,fun b h=>h⟩,H⟩
  ·have h1:=H.2 j (ready_mono hj hji)
   obtain⟨hjun,oj,hoj,hall⟩:=mem_ready.1 hj
   have hnot:∀e∈oj.after,Region.binds md e=true→e.on≠i:=fun e he hb heq=>by
    have h1:=hall e he hb
    have h0:=(mem_ready.1 hr).1
    rw[heq]at h1
    rcases Nat.lt_or_ge i listed.size with h'|h'
    ·simp[h']at h0 h1;rw[h0]at h1;cases h1
    ·simp[Array.getElem?_eq_none h']at h1
   have hjE:j∉E:=fun hm=>by
    obtain⟨oe,h2,x,hx,hb,he⟩:=hE j hm hjun
    rw[hoj]at h2
    injection h2 with h2
    subst h2
    exact hnot x hx hb he
   have h2:=wpOp_putIf hoj (hfree j oj hoj hji hjun hnot) (fun cs b=>hsel i oi cs b hi) (fun cs b=>hsel j oj cs b hoj) hQ hy h1
   have hfree':∀k ok,ops[k]?=some ok→k≠i→(listed.setIfInBounds j true).getD k true=false →
     (∀e∈ok.after,Region.binds md e=true→e.on≠i)→oi.apart ops ok=true:=fun k ok hk hki hun hno=>by
    refine hfree k ok hk hki ?_ hno
    by_cases hjk:j=k
    ·subst hjk;exact hjun
    ·rw[getD_set_ne true hjk]at hun;exact hun
   refine wpOp_mono (fun a' w' h3=>?_) h2
   obtain⟨hyy,Z',hz,hrec⟩:=h3
   obtain⟨hz1,hz2⟩:=hz.resolve_left hjE
   refine⟨Z',.inr ⟨hz1,hz2⟩,ih (listed.setIfInBounds j true) Z' a' w' hfree' (fun e he hun=>hE e he ?_) (ready_mono hr (Ne.symm hji)) ?_ ?_⟩
   ·by_cases hje:j=e
    ·subst hje;exact hjun
    ·rw[getD_set_ne true hje]at hun;exact hun
   ·exact hyy.imp (fun ⟨q1,q2⟩=>⟨q1,fun w2 hw2=>q2 w2 fun b hb=>(hw2 b (hz2 b hb)).trans (hz1 b hb)⟩) id
   ·rw[Array.setIfInBounds_comm _ _ hji]
    exact hrec
end
def ZZ(T:List Nat)(β:Blk)(w:World):Nat→Prop:=fun b=>b<w.heap.size∧∀id p,β b=some (id,p)→id∉T
def HAny(P:Program)(ops:Array Oper)(E T:List Nat)(fuel:Nat)(listed:Array Bool)(st:St)(Ψ:St→Prop):Prop :=
 ∀w0 β0 β a w,RL w0 β0 st β a w→wpAnyZ P .any ops (post (norm Ψ) w0 β0) E fuel listed (ZZ T β w) a w
section
variable {ops:Array Oper}{E:List Nat}{fuel:Nat}{listed:Array Bool}{Ψ:St→Prop}
theorem HAny.done(h:Region.ready .any ops listed=[])(hΨ:Ψ st):HAny P ops E T fuel listed st Ψ:=fun w0 β0 β a w hr=>by
 cases fuel with
 |zero=>exact⟨h,st,β,⟨rfl,hΨ⟩,hr⟩
 |succ n=>exact⟨fun _=>⟨st,β,⟨rfl,hΨ⟩,hr⟩,by rw[h];simp⟩
def eOk(ops:Array Oper)(E:List Nat)(listed:Array Bool)(i:Nat):Bool :=
 E.all fun e=>listed.getD e true||match ops[e]? with
  |some oe=>oe.after.any fun x=>Region.binds .any x&&x.on==i
  |none=>false
theorem eOk_spec{i:Nat}(h:eOk ops E listed i=true):∀e,e∈E→listed.getD e true=false→∃oe,ops[e]?=some oe∧∃x∈oe.after,Region.binds .any x=true∧x.on=i:=fun e he hl=>by
 have:=List.all_eq_true.1 h e he
 rw[hl,Bool.false_or]at this
 split at this
 ·rename_i oe ho
  obtain⟨x,hx,hb⟩:=Array.any_eq_true'.1 this
  simp only[Bool.and_eq_true,beq_iff_eq]at hb
  exact⟨oe,ho,x,hx,hb.1,hb.2⟩
 ·simp at this
def takeOk(ops:Array Oper)(E:List Nat)(listed:Array Bool)(i:Nat):Bool :=
 Region.noSelect ops&&Region.free .any ops listed i&&(Region.ready .any ops listed).contains i&&eOk ops E listed i
theorem HAny.take{i:Nat}{v:AV}(ho:ops[i]?=some o)(hw:wantA ops st o=some true)(hd:dstOk st o=true)(hv:Val P o st v T)(hok:takeOk ops E listed i=true)
  (hk:HAny P ops E T fuel (listed.setIfInBounds i true) (putSt st o.dst v) Ψ):HAny P ops E T (fuel+1) listed st Ψ:=by
 intro w0 β0 β a w hr
 simp only[takeOk,Bool.and_eq_true]at hok
 obtain⟨⟨⟨k1,k2⟩,k3⟩,k4⟩:=hok
 obtain⟨u,hu,hvr⟩:=hv β a w hr.rel.ev hr.rel.uq hr.rel.ob
 refine wpAnyZ_first ho (Region.noSelect_spec k1) ?_ fuel listed _ a w (Region.free_spec ho k2) (eOk_spec k4) (by simpa using k3) (.inl ⟨want_of hr.rel hw,fun w2 hz=>hu w2 fun b hb hq=>hz b ⟨hb,hq⟩⟩) (hk w0 β0 β _ w (hr.put (dst_lt hd) hvr))
 rintro c a' w' ⟨s,β',⟨h,_⟩,_⟩
 cases h
theorem HAny.skip{i:Nat}(ho:ops[i]?=some o)(hw:wantA ops st o=some false)(hd:dstOk st o=true)(hok:takeOk ops E listed i=true)
  (hk:HAny P ops E T fuel (listed.setIfInBounds i true) (putSt st o.dst (.sc undef)) Ψ):HAny P ops E T (fuel+1) listed st Ψ:=by
 intro w0 β0 β a w hr
 simp only[takeOk,Bool.and_eq_true]at hok
 obtain⟨⟨⟨k1,k2⟩,k3⟩,k4⟩:=hok
 refine wpAnyZ_first (v:=undef) ho (Region.noSelect_spec k1) ?_ fuel listed _ a w (Region.free_spec ho k2) (eOk_spec k4) (by simpa using k3) (.inr ⟨want_of hr.rel hw,rfl⟩) (hk w0 β0 β _ w (hr.put (dst_lt hd) (.sc _)))
 rintro c a' w' ⟨s,β',⟨h,_⟩,_⟩
 cases h
def subB(T' T:List Nat):Bool:=T'.all fun x=>T.contains x
def HOne(P:Program)(ops:Array Oper)(E T:List Nat)(fuel:Nat)(listed:Array Bool)(st:St)(Ψ:St→Prop)(i:Nat):Prop :=
 ∃o T' Ψ',ops[i]?=some o∧wantA ops st o=some true∧Stp P o st T' Ψ'∧(E.contains i||subB T' T)=true∧∀s,Ψ' s→HAny P ops E T fuel (listed.setIfInBounds i true) s Ψ
theorem HAny.all{rs:List Nat}(hr:Region.ready .any ops listed=rs)(hne:rs≠[])(h:∀i,i∈rs→HOne P ops E T fuel listed st Ψ i):HAny P ops E T (fuel+1) listed st Ψ:=by
 intro w0 β0 β a w hrl
 refine⟨fun h0=>absurd (hr▸h0) hne,fun i hi=>?_⟩
 rw[hr]at hi
 obtain⟨o,T',Ψ',ho,hw,hs,hT,hk⟩:=h i hi
 unfold wpOp
 simp only[ho,want_of hrl.rel hw,if_true]
 refine .inl (Oper.wp_mono ?_ (hs w0 β0 β a w hrl _))
 rintro a' w' ⟨st',β',h1,h2,h3,h4⟩
 refine⟨ZZ T β' w',?_,hk st' h1 w0 β0 β' a' w' h2⟩
 rcases Bool.or_eq_true _ _ |>.mp hT with hT|hT
 ·exact .inl (by simpa using hT)
 ·have h3:=h3.mono (T':=T) (fun x hx=>by simpa using List.all_eq_true.1 hT x hx)
  exact .inr ⟨fun b hb=>(h3.to b hb.1 hb.2).2,fun b hb=>⟨Nat.lt_of_lt_of_le hb.1 h4,fun id p e=>hb.2 id p ((h3.to b hb.1 hb.2).1▸e)⟩⟩
theorem HAny.one{i:Nat}(hr:Region.ready .any ops listed=[i])(h:HOne P ops E T fuel listed st Ψ i):HAny P ops E T (fuel+1) listed st Ψ :=
 HAny.all hr (by simp) (fun j hj=>by simp only[List.mem_cons,List.not_mem_nil,or_false]at hj;exact hj▸h)
end
end Go.Own
namespace Go.Own
variable {P:Program}{tt:Nat→Option TI}{w0:World}{β0:Blk}{st st':St}{β:Blk}{a:Act}{w w':World}{o:Oper}{T:List Nat}[Laid]
def WPc(P:Program)(c:Code)(st:St)(Φ:Exit→St→Prop):Prop :=
 ∀w0 β0 β a w,RL w0 β0 st β a w→c.wp P (post Φ w0 β0) a w
theorem WPc.mono{c:Code}{Φ Φ':Exit→St→Prop}(h:WPc P c st Φ)(hΦ:∀e s,Φ e s→Φ' e s):WPc P c st Φ':=fun w0 β0 β a w hr =>
 wp_mono (h w0 β0 β a w hr) fun e a w ⟨s,β',h1,h2⟩=>⟨s,β',hΦ e s h1,h2⟩
def seqP(Ψ:St→Prop)(Φ:Exit→St→Prop):Exit→St→Prop
 |.normal,s=>Ψ s
 |e,s=>Φ e s
def blkP(id:Nat)(Φ:Exit→St→Prop):Exit→St→Prop
 |.exit i,s=>if i=id then Φ .normal s else Φ (.exit i) s
 |e,s=>Φ e s
theorem WPc.skip{Φ:Exit→St→Prop}(h:Φ .normal st):WPc P .skip st Φ:=fun w0 β0 β a w hr=>wp_skip ⟨st,β,h,hr⟩
theorem WPc.exit{id:Nat}{Φ:Exit→St→Prop}(h:Φ (.exit id) st):WPc P (.exit id) st Φ:=fun w0 β0 β a w hr=>wp_exit ⟨st,β,h,hr⟩
theorem WPc.ret{Φ:Exit→St→Prop}(h:Φ .ret st):WPc P .ret st Φ:=fun w0 β0 β a w hr=>wp_ret ⟨st,β,h,hr⟩
theorem WPc.seq{x y:Code}{Ψ:St→Prop}{Φ:Exit→St→Prop}(hx:WPc P x st (seqP Ψ Φ))(hy:∀s,Ψ s→WPc P y s Φ):WPc P (.seq x y) st Φ:=fun w0 β0 β a w hr =>
 wp_seq (wp_mono (hx w0 β0 β a w hr) fun e a w ⟨s,β',h1,h2⟩=>by
  cases e with
  |normal=>exact hy s h1 w0 β0 β' a w h2
  |_=>exact⟨s,β',h1,h2⟩)
theorem WPc.block{id:Nat}{c:Code}{Φ:Exit→St→Prop}(h:WPc P c st (blkP id Φ)):WPc P (.block id c) st Φ:=fun w0 β0 β a w hr =>
 wp_block (wp_mono (h w0 β0 β a w hr) fun e a w ⟨s,β',h1,h2⟩=>by
  cases e with
  |exit i =>
   simp only[blkP]at h1
   simp only[Exit.inBlock]
   split
   ·rename_i hi;rw[if_pos hi]at h1;exact⟨s,β',h1,h2⟩
   ·rename_i hi;rw[if_neg hi]at h1;exact⟨s,β',h1,h2⟩
  |_=>exact⟨s,β',h1,h2⟩)
theorem WPc.cond{c:Operand}{x y:Code}{b:Bool}{Φ:Exit→St→Prop}(hc:ev st c=.sc (.bool b))(ht:b=true→WPc P x st Φ)(hf:b=false→WPc P y st Φ):WPc P (.cond c x y) st Φ:=fun w0 β0 β a w hr=>by
 have hv:=hr.rel.ev c
 rw[hc]at hv
 exact wp_cond_split hv.sc_inv (fun h=>ht h w0 β0 β a w hr) (fun h=>hf h w0 β0 β a w hr)
theorem WPc.region{id:Nat}{ops:Array Oper}{Φ:Exit→St→Prop}(h:WPL P ops ops.toList st (Φ .normal)):WPc P (.region id ops false) st Φ:=fun w0 β0 β a w hr =>
 wp_mono (wp_region_list (h w0 β0 β a w hr)) fun e a w ⟨s,β',⟨he,h1⟩,h2⟩=>⟨s,β',he▸h1,h2⟩
theorem RL.drew(h:RL w0 β0 st β a w):RL w0 β0 st β a { w with drawn:=w.drawn+1 }:=
 h.next (T:=[]) (st':=st) (a':=a) (w':={ w with drawn:=w.drawn+1 }) h.rel.drew ⟨fun _ _ _=>⟨rfl,rfl⟩,fun _ _ _ h _=>h⟩ rfl
theorem FR.len{av:Nat→Prop}{xs:List (List C)}{u:Value}(h:FR av w (.fz xs) u):xs.length≤maxLen:=by
 cases h with
 |fzE=>simp
 |fzN _ _ _ _ _ _ _ _ _ _ hl=>exact Nat.le_trans hl.1 hl.2
theorem WPc.len{c:Code}{Φ:Exit→St→Prop}(t:Nat){xs:List (List C)}(ht:lk st.tm t=.fz xs)(h:xs.length≤9223372036854775807→WPc P c st Φ):WPc P c st Φ:=fun w0 β0 β a w hr=>by
 have hv:=hr.rel.tm t
 rw[ht]at hv
 generalize a.tmps.getD t (st.G t)=u at hv
 cases hv with
 |fz _ _ hf=>exact h hf.len w0 β0 β a w hr
def Fit0(v v':AV):Prop:=v=v'∨v'=.un∨(v=.sc (.slice none 0 0)∧v'=.fz [])
def FitL:List AV→List AV→Prop
 |[],[]=>True
 |v::vs,v'::vs'=>Fit0 v v'∧FitL vs vs'
 |_,_=>False
def Fit(v v':AV):Prop :=
 Fit0 v v'∨match v,v' with
  |.agg cs,.agg cs'=>FitL cs cs'
  |_,_=>False
theorem Fit0.vr{v v':AV}{u:Value}(h:Fit0 v v')(hv:VR β w v u):VR β w v' u:=by
 rcases h with rfl|rfl|⟨rfl,rfl⟩
 ·exact hv
 ·exact .un _
 ·rw[hv.sc_inv];exact .fz _ _ (.fzE _ _)
theorem FitL.get:∀{xs ys:List AV} (_:FitL xs ys),ys.length=xs.length∧∀(n:Nat) (y:AV),ys[n]?=some y→∃x,xs[n]?=some x∧Fit0 x y
 |[],[],_=>by simp
 |x::xs,y::ys,h=>by
  obtain⟨g1,g2⟩:=FitL.get h.2
  refine⟨by simp[g1],fun n z hz=>?_⟩
  cases n with
  |zero=>simp only[List.getElem?_cons_zero,Option.some.injEq]at hz;subst hz;exact⟨x,rfl,h.1⟩
  |succ n=>exact g2 n z (by simpa using hz)
 |[],_::_,h=>h.elim
 |_::_,[],h=>h.elim
theorem Fit.vr{v v':AV}{u:Value}(h:Fit v v')(hv:VR β w v u):VR β w v' u:=by
 rcases h with h|h
 ·exact h.vr hv
 ·split at h
  ·rename_i cs cs'
   obtain⟨us,f,g1,g2,g3,g4,rfl⟩:=hv.agg_inv
   obtain⟨k1,k2⟩:=h.get
   refine .agg cs' us f (k1.trans g1) (fun n y hn=>?_) (fun n y hn=>?_) (fun n y hn=>?_)
   all_goals obtain⟨x,hx,hf⟩:=k2 n y hn
   ·exact g2 n x hx
   ·exact g3 n x hx
   ·exact hf.vr (g4 n x hx)
  ·exact h.elim
def FitC(x y:C):Prop:=x=y∨y=.no∨(x=.sc (.slice none 0 0)∧y=.fz [])
def FitR:List C→List C→Prop
 |[],[]=>True
 |x::xs,y::ys=>FitC x y∧FitR xs ys
 |_,_=>False
def FitRs:List (List C)→List (List C)→Prop
 |[],[]=>True
 |x::xs,y::ys=>FitR x y∧FitRs xs ys
 |_,_=>False
theorem FitR.get:∀{xs ys:List C} (_:FitR xs ys),ys.length=xs.length∧∀(n:Nat) (y:C),ys[n]?=some y→∃x,xs[n]?=some x∧FitC x y
 |[],[],_=>by simp
 |x::xs,y::ys,h=>by
  obtain⟨g1,g2⟩:=FitR.get h.2
  refine⟨by simp[g1],fun n z hz=>?_⟩
  cases n with
  |zero=>simp only[List.getElem?_cons_zero,Option.some.injEq]at hz;subst hz;exact⟨x,rfl,h.1⟩
  |succ n=>exact g2 n z (by simpa using hz)
 |[],_::_,h=>h.elim
 |_::_,[],h=>h.elim
theorem FitRs.get:∀{xs ys:List (List C)} (_:FitRs xs ys),ys.length=xs.length∧∀(n:Nat) (y:List C),ys[n]?=some y→∃x,xs[n]?=some x∧FitR x y
 |[],[],_=>by simp
 |x::xs,y::ys,h=>by
  obtain⟨g1,g2⟩:=FitRs.get h.2
  refine⟨by simp[g1],fun n z hz=>?_⟩
  cases n with
  |zero=>simp only[List.getElem?_cons_zero,Option.some.injEq]at hz;subst hz;exact⟨x,rfl,h.1⟩
  |succ n=>exact g2 n z (by simpa using hz)
 |[],_::_,h=>h.elim
 |_::_,[],h=>h.elim
theorem FitC.cv{id:Nat}{p:Pth}{i j:Nat}{x y:C}{u:Value}(h:FitC x y)(hv:CV β w id p i j x u):CV β w id p i j y u:=by
 rcases h with rfl|rfl|⟨rfl,rfl⟩
 ·exact hv
 ·exact hv.one
 ·obtain⟨rfl,_⟩:=hv;exact .fzE _ _
def FitE(es es':List (List C)):Prop:=es=es'∨FitRs es es'
theorem FitRs.sub{id e k:Nat}{q:Pth}{es es':List (List C)}(h:FitRs es es')(hs:SubR β w id q e k es):SubR β w id q e k es':=by
 obtain⟨l1,g1⟩:=h.get
 intro s e' k' row hn
 cases s with
 |nil =>
  simp only[nav,Option.some.injEq,Prod.mk.injEq]at hn
  obtain⟨rfl,rfl,rfl⟩:=hn
  obtain⟨h0,hr⟩:=hs [] e k es rfl
  refine⟨h0,?_⟩
  rcases hr with ⟨rfl,hn⟩|⟨b,cap,cur,q1,q2,q3,q4,q5,q6,q7,q8⟩
  ·exact .inl ⟨List.eq_nil_of_length_eq_zero (by simpa using l1),hn⟩
  ·refine .inr ⟨b,cap,cur,q1,q2,by omega,q4,q5,?_⟩
   rw[l1]
   refine⟨by rw[q6,l1],fun r hr=>?_,fun i j r x hi hj=>?_⟩
   ·obtain⟨m,hm⟩:=List.mem_iff_getElem?.1 hr
    obtain⟨r0,hr0,hf⟩:=g1 m r hm
    rw[hf.get.1]
    exact q7 r0 (List.mem_of_getElem? hr0)
   ·obtain⟨r0,hr0,hf⟩:=g1 i r hi
    obtain⟨x0,hx0,hfx⟩:=hf.get.2 j x hj
    obtain⟨u,hu,hv⟩:=q8 i j r0 x0 hr0 hx0
    exact⟨u,hu,hfx.cv hv⟩
 |cons ij s =>
  obtain⟨i,j⟩:=ij
  obtain⟨r,e1,k1,xs,hi,hj,hn⟩:=nav_cons hn
  obtain⟨r0,hr0,hf⟩:=g1 i r hi
  obtain⟨x0,hx0,hfx⟩:=hf.get.2 j _ hj
  rcases hfx with rfl|hfx|⟨_,hfx⟩
  ·exact hs ((i,j)::s) e' k' row (by rw[nav_mk hr0 hx0];exact hn)
  ·simp at hfx
  ·simp at hfx
theorem FitE.sub{id e k:Nat}{q:Pth}{es es':List (List C)}(h:FitE es es')(hs:SubR β w id q e k es):SubR β w id q e k es':=by
 rcases h with rfl|h
 ·exact hs
 ·exact h.sub hs
def FitT(st:St):List (Nat×AV)→Prop
 |[]=>True
 |(t,v)::r=>Fit (lk st.tm t) v∧FitT st r
def FitO(st:St):List (Nat×Root)→Prop
 |[]=>True
 |(i,e,k,es)::r=>(∃es0,lo st.ob i=some (e,k,es0)∧FitE es0 es)∧FitO st r
structure FitS(st st':St):Prop where
 nt:st'.nt=st.nt
 G:st'.G=st.G
 tm:FitT st st'.tm
 ob:FitO st st'.ob
theorem FitT.get:∀{tm:List (Nat×AV)} (_:FitT st tm) (t:Nat),Fit (lk st.tm t) (lk tm t)
 |[],_,t=>.inl (.inr (.inl rfl))
 |(k,v)::r,h,t=>by
  simp only[lk]
  split
  ·rename_i e;subst e;exact h.1
  ·exact FitT.get h.2 t
theorem FitO.get:∀{ob:List (Nat×Root)} (_:FitO st ob) {i e k:Nat} {es:List (List C)} (_:lo ob i=some (e,k,es)),∃es0,lo st.ob i=some (e,k,es0)∧FitE es0 es
 |[],_,i,e,k,es,h=>by simp[lo]at h
 |(i0,e0,k0,es0)::r,h,i,e,k,es,hl=>by
  simp only[lo]at hl
  split at hl
  ·rename_i e1
   injection hl with hl;injection hl with e2 hl;injection hl with e3 e4
   subst e1 e2 e3 e4
   exact h.1
  ·exact FitO.get h.2 hl
theorem RL.fit(h:RL w0 β0 st β a w)(hf:FitS st st'):RL w0 β0 st' β a w :=
 h.same { h.rel with
  nt:=by rw[hf.nt];exact h.rel.nt
  tm:=fun t=>by rw[hf.G];exact(hf.tm.get t).vr (h.rel.tm t)
  ob:=fun id e k es hl=>by
   obtain⟨es0,h1,h2⟩:=hf.ob.get hl
   exact h2.sub (h.rel.ob id e k es0 h1) }
theorem WPc.fit{c:Code}{Φ:Exit→St→Prop}(hf:FitS st st')(h:WPc P c st' Φ):WPc P c st Φ:=fun w0 β0 β a w hr=>h w0 β0 β a w (hr.fit hf)
theorem least{p:Nat→Prop}(h:∃n,p n):∃n,p n∧∀m,p m→n≤m:=by
 obtain⟨n,hn⟩:=h
 induction n using Nat.strongRecOn with
 |_ n ih =>
  by_cases hx:∃m,m<n∧p m
  ·obtain⟨m,h1,h2⟩:=hx;exact ih m h1 h2
  ·exact⟨n,hn,fun m hm=>Nat.le_of_not_lt fun hlt=>hx ⟨m,hlt,hm⟩⟩
theorem WPc.loop{c:Code}{Φ:Exit→St→Prop}(I:Nat→St→Prop){n:Nat}{s0:St}(hI:I n s0)(hf:FitS st s0)
  (h:∀n s,I n s→WPc P c s (seqP (fun s'=>∃m s1,m<n∧I m s1∧FitS s' s1) Φ)):WPc P (.loop c) st Φ:=by
 intro w0 β0 β a w hr
 let J:Nat→Act→World→Prop:=fun n a w=>∃s β,I n s∧RL w0 β0 s β a w
 have hJ:J n a w:=⟨s0,β,hI,hr.fit hf⟩
 let μ:Act→World→Nat:=fun a w=>haveI:=Classical.propDecidable;if h:∃n,J n a w then Classical.choose (least h) else 0
 refine wp_loop (fun a w=>∃n,J n a w) μ ⟨n,hJ⟩ fun a w hI=>?_
 have hmin:∃s β,I (μ a w) s∧RL w0 β0 s β a w:=by
  have:μ a w=Classical.choose (least hI):=by simp only[μ];rw[dif_pos hI]
  rw[this]
  exact(Classical.choose_spec (least hI)).1
 obtain⟨s,β1,h1,h2⟩:=hmin
 refine wp_mono (h _ s h1 w0 β0 β1 a w h2) fun e a' w' ⟨s',β',h3,h4⟩=>?_
 cases e with
 |normal =>
  obtain⟨m,s1,hm,hIm,hfit⟩:=h3
  have hJm:J m a' w':=⟨s1,β',hIm,h4.fit hfit⟩
  refine⟨⟨m,hJm⟩,?_⟩
  have hex:∃n,J n a' w':=⟨m,hJm⟩
  have:μ a' w'=Classical.choose (least hex):=by simp only[μ];rw[dif_pos hex]
  show μ a' w'<μ a w
  rw[this]
  exact Nat.lt_of_le_of_lt ((Classical.choose_spec (least hex)).2 m hJm) hm
 |_=>exact⟨s',β',h3,h4⟩
end Go.Own
namespace Go.Own
variable {P:Program}{tt:Nat→Option TI}{w0:World}{β0:Blk}{st st':St}{β:Blk}{a:Act}{w w':World}{o:Oper}{T:List Nat}[Laid]
def tmOf:Nat→List AV→List (Nat×AV)
 |_,[]=>[]
 |s,v::vs=>(s,v)::tmOf (s+1) vs
theorem lk_tmOf:∀(vs:List AV) (s t:Nat) (rest:List (Nat×AV)),lk (tmOf s vs++rest) t=if s≤t∧t<s+vs.length then (vs[t-s]?).getD .un else lk rest t
 |[],s,t,rest=>by
  simp only[tmOf,List.nil_append,List.length_nil]
  rw[if_neg (by omega)]
 |v::vs,s,t,rest=>by
  simp only[tmOf,List.cons_append,lk,List.length_cons]
  by_cases h:s=t
  ·subst h
   rw[if_pos rfl,if_pos (by omega)]
   simp
  ·rw[if_neg h,lk_tmOf vs (s+1) t rest]
   by_cases h2:s+1≤t∧t<s+1+vs.length
   ·rw[if_pos h2,if_pos (by omega)]
    obtain⟨k,hk⟩:∃k,t-s=k+1:=⟨t-s-1,by omega⟩
    rw[hk,List.getElem?_cons_succ,show t-(s+1)=k by omega]
   ·rw[if_neg h2,if_neg (by omega)]
def entSt(nt:Nat)(G:Nat→Value)(ins:List AV)(ob:List (Nat×Root)):St:={ nt:=nt,G:=G,tm:=tmOf 0 ins++tmOf nt ins,ob:=ob }
def resV(tt:Nat→Option TI)(st:St):ResultVar→Option AV
 |.tmp t=>some (ev st (.tmp t))
 |.cell x t=>loadA tt st t (ev st (.tmp x))
def resVs(tt:Nat→Option TI)(st:St):List ResultVar→Option (List AV)
 |[]=>some []
 |r::rs=>match resV tt st r,resVs tt st rs with
  |some v,some vs=>some (v::vs)
  |_,_=>none
def resA(tt:Nat→Option TI)(st:St)(rs:List ResultVar):Option AV :=
 match resVs tt st rs with
 |some [v]=>some v
 |some vs=>some (.tup vs)
 |none=>none
theorem resV_run(tok:TOk P tt)(hr:Rel w0 β0 st β a w){r:ResultVar}{v:AV}(h:resV tt st r=some v)(f:ResultVar→Sem Value)(hf:∀u,f (.tmp u)=pure (a.tmps.getD u undef))(hc:∀x t,f (.cell x t)=(do loadVar t (←asAddr (a.tmps.getD x undef)))) :
  ∃u,(f r).run P w=.ok u w∧VR β w v u:=by
 cases r with
 |tmp t =>
  simp only[resV,Option.some.injEq]at h
  subst h
  exact⟨_,by rw[hf];rfl,hr.ev (.tmp t)⟩
 |cell x t =>
  simp only[resV]at h
  obtain⟨u,hu,hv⟩:=sound_load (T:=[]) (o:={ dst:=none,op:=.load t (.tmp x),type:=t,pos := "",after:=#[],guard:=none }) tok rfl h (fun _ _ _ _ _ _ h=>by simp at h) β a w hr.ev hr.uq hr.ob
  refine⟨u,?_,hv⟩
  have hrun:=hu w .refl
  have hx:=hr.ev (.tmp x)
  have hptr:∃ad,a.eval (.tmp x)=.pointer (some ad):=by
   unfold loadA at h
   split at h
   ·simp at h
   ·split at h
    ·rename_i h1
     rw[h1]at hx
     obtain⟨b,_,_,_,_,e⟩:=hx.ptr_inv
     exact⟨_,e⟩
    ·rename_i h1
     rw[h1]at hx
     obtain⟨b,o,_,_,_,_,_,e⟩:=hx.fp_inv
     exact⟨_,e⟩
    ·simp at h
  obtain⟨ad,had⟩:=hptr
  simp only[execOp,had,Instr.loadAt,Instr.sureAddr,Sem.run_bind,Sem.run_pure,Result.andThen_ok]at hrun
  rw[hc]
  have had2:a.tmps.getD x undef=.pointer (some ad):=had
  rw[had2]
  simp only[asAddr,Sem.run_bind,Sem.run_pure,Result.andThen_ok]
  generalize hg:(loadVar t ad).run P w=z at hrun
  cases z with
  |ok v1 w1 =>
   simp only[Result.andThen_ok,Result.ok.injEq,Next.value.injEq]at hrun
   obtain⟨rfl,rfl⟩:=hrun
   rfl
  |halt=>simp[Result.andThen]at hrun
theorem resVs_run(tok:TOk P tt)(hr:Rel w0 β0 st β a w)(f:ResultVar→Sem Value)(hf:∀u,f (.tmp u)=pure (a.tmps.getD u undef))(hc:∀x t,f (.cell x t)=(do loadVar t (←asAddr (a.tmps.getD x undef)))) :
  ∀{rs:List ResultVar} {vs:List AV} (_:resVs tt st rs=some vs),∃us,(rs.mapM f).run P w=.ok us w∧us.length=vs.length∧∀(n:Nat) (v:AV),vs[n]?=some v→∃u,us[n]?=some u∧VR β w v u
 |[],vs,h=>by
  simp only[resVs,Option.some.injEq]at h
  subst h
  exact⟨[],by simp,rfl,fun n v h=>by simp at h⟩
 |r::rs,vs,h=>by
  simp only[resVs]at h
  split at h
  ·rename_i v vs' h1 h2
   injection h with h
   subst h
   obtain⟨u,g1,g2⟩:=resV_run tok hr h1 f hf hc
   obtain⟨us,g3,g4,g5⟩:=resVs_run tok hr f hf hc h2
   refine⟨u::us,?_,by simp[g4],fun n v hn=>?_⟩
   ·rw[List.mapM_cons]
    simp[g1,g3]
   ·cases n with
    |zero=>simp only[List.getElem?_cons_zero,Option.some.injEq]at hn;subst hn;exact⟨u,rfl,g2⟩
    |succ n=>simpa using g5 n v (by simpa using hn)
  ·simp at h
theorem resA_aux(tok:TOk P tt)(hr:Rel w0 β0 st β a w)(f:ResultVar→Sem Value)(hf:∀u,f (.tmp u)=pure (a.tmps.getD u undef))(hc:∀x t,f (.cell x t)=(do loadVar t (←asAddr (a.tmps.getD x undef))))
  {rs:Array ResultVar} {v:AV} (h:resA tt st rs.toList=some v):∃u,(do let vs ←rs.mapM f;pure (if h:vs.size=1 then vs[0] else .tuple vs):Sem Value).run P w=.ok u w∧VR β w v u:=by
 have hres:rs=rs.toList.toArray:=by simp
 rw[hres,List.mapM_toArray]
 simp only[Sem.run_bind,Sem.run_map]
 unfold resA at h
 split at h
 ·rename_i v0 hvs
  injection h with h
  subst h
  obtain⟨us,g1,g2,g3⟩:=resVs_run tok hr f hf hc hvs
  rw[g1]
  match us,g2 with
  |[u],_ =>
   obtain⟨u',hu,hv⟩:=g3 0 v0 rfl
   simp only[List.getElem?_cons_zero,Option.some.injEq]at hu
   subst hu
   exact⟨u,by simp,hv⟩
 ·rename_i vs hne hvs
  injection h with h
  subst h
  obtain⟨us,g1,g2,g3⟩:=resVs_run tok hr f hf hc hvs
  rw[g1]
  refine⟨.tuple us.toArray,?_,?_⟩
  ·have:us.length≠1:=fun hl=>by
    match vs,(show vs.length=1 by omega) with
    |[x],_=>exact hne x rfl
   simp[this]
  ·refine .tup vs us.toArray (fun n=>(us[n]?).getD undef) (by simp[g2]) (fun n x hn=>?_) (fun n x hn=>?_)
   all_goals obtain⟨u,hu,hv⟩:=g3 n x hn
   ·simp[hu]
   ·rw[hu];exact hv
 ·simp at h
theorem resA_run(tok:TOk P tt)(hr:Rel w0 β0 st β a w){fn:Func}{v:AV}(h:resA tt st fn.results.toList=some v):∃u,(results fn a.tmps).run P w=.ok u w∧VR β w v u:=by
 unfold results
 exact resA_aux tok hr _ (fun _=>rfl) (fun _ _=>rfl) h
def endP(tt:Nat→Option TI)(nt:Nat)(rs:List ResultVar)(G:Nat→Value)(ins:List AV)(keep:List Nat)(Φ:AV→List (Nat×Root)→Prop)(e:Exit)(s:St):Prop :=
 (e=.normal∨e=.ret)∧s.nt=nt∧s.G=G∧∃r res ob',resA tt s rs=some r∧Fit r res∧FitO s ob'∧Φ res ob'∧∀i,i∈keep→∀v,ins[i]?=some v→lk s.tm (nt+i)=v
theorem Con.of(tok:TOk P tt){f:Nat}{fn:Func}{c:Code}{ins:List AV}{ob:List (Nat×Root)}{keep:List Nat}{Φ:AV→List (Nat×Root)→Prop}
  {nt:Nat} {rs:List ResultVar} (hf:P.funcs[f]?=some fn) (hn:(fn.name == "runtime.NumGoroutine")=false) (hb:fn.body=some c) (hnt:fn.ntmps=nt) (hrs:fn.results.toList=rs) (hl:ins.length≤nt)
  (h:∀G,WPc P c (entSt nt G ins ob) (endP tt nt rs G ins keep Φ)):Con P f ins ob keep Φ:=by
 subst hnt hrs
 refine⟨⟨fn,hf,hn,by rw[hb];rfl⟩,fun β w args hlw hsz hargs hob huq hlt=>?_⟩
 refine calls_of_wp hf hb (wp_mono (h (fun t=>args.getD (t-fn.ntmps) undef) w β β { tmps:=args++Array.replicate (fn.ntmps-args.size) undef,defers:=[] } w ?_) ?_)
 ·refine⟨{ nt:=?_,df:=rfl,tm:=fun t=>?_,ob:=hob,uq:=huq,lt:=hlt,fr:=fun _ _ _=>rfl,old:=fun b x hb _=>by rw[hb];simp,hs:=Nat.le_refl _,os:=rfl,tape:=rfl,output:=rfl },hlw,fun b _ id p hb _=>⟨hb,rfl⟩,fun _ _ _ h _=>h,hlt⟩
  ·simp only[entSt,Array.size_append,Array.size_replicate]
   omega
  ·simp only[entSt]
   rw[lk_tmOf]
   split
   ·rename_i ht
    rw[Nat.sub_zero]
    have hi:t<ins.length:=by omega
    have:=hargs t _ (List.getElem?_eq_getElem hi)
    rw[List.getElem?_eq_getElem hi,Option.getD_some]
    have e:(args++Array.replicate (fn.ntmps-args.size) undef).getD t (args.getD (t-fn.ntmps) undef)=args.getD t undef:=by
     simp only[Array.getD_eq_getD_getElem?]
     rw[Array.getElem?_append_left (by omega)]
     rw[Array.getElem?_eq_getElem (by omega)]
     rfl
    rw[e]
    exact this
   ·rename_i ht
    have:=lk_tmOf ins fn.ntmps t []
    rw[List.append_nil]at this
    rw[this]
    split
    ·rename_i ht2
     have hi:t-fn.ntmps<ins.length:=by omega
     have:=hargs (t-fn.ntmps) _ (List.getElem?_eq_getElem hi)
     rw[List.getElem?_eq_getElem hi,Option.getD_some]
     have e:(args++Array.replicate (fn.ntmps-args.size) undef).getD t (args.getD (t-fn.ntmps) undef)=args.getD (t-fn.ntmps) undef:=by
      rw[Array.getD_eq_getD_getElem?,Array.getElem?_eq_none (by simp;omega)]
      rfl
     rw[e]
     exact this
    ·exact .un _
 ·rintro e a' w' ⟨s,β',⟨he,hnt,hG,r,res,ob',h1,h2,h3,h4,h5⟩,hrl⟩
  obtain⟨u,hu,hv⟩:=resA_run tok hrl.rel h1
  have keepOf:∀i,i∈keep→∀v,ins[i]?=some v→VR β' w' v (args.getD i undef):=fun i hi v hv=>by
   have:=hrl.rel.tm (fn.ntmps+i)
   rw[h5 i hi v hv,hG,Array.getD_eq_getD_getElem?,Array.getElem?_eq_none (by rw[hrl.rel.nt,hnt];omega)]at this
   simpa using this
  have hcp:ConPost β w ins args keep Φ u w' res ob' β' :=
   { ok:=h4,res:=h2.vr hv,ob:=fun id e k es hl=>by obtain⟨es0,q1,q2⟩:=h3.get hl;exact q2.sub (hrl.rel.ob id e k es0 q1),uq:=hrl.rel.uq,lt:=hrl.rel.lt,keep:=keepOf,fr:=hrl.rel.fr,old:=hrl.rel.old,hs:=hrl.rel.hs,os:=hrl.rel.os,tape:=hrl.rel.tape,output:=hrl.rel.output,to:=fun b id p hb hd=>hrl.to b (hlt b _ hb) id p hb hd,back:=hrl.back }
  rcases he with rfl|rfl<;>exact⟨hrl.rel.df,u,hu,u,res,ob',β',rfl,hcp⟩
end Go.Own
namespace Go.Own
variable {P:Program}{tt:Nat→Option TI}{w0:World}{β0:Blk}{st st':St}{β:Blk}{a:Act}{w w':World}{o:Oper}{T:List Nat}[Laid]
def frz0(st:St)(id:Nat):AV→AV
 |.sl i k p off len=>if i=id then (match rowA st i p with
  |some (_,k',row)=>if k'=k∧off+len≤row.length then .fz (dzLL ((row.drop off).take len)) else .un
  |none=>.un) else .sl i k p off len
 |.ptr i k p x y=>if i=id then (match rowA st i p with
  |some (_,k',row)=>match row[x]? with
   |some r=>if k'=k then .fp (dzL (r.drop y)) else .un
   |none=>.un
  |none=>.un) else .ptr i k p x y
 |.agg _=>.un
 |.tup _=>.un
 |v=>v
def frz1(st:St)(id:Nat):AV→AV
 |.agg cs=>.agg (cs.map (frz0 st id))
 |v=>frz0 st id v
def frzT(st:St)(id:Nat):AV→AV
 |.tup cs=>.tup (cs.map (frz1 st id))
 |v=>frz1 st id v
def frzSt(st:St)(id:Nat):St:={ st with tm:=st.tm.map (fun x=>(x.1,frzT st id x.2)),ob:=delO st.ob id }
theorem WPL.fit{ops:Array Oper}{l:List Oper}{Ψ:St→Prop}(hf:FitS st st')(h:WPL P ops l st' Ψ):WPL P ops l st Ψ:=fun w0 β0 β a w hr=>h w0 β0 β a w (hr.fit hf)
def adoptSt(st:St)(t nid e k:Nat):St :=
 { st with tm:=putT (killT (fun i _=>i==nid) st.tm) t (.sl nid k [] 0 0),ob:=putO st.ob nid (e,k,[]) }
theorem RL.adopt(h:RL w0 β0 st β a w){t nid e k:Nat}(ht:t<st.nt)(hv:lk st.tm t=.sc (.slice none 0 0))(h0:0<k)(hd:below [nid]=true):RL w0 β0 (adoptSt st t nid e k) (bare nid β) a w:=by
 obtain⟨g1,g2⟩:=h.rel.nilRoot nid e k h0
 have hval:=h.rel.tm t
 rw[hv]at hval
 have hval:=hval.sc_inv
 refine h.next ?_ bare_fr hd
 have htm:∀t',VR (bare nid β) w (lk (adoptSt st t nid e k).tm t') (a.tmps.getD t' ((adoptSt st t nid e k).G t')):=fun t'=>by
  simp only[adoptSt,lk_put]
  split
  ·rename_i e
   subst e
   rw[hval]
   exact g2
  ·exact g1.tm t'
 exact{ g1 with tm:=htm }
theorem WPc.adopt{c:Code}{Φ:Exit→St→Prop}(t nid e k:Nat)(ht:t<st.nt)(hv:lk st.tm t=.sc (.slice none 0 0))(h0:0<k)(hd:below [nid]=true)(h:WPc P c (adoptSt st t nid e k) Φ):WPc P c st Φ :=
 fun w0 β0 β a w hr=>h w0 β0 _ a w (hr.adopt ht hv h0 hd)
def Fits:List AV→List AV→Prop
 |[],[]=>True
 |v::vs,v'::vs'=>Fit v v'∧Fits vs vs'
 |_,_=>False
theorem Fits.get:∀{xs ys:List AV} (_:Fits xs ys),ys.length=xs.length∧∀(n:Nat) (y:AV),ys[n]?=some y→∃x,xs[n]?=some x∧Fit x y
 |[],[],_=>by simp
 |x::xs,y::ys,h=>by
  obtain⟨g1,g2⟩:=Fits.get h.2
  refine⟨by simp[g1],fun n z hz=>?_⟩
  cases n with
  |zero=>simp only[List.getElem?_cons_zero,Option.some.injEq]at hz;subst hz;exact⟨x,rfl,h.1⟩
  |succ n=>exact g2 n z (by simpa using hz)
 |[],_::_,h=>h.elim
 |_::_,[],h=>h.elim
theorem Con.fit{f:Nat}{ins ins0:List AV}{ob:List (Nat×Root)}{keep keep':List Nat}{Φ:AV→List (Nat×Root)→Prop}(h:Con P f ins ob keep Φ)(hf:Fits ins0 ins)
  (hk:∀i,i∈keep'→i∈keep∧ins[i]?=ins0[i]?):Con P f ins0 ob keep' Φ:=by
 refine⟨h.fn,fun β w args hl h1 h2 h3 h4 h5=>?_⟩
 obtain⟨l1,l2⟩:=hf.get
 refine(h.run β w args hl (by rw[h1,l1]) (fun i v hv=>?_) h3 h4 h5).mono fun e w' ⟨u,res,ob',β',he,hp⟩=>⟨u,res,ob',β',he,{ hp with keep:=fun i hi v hv=>?_ }⟩
 ·obtain⟨x,hx,hfx⟩:=l2 i v hv
  exact hfx.vr (h2 i x hx)
 ·obtain⟨k1,k2⟩:=hk i hi
  exact hp.keep i k1 v (k2.trans hv)
theorem WPc.sq{x y:Code}{Φ:Exit→St→Prop}(h:WPc P x st (seqP (fun s=>WPc P y s Φ) Φ)):WPc P (.seq x y) st Φ:=WPc.seq h fun _ h=>h
theorem WPc.rg(tok:TOk P tt){id:Nat}{ops:Array Oper}{Φ:Exit→St→Prop}(h:runL tt ops ops.toList st=some st')(hk:Φ .normal st'):WPc P (.region id ops false) st Φ:=WPc.region (WPL.all tok h hk)
end Go.Own
namespace Go.Own
section
variable {tt:Nat→Option TI}{st:St}{n:Nat}{ops:Array Oper}{l:List Oper}{x y z:Operand}{t t2:Nat}
@[simp] theorem runL_nil:runL tt ops [] st=some st:=rfl
@[simp] theorem runL_go{d:Nat}{op:Op}{ty:TypeId}{pos:String}{af:Array Edge}:runL tt ops ({ dst:=some d,op:=op,type:=ty,pos:=pos,after:=af,guard:=none }::l) st =
  (if dstOk st { dst:=some d,op:=op,type:=ty,pos:=pos,after:=af,guard:=none }=true then (stepA tt st d op).bind (fin (some d)) else none).bind (runL tt ops l):=rfl
@[simp] theorem runL_do{op:Op}{ty:TypeId}{pos:String}{af:Array Edge}:runL tt ops ({ dst:=none,op:=op,type:=ty,pos:=pos,after:=af,guard:=none }::l) st =
  (if dstOk st { dst:=none,op:=op,type:=ty,pos:=pos,after:=af,guard:=none }=true then (stepA tt st 0 op).bind (fin none) else none).bind (runL tt ops l):=rfl
def orGo(b:Option Bool)(x y:Option St):Option St:=match b with
 |some true=>x
 |some false=>y
 |none=>none
@[simp] theorem orGo_t{x y:Option St}:orGo (some true) x y=x:=rfl
@[simp] theorem orGo_f{x y:Option St}:orGo (some false) x y=y:=rfl
def gdV(v:AV)(want:Bool):Option Bool:=match v with
 |.sc v=>some (match v with|.bool b=>b==want|_=>false)
 |_=>none
@[simp] theorem gdV_b{b want:Bool}:gdV (.sc (.bool b)) want=some (b==want):=rfl
@[simp] theorem gdV_u{want:Bool}:gdV (.sc undef) want=some false:=rfl
def gd(ops:Array Oper)(st:St)(j:Nat)(want:Bool):Option Bool :=
 match (ops[j]?).bind (·.dst) with
 |some d=>gdV (ev st (.tmp d)) want
 |none=>none
theorem stepO_eq{o:Oper}:stepO tt ops st o=orGo (wantA ops st o) (if dstOk st o=true then (stepA tt st (o.dst.getD 0) o.op).bind (fin o.dst) else none) (if dstOk st o=true then some (putSt st o.dst (.sc undef)) else none):=by
 unfold stepO orGo
 split<;>simp_all
@[simp] theorem runL_gd{d j:Nat}{want:Bool}{op:Op}{ty:TypeId}{pos:String}{af:Array Edge}:runL tt ops ({ dst:=some d,op:=op,type:=ty,pos:=pos,after:=af,guard:=some (j,want) }::l) st =
  (orGo (gd ops st j want) (if dstOk st { dst:=some d,op:=op,type:=ty,pos:=pos,after:=af,guard:=some (j,want) }=true then (stepA tt st d op).bind (fin (some d)) else none)
   (if dstOk st { dst:=some d,op:=op,type:=ty,pos:=pos,after:=af,guard:=some (j,want) }=true then some (putSt st (some d) (.sc undef)) else none)).bind (runL tt ops l):=by
 simp only[runL,stepO_eq,wantA,gd,gdV]
 rfl
def wr(st:St)(v:AV):AV×St×List Nat:=(v,st,[])
def wrS(T:List Nat)(st:St):AV×St×List Nat:=(.un,st,T)
def wrN(T:List Nat)(r:AV×St):AV×St×List Nat:=(r.1,r.2,T)
@[simp] theorem fin_wr{d:Nat}{v:AV}:fin (some d) (wr st v)=some (putSt st (some d) v):=rfl
@[simp] theorem fin_wrS{T:List Nat}:fin none (wrS T st)=if below T=true then some st else none:=rfl
@[simp] theorem fin_wrN{d:Nat}{v:AV}{T:List Nat}:fin (some d) (wrN T (v,st))=if below T=true then some (putSt st (some d) v) else none:=rfl
@[simp] theorem below_nil:below []=true:=rfl
@[simp] theorem below_cons{i:Nat}{T:List Nat}:below (i::T)=(decide (i<1000000000)&&below T):=rfl
@[simp] theorem putSt_some{d:Nat}{v:AV}{nt:Nat}{G:Nat→Value}{tm:List (Nat×AV)}{ob:List (Nat×Root)}:putSt { nt:=nt,G:=G,tm:=tm,ob:=ob } (some d) v={ nt:=nt,G:=G,tm:=(d,v)::tm,ob:=ob }:=rfl
@[simp] theorem putSt_none{v:AV}:putSt st none v=st:=rfl
@[simp] theorem stepA_move:stepA tt st n (.move x)=some (wr st (ev st x)):=rfl
@[simp] theorem stepA_assign:stepA tt st n (.assign x)=some (wr st (ev st x)):=rfl
@[simp] theorem stepA_pick:stepA tt st n (.pick x y z)=(pickA (ev st x) (ev st y) (ev st z)).map (wr st):=rfl
@[simp] theorem stepA_nil:stepA tt st n (.nilCheck x)=(nilA (ev st x)).map (wr st):=rfl
@[simp] theorem stepA_bin0{op:BinOp}{j:Nat}:stepA tt st n (.binOp op t x (.tmp j) t2)=(binA tt op t (ev st x) (ev st (.tmp j))).map (wr st):=rfl
@[simp] theorem stepA_bin1{op:BinOp}{k:IntKind}{i:Int}:stepA tt st n (.binOp op t x (.const (.int k i)) t2)=(binA tt op t (ev st x) (ev st (.const (.int k i)))).map (wr st):=rfl
@[simp] theorem stepA_bin2{op:BinOp}{s:ByteArray}:stepA tt st n (.binOp op t x (.const (.string s)) t2)=(binA tt op t (ev st x) (ev st (.const (.string s)))).map (wr st):=rfl
@[simp] theorem stepA_bin3{op:BinOp}{b:Bool}:stepA tt st n (.binOp op t x (.const (.bool b)) t2)=(binA tt op t (ev st x) (ev st (.const (.bool b)))).map (wr st):=rfl
@[simp] theorem stepA_bin4{op:BinOp}{q1:Option Addr}{q2 q3:Nat}:stepA tt st n (.binOp op t x (.const (.slice q1 q2 q3)) t2)=(binA tt op t (ev st x) (ev st (.const (.slice q1 q2 q3)))).map (wr st):=rfl
@[simp] theorem stepA_binN{op:BinOp}{q:Option Addr}:stepA tt st n (.binOp op t x (.const (.pointer q)) t2)=(binA tt op t (ev st x) (ev st (.const (.pointer q)))).map (wr st):=rfl
def ifcA(k:Option TK)(op:BinOp)(x:AV):Option AV:=match x with
 |.sc u=>(ifcV k op u .nilIface).map .sc
 |_=>none
@[simp] theorem ifcA_sc{k:Option TK}{op:BinOp}{u:Value}:ifcA k op (.sc u)=(ifcV k op u .nilIface).map .sc:=rfl
@[simp] theorem stepA_binI{op:BinOp}:stepA tt st n (.binOp op t x (.const .nilIface) t2)=(ifcA (kd tt t) op (ev st x)).map (wr st):=rfl
@[simp] theorem stepA_un{op:UnOp}:stepA tt st n (.unOp op t x)=(unA op (ev st x)).map (wr st):=rfl
@[simp] theorem stepA_conv:stepA tt st n (.convert t t2 x)=(convX tt st t t2 (ev st x)).map (wr st):=rfl
@[simp] theorem stepA_index:stepA tt st n (.index t x y)=(indexA tt t (ev st x) (ev st y)).map (wr st):=rfl
@[simp] theorem stepA_extract{i:Nat}:stepA tt st n (.extract x i)=(extractA (ev st x) i).map (wr st):=rfl
@[simp] theorem stepA_fieldAddr{f:Nat}:stepA tt st n (.fieldAddr t x f)=(fieldAddrA tt t (ev st x) f).map (wr st):=rfl
@[simp] theorem stepA_field{f:Nat}:stepA tt st n (.field t x f)=(fieldA tt t (ev st x) f).map (wr st):=rfl
@[simp] theorem stepA_indexAddr:stepA tt st n (.indexAddr t x y)=(indexAddrA tt t (ev st x) (ev st y)).map (wr st):=rfl
@[simp] theorem stepA_slice{lo hi:Option Operand}:stepA tt st n (.slice t x lo hi none)=(sliceA tt t (ev st x) (lo.map (ev st)) (hi.map (ev st))).map (wr st):=rfl
@[simp] theorem stepA_build{ps:List (Nat×Operand)}:stepA tt st n (.build t ps.toArray)=(if fieldsOk tt t=true then buildA tt st t ps else none).map (wr st):=rfl
@[simp] theorem stepA_len:stepA tt st n (.call { callee:=.builtin .len,args:=#[x],argTypes:=#[t] })=(lenS tt t (ev st x)).map (wr st):=rfl
@[simp] theorem stepA_min{ts:Array TypeId}:stepA tt st n (.call { callee:=.builtin .min,args:=#[x,y],argTypes:=ts })=(minA (ev st x) (ev st y)).map (wr st):=rfl
@[simp] theorem stepA_max{ts:Array TypeId}:stepA tt st n (.call { callee:=.builtin .max,args:=#[x,y],argTypes:=ts })=(maxA (ev st x) (ev st y)).map (wr st):=rfl
@[simp] theorem stepA_load:stepA tt st n (.load t x)=(loadA tt st t (ev st x)).map (wr st):=rfl
@[simp] theorem stepA_store:stepA tt st n (.store t x y)=(storeA tt st t (ev st x) (ev st y)).map (wrS (rids (ev st x)++rids (ev st y))):=rfl
@[simp] theorem stepA_alloc:stepA tt st n (.alloc t)=(allocA tt st n t).map (wrN [n]):=rfl
@[simp] theorem stepA_box:stepA tt st n (.box t x)=(boxA tt st n t (ev st x)).map (wrN (n::rids (ev st x))):=rfl
@[simp] theorem stepA_buildSlice{m:Nat}{ps:List (Nat×Operand)}:stepA tt st n (.buildSlice t m ps.toArray)=if plainPs st ps=true then (buildSliceA tt st n t m ps).map (wrN [n]) else (buildOneA tt st n t m ps).map (wrN (n::ridsL (ps.map fun p=>ev st p.2))):=rfl
@[simp] theorem stepA_make:stepA tt st n (.makeSlice t x y)=(makeA tt st n t (ev st x) (ev st y)).map (wrN [n]):=rfl
@[simp] theorem stepA_append:stepA tt st n (.call { callee:=.builtin .append,args:=#[x,y],argTypes:=#[t,t] })=if movesA st (ev st y)=true then (appendMA tt st n t (ev st x) (ev st y)).map (wrN (n::rids (ev st x)++rids (ev st y))) else (appendA tt st n t (ev st x) (ev st y)).map (wrN (n::rids (ev st x))):=by
 simp only[stepA,if_true];rfl
@[simp] theorem ev_tmp{t:Nat}:ev st (.tmp t)=if t<st.nt then lk st.tm t else .un:=rfl
@[simp] theorem ev_const{v:Value}:ev st (.const v)=.sc v:=rfl
@[simp] theorem lk_nil{t:Nat}:lk [] t=.un:=rfl
@[simp] theorem lk_cons{k t:Nat}{v:AV}{r:List (Nat×AV)}:lk ((k,v)::r) t=if k=t then v else lk r t:=rfl
@[simp] theorem lo_nil{t:Nat}:lo [] t=none:=rfl
@[simp] theorem lo_cons{k t:Nat}{v:Root}{r:List (Nat×Root)}:lo ((k,v)::r) t=if k=t then some v else lo r t:=rfl
@[simp] theorem putO_eq{ob:List (Nat×Root)}{id:Nat}{r:Root}:putO ob id r=(id,r)::delO ob id:=rfl
@[simp] theorem delO_nil{id:Nat}:delO [] id=[]:=rfl
@[simp] theorem delO_cons{id k:Nat}{r:Root}{ob:List (Nat×Root)}:delO ((k,r)::ob) id=if k=id then delO ob id else (k,r)::delO ob id:=by
 simp only[delO,List.filter_cons]
 by_cases h:k=id<;>simp[h]
def kv(q:Nat→Pth→Bool)(v:AV):AV:=if v.hits q=true then .un else v
@[simp] theorem killT_nil{q:Nat→Pth→Bool}:killT q []=[]:=rfl
@[simp] theorem killT_cons{q:Nat→Pth→Bool}{k:Nat}{v:AV}{r:List (Nat×AV)}:killT q ((k,v)::r)=(k,kv q v)::killT q r:=rfl
@[simp] theorem kv_sc{q:Nat→Pth→Bool}{v:Value}:kv q (.sc v)=.sc v:=rfl
@[simp] theorem kv_fz{q:Nat→Pth→Bool}{v:List (List C)}:kv q (.fz v)=.fz v:=rfl
@[simp] theorem kv_fp{q:Nat→Pth→Bool}{v:List C}:kv q (.fp v)=.fp v:=rfl
@[simp] theorem kv_un{q:Nat→Pth→Bool}:kv q .un=.un:=rfl
@[simp] theorem kv_sl{q:Nat→Pth→Bool}{i k o m:Nat}{p:Pth}:kv q (.sl i k p o m)=if q i p=true then .un else .sl i k p o m:=rfl
@[simp] theorem kv_ptr{q:Nat→Pth→Bool}{i k o m:Nat}{p:Pth}:kv q (.ptr i k p o m)=if q i p=true then .un else .ptr i k p o m:=rfl
@[simp] theorem kv_agg{q:Nat→Pth→Bool}{cs:List AV}:kv q (.agg cs)=if AV.hitsL q cs=true then .un else .agg cs:=rfl
@[simp] theorem kv_tup{q:Nat→Pth→Bool}{cs:List AV}:kv q (.tup cs)=if AV.hitsL q cs=true then .un else .tup cs:=rfl
attribute [simp] plainPs appendMA moveO buildOneA convX convS bytesA bytesC TK.agg dstOk gd pickA nilA unA convA indexA extractA fieldAddrA fieldA partA indexAddrA sliceA bndA lenS minA maxA buildA buildL putAt okA cellsA fieldsOk loadA rowA nav loadL cToA cToF storeA rids ridsL AV.hits AV.hitsL allocA boxA bareA zeroA zeroOk
 fill1 killOf updP setCell buildSliceA rowCs rowC toCs toC newSl makeA appendA dstA appO plainC frz entSt tmOf resA resV resVs seqP blkP
def lenAll(k:Nat)(ys:List (List C)):Bool:=ys.all (fun r=>r.length==k)
def frzAll(ys:List (List C)):List (List C):=ys.map (·.map frz)
def plainAll(ys:List (List C)):Bool:=ys.all (fun r=>r.all plainC)
@[simp] theorem lenAll_nil{k:Nat}:lenAll k []=true:=rfl
@[simp] theorem lenAll_cons{k:Nat}{r:List C}{ys:List (List C)}:lenAll k (r::ys)=(r.length==k&&lenAll k ys):=rfl
theorem lenAll_map{α:Type}{k:Nat}{f:α→List C}(h:∀x,(f x).length=k)(l:List α):lenAll k (l.map f)=true:=by
 induction l with
 |nil=>rfl
 |cons x l ih=>simp[h,ih]
@[simp] theorem frzAll_nil:frzAll []=[]:=rfl
@[simp] theorem frzAll_cons{r:List C}{ys:List (List C)}:frzAll (r::ys)=r.map frz::frzAll ys:=rfl
theorem frzAll_map{α:Type}{f:α→List C}(h:∀x,(f x).map frz=f x)(l:List α):frzAll (l.map f)=l.map f:=by
 induction l with
 |nil=>rfl
 |cons x l ih=>simp[h,ih]
@[simp] theorem plainAll_nil:plainAll []=true:=rfl
@[simp] theorem plainAll_cons{r:List C}{ys:List (List C)}:plainAll (r::ys)=(r.all plainC&&plainAll ys):=rfl
theorem plainAll_map{α:Type}{f:α→List C}(h:∀x,(f x).all plainC=true)(l:List α):plainAll (l.map f)=true:=by
 induction l with
 |nil=>rfl
 |cons x l ih=>simp only[List.map_cons,plainAll_cons,h,ih,Bool.and_self]
@[simp] theorem srcA_fz{k:Nat}{ys:List (List C)}:srcA st k (.fz ys)=if lenAll k ys=true then some (frzAll ys) else none:=rfl
def srcR(k k' off len:Nat):Option (Nat×Nat×List (List C))→Option (List (List C))
 |some (_,k2,row)=>if k'=k∧k2=k∧off+len≤row.length∧plainAll ((row.drop off).take len)=true then some ((row.drop off).take len) else none
 |none=>none
@[simp] theorem srcR_some{k k' off len k2 e:Nat}{row:List (List C)}:srcR k k' off len (some (e,k2,row))=if k'=k∧k2=k∧off+len≤row.length∧plainAll ((row.drop off).take len)=true then some ((row.drop off).take len) else none:=rfl
@[simp] theorem srcA_sl{k id k' off len:Nat}{p:Pth}:srcA st k (.sl id k' p off len)=srcR k k' off len (rowA st id p):=rfl
@[simp] theorem srcA_no{k:Nat}:srcA st k (.sc (.slice none 0 0))=some []:=rfl
def movesR:Option Root→Bool
 |some (_,_,rows) => !plainAll rows
 |none=>false
@[simp] theorem movesR_some{e k:Nat}{rows:List (List C)}:movesR (some (e,k,rows)) = !plainAll rows:=rfl
theorem any_not(rows:List (List C)):(rows.any fun r=>r.any fun c => !plainC c) = !plainAll rows:=by
 unfold plainAll
 rw[List.not_all_eq_any_not]
 congr 1
 funext r
 rw[List.not_all_eq_any_not]
@[simp] theorem movesA_sl{id k len:Nat}:movesA st (.sl id k [] 0 len)=movesR (lo st.ob id):=by
 cases h:lo st.ob id with
 |none=>simp only[movesA,movesR,h]
 |some x=>obtain⟨e,k,rows⟩:=x;simp only[movesA,movesR,h];exact any_not rows
@[simp] theorem movesA_slp{id k off len:Nat}{q:Nat×Nat}{p:Pth}:movesA st (.sl id k (q::p) off len)=false:=rfl
@[simp] theorem movesA_slo{id k off len:Nat}{p:Pth}:movesA st (.sl id k p (off+1) len)=false:=by cases p<;>rfl
@[simp] theorem movesA_fz{xs:List (List C)}:movesA st (.fz xs)=false:=rfl
@[simp] theorem movesA_sc{v:Value}:movesA st (.sc v)=false:=rfl
def fillK(id:Nat)(p:Pth)(i j:Nat)(vs:List AV)(st:St):Option St:=fillL st id p i j vs
@[simp] theorem fillK_app{id i j:Nat}{p:Pth}{vs:List AV}:fillK id p i j vs st=fillL st id p i j vs:=rfl
@[simp] theorem fillL_nil{id i j:Nat}{p:Pth}:fillL st id p i j []=some st:=rfl
@[simp] theorem fillL_cons{id i j:Nat}{p:Pth}{v:AV}{vs:List AV}:fillL st id p i j (v::vs)=if AV.hitsL (killOf id v) vs=false then (fill1 st id p i j v).bind (fillK id p i (j+1) vs) else none:=rfl
@[simp] theorem one_int{k:IntKind}{a:Int}:(Value.int k a).oneCell'=true:=rfl
@[simp] theorem one_bool{a:Bool}:(Value.bool a).oneCell'=true:=rfl
@[simp] theorem one_str{a:ByteArray}:(Value.string a).oneCell'=true:=rfl
@[simp] theorem one_sl{a:Option Addr}{m c:Nat}:(Value.slice a m c).oneCell'=true:=rfl
@[simp] theorem one_ptr{a:Option Addr}:(Value.pointer a).oneCell'=true:=rfl
theorem beq_dec{a b:Int}:(a==b)=decide (a=b):=by by_cases h:a=b<;>simp[h]
@[simp] theorem binA_sc{op:BinOp}{t:Nat}{u v:Value}:binA tt op t (.sc u) (.sc v)=(binV op u v).map .sc:=rfl
attribute [simp] ifcV
@[simp] theorem binV_add{k:IntKind}{a b:Int}:binV .add (.int k a) (.int k b)=some (.int k (k.wrap (a+b))):=by simp[binV,intB]
@[simp] theorem binV_sub{k:IntKind}{a b:Int}:binV .sub (.int k a) (.int k b)=some (.int k (k.wrap (a-b))):=by simp[binV,intB]
@[simp] theorem binV_mul{k:IntKind}{a b:Int}:binV .mul (.int k a) (.int k b)=some (.int k (k.wrap (a*b))):=by simp[binV,intB]
@[simp] theorem binV_quo{k:IntKind}{a b:Int}:binV .quo (.int k a) (.int k b)=if b=0 then none else some (.int k (k.wrap (a.tdiv b))):=by simp[binV,intB]
@[simp] theorem binV_rem{k:IntKind}{a b:Int}:binV .rem (.int k a) (.int k b)=if b=0 then none else some (.int k (a.tmod b)):=by simp[binV,intB]
@[simp] theorem binV_eql{k:IntKind}{a b:Int}:binV .eql (.int k a) (.int k b)=some (.bool (decide (a=b))):=by simp only[binV,intB,reduceCtorEq,or_self,if_false,if_true,beq_dec]
@[simp] theorem binV_neq{k:IntKind}{a b:Int}:binV .neq (.int k a) (.int k b)=some (.bool (decide (a≠b))):=by simp only[binV,intB,bne,reduceCtorEq,or_self,if_false,if_true,beq_dec,decide_not,ne_eq]
@[simp] theorem binV_lss{k:IntKind}{a b:Int}:binV .lss (.int k a) (.int k b)=some (.bool (decide (a<b))):=by simp[binV,intB]
@[simp] theorem binV_leq{k:IntKind}{a b:Int}:binV .leq (.int k a) (.int k b)=some (.bool (decide (a≤b))):=by simp[binV,intB]
@[simp] theorem binV_gtr{k:IntKind}{a b:Int}:binV .gtr (.int k a) (.int k b)=some (.bool (decide (b<a))):=by simp[binV,intB]
@[simp] theorem binV_geq{k:IntKind}{a b:Int}:binV .geq (.int k a) (.int k b)=some (.bool (decide (b≤a))):=by simp[binV,intB]
theorem toList_inj{a b:ByteArray}:(a.toList==b.toList)=decide (a=b):=by
 rw[ByteArray.toList_eq,ByteArray.toList_eq]
 by_cases h:a=b
 ·subst h;simp
 ·have:a.data.toList≠b.data.toList:=fun e=>h (by
   cases a;cases b
   simp only[ByteArray.mk.injEq]
   exact Array.toList_inj.1 e)
  rw[decide_eq_false h]
  simpa using fun e=>this (congrArg Array.toList e)
@[simp] theorem binV_seql{a b:ByteArray}:binV .eql (.string a) (.string b)=some (.bool (decide (a=b))):=by simp only[binV,strB,toList_inj]
@[simp] theorem binV_sneq{a b:ByteArray}:binV .neq (.string a) (.string b)=some (.bool (decide (a≠b))):=by simp only[binV,strB,toList_inj,decide_not]
def SAdd(a b:ByteArray):Prop:=a.size+b.size≤9223372036854775807
instance {a b:ByteArray}:Decidable (SAdd a b):=inferInstanceAs (Decidable (_≤_))
@[simp] theorem binV_sadd{a b:ByteArray}:binV .add (.string a) (.string b)=if SAdd a b then some (.string (a++b)) else none:=by
 simp only[binV,strB]
 have hm:IntKind.i64.max=9223372036854775807:=rfl
 rw[hm]
 by_cases h:((a.size+b.size:Nat):Int)>9223372036854775807
 ·rw[if_pos h,if_neg (by unfold SAdd;omega)]
 ·rw[if_neg h,if_pos (by unfold SAdd;omega)]
theorem wrap64{x:Int}(h1 : -9223372036854775808≤x)(h2:x≤9223372036854775807):IntKind.i64.wrap x=x:=by
 rw[IntKind.wrap_i64];omega
@[simp] theorem fit_refl{v:AV}:Fit v v=True:=by simp[Fit,Fit0]
@[simp] theorem fitO_nil:FitO st []=True:=rfl
theorem WPc.rk[Laid]{P:Program}(tok:TOk P tt){id:Nat}{Φ:Exit→St→Prop}(h:∀K:St→Prop,(∀s,Φ .normal s→K s)→∃s,runL tt ops ops.toList st=some s∧K s):WPc P (.region id ops false) st Φ:=by
 obtain⟨s,h1,h2⟩:=h (Φ .normal) fun _ h=>h
 exact WPc.rg tok h1 h2
theorem WPL.rk[Laid]{P:Program}(tok:TOk P tt)(m:Nat){Ψ:St→Prop}(h:∀K:St→Prop,(∀s,WPL P ops (l.drop m) s Ψ→K s)→∃s,runL tt ops (l.take m) st=some s∧K s):WPL P ops l st Ψ:=by
 obtain⟨s,h1,h2⟩:=h (fun s=>WPL P ops (l.drop m) s Ψ) fun _ h=>h
 exact WPL.run tok m h1 h2
theorem WPc.condT[Laid]{P:Program}{c:Operand}{x y:Code}{Φ:Exit→St→Prop}(hc:ev st c=.sc (.bool true))(h:WPc P x st Φ):WPc P (.cond c x y) st Φ:=WPc.cond hc (fun _=>h) (fun h=>by cases h)
theorem WPc.condF[Laid]{P:Program}{c:Operand}{x y:Code}{Φ:Exit→St→Prop}(hc:ev st c=.sc (.bool false))(h:WPc P y st Φ):WPc P (.cond c x y) st Φ:=WPc.cond hc (fun h=>by cases h) (fun _=>h)
@[simp] theorem run_split{b:Bool}{x y:Option St}{f:St→Option St}{K:St→Prop}:(∃s,(orGo (some b) x y).bind f=some s∧K s)↔(b=true→∃s,x.bind f=some s∧K s)∧(b=false→∃s,y.bind f=some s∧K s):=by
 cases b<;>simp[orGo]
@[simp] theorem run_done{s:St}{K:St→Prop}:(∃s',some s=some s'∧K s')↔K s:=by simp
theorem surv0_nil(v:AV):surv0 [] [] [] [] v=v:=by
 have hq:(fun (i:Nat) (_:Pth)=>keptQ [] [] i)=fun _ _=>false:=by funext i p;simp[keptQ,fnd]
 have h0:v.hits (fun i _=>keptQ [] [] i)=false:=by rw[hq];exact hits_false v
 unfold surv0
 split
 ·simp[keptQ,fnd]
 ·simp[keptQ,fnd]
 ·rw[h0];simp
theorem surv1_nil(v:AV):surv1 [] [] [] [] v=v:=by
 cases v with
 |agg cs=>simp only[surv1];rw[show surv0 [] [] [] []=id from funext surv0_nil];simp
 |_=>(simp only[surv1];exact surv0_nil _)
theorem surv_nil(v:AV):surv [] [] [] [] v=v:=by
 cases v with
 |tup cs=>simp only[surv];rw[show surv1 [] [] [] []=id from funext surv1_nil];simp
 |_=>(simp only[surv];exact surv1_nil _)
theorem callSt_nil(ob':List (Nat×Root)):callSt st [] [] [] [] ob'=st:=by
 unfold callSt
 have h1:(st.tm.map fun x=>(x.1,surv [] [] [] [] x.2))=st.tm:=by
  rw[show (fun x:Nat×AV=>(x.1,surv [] [] [] [] x.2))=id from by funext x;simp[surv_nil]]
  simp
 have h2:(st.ob.filter fun x => !keptQ [] [] x.1)=st.ob:=by simp[keptQ,fnd]
 rw[h1,h2]
 simp[obOut]
theorem Stp.call0[Laid]{P:Program}{f:Nat}{ins:List AV}{Φ:AV→List (Nat×Root)→Prop}{args:Array Operand}{tys:Array TypeId}{lent:List Nat}{o:Oper}
  (hc:Con P f ins [] [] Φ) (ho:o.op=.call { callee:=.value (.func f),args:=args,argTypes:=tys }) (hl:below lent=true) (hins:insA st [] lent args.toList=some ins)
  (hd:dstOk st o=true) (hz:∀res ob',Φ res ob'→lent=[]∨nzT res=true):Stp P o st [] (fun s=>∃res ob',Φ res ob'∧s=putSt st o.dst (rnT [] res)):=by
 have:=Stp.call (ren:=[]) (nw:=[]) (kP:=[]) (kS:=[]) hc ho (by simp only[callOk];simp[nodupB,hl,fnd]) hins rfl hd (by simp) (by simp) (fun res ob' h=>(hz res ob' h).imp id fun h=>⟨h,by simp⟩)
 simp only[callSt_nil]at this
 exact this
theorem WPL.call0[Laid]{P:Program}{f d:Nat}{ins:List AV}{Φ:AV→List (Nat×Root)→Prop}{args:Array Operand}{tys:Array TypeId}(lent:List Nat){ty:TypeId}{pos:String}{af:Array Edge}{Ψ:St→Prop}
  (hc:Con P f ins [] [] Φ) (hl:below lent=true) (hd:d<st.nt) (hins:insA st [] lent args.toList=some ins) (hz:∀res ob',Φ res ob'→lent=[]∨nzT res=true)
  (hk:∀res ob',Φ res ob'→WPL P ops l (putSt st (some d) (rnT [] res)) Ψ) :
  WPL P ops ({ dst:=some d,op:=.call { callee:=.value (.func f),args:=args,argTypes:=tys },type:=ty,pos:=pos,after:=af,guard:=none }::l) st Ψ :=
 WPL.stp rfl (Stp.call0 hc rfl hl hins (by simpa using hd) hz) fun s ⟨res,ob',h1,h2⟩=>h2▸hk res ob' h1
theorem WPL.call0g[Laid]{P:Program}{f d j:Nat}{b want:Bool}{ins:List AV}{Φ:AV→List (Nat×Root)→Prop}{args:Array Operand}{tys:Array TypeId}(lent:List Nat){ty:TypeId}{pos:String}{af:Array Edge}{Ψ:St→Prop}
  (hg:gd ops st j want=some b) (hl:below lent=true) (hd:d<st.nt)
  (ht:b=true→Con P f ins [] [] Φ∧insA st [] lent args.toList=some ins∧(∀res ob',Φ res ob'→lent=[]∨nzT res=true)∧∀res ob',Φ res ob'→WPL P ops l (putSt st (some d) (rnT [] res)) Ψ)
  (hf:b=false→WPL P ops l (putSt st (some d) (.sc undef)) Ψ) :
  WPL P ops ({ dst:=some d,op:=.call { callee:=.value (.func f),args:=args,argTypes:=tys },type:=ty,pos:=pos,after:=af,guard:=some (j,want) }::l) st Ψ:=by
 have hw:wantA ops st { dst:=some d,op:=.call { callee:=.value (.func f),args:=args,argTypes:=tys },type:=ty,pos:=pos,after:=af,guard:=some (j,want) }=some b:=hg
 cases b with
 |true =>
  obtain⟨hc,hins,hz,hk⟩:=ht rfl
  exact WPL.stp hw (Stp.call0 hc rfl hl hins (by simpa using hd) hz) fun s ⟨res,ob',h1,h2⟩=>h2▸hk res ob' h1
 |false =>
  intro w0 β0 β a w hr
  simp only[wpList,want_of hr.rel hw,Bool.false_eq_true,if_false]
  exact hf rfl w0 β0 β _ w (hr.put (fun d' e=>by injection e with e;subst e;exact hd) (.sc _))
theorem WPL.call0t[Laid]{P:Program}{f d j:Nat}{want:Bool}{ins:List AV}{Φ:AV→List (Nat×Root)→Prop}{args:Array Operand}{tys:Array TypeId}(lent:List Nat){ty:TypeId}{pos:String}{af:Array Edge}{Ψ:St→Prop}
  (hg:gd ops st j want=some true) (hc:Con P f ins [] [] Φ) (hl:below lent=true) (hd:d<st.nt) (hins:insA st [] lent args.toList=some ins) (hz:∀res ob',Φ res ob'→lent=[]∨nzT res=true)
  (hk:∀res ob',Φ res ob'→WPL P ops l (putSt st (some d) (rnT [] res)) Ψ) :
  WPL P ops ({ dst:=some d,op:=.call { callee:=.value (.func f),args:=args,argTypes:=tys },type:=ty,pos:=pos,after:=af,guard:=some (j,want) }::l) st Ψ :=
 WPL.call0g lent hg hl hd (fun _=>⟨hc,hins,hz,hk⟩) (fun h=>by cases h)
theorem WPL.call0f[Laid]{P:Program}{f d j:Nat}{want:Bool}{args:Array Operand}{tys:Array TypeId}{ty:TypeId}{pos:String}{af:Array Edge}{Ψ:St→Prop}
  (hg:gd ops st j want=some false) (hd:d<st.nt) (hk:WPL P ops l (putSt st (some d) (.sc undef)) Ψ) :
  WPL P ops ({ dst:=some d,op:=.call { callee:=.value (.func f),args:=args,argTypes:=tys },type:=ty,pos:=pos,after:=af,guard:=some (j,want) }::l) st Ψ :=
 WPL.call0g (ins:=[]) (Φ:=fun _ _=>True) [] hg rfl hd (fun h=>by cases h) (fun _=>hk)
attribute [simp] insA cvA cv1 cvL fnd rnT rn1 rn0 nzT nz1 nz0
theorem endP.val{nt:Nat}{rs:List ResultVar}{G:Nat→Value}{ins:List AV}{Φ:AV→List (Nat×Root)→Prop}{e:Exit}{s:St}{r:AV}(he:e=.normal∨e=.ret)(hs:s.nt=nt)(hg:s.G=G)
  (h:resA tt s rs=some r) (hΦ:Φ r []):endP tt nt rs G ins [] Φ e s:=⟨he,hs,hg,r,r,[],h,by simp,by simp,hΦ,by simp⟩
end
end Go.Own
namespace Go.Own
variable {P:Program}{tt:Nat→Option TI}{w0:World}{β0:Blk}{st st':St}{β:Blk}{a:Act}{w w':World}{o:Oper}{T:List Nat}[Laid]
end Go.Own
namespace Go.Own
variable {P:Program}{tt:Nat→Option TI}{w0:World}{β0:Blk}{st st':St}{β:Blk}{a:Act}{w w':World}{o:Oper}{T:List Nat}[Laid]
def isV:Op→Bool
 |.store ..=>false
 |.alloc _=>false
 |.box ..=>false
 |.buildSlice ..=>false
 |.makeSlice ..=>false
 |.call ⟨.builtin .append,_,_⟩=>false
 |_=>true
end Go.Own
namespace Go.Own
@[simp] theorem binV_shr{k k':IntKind}{a b:Int}:binV .shr (.int k a) (.int k' b)=if b<0 then none else some (.int k (a.fdiv (2 ^ (min b.toNat k.bits)))):=by simp[binV,shB]
@[simp] theorem binV_shl{k k':IntKind}{a b:Int}:binV .shl (.int k a) (.int k' b)=if b<0 then none else some (.int k (k.wrap (a*2 ^ (min b.toNat k.bits)))):=by simp[binV,shB]
def andI(a b:Int):Int:=IntKind.i64.wrap (BitVec.ofInt 64 a &&& BitVec.ofInt 64 b).toNat
def xorI(a b:Int):Int:=IntKind.i64.wrap (BitVec.ofInt 64 a ^^^ BitVec.ofInt 64 b).toNat
@[simp] theorem binV_and{a b:Int}:binV .and (.int .i64 a) (.int .i64 b)=some (.int .i64 (andI a b)):=by simp only[binV,intB,reduceCtorEq,or_self,if_false,if_true];rfl
@[simp] theorem binV_xor{a b:Int}:binV .xor (.int .i64 a) (.int .i64 b)=some (.int .i64 (xorI a b)):=by simp only[binV,intB,reduceCtorEq,or_self,if_false,if_true];rfl
end Go.Own
namespace Go.Own
variable {P:Program}{tt:Nat→Option TI}{w0:World}{β0:Blk}{st st':St}{β:Blk}{a:Act}{w w':World}{o:Oper}{T:List Nat}[Laid]
def uniq:List Nat→List Nat
 |[]=>[]
 |x::xs=>if xs.contains x then uniq xs else x::uniq xs
def lentOf(st:St)(args:List Operand):List Nat:=uniq (ridsL (args.map (ev st)))
theorem WPL.callL{ops:Array Oper}{l:List Oper}{f d:Nat}{ins ins0:List AV}{res:AV}{args:Array Operand}{tys:Array TypeId}{ty:TypeId}{pos:String}{af:Array Edge}{lent:List Nat}{Ψ:St→Prop}
  (hc:Con P f ins [] [] (fun r _=>r=res)) (hd:d<st.nt) (hl:lentOf st args.toList=lent) (hb:below lent=true) (hins:insA st [] lent args.toList=some ins0) (he:ins0=ins)
  (hz:lent=[]∨nzT res=true) (hk:WPL P ops l (putSt st (some d) (rnT [] res)) Ψ) :
  WPL P ops ({ dst:=some d,op:=.call { callee:=.value (.func f),args:=args,argTypes:=tys },type:=ty,pos:=pos,after:=af,guard:=none }::l) st Ψ :=
 WPL.call0 lent hc hb hd (he▸hins) (fun _ _ h=>h▸hz) (fun r o h=>by subst h;exact hk)
theorem WPL.callLt{ops:Array Oper}{l:List Oper}{f d j:Nat}{want:Bool}{ins ins0:List AV}{res:AV}{args:Array Operand}{tys:Array TypeId}{ty:TypeId}{pos:String}{af:Array Edge}{lent:List Nat}{Ψ:St→Prop}
  (hc:Con P f ins [] [] (fun r _=>r=res)) (hg:gd ops st j want=some true) (hd:d<st.nt) (hl:lentOf st args.toList=lent) (hb:below lent=true) (hins:insA st [] lent args.toList=some ins0) (he:ins0=ins)
  (hz:lent=[]∨nzT res=true) (hk:WPL P ops l (putSt st (some d) (rnT [] res)) Ψ) :
  WPL P ops ({ dst:=some d,op:=.call { callee:=.value (.func f),args:=args,argTypes:=tys },type:=ty,pos:=pos,after:=af,guard:=some (j,want) }::l) st Ψ :=
 WPL.call0t lent hg hc hb hd (he▸hins) (fun _ _ h=>h▸hz) (fun r o h=>by subst h;exact hk)
def pick(tm:List (Nat×AV)):List Nat→List (Nat×AV)
 |[]=>[]
 |t::ts=>(t,lk tm t)::pick tm ts
theorem fitT_pick:∀(cs:List Nat),FitT st (pick st.tm cs)
 |[]=>trivial
 |t::ts=>⟨by simp,fitT_pick ts⟩
theorem fitT_append:∀{a b:List (Nat×AV)},FitT st a→FitT st b→FitT st (a++b)
 |[],_,_,h=>h
 |_::_,_,h1,h2=>⟨h1.1,fitT_append h1.2 h2⟩
theorem WPc.loopV{c:Code}{Φ:Exit→St→Prop}{σ:Type}(I:σ→Prop)(m:σ→Nat)(F:σ→List (Nat×AV))(O:σ→List (Nat×Root))(cs:List Nat)(x0:σ)
  (hF:FitT st (F x0)) (hO:FitO st (O x0)) (hI:I x0)
  (h:∀x,I x→∀s,{ nt:=st.nt,G:=st.G,tm:=F x++pick st.tm cs,ob:=O x }=s→WPc P c s
   (seqP (fun s'=>∃y,(I y∧m y<m x)∧s'.nt=st.nt∧s'.G=st.G∧FitT s' (F y++pick st.tm cs)∧FitO s' (O y)) Φ)):WPc P (.loop c) st Φ:=by
 refine WPc.loop (fun n s=>∃x,I x∧m x=n∧s={ nt:=st.nt,G:=st.G,tm:=F x++pick st.tm cs,ob:=O x }) (n:=m x0) ⟨x0,hI,rfl,rfl⟩ ⟨rfl,rfl,fitT_append hF (fitT_pick cs),hO⟩ ?_
 rintro n s ⟨x,hx,rfl,rfl⟩
 refine(h x hx _ rfl).mono fun e s hs=>?_
 cases e with
 |normal =>
  obtain⟨y,⟨h1,h2⟩,h3,h4,h5,h6⟩:=hs
  exact⟨m y,_,h2,⟨y,h1,rfl,rfl⟩,⟨h3.symm,h4.symm,h5,h6⟩⟩
 |_=>exact hs
theorem WPc.loopK{c:Code}{Φ:Exit→St→Prop}{σ:Type}(I:σ→Prop)(m:σ→Nat)(F:σ→List (Nat×AV))(cs:List Nat)(x0:σ)
  (hF:FitT st (F x0)) (hO:FitO st st.ob) (hI:I x0)
  (h:∀x,I x→∀s,{ nt:=st.nt,G:=st.G,tm:=F x++pick st.tm cs,ob:=st.ob }=s→WPc P c s
   (seqP (fun s'=>∃y,(I y∧m y<m x)∧s'.nt=st.nt∧s'.G=st.G∧FitT s' (F y++pick st.tm cs)∧FitO s' st.ob) Φ)):WPc P (.loop c) st Φ :=
 WPc.loopV I m F (fun _=>st.ob) cs x0 hF hO hI h
@[simp] theorem pick_nil{tm:List (Nat×AV)}:pick tm []=[]:=rfl
@[simp] theorem pick_cons{tm:List (Nat×AV)}{t:Nat}{ts:List Nat}:pick tm (t::ts)=(t,lk tm t)::pick tm ts:=rfl
attribute [simp] uniq lentOf FitT
@[simp] theorem fitO_cons{i e k:Nat}{es:List (List C)}{r:List (Nat×Root)}:FitO st ((i,e,k,es)::r)↔(∃es0,lo st.ob i=some (e,k,es0)∧FitE es0 es)∧FitO st r:=Iff.rfl
@[simp] theorem fitE_refl{es:List (List C)}:FitE es es:=.inl rfl
end Go.Own
namespace Go.Own
def isFn:Op→Bool
 |.call ⟨.value (.func _),_,_⟩=>true
 |_=>false
def ahead:List Oper→Nat
 |[]=>0
 |o::l=>if isFn o.op then 0 else ahead l+1
def noFn:List Oper→Bool
 |[]=>true
 |o::l => !isFn o.op&&noFn l
theorem WPc.rq[Laid]{P:Program}{tt:Nat→Option TI}{st:St}{ops:Array Oper}(tok:TOk P tt){id:Nat}{Φ:Exit→St→Prop}(hq:noFn ops.toList=true)
  (h:∀K:St→Prop,(∀s,Φ .normal s→K s)→∃s,runL tt ops ops.toList st=some s∧K s):WPc P (.region id ops false) st Φ:=WPc.rk tok h
theorem WPL.rn[Laid]{P:Program}{tt:Nat→Option TI}{st:St}{ops:Array Oper}{l:List Oper}(tok:TOk P tt)(m:Nat)(hm:ahead l=m+1){Ψ:St→Prop}
  (h:∀K:St→Prop,(∀s,WPL P ops (l.drop (m+1)) s Ψ→K s)→∃s,runL tt ops (l.take (m+1)) st=some s∧K s):WPL P ops l st Ψ:=WPL.rk tok (m+1) h
end Go.Own
namespace Go.Own
variable {P:Program}{tt:Nat→Option TI}{w0:World}{β0:Blk}{st st':St}{β:Blk}{a:Act}{w w':World}{o:Oper}{T:List Nat}[Laid]
def lent0:AV→AV→List Nat
 |.fz _,.sl id _ _ _ _=>[id]
 |.fp _,.ptr id _ _ _ _=>[id]
 |_,_=>[]
def lent0L:List AV→List AV→List Nat
 |x::xs,y::ys=>lent0 x y++lent0L xs ys
 |_,_=>[]
def lent1:AV→AV→List Nat
 |.agg xs,.agg ys=>lent0L xs ys
 |x,y=>lent0 x y
def lentL:List AV→List AV→List Nat
 |x::xs,y::ys=>lent1 x y++lentL xs ys
 |_,_=>[]
def lentAt(st:St)(ins:List AV)(args:List Operand):List Nat:=uniq (lentL ins (args.map (ev st)))
def enum:Nat→List Nat→List (Nat×Nat)
 |_,[]=>[]
 |n,x::xs=>(x,n)::enum (n+1) xs
def without(xs:List Nat):List Nat→List Nat
 |[]=>[]
 |y::ys=>if xs.contains y then without xs ys else y::without xs ys
def renAt(st:St)(lent:List Nat)(args:List Operand):List (Nat×Nat):=enum 0 (without lent (uniq (ridsL (args.map (ev st)))))
def keys:List (Nat×Root)→List Nat
 |[]=>[]
 |(k,_)::r=>k::keys r
def nwAt(d:Nat)(ren:List (Nat×Nat)):Nat→List Nat→List (Nat×Nat)
 |_,[]=>[]
 |n,j::js=>match fnd (ren.map fun x=>(x.2,x.1)) j with
  |some i=>(j,i)::nwAt d ren n js
  |none=>(j,d+1000*n)::nwAt d ren (n+1) js
def kpOf(ren nw:List (Nat×Nat)):List AV→List Nat
 |[]=>[]
 |.ptr i _ [] _ _::r=>(match (fnd ren i).bind (fnd nw) with|some i'=>if i'=i then [i] else []|none=>[])++kpOf ren nw r
 |_::r=>kpOf ren nw r
def ksOf(ren nw:List (Nat×Nat)):List AV→List Nat
 |[]=>[]
 |.sl i _ [] _ _::r=>(match (fnd ren i).bind (fnd nw) with|some i'=>if i'=i then [i] else []|none=>[])++ksOf ren nw r
 |_::r=>ksOf ren nw r
def partsAt(st:St)(keep:List Nat)(args:List Operand):List AV:=keep.flatMap fun m=>match args[m]? with
 |some x=>comps (ev st x)
 |none=>[]
theorem kpOf_mem{ren nw:List (Nat×Nat)}:∀{l:List AV} {i:Nat} (_:i∈kpOf ren nw l),∃k a b,.ptr i k [] a b∈l∧∃j,fnd ren i=some j∧fnd nw j=some i
 |[],i,h=>by simp[kpOf]at h
 |v::r,i,h=>by
  unfold kpOf at h
  split at h
  ·rename_i h0;simp at h0
  ·rename_i i0 k a b r' h0
   injection h0 with e1 e2
   subst e1 e2
   rcases List.mem_append.1 h with h|h
   ·cases hx:(fnd ren i0).bind (fnd nw) with
    |none=>rw[hx]at h;simp at h
    |some i' =>
     rw[hx]at h
     dsimp only at h
     split at h
     ·rename_i he
      simp only[List.mem_cons,List.not_mem_nil,or_false]at h
      subst h he
      simp only[Option.bind_eq_some_iff]at hx
      exact⟨k,a,b,by simp,hx⟩
     ·simp at h
   ·obtain⟨k,a,b,h1,h2⟩:=kpOf_mem h
    exact⟨k,a,b,List.mem_cons_of_mem _ h1,h2⟩
  ·rename_i r' v' h0 h1
   injection h1 with e1 e2
   subst e1 e2
   obtain⟨k,a,b,h1,h2⟩:=kpOf_mem h
   exact⟨k,a,b,List.mem_cons_of_mem _ h1,h2⟩
theorem ksOf_mem{ren nw:List (Nat×Nat)}:∀{l:List AV} {i:Nat} (_:i∈ksOf ren nw l),∃k a b,.sl i k [] a b∈l∧∃j,fnd ren i=some j∧fnd nw j=some i
 |[],i,h=>by simp[ksOf]at h
 |v::r,i,h=>by
  unfold ksOf at h
  split at h
  ·rename_i h0;simp at h0
  ·rename_i i0 k a b r' h0
   injection h0 with e1 e2
   subst e1 e2
   rcases List.mem_append.1 h with h|h
   ·cases hx:(fnd ren i0).bind (fnd nw) with
    |none=>rw[hx]at h;simp at h
    |some i' =>
     rw[hx]at h
     dsimp only at h
     split at h
     ·rename_i he
      simp only[List.mem_cons,List.not_mem_nil,or_false]at h
      subst h he
      simp only[Option.bind_eq_some_iff]at hx
      exact⟨k,a,b,by simp,hx⟩
     ·simp at h
   ·obtain⟨k,a,b,h1,h2⟩:=ksOf_mem h
    exact⟨k,a,b,List.mem_cons_of_mem _ h1,h2⟩
  ·rename_i r' v' h0 h1
   injection h1 with e1 e2
   subst e1 e2
   obtain⟨k,a,b,h1,h2⟩:=ksOf_mem h
   exact⟨k,a,b,List.mem_cons_of_mem _ h1,h2⟩
theorem parts_mem{keep:List Nat}{args:List Operand}{c:AV}(h:c∈partsAt st keep args):∃m x,m∈keep∧args[m]?=some x∧c∈comps (ev st x):=by
 unfold partsAt at h
 obtain⟨m,hm,hc⟩:=List.mem_flatMap.1 h
 split at hc
 ·rename_i x hx;exact⟨m,x,hm,hx,hc⟩
 ·simp at hc
def cleanOut(lent:List Nat)(res:AV)(ob':List (Nat×Root)):Bool:=lent.isEmpty||(nzT res&&ob'.all fun x=>flat x.2.2.2)
theorem lo_mem:∀{ob:List (Nat×Root)} {i:Nat} {x:Root} (_:lo ob i=some x),(i,x)∈ob
 |[],i,x,h=>by simp[lo]at h
 |(k,v)::r,i,x,h=>by
  simp only[lo]at h
  split at h
  ·rename_i e;injection h with h;subst e h;simp
  ·exact List.mem_cons_of_mem _ (lo_mem h)
theorem Stp.callR{f:Nat}{σ:Type}{ins:List AV}{ob:List (Nat×Root)}{keep:List Nat}{I:σ→Prop}{R:σ→AV}{O:σ→List (Nat×Root)}{args:Array Operand}{tys:Array TypeId}{lent:List Nat}{ren nw:List (Nat×Nat)}
  (hc:Con P f ins ob keep (fun r o=>∃y,I y∧r=R y∧o=O y)) (ho:o.op=.call { callee:=.value (.func f),args:=args,argTypes:=tys }) (hd:dstOk st o=true)
  (hok:callOk ren lent nw=true) (hins:insA st ren lent args.toList=some ins) (hob:obIn st ren=ob) (hz:∀y,I y→cleanOut lent (R y) (O y)=true) :
  Stp P o st (ren.map (·.1)++nw.map (·.2)) (fun s=>∃y,I y∧s=putSt (callSt st ren nw (kpOf ren nw (partsAt st keep args.toList)) (ksOf ren nw (partsAt st keep args.toList)) (O y)) o.dst (rnT nw (R y))):=by
 intro w0 β0 β a w hr Q
 refine Oper.wp_mono ?_ (Stp.call (kP:=kpOf ren nw (partsAt st keep args.toList)) (kS:=ksOf ren nw (partsAt st keep args.toList)) hc ho hok hins hob hd (fun i hi=>?_) (fun i hi=>?_) ?_ w0 β0 β a w hr Q)
 ·rintro a' w' ⟨s,β',⟨res,ob',⟨y,hy,rfl,rfl⟩,hs⟩,h2⟩
  exact⟨s,β',⟨y,hy,hs⟩,h2⟩
 ·obtain⟨k,a,b,h1,j,h2,h3⟩:=kpOf_mem hi
  obtain⟨m,x,h4,h5,h6⟩:=parts_mem h1
  exact⟨m,x,k,a,b,j,h4,h5,h6,h2,h3⟩
 ·obtain⟨k,a,b,h1,j,h2,h3⟩:=ksOf_mem hi
  obtain⟨m,x,h4,h5,h6⟩:=parts_mem h1
  exact⟨m,x,k,a,b,j,h4,h5,h6,h2,h3⟩
 ·rintro res ob' ⟨y,hy,rfl,rfl⟩
  have:=hz y hy
  unfold cleanOut at this
  simp only[Bool.or_eq_true,List.isEmpty_iff,Bool.and_eq_true]at this
  rcases this with h|⟨h1,h2⟩
  ·exact .inl h
  ·exact .inr ⟨h1,fun j _ e k es hl=>by simpa using List.all_eq_true.1 h2 _ (lo_mem hl)⟩
theorem WPL.callR{ops:Array Oper}{l:List Oper}{f d:Nat}{σ:Type}{ins ins0:List AV}{ob ob0:List (Nat×Root)}{keep:List Nat}{I:σ→Prop}{R:σ→AV}{O:σ→List (Nat×Root)}{args:Array Operand}{tys:Array TypeId}
  {ty:TypeId} {pos:String} {af:Array Edge} {g:Option (Nat×Bool)} {lent:List Nat} {ren nw:List (Nat×Nat)} {kP kS:List Nat} {Ψ:St→Prop}
  (hc:Con P f ins ob keep (fun r o=>∃y,I y∧r=R y∧o=O y)) (hg:wantA ops st { dst:=some d,op:=.call { callee:=.value (.func f),args:=args,argTypes:=tys },type:=ty,pos:=pos,after:=af,guard:=g }=some true)
  (hd:d<st.nt) (hl:lentAt st ins args.toList=lent) (hr:renAt st lent args.toList=ren)
  (hins:insA st ren lent args.toList=some ins0) (he:ins0=ins) (hob:obIn st ren=ob0) (heo:ob0=ob) (hnw:∀y,nwAt d ren 0 (keys (O y))=nw) (hok:callOk ren lent nw=true)
  (hP:kpOf ren nw (partsAt st keep args.toList)=kP) (hS:ksOf ren nw (partsAt st keep args.toList)=kS) (hz:∀y,I y→cleanOut lent (R y) (O y)=true)
  (hk:∀y,I y→∀s,putSt (callSt st ren nw kP kS (O y)) (some d) (rnT nw (R y))=s→WPL P ops l s Ψ) :
  WPL P ops ({ dst:=some d,op:=.call { callee:=.value (.func f),args:=args,argTypes:=tys },type:=ty,pos:=pos,after:=af,guard:=g }::l) st Ψ:=by
 subst he heo hP hS
 refine WPL.stp hg (Stp.callR hc rfl (by simpa using hd) hok hins hob hz) ?_
 rintro s ⟨y,hy,rfl⟩
 exact hk y hy _ rfl
theorem Con.one{f:Nat}{ins:List AV}{ob:List (Nat×Root)}{keep:List Nat}{R:AV}{O:List (Nat×Root)}(h:Con P f ins ob keep (fun r o=>r=R∧o=O)) :
  Con P f ins ob keep (fun r o=>∃y:Unit,True∧r=R∧o=O):=h.mono fun r o h=>⟨(),trivial,h⟩
theorem WPL.callU{ops:Array Oper}{l:List Oper}{f d:Nat}{ins ins0:List AV}{ob ob0:List (Nat×Root)}{keep:List Nat}{R:AV}{O:List (Nat×Root)}{args:Array Operand}{tys:Array TypeId}
  {ty:TypeId} {pos:String} {af:Array Edge} {g:Option (Nat×Bool)} {lent:List Nat} {ren nw:List (Nat×Nat)} {kP kS:List Nat} {s:St} {Ψ:St→Prop}
  (hc:Con P f ins ob keep (fun r o=>r=R∧o=O)) (hg:wantA ops st { dst:=some d,op:=.call { callee:=.value (.func f),args:=args,argTypes:=tys },type:=ty,pos:=pos,after:=af,guard:=g }=some true)
  (hd:d<st.nt) (hl:lentAt st ins args.toList=lent) (hr:renAt st lent args.toList=ren)
  (hins:insA st ren lent args.toList=some ins0) (he:ins0=ins) (hob:obIn st ren=ob0) (heo:ob0=ob) (hnw:nwAt d ren 0 (keys O)=nw) (hok:callOk ren lent nw=true)
  (hP:kpOf ren nw (partsAt st keep args.toList)=kP) (hS:ksOf ren nw (partsAt st keep args.toList)=kS) (hz:cleanOut lent R O=true)
  (hs:putSt (callSt st ren nw kP kS O) (some d) (rnT nw R)=s) (hk:WPL P ops l s Ψ) :
  WPL P ops ({ dst:=some d,op:=.call { callee:=.value (.func f),args:=args,argTypes:=tys },type:=ty,pos:=pos,after:=af,guard:=g }::l) st Ψ :=
 WPL.callR hc.one hg hd hl hr hins he hob heo (fun _=>hnw) hok hP hS (fun _ _=>hz) (fun _ _ s' h=>by rw[hs]at h;subst h;exact hk)
@[simp] theorem wantA_none{ops:Array Oper}{dst:Option Nat}{op:Op}{ty:TypeId}{pos:String}{af:Array Edge}:wantA ops st { dst:=dst,op:=op,type:=ty,pos:=pos,after:=af,guard:=none }=some true:=rfl
@[simp] theorem wantA_some{ops:Array Oper}{dst:Option Nat}{op:Op}{ty:TypeId}{pos:String}{af:Array Edge}{j:Nat}{want:Bool}:wantA ops st { dst:=dst,op:=op,type:=ty,pos:=pos,after:=af,guard:=some (j,want) }=gd ops st j want:=rfl
@[simp] theorem range_1:List.range 1=[0]:=rfl
@[simp] theorem range_2:List.range 2=[0,1]:=rfl
@[simp] theorem range_3:List.range 3=[0,1,2]:=rfl
@[simp] theorem range_4:List.range 4=[0,1,2,3]:=rfl
@[simp] theorem range_5:List.range 5=[0,1,2,3,4]:=rfl
@[simp] theorem range_6:List.range 6=[0,1,2,3,4,5]:=rfl
@[simp] theorem range_7:List.range 7=[0,1,2,3,4,5,6]:=rfl
@[simp] theorem range_8:List.range 8=[0,1,2,3,4,5,6,7]:=rfl
@[simp] theorem range_9:List.range 9=[0,1,2,3,4,5,6,7,8]:=rfl
@[simp] theorem range_10:List.range 10=[0,1,2,3,4,5,6,7,8,9]:=rfl
@[simp] theorem range_11:List.range 11=[0,1,2,3,4,5,6,7,8,9,10]:=rfl
@[simp] theorem range_12:List.range 12=[0,1,2,3,4,5,6,7,8,9,10,11]:=rfl
@[simp] theorem range_13:List.range 13=[0,1,2,3,4,5,6,7,8,9,10,11,12]:=rfl
@[simp] theorem range_14:List.range 14=[0,1,2,3,4,5,6,7,8,9,10,11,12,13]:=rfl
@[simp] theorem range_15:List.range 15=[0,1,2,3,4,5,6,7,8,9,10,11,12,13,14]:=rfl
@[simp] theorem range_16:List.range 16=[0,1,2,3,4,5,6,7,8,9,10,11,12,13,14,15]:=rfl
@[simp] theorem range_17:List.range 17=[0,1,2,3,4,5,6,7,8,9,10,11,12,13,14,15,16]:=rfl
@[simp] theorem range_18:List.range 18=[0,1,2,3,4,5,6,7,8,9,10,11,12,13,14,15,16,17]:=rfl
@[simp] theorem range_19:List.range 19=[0,1,2,3,4,5,6,7,8,9,10,11,12,13,14,15,16,17,18]:=rfl
@[simp] theorem range_20:List.range 20=[0,1,2,3,4,5,6,7,8,9,10,11,12,13,14,15,16,17,18,19]:=rfl
attribute [simp] lent0 lent0L lent1 lentL lentAt enum without renAt keys nwAt kpOf ksOf partsAt comps cleanOut callSt surv surv1 surv0 keptQ obOut obIn callOk nodupB flat scC scL scLL
end Go.Own
namespace Go.Own
theorem Con.lenOf[Laid]{P:Program}{f:Nat}{fn:Func}{ins:List AV}{ob:List (Nat×Root)}{keep:List Nat}{Φ:AV→List (Nat×Root)→Prop}(i:Nat){xs:List (List C)}
  (hf:P.funcs[f]?=some fn) (hn:(fn.name == "runtime.NumGoroutine")=false) (hb:fn.body.isNone=false) (hi:ins[i]?=some (.fz xs))
  (h:xs.length≤9223372036854775807→Con P f ins ob keep Φ):Con P f ins ob keep Φ:=by
 by_cases hl:xs.length≤9223372036854775807
 ·exact h hl
 ·refine⟨⟨fn,hf,hn,hb⟩,fun β w args hlw h1 h2 h3 h4 h5=>?_⟩
  exfalso
  have:=h2 i _ hi
  cases this with
  |fz _ _ hf=>exact hl hf.len
end Go.Own
namespace Go.Own
variable {P:Program}{tt:Nat→Option TI}{w0:World}{β0:Blk}{st st':St}{β:Blk}{a:Act}{w w':World}{o:Oper}{T:List Nat}[Laid]
section
variable {ops:Array Oper}{Q:Exit→Act→World→Prop}{md:Region.Mode}
def wpAnyF(P:Program)(md:Region.Mode)(ops:Array Oper)(Q:Exit→Act→World→Prop):Nat→Array Bool→(Nat→Nat→Prop)→Act→World→Prop
 |0,listed,_,a,w=>Region.ready md ops listed=[]∧Q .normal a w
 |fuel+1,listed,Z,a,w =>
  (Region.ready md ops listed=[]→Q .normal a w) ∧
  ∀i∈Region.ready md ops listed,wpOp P ops Q i (fun a' w'=>∃Z':Nat→Nat→Prop,(∀b,Z i b→w'.heap[b]?=w.heap[b]?)∧(∀e b,Z i b→Z e b→Z' e b)∧wpAnyF P md ops Q fuel (listed.setIfInBounds i true) Z' a' w') a w
theorem wpAny_of_F:∀(fuel:Nat) (listed:Array Bool) (Z:Nat→Nat→Prop) (a:Act) (w:World),wpAnyF P md ops Q fuel listed Z a w→wpAny P md ops Q fuel listed a w
 |0,_,_,_,_,h=>h
 |fuel+1,_,_,_,_,h=>⟨h.1,fun i hi=>wpOp_mono (fun a' w' h'=>by obtain⟨Z',_,_,h'⟩:=h';exact wpAny_of_F fuel _ Z' a' w' h') (h.2 i hi)⟩
theorem wpAnyF_first{i:Nat}{oi:Oper}{v:Value}(hi:ops[i]?=some oi)(hsel:∀(j:Nat) (o:Oper) cs b,ops[j]?=some o→o.op≠.select cs b)
  (hQ:∀c a w,Q (.panic c) (a.put oi.dst v) w→Q (.panic c) a w) (B:List Nat) (R:Nat→Prop) :
  ∀(fuel:Nat) (listed:Array Bool) (Z:Nat→Nat→Prop) (a:Act) (w:World),(∀j oj,ops[j]?=some oj→j≠i→listed.getD j true=false→(∀e∈oj.after,Region.binds md e=true→e.on≠i)→oi.apart ops oj=true) →
   (∀b,b∈B→listed.getD b true=false∧∃ob,ops[b]?=some ob∧∃x∈ob.after,Region.binds md x=true∧(x.on=i∨x.on∈B)) →
   (∀j,(ops[j]?).isSome=true→j≠i→j∉B→listed.getD j true=false→∀b,R b→Z j b) →
   i∈Region.ready md ops listed→YieldsIf P ops (fun w'=>∀b,R b→w'.heap[b]?=w.heap[b]?) oi v a →
   wpAnyF P md ops Q fuel (listed.setIfInBounds i true) Z (a.put oi.dst v) w→wpAnyF P md ops Q (fuel+1) listed Z a w:=by
 intro fuel
 induction fuel with
 |zero =>
  intro listed Z a w _ _ _ hr hy H
  refine⟨fun h=>(by rw[h]at hr;cases hr),fun j hj=>?_⟩
  by_cases hji:j=i
  ·subst hji;exact hy.wpOp hi (fun b _=>rfl) ⟨Z,fun b _=>rfl,fun e b _ h=>h,H⟩
  ·have:=ready_mono hj hji
   rw[H.1]at this
   cases this
 |succ fuel ih =>
  intro listed Z a w hfree hB hR hr hy H
  refine⟨fun h=>(by rw[h]at hr;cases hr),fun j hj=>?_⟩
  by_cases hji:j=i
  ·subst hji;exact hy.wpOp hi (fun b _=>rfl) ⟨Z,fun b _=>rfl,fun e b _ h=>h,H⟩
  ·have h1:=H.2 j (ready_mono hj hji)
   obtain⟨hjun,oj,hoj,hall⟩:=mem_ready.1 hj
   have unl:∀m,listed.getD m true=false→listed.getD m false≠true:=fun m h0 h1=>by
    rcases Nat.lt_or_ge m listed.size with h'|h'
    ·simp[h']at h0 h1;rw[h0]at h1;cases h1
    ·simp[Array.getElem?_eq_none h']at h1
   have hnot:∀e∈oj.after,Region.binds md e=true→e.on≠i:=fun e he hb heq =>
    unl i (mem_ready.1 hr).1 (heq▸hall e he hb)
   have hjB:j∉B:=fun hm=>by
    obtain⟨_,ob,hob,x,hx,hb,hon⟩:=hB j hm
    rw[hoj]at hob
    injection hob with hob
    subst hob
    rcases hon with hon|hon
    ·exact hnot x hx hb hon
    ·exact unl _ (hB _ hon).1 (hall x hx hb)
   have h2:=wpOp_putIf hoj (hfree j oj hoj hji hjun hnot) (fun cs b=>hsel i oi cs b hi) (fun cs b=>hsel j oj cs b hoj) hQ hy h1
   have hkeep:∀k,(listed.setIfInBounds j true).getD k true=false→listed.getD k true=false:=fun k hun=>by
    by_cases hjk:j=k
    ·subst hjk;exact hjun
    ·rw[getD_set_ne true hjk]at hun;exact hun
   refine wpOp_mono (fun a' w' h3=>?_) h2
   obtain⟨hyy,Z',hz1,hz2,hrec⟩:=h3
   refine⟨Z',hz1,hz2,ih (listed.setIfInBounds j true) Z' a' w' (fun k ok hk hki hun hno=>hfree k ok hk hki (hkeep k hun) hno) (fun b hb=>?_) (fun k hks hki hkB hun b hRb=>hz2 k b (hR j (by rw[hoj];rfl) hji hjB hjun b hRb) (hR k hks hki hkB (hkeep k hun) b hRb)) (ready_mono hr (Ne.symm hji)) ?_ ?_⟩
   ·obtain⟨g1,g2⟩:=hB b hb
    exact⟨by rw[getD_set_ne true (show j≠b from fun e=>hjB (e.symm▸hb))];exact g1,g2⟩
   ·exact hyy.imp (fun ⟨q1,q2⟩=>⟨q1,fun w2 hw2=>q2 w2 fun b hb=>(hw2 b hb).trans (hz1 b (hR j (by rw[hoj];rfl) hji hjB hjun b hb))⟩) id
   ·rw[Array.setIfInBounds_comm _ _ hji]
    exact hrec
end
def HAnyF(P:Program)(ops:Array Oper)(Te:Nat→List Nat)(fuel:Nat)(listed:Array Bool)(st:St)(Ψ:St→Prop):Prop :=
 ∀w0 β0 β a w,RL w0 β0 st β a w→wpAnyF P .any ops (post (norm Ψ) w0 β0) fuel listed (fun e=>ZZ (Te e) β w) a w
theorem WPc.drawF(tok:TOk P tt){id:Nat}{ops:Array Oper}{Φ:Exit→St→Prop}(Te:Nat→List Nat)(h:HAnyF P ops Te ops.size (Array.replicate ops.size false) st (Φ .normal)):WPc P (.region id ops true) st Φ:=fun w0 β0 β a w hr =>
 wp_mono (wp_region_any tok.mixed (wpAny_of_F _ _ _ _ _ (h w0 β0 β a _ hr.drew))) fun e a w ⟨s,β',⟨he,h1⟩,h2⟩=>⟨s,β',he▸h1,h2⟩
def aft(ops:Array Oper)(listed:Array Bool)(i:Nat):List Nat :=
 (List.range ops.size).foldl (fun B j=>if !(listed.getD j true)&&(match ops[j]? with|some oj=>oj.after.any (fun e=>Region.binds .any e&&(e.on==i||B.contains e.on))|none=>false) then j::B else B) []
def okB(ops:Array Oper)(listed:Array Bool)(i:Nat)(B:List Nat):Bool :=
 B.all fun j => !(listed.getD j true)&&(match ops[j]? with|some oj=>oj.after.any (fun e=>Region.binds .any e&&(e.on==i||B.contains e.on))|none=>false)
theorem okB_spec{ops:Array Oper}{listed:Array Bool}{i:Nat}{B:List Nat}(h:okB ops listed i B=true):∀b,b∈B→listed.getD b true=false∧∃ob,ops[b]?=some ob∧∃x∈ob.after,Region.binds .any x=true∧(x.on=i∨x.on∈B):=fun b hb=>by
 have:=List.all_eq_true.1 h b hb
 simp only[Bool.and_eq_true,Bool.not_eq_true']at this
 obtain⟨h1,h2⟩:=this
 refine⟨h1,?_⟩
 split at h2
 ·rename_i ob hob
  obtain⟨x,hx,h3⟩:=Array.any_eq_true'.1 h2
  simp only[Bool.and_eq_true,Bool.or_eq_true,beq_iff_eq,List.contains_eq_mem,decide_eq_true_eq]at h3
  exact⟨ob,hob,x,hx,h3.1,h3.2⟩
 ·simp at h2
def teOf:List (Nat×List Nat)→Nat→List Nat
 |[],_=>[]
 |(k,T)::r,i=>if k=i then T else teOf r i
def takeF(te:List (Nat×List Nat))(ops:Array Oper)(listed:Array Bool)(i:Nat)(T:List Nat):Bool :=
 Region.free .any ops listed i&&(Region.ready .any ops listed).contains i&&okB ops listed i (aft ops listed i) &&
 (List.range ops.size).all fun j=>j==i||listed.getD j true||(aft ops listed i).contains j||subB (teOf te j) T
def valOp(o:Op):Bool:=isV o && !isFn o
def tiedB(te:List (Nat×List Nat)):Bool:=te.all fun x=>x.2.all fun n => !(decide (500000≤n)&&decide (n<900000))||x.2.contains ((n-500000) % 100000)
def schedF(te:List (Nat×List Nat))(ops:Array Oper):Array Bool→List (Nat×List Nat)→Bool
 |listed,[]=>(Region.ready .any ops listed).isEmpty&&tiedB te
 |listed,(k,T)::r=>(match ops[k]? with
  |some o=>if valOp o.op then takeF te ops listed k T else (Region.ready .any ops listed==[k])&&subB T (teOf te k)
  |none=>false)&&schedF te ops (listed.setIfInBounds k true) r
def WPS(P:Program)(ops:Array Oper)(l:List (Nat×List Nat))(st:St)(Ψ:St→Prop):Prop :=
 ∀te listed,Region.noSelect ops=true→schedF te ops listed l=true→HAnyF P ops (teOf te) l.length listed st Ψ
theorem WPc.sched(tok:TOk P tt){id:Nat}{ops:Array Oper}{Φ:Exit→St→Prop}(te l:List (Nat×List Nat))(hn:(Region.noSelect ops&&schedF te ops (Array.replicate ops.size false) l&&(l.length==ops.size))=true)
  (h:WPS P ops l st (Φ .normal)):WPc P (.region id ops true) st Φ:=by
 simp only[Bool.and_eq_true,beq_iff_eq]at hn
 obtain⟨⟨h1,h2⟩,h3⟩:=hn
 have:=h te _ h1 h2
 rw[h3]at this
 exact WPc.drawF tok _ this
section
variable {ops:Array Oper}{l:List (Nat×List Nat)}{Ψ Ψ':St→Prop}{k:Nat}{T':List Nat}
theorem WPS.nil(h:Ψ st):WPS P ops [] st Ψ:=fun te listed hs hB w0 β0 β a w hr=>⟨by simp only[schedF,Bool.and_eq_true]at hB;simpa using hB.1,st,β,⟨rfl,h⟩,hr⟩
theorem WPS.take(ho:ops[k]?=some o)(hV:valOp o.op=true)(hd:dstOk st o=true){v:AV}(hv:(wantA ops st o=some true∧Val P o st v T)∨(wantA ops st o=some false∧v=.sc undef))
  (hk:WPS P ops l (putSt st o.dst v) Ψ):WPS P ops ((k,T)::l) st Ψ:=by
 intro te listed hs hB
 simp only[schedF,ho,hV,if_true,Bool.and_eq_true]at hB
 obtain⟨hB,hB'⟩:=hB
 have hk:=hk te _ hs hB'
 intro w0 β0 β a w hr
 simp only[takeF,Bool.and_eq_true]at hB
 obtain⟨⟨⟨k2,k3⟩,k4⟩,k5⟩:=hB
 have hR:∀j,(ops[j]?).isSome=true→j≠k→j∉aft ops listed k→listed.getD j true=false→∀b,ZZ T β w b→ZZ (teOf te j) β w b:=fun j hjs hj hjB hun b hb=>by
  by_cases hlt:j<ops.size
  ·have:=List.all_eq_true.1 k5 j (List.mem_range.2 hlt)
   rw[hun]at this
   simp only[Bool.or_false,Bool.or_eq_true,beq_iff_eq,List.contains_eq_mem,decide_eq_true_eq]at this
   rcases this with (h|h)|h
   ·exact absurd h hj
   ·exact absurd h hjB
   ·exact⟨hb.1,fun id p e hm=>hb.2 id p e (by simpa using List.all_eq_true.1 h _ hm)⟩
  ·simp[Array.getElem?_eq_none (Nat.le_of_not_lt hlt)]at hjs
 have hQ:∀(u:Value) c a' w',post (norm Ψ) w0 β0 (.panic c) (a'.put o.dst u) w'→post (norm Ψ) w0 β0 (.panic c) a' w':=by
  rintro u c a' w' ⟨s,β',⟨h,_⟩,_⟩
  cases h
 rcases hv with ⟨hw,hval⟩|⟨hw,rfl⟩
 ·obtain⟨u,hu,hvr⟩:=hval β a w hr.rel.ev hr.rel.uq hr.rel.ob
  exact wpAnyF_first ho (Region.noSelect_spec hs) (hQ u) _ (ZZ T β w) _ listed _ a w (Region.free_spec ho k2) (okB_spec k4) hR (by simpa using k3)
   (.inl ⟨want_of hr.rel hw,fun w2 hz=>hu w2 fun b hb hq=>hz b ⟨hb,hq⟩⟩) (hk w0 β0 β _ w (hr.put (dst_lt hd) hvr))
 ·exact wpAnyF_first (v:=undef) ho (Region.noSelect_spec hs) (hQ undef) _ (ZZ T β w) _ listed _ a w (Region.free_spec ho k2) (okB_spec k4) hR (by simpa using k3)
   (.inr ⟨want_of hr.rel hw,rfl⟩) (hk w0 β0 β _ w (hr.put (dst_lt hd) (.sc _)))
theorem WPS.stp(ho:ops[k]?=some o)(hV:valOp o.op=false)(hw:wantA ops st o=some true)(h:Stp P o st T' Ψ')(hT:subB T' T=true)(hk:∀s,Ψ' s→WPS P ops l s Ψ):WPS P ops ((k,T)::l) st Ψ:=by
 intro te listed hs hB
 simp only[schedF,ho,hV,Bool.false_eq_true,if_false,Bool.and_eq_true,beq_iff_eq]at hB
 obtain⟨⟨hr,hTe⟩,hB'⟩:=hB
 intro w0 β0 β a w hrl
 refine⟨fun h0=>(by rw[hr]at h0;cases h0),fun i hi=>?_⟩
 rw[hr]at hi
 simp only[List.mem_cons,List.not_mem_nil,or_false]at hi
 subst hi
 unfold wpOp
 simp only[ho,want_of hrl.rel hw,if_true]
 refine .inl (Oper.wp_mono ?_ (h w0 β0 β a w hrl _))
 rintro a' w' ⟨st',β',h1,h2,h3,h4⟩
 have hsub:∀x,x∈T'→x∈teOf te i:=fun x hx=>by
  have:=List.all_eq_true.1 hT x hx
  have:=List.all_eq_true.1 hTe x (by simpa using this)
  simpa using this
 have h3T:Fr T' β w β' w':=h3
 refine⟨fun e=>ZZ (teOf te e) β' w',fun b hb=>(h3T.to b hb.1 fun id p e hm=>hb.2 id p e (hsub _ hm)).2,fun e b hi hb=>?_,hk st' h1 te _ hs hB' w0 β0 β' a' w' h2⟩
 have:=(h3T.to b hb.1 fun id p e hm=>hi.2 id p e (hsub _ hm)).1
 exact⟨Nat.lt_of_lt_of_le hb.1 h4,fun id p e=>hb.2 id p (this▸e)⟩
theorem WPS.off(ho:ops[k]?=some o)(hV:valOp o.op=false)(hw:wantA ops st o=some false)(hd:dstOk st o=true)(hk:WPS P ops l (putSt st o.dst (.sc undef)) Ψ):WPS P ops ((k,T)::l) st Ψ:=by
 intro te listed hs hB
 simp only[schedF,ho,hV,Bool.false_eq_true,if_false,Bool.and_eq_true,beq_iff_eq]at hB
 obtain⟨⟨hr,hTe⟩,hB'⟩:=hB
 intro w0 β0 β a w hrl
 refine⟨fun h0=>(by rw[hr]at h0;cases h0),fun i hi=>?_⟩
 rw[hr]at hi
 simp only[List.mem_cons,List.not_mem_nil,or_false]at hi
 subst hi
 unfold wpOp
 simp only[ho,want_of hrl.rel hw,Bool.false_eq_true,if_false]
 refine⟨fun e=>ZZ (teOf te e) β w,?_,fun e b _ hb=>hb,hk te _ hs hB' w0 β0 β _ w (hrl.put (dst_lt hd) (.sc _))⟩
 simp
end
end Go.Own
