import Derived.Test.YtmbiikbjkcnnaaaGreatDoorTj
import Derived.OpenShut
import Derived.Deep.DeepHandedRow
import Derived.Lib.LaidTab
import Derived.Carry
/- Lemmas for the proof in the last text of this claim. -/
set_option linter.unusedVariables false
set_option linter.unusedSimpArgs false
set_option linter.unusedSectionVars false
set_option maxRecDepth 1000000
namespace Go.Own
open Go.ChangeShapes Go.WideShapes Go.Deep Go.RowKit Go.ChangeAt
theorem undSS:PP.underlying 25=some (.slice 9):=by kernel_rfl
theorem undS:PP.underlying 9=some .string:=by kernel_rfl
theorem undI:PP.underlying 3=some (.int .i64):=by kernel_rfl
theorem clS:PP.cellsOf 9=1:=by kernel_rfl
theorem clI:PP.cellsOf 3=1:=by kernel_rfl
theorem clSS:PP.cellsOf 25=1:=by kernel_rfl
variable {H:Type}{enc:TypeId×Value→H}{w:World}{base:Nat}{spare:Nat→Bool}{held:Bool}{av:Nat→Prop}{n:Nat}{cs:List Value}{D:DataW H×List MemPlace}
theorem rd_str{v:Value}(h:DataW.trod enc PP w base spare held n 9 [v]=some D):∃s,v=.string s∧s.size≤maxLen:=by
 obtain⟨s,h1,_,h2⟩:=DataW.trod_string undS h
 exact⟨s,by simpa using h1,h2⟩
theorem rd_int{v:Value}(h:DataW.trod enc PP w base spare held n 3 [v]=some D):∃k,v=.int .i64 k:=by
 obtain⟨k,h1,_⟩:=DataW.trod_int undI h
 exact⟨k,by simpa using h1⟩
theorem rd_strs(hav:∀b,av b){v:Value}(h:DataW.trod enc PP w base spare held n 25 [v]=some D):∃l:List ByteArray,(∀s,s∈l→s.size≤maxLen)∧FR av w (.fz (l.map sC)) v :=
 fr_slice sC (fun s=>s.size≤maxLen) (fun _=>rfl) (by decide) hav undSS clS (fun n cs D hl h=>by
  match cs,hl with
  |[a],_ =>
   obtain⟨s,rfl,hs⟩:=rd_str h
   refine⟨s,hs,fun j y hj=>?_⟩
   match j,hj with
   |0,hj=>simp[sC]at hj;subst hj;exact⟨_,rfl,.sc _ rfl⟩
   |j+1,hj=>simp[sC]at hj) h
def Reads1(w:World)(n:String)(d:DataW Unit):Prop :=
 ∃g t cs fuel p,PP.globalNamed n=some g∧(PP.globals[g]?).map (·.type)=some t∧w.var? PP n=some cs∧DataW.trod (fun _=>()) PP w 0 (fun _=>true) false fuel t cs.toList=some (d,p)
theorem reads_laid{w:World}:∀{l:List (String×DataW Unit)} {ps:List MemPlace},DataW.LaidVars PP w l ps→∀n d,(n,d)∈l→Reads1 w n d
 |[],_,_,_,_,hm=>by cases hm
 |(n',d')::r,ps,h,n,d,hm=>by
  obtain⟨g,t,cs,fuel,p,q,h1,h2,h3,h4,h5,_⟩:=h
  rcases List.mem_cons.1 hm with e|e
  ·cases e;exact⟨g,t,cs,fuel,p,h1,h2,h3,h4⟩
  ·exact reads_laid h5 n d e
theorem gSyn:PP.globalNamed "strconv.ErrSyntax" = some 2:=by kernel_rfl
theorem gRng:PP.globalNamed "strconv.ErrRange" = some 3:=by kernel_rfl
theorem tSyn:(PP.globals[2]?).map (·.type)=some 169:=by kernel_rfl
theorem tRng:(PP.globals[3]?).map (·.type)=some 169:=by kernel_rfl
theorem undE:∃ms,PP.underlying 169=some (.interface ms):=⟨_,rfl⟩
theorem err_cell{w:World}{n:String}{g:Nat}{s:List UInt8}(hg:PP.globalNamed n=some g)(ht:(PP.globals[g]?).map (·.type)=some 169)(h:Reads1 w n (.iface "*errors.errorString" (.ptr (.agg [.lit (.string s)])))) :
  ∃ev,w.cell? ⟨g,0,none⟩=some ev∧(ev=.nilIface∨∃te pe,ev=.iface te pe):=by
 obtain⟨g',t,cs,fuel,p,h1,h2,h3,h4⟩:=h
 obtain rfl:=Option.some.inj (hg.symm.trans h1)
 obtain rfl:=Option.some.inj (ht.symm.trans h2)
 obtain⟨ms,hu⟩:=undE
 have key:∃u v,cs.toList=[.iface u v]:=by
  cases fuel with
  |zero=>simp[DataW.trod]at h4
  |succ m =>
   unfold DataW.trod at h4
   rw[hu]at h4
   split at h4<;>simp_all
 obtain⟨u,v,hcs⟩:=key
 have:=World.var?_cell hg h3 0
 refine⟨.iface u v,?_,.inr ⟨u,v,rfl⟩⟩
 rw[this]
 have:cs=#[.iface u v]:=by apply Array.toList_inj.1;simpa using hcs
 rw[this];rfl
theorem post_of_below{H:Type}{enc:TypeId×Value→H}{P:Program}{f:Func}{s:ChangeSpec}{apart fresh handsOn again:Bool}{W W':World}{args:Array Value}{v:Value}{ds gs:List (DataW H)}{before pa pv:List MemPlace}
  (hW:DataW.Whole enc P f.params.toList s.vars apart W args.toList ds gs before)
  (hres:∀(b:Nat) (sp:Nat→Bool) (hd:Bool),DataW.TrodAll enc P W' b sp hd f.resultTypes.toList (v.resultList f.resultTypes.size) (s.fn H (ds++gs)).results [])
  (hargs:∀sp:Nat→Bool,(∀p∈before,sp p.block=true)→DataW.TrodAll enc P W' 0 sp true f.params.toList args.toList (s.fn H (ds++gs)).args pa)
  (hvars:∀sp:Nat→Bool,(∀p∈before,sp p.block=true)→DataW.TrodVars enc P W' sp s.vars (s.fn H (ds++gs)).vars pv)
  (hps:before=pa++pv) (hk:W.keptBut W' (·∈before)) (hfz:∀b off,b<W.heap.size→W'.frozen? ⟨b,off,none⟩=W.frozen? ⟨b,off,none⟩)
  (hok:∀(j:Nat) (t:TypeId) (r:Value),f.resultTypes[j]?=some t→(v.resultList f.resultTypes.size)[j]?=some r→Value.okWide P W' .any 0 t r) :
  s.post enc P f apart fresh handsOn again W args v W':=by
 have hold:∀p∈before,(fun b=>decide (b<W.heap.size)) p.block=true:=fun p hp=>by simpa using hW.lt p hp
 have hlt:=hW.lt
 refine⟨ds,gs,before,[],pa,pv,hW,hres _ _ _,hargs _ hold,hvars _ hold,World.keptBut_mono (fun p hp=>⟨hp,?_⟩) hk,fun _=>?_⟩
 ·rw[hps,List.mem_append]at hp
  exact Or.inr hp
 ·obtain⟨_,_,_,_,_,hz,hn⟩:=hW
  refine⟨hok,_,_,([]++pa)++pv,⟨[]++pa,pv,trodAll_append (hargs _ (fun _ _=>rfl)) (hres _ _ _),hvars _ (fun _ _=>rfl),rfl,?_,?_⟩,?_⟩
  ·intro b off hp
   have hp':MemPlace.cell b off∈before:=by rw[hps];simpa using hp
   rw[hfz b off (hlt _ hp')]
   exact hz b off hp'
  ·intro ha
   have:=hn ha
   rw[hps]at this
   simpa using this
  ·intro p hp _
   rw[hps]
   simpa using hp
@[reducible] def LI:Laid where
 S:=fun b=>b=0∨b=1∨b=2∨b=3
 ok:=Facts
 mono:=fun w w' h hf=>by
  have hc:∀b,(b=0∨b=1∨b=2∨b=3)→w'.cell? ⟨b,0,none⟩=w.cell? ⟨b,0,none⟩:=fun b hb=>World.cell?_of_block (w:=w) (h b hb)
  refine⟨by rw[hc 1 (by decide)];exact hf.maxLen,by rw[hc 2 (by decide)];exact hf.syn,by rw[hc 3 (by decide)];exact hf.rng,?_⟩
  have hp:=hf.pow
  unfold Lib.TabIs World.var? at hp ⊢
  have hg:PP.globalNamed "internal/strconv.uint64pow10" = some 0:=by kernel_rfl
  rw[hg]at hp ⊢
  simp only[Option.bind_some]at hp ⊢
  rw[h 0 (by decide)]
  exact hp
theorem LI_lt{W:World}(hf:Facts W):∀b,LI.S b→b<W.heap.size:=by
 rintro b (rfl|rfl|rfl|rfl)
 ·have:=hf.pow
  unfold Lib.TabIs World.var? at this
  have hg:PP.globalNamed "internal/strconv.uint64pow10" = some 0:=by kernel_rfl
  rw[hg]at this
  simp only[Option.bind_some]at this
  split at this
  ·rename_i hx;exact(Array.getElem?_eq_some_iff.1 hx).1
  ·simp at this
 ·obtain⟨m,h⟩:=hf.maxLen;exact World.block_lt_of_cell? _ _ h
 ·obtain⟨m,h,_⟩:=hf.syn;exact World.block_lt_of_cell? _ _ h
 ·obtain⟨m,h,_⟩:=hf.rng;exact World.block_lt_of_cell? _ _ h
theorem undB:PP.underlying 4=some .bool:=by kernel_rfl
theorem laidOut:laidOutB PP=true:=by kernel_rfl
def avC:C→AV
 |.sc v=>.sc v
 |.fz xs=>.fz xs
 |_=>.un
theorem VR.ofFR{β:Blk}{w:World}{cs:List C}{us:Array Value}(hl:cs.length=us.size)(h:∀(j:Nat) (y:C),cs[j]?=some y→∃u,us.toList[j]?=some u∧FR (fun b=>β b=none) w y u):VR β w (.agg (cs.map avC)) (.agg us):=by
 have hf:∃f:Nat→Value,∀(j:Nat) (y:C),cs[j]?=some y→us.toList[j]?=some (f j)∧FR (fun b=>β b=none) w y (f j):=by
  refine⟨fun j=>if hj:j<us.size then us[j] else .bool true,fun j y hj=>?_⟩
  obtain⟨u,h1,h2⟩:=h j y hj
  have hlt:j<us.size:=by rw[←hl];exact(List.getElem?_eq_some_iff.1 hj).1
  have:us[j]=u:=by simpa[hlt]using h1
  simp only[dif_pos hlt,this]
  exact⟨h1,h2⟩
 obtain⟨f,hf⟩:=hf
 have key:∀(i:Nat) (x:AV),(cs.map avC)[i]?=some x→∃y,cs[i]?=some y∧x=avC y:=fun i x hx=>by
  rw[List.getElem?_map,Option.map_eq_some_iff]at hx
  obtain⟨y,h1,h2⟩:=hx
  exact⟨y,h1,h2.symm⟩
 refine .agg _ _ f (by simpa using hl) (fun i x hx=>?_) (fun i x hx=>?_) fun i x hx=>?_
 ·obtain⟨y,h1,_⟩:=key i x hx
  simpa using (hf i y h1).1
 ·obtain⟨y,h1,_⟩:=key i x hx
  exact(hf i y h1).2.one
 ·obtain⟨y,h1,rfl⟩:=key i x hx
  have h2:=(hf i y h1).2
  cases y with
  |sc v=>cases h2 with|sc _ _=>exact .sc _
  |fz xs=>exact .fz _ _ h2
  |sl e k xs=>exact .un _
  |no=>exact .un _
theorem struct_cells{W:World}{base:Nat}{t:TypeId}{v:Value}{fs:Array Field}(ht:PP.underlying t=some (.struct fs))(h:Value.okWide PP W .any base t v):∃us,v=.agg us∧us.size=PP.cellsOf t∧v.cells.toList=us.toList:=by
 simp only[Value.okWide,ht]at h
 obtain⟨us,rfl,h1,_⟩:=h
 exact⟨us,rfl,h1,rfl⟩
end Go.Own
set_option maxRecDepth 1000000
namespace Go.Own
open Go.ChangeShapes Go.WideShapes Go.Deep
def Pg.cs(p:Pg):List C:=[.fz (p.nodes.map Nd.cs),.sc (.int .i64 p.root)]
variable {H:Type}{enc:TypeId×Value→H}{w:World}{base:Nat}{spare:Nat→Bool}{held:Bool}{av:Nat→Prop}{n:Nat}{cs:List Value}{D:DataW H×List MemPlace}
theorem rg{cs:List Value}{f:Field}{T O k:Nat}{xs:List (DataW H×List MemPlace)}{i:Nat}(h:DataW.trod enc PP w base spare held n f.type ((cs.drop f.offset).take (PP.cellsOf f.type))=xs[i]?)(t:f.type=T)(o:f.offset=O)(c:PP.cellsOf T=k)(hi:i<xs.length) :
  DataW.trod enc PP w base spare held n T ((cs.drop O).take k)=some xs[i]:=by
 subst t o
 rw[c,List.getElem?_eq_getElem hi]at h
 exact h
theorem frn:∀(j:Nat) (y:C),([]:List C)[j]?=some y→∃u,([]:List Value)[j]?=some u∧FR av w y u:=fun j y h=>by simp at h
theorem frc{x:C}{xs:List C}{a:Value}{vs:List Value}(h:FR av w x a)(t:∀(j:Nat) (y:C),xs[j]?=some y→∃u,vs[j]?=some u∧FR av w y u):∀(j:Nat) (y:C),(x::xs)[j]?=some y→∃u,(a::vs)[j]?=some u∧FR av w y u
 |0,y,e=>by cases Option.some.inj e;exact⟨a,rfl,h⟩
 |j+1,y,e=>t j y e
theorem frx{a:Value}{y:C}(h:∃u,some a=some u∧FR av w y u):FR av w y a:=by
 obtain⟨u,hu,h⟩:=h
 cases hu
 exact h
theorem und_Value:∃f0 f1 f2,PP.underlying 100=some (.struct #[f0,f1,f2])∧(f0.type=3∧f0.offset=0)∧(f1.type=3∧f1.offset=1)∧(f2.type=9∧f2.offset=2):=⟨_,_,_,rfl,⟨rfl,rfl⟩,⟨rfl,rfl⟩,⟨rfl,rfl⟩⟩
theorem cl_Value:PP.cellsOf 100=3:=by kernel_rfl
theorem rd_Value(hav:∀b,av b)(hl:cs.length=3)(h:DataW.trod enc PP w base spare held n 100 cs=some D) :
  ∃c:V,c.tx∧∀(j:Nat) (y:C),(V.cs c)[j]?=some y→∃u,cs[j]?=some u∧FR av w y u:=by
 obtain⟨f0,f1,f2,hu,⟨t0,o0⟩,⟨t1,o1⟩,⟨t2,o2⟩⟩:=und_Value
 obtain⟨xs,m,_,_,_,hx,hf⟩:=DataW.trod_struct hu h
 have hxl:xs.length=3:=hx
 match cs,hl with
 |[a0,a1,a2],_ =>
  have g0:=rg (hf 0 f0 rfl) t0 o0 clI (by omega)
  have g1:=rg (hf 1 f1 rfl) t1 o1 clI (by omega)
  have g2:=rg (hf 2 f2 rfl) t2 o2 clS (by omega)
  simp only[List.drop_zero,List.take_succ_cons,List.take_zero,List.drop_succ_cons]at g0 g1 g2
  obtain⟨x0,rfl⟩:=rd_int g0
  obtain⟨x1,rfl⟩:=rd_int g1
  obtain⟨x2,rfl,p2⟩:=rd_str g2
  exact⟨⟨x0,x1,x2⟩,p2,frc (.sc _ rfl) (frc (.sc _ rfl) (frc (.sc _ rfl) frn))⟩
theorem und_ValueS:PP.underlying 187=some (.slice 100):=by kernel_rfl
theorem cl_ValueS:PP.cellsOf 187=1:=by kernel_rfl
theorem rd_ValueS(hav:∀b,av b){v:Value}(h:DataW.trod enc PP w base spare held n 187 [v]=some D):∃l:List V,(∀x,x∈l→x.tx)∧FR av w (.fz (l.map V.cs)) v :=
 fr_slice V.cs V.tx (fun _=>rfl) (by decide) hav und_ValueS cl_Value (fun n cs D hl h=>rd_Value hav hl h) h
theorem und_Cell:∃f0 f1 f2 f3 f4 f5,PP.underlying 189=some (.struct #[f0,f1,f2,f3,f4,f5])∧(f0.type=3∧f0.offset=0)∧(f1.type=9∧f1.offset=1)∧(f2.type=3∧f2.offset=2)∧(f3.type=3∧f3.offset=3)∧(f4.type=25∧f4.offset=4)∧(f5.type=187∧f5.offset=5):=⟨_,_,_,_,_,_,rfl,⟨rfl,rfl⟩,⟨rfl,rfl⟩,⟨rfl,rfl⟩,⟨rfl,rfl⟩,⟨rfl,rfl⟩,⟨rfl,rfl⟩⟩
theorem cl_Cell:PP.cellsOf 189=6:=by kernel_rfl
theorem rd_Cell(hav:∀b,av b)(hl:cs.length=6)(h:DataW.trod enc PP w base spare held n 189 cs=some D) :
  ∃c:Cl,c.tx∧∀(j:Nat) (y:C),(Cl.cs c)[j]?=some y→∃u,cs[j]?=some u∧FR av w y u:=by
 obtain⟨f0,f1,f2,f3,f4,f5,hu,⟨t0,o0⟩,⟨t1,o1⟩,⟨t2,o2⟩,⟨t3,o3⟩,⟨t4,o4⟩,⟨t5,o5⟩⟩:=und_Cell
 obtain⟨xs,m,_,_,_,hx,hf⟩:=DataW.trod_struct hu h
 have hxl:xs.length=6:=hx
 match cs,hl with
 |[a0,a1,a2,a3,a4,a5],_ =>
  have g0:=rg (hf 0 f0 rfl) t0 o0 clI (by omega)
  have g1:=rg (hf 1 f1 rfl) t1 o1 clS (by omega)
  have g2:=rg (hf 2 f2 rfl) t2 o2 clI (by omega)
  have g3:=rg (hf 3 f3 rfl) t3 o3 clI (by omega)
  have g4:=rg (hf 4 f4 rfl) t4 o4 clSS (by omega)
  have g5:=rg (hf 5 f5 rfl) t5 o5 cl_ValueS (by omega)
  simp only[List.drop_zero,List.take_succ_cons,List.take_zero,List.drop_succ_cons]at g0 g1 g2 g3 g4 g5
  obtain⟨x0,rfl⟩:=rd_int g0
  obtain⟨x1,rfl,p1⟩:=rd_str g1
  obtain⟨x2,rfl⟩:=rd_int g2
  obtain⟨x3,rfl⟩:=rd_int g3
  obtain⟨x4,p4,q4⟩:=rd_strs (av:=av) hav g4
  obtain⟨x5,p5,q5⟩:=rd_ValueS (av:=av) hav g5
  exact⟨⟨x0,x1,x2,x3,x4,x5⟩,⟨p1,p4,p5⟩,frc (.sc _ rfl) (frc (.sc _ rfl) (frc (.sc _ rfl) (frc (.sc _ rfl) (frc q4 (frc q5 frn)))))⟩
theorem und_CellS:PP.underlying 22=some (.slice 189):=by kernel_rfl
theorem cl_CellS:PP.cellsOf 22=1:=by kernel_rfl
theorem rd_CellS(hav:∀b,av b){v:Value}(h:DataW.trod enc PP w base spare held n 22 [v]=some D):∃l:List Cl,(∀x,x∈l→x.tx)∧FR av w (.fz (l.map Cl.cs)) v :=
 fr_slice Cl.cs Cl.tx (fun _=>rfl) (by decide) hav und_CellS cl_Cell (fun n cs D hl h=>rd_Cell hav hl h) h
theorem und_Link:∃f0 f1 f2,PP.underlying 324=some (.struct #[f0,f1,f2])∧(f0.type=9∧f0.offset=0)∧(f1.type=3∧f1.offset=1)∧(f2.type=9∧f2.offset=2):=⟨_,_,_,rfl,⟨rfl,rfl⟩,⟨rfl,rfl⟩,⟨rfl,rfl⟩⟩
theorem cl_Link:PP.cellsOf 324=3:=by kernel_rfl
theorem rd_Link(hav:∀b,av b)(hl:cs.length=3)(h:DataW.trod enc PP w base spare held n 324 cs=some D) :
  ∃c:Lk,c.tx∧∀(j:Nat) (y:C),(Lk.cs c)[j]?=some y→∃u,cs[j]?=some u∧FR av w y u:=by
 obtain⟨f0,f1,f2,hu,⟨t0,o0⟩,⟨t1,o1⟩,⟨t2,o2⟩⟩:=und_Link
 obtain⟨xs,m,_,_,_,hx,hf⟩:=DataW.trod_struct hu h
 have hxl:xs.length=3:=hx
 match cs,hl with
 |[a0,a1,a2],_ =>
  have g0:=rg (hf 0 f0 rfl) t0 o0 clS (by omega)
  have g1:=rg (hf 1 f1 rfl) t1 o1 clI (by omega)
  have g2:=rg (hf 2 f2 rfl) t2 o2 clS (by omega)
  simp only[List.drop_zero,List.take_succ_cons,List.take_zero,List.drop_succ_cons]at g0 g1 g2
  obtain⟨x0,rfl,p0⟩:=rd_str g0
  obtain⟨x1,rfl⟩:=rd_int g1
  obtain⟨x2,rfl,p2⟩:=rd_str g2
  exact⟨⟨x0,x1,x2⟩,⟨p0,p2⟩,frc (.sc _ rfl) (frc (.sc _ rfl) (frc (.sc _ rfl) frn))⟩
theorem und_LinkS:PP.underlying 191=some (.slice 324):=by kernel_rfl
theorem cl_LinkS:PP.cellsOf 191=1:=by kernel_rfl
theorem rd_LinkS(hav:∀b,av b){v:Value}(h:DataW.trod enc PP w base spare held n 191 [v]=some D):∃l:List Lk,(∀x,x∈l→x.tx)∧FR av w (.fz (l.map Lk.cs)) v :=
 fr_slice Lk.cs Lk.tx (fun _=>rfl) (by decide) hav und_LinkS cl_Link (fun n cs D hl h=>rd_Link hav hl h) h
theorem und_Type:∃f0 f1,PP.underlying 326=some (.struct #[f0,f1])∧(f0.type=9∧f0.offset=0)∧(f1.type=3∧f1.offset=1):=⟨_,_,rfl,⟨rfl,rfl⟩,⟨rfl,rfl⟩⟩
theorem cl_Type:PP.cellsOf 326=2:=by kernel_rfl
theorem rd_Type(hav:∀b,av b)(hl:cs.length=2)(h:DataW.trod enc PP w base spare held n 326 cs=some D) :
  ∃c:Ty,c.tx∧∀(j:Nat) (y:C),(Ty.cs c)[j]?=some y→∃u,cs[j]?=some u∧FR av w y u:=by
 obtain⟨f0,f1,hu,⟨t0,o0⟩,⟨t1,o1⟩⟩:=und_Type
 obtain⟨xs,m,_,_,_,hx,hf⟩:=DataW.trod_struct hu h
 have hxl:xs.length=2:=hx
 match cs,hl with
 |[a0,a1],_ =>
  have g0:=rg (hf 0 f0 rfl) t0 o0 clS (by omega)
  have g1:=rg (hf 1 f1 rfl) t1 o1 clI (by omega)
  simp only[List.drop_zero,List.take_succ_cons,List.take_zero,List.drop_succ_cons]at g0 g1
  obtain⟨x0,rfl,p0⟩:=rd_str g0
  obtain⟨x1,rfl⟩:=rd_int g1
  exact⟨⟨x0,x1⟩,⟨p0⟩,frc (.sc _ rfl) (frc (.sc _ rfl) frn)⟩
theorem und_TypeS:PP.underlying 91=some (.slice 326):=by kernel_rfl
theorem cl_TypeS:PP.cellsOf 91=1:=by kernel_rfl
theorem rd_TypeS(hav:∀b,av b){v:Value}(h:DataW.trod enc PP w base spare held n 91 [v]=some D):∃l:List Ty,(∀x,x∈l→x.tx)∧FR av w (.fz (l.map Ty.cs)) v :=
 fr_slice Ty.cs Ty.tx (fun _=>rfl) (by decide) hav und_TypeS cl_Type (fun n cs D hl h=>rd_Type hav hl h) h
theorem und_Inst:∃f0 f1 f2 f3 f4 f5,PP.underlying 193=some (.struct #[f0,f1,f2,f3,f4,f5])∧(f0.type=9∧f0.offset=0)∧(f1.type=3∧f1.offset=1)∧(f2.type=25∧f2.offset=2)∧(f3.type=187∧f3.offset=3)∧(f4.type=191∧f4.offset=4)∧(f5.type=91∧f5.offset=5):=⟨_,_,_,_,_,_,rfl,⟨rfl,rfl⟩,⟨rfl,rfl⟩,⟨rfl,rfl⟩,⟨rfl,rfl⟩,⟨rfl,rfl⟩,⟨rfl,rfl⟩⟩
theorem cl_Inst:PP.cellsOf 193=6:=by kernel_rfl
theorem rd_Inst(hav:∀b,av b)(hl:cs.length=6)(h:DataW.trod enc PP w base spare held n 193 cs=some D) :
  ∃c:In,c.tx∧∀(j:Nat) (y:C),(In.cs c)[j]?=some y→∃u,cs[j]?=some u∧FR av w y u:=by
 obtain⟨f0,f1,f2,f3,f4,f5,hu,⟨t0,o0⟩,⟨t1,o1⟩,⟨t2,o2⟩,⟨t3,o3⟩,⟨t4,o4⟩,⟨t5,o5⟩⟩:=und_Inst
 obtain⟨xs,m,_,_,_,hx,hf⟩:=DataW.trod_struct hu h
 have hxl:xs.length=6:=hx
 match cs,hl with
 |[a0,a1,a2,a3,a4,a5],_ =>
  have g0:=rg (hf 0 f0 rfl) t0 o0 clS (by omega)
  have g1:=rg (hf 1 f1 rfl) t1 o1 clI (by omega)
  have g2:=rg (hf 2 f2 rfl) t2 o2 clSS (by omega)
  have g3:=rg (hf 3 f3 rfl) t3 o3 cl_ValueS (by omega)
  have g4:=rg (hf 4 f4 rfl) t4 o4 cl_LinkS (by omega)
  have g5:=rg (hf 5 f5 rfl) t5 o5 cl_TypeS (by omega)
  simp only[List.drop_zero,List.take_succ_cons,List.take_zero,List.drop_succ_cons]at g0 g1 g2 g3 g4 g5
  obtain⟨x0,rfl,p0⟩:=rd_str g0
  obtain⟨x1,rfl⟩:=rd_int g1
  obtain⟨x2,p2,q2⟩:=rd_strs (av:=av) hav g2
  obtain⟨x3,p3,q3⟩:=rd_ValueS (av:=av) hav g3
  obtain⟨x4,p4,q4⟩:=rd_LinkS (av:=av) hav g4
  obtain⟨x5,p5,q5⟩:=rd_TypeS (av:=av) hav g5
  exact⟨⟨x0,x1,x2,x3,x4,x5⟩,⟨p0,p2,p3,p4,p5⟩,frc (.sc _ rfl) (frc (.sc _ rfl) (frc q2 (frc q3 (frc q4 (frc q5 frn)))))⟩
theorem und_InstS:PP.underlying 23=some (.slice 193):=by kernel_rfl
theorem cl_InstS:PP.cellsOf 23=1:=by kernel_rfl
theorem rd_InstS(hav:∀b,av b){v:Value}(h:DataW.trod enc PP w base spare held n 23 [v]=some D):∃l:List In,(∀x,x∈l→x.tx)∧FR av w (.fz (l.map In.cs)) v :=
 fr_slice In.cs In.tx (fun _=>rfl) (by decide) hav und_InstS cl_Inst (fun n cs D hl h=>rd_Inst hav hl h) h
theorem und_ints:PP.underlying 54=some (.slice 3):=by kernel_rfl
theorem cl_ints:PP.cellsOf 54=1:=by kernel_rfl
theorem rd_ints(hav:∀b,av b){v:Value}(h:DataW.trod enc PP w base spare held n 54 [v]=some D):∃l:List Int,(∀x,x∈l→True)∧FR av w (.fz (l.map nC)) v :=
 fr_slice nC (fun _=>True) (fun _=>rfl) (by decide) hav und_ints clI (fun n cs D hl h=>by
  match cs,hl with
  |[a],_ =>
   obtain⟨s,rfl⟩:=rd_int h
   refine⟨s,trivial,fun j y hj=>?_⟩
   match j,hj with
   |0,hj=>simp[nC]at hj;subst hj;exact⟨_,rfl,.sc _ rfl⟩
   |j+1,hj=>simp[nC]at hj) h
theorem und_Node:∃f0 f1 f2 f3 f4,PP.underlying 358=some (.struct #[f0,f1,f2,f3,f4])∧(f0.type=3∧f0.offset=0)∧(f1.type=3∧f1.offset=1)∧(f2.type=9∧f2.offset=2)∧(f3.type=25∧f3.offset=3)∧(f4.type=54∧f4.offset=4):=⟨_,_,_,_,_,rfl,⟨rfl,rfl⟩,⟨rfl,rfl⟩,⟨rfl,rfl⟩,⟨rfl,rfl⟩,⟨rfl,rfl⟩⟩
theorem cl_Node:PP.cellsOf 358=5:=by kernel_rfl
theorem rd_Node(hav:∀b,av b)(hl:cs.length=5)(h:DataW.trod enc PP w base spare held n 358 cs=some D) :
  ∃c:Nd,c.tx∧∀(j:Nat) (y:C),(Nd.cs c)[j]?=some y→∃u,cs[j]?=some u∧FR av w y u:=by
 obtain⟨f0,f1,f2,f3,f4,hu,⟨t0,o0⟩,⟨t1,o1⟩,⟨t2,o2⟩,⟨t3,o3⟩,⟨t4,o4⟩⟩:=und_Node
 obtain⟨xs,m,_,_,_,hx,hf⟩:=DataW.trod_struct hu h
 have hxl:xs.length=5:=hx
 match cs,hl with
 |[a0,a1,a2,a3,a4],_ =>
  have g0:=rg (hf 0 f0 rfl) t0 o0 clI (by omega)
  have g1:=rg (hf 1 f1 rfl) t1 o1 clI (by omega)
  have g2:=rg (hf 2 f2 rfl) t2 o2 clS (by omega)
  have g3:=rg (hf 3 f3 rfl) t3 o3 clSS (by omega)
  have g4:=rg (hf 4 f4 rfl) t4 o4 cl_ints (by omega)
  simp only[List.drop_zero,List.take_succ_cons,List.take_zero,List.drop_succ_cons]at g0 g1 g2 g3 g4
  obtain⟨x0,rfl⟩:=rd_int g0
  obtain⟨x1,rfl⟩:=rd_int g1
  obtain⟨x2,rfl,p2⟩:=rd_str g2
  obtain⟨x3,p3,q3⟩:=rd_strs (av:=av) hav g3
  obtain⟨x4,p4,q4⟩:=rd_ints (av:=av) hav g4
  exact⟨⟨x0,x1,x2,x3,x4⟩,⟨p2,p3⟩,frc (.sc _ rfl) (frc (.sc _ rfl) (frc (.sc _ rfl) (frc q3 (frc q4 frn))))⟩
theorem und_NodeS:PP.underlying 195=some (.slice 358):=by kernel_rfl
theorem cl_NodeS:PP.cellsOf 195=1:=by kernel_rfl
theorem rd_NodeS(hav:∀b,av b){v:Value}(h:DataW.trod enc PP w base spare held n 195 [v]=some D):∃l:List Nd,(∀x,x∈l→x.tx)∧FR av w (.fz (l.map Nd.cs)) v :=
 fr_slice Nd.cs Nd.tx (fun _=>rfl) (by decide) hav und_NodeS cl_Node (fun n cs D hl h=>rd_Node hav hl h) h
theorem und_Prog:∃f0 f1,PP.underlying 197=some (.struct #[f0,f1])∧(f0.type=195∧f0.offset=0)∧(f1.type=3∧f1.offset=1):=⟨_,_,rfl,⟨rfl,rfl⟩,⟨rfl,rfl⟩⟩
theorem cl_Prog:PP.cellsOf 197=2:=by kernel_rfl
theorem rd_Prog(hav:∀b,av b)(hl:cs.length=2)(h:DataW.trod enc PP w base spare held n 197 cs=some D) :
  ∃c:Pg,c.tx∧∀(j:Nat) (y:C),(Pg.cs c)[j]?=some y→∃u,cs[j]?=some u∧FR av w y u:=by
 obtain⟨f0,f1,hu,⟨t0,o0⟩,⟨t1,o1⟩⟩:=und_Prog
 obtain⟨xs,m,_,_,_,hx,hf⟩:=DataW.trod_struct hu h
 have hxl:xs.length=2:=hx
 match cs,hl with
 |[a0,a1],_ =>
  have g0:=rg (hf 0 f0 rfl) t0 o0 cl_NodeS (by omega)
  have g1:=rg (hf 1 f1 rfl) t1 o1 clI (by omega)
  simp only[List.drop_zero,List.take_succ_cons,List.take_zero,List.drop_succ_cons]at g0 g1
  obtain⟨x0,p0,q0⟩:=rd_NodeS (av:=av) hav g0
  obtain⟨x1,rfl⟩:=rd_int g1
  exact⟨⟨x0,x1⟩,p0,frc q0 (frc (.sc _ rfl) frn)⟩
theorem und_Unit:∃f0 f1,PP.underlying 199=some (.struct #[f0,f1])∧(f0.type=3∧f0.offset=0)∧(f1.type=197∧f1.offset=1):=⟨_,_,rfl,⟨rfl,rfl⟩,⟨rfl,rfl⟩⟩
theorem cl_Unit:PP.cellsOf 199=3:=by kernel_rfl
theorem rd_Unit(hav:∀b,av b)(hl:cs.length=3)(h:DataW.trod enc PP w base spare held n 199 cs=some D) :
  ∃c:Un,c.tx∧∀(j:Nat) (y:C),(Un.cs c)[j]?=some y→∃u,cs[j]?=some u∧FR av w y u:=by
 obtain⟨f0,f1,hu,⟨t0,o0⟩,⟨t1,o1⟩⟩:=und_Unit
 obtain⟨xs,m,_,_,_,hx,hf⟩:=DataW.trod_struct hu h
 have hxl:xs.length=2:=hx
 match cs,hl with
 |[a0,a1,a2],_ =>
  have g0:=rg (hf 0 f0 rfl) t0 o0 clI (by omega)
  have g1:=rg (hf 1 f1 rfl) t1 o1 cl_Prog (by omega)
  simp only[List.drop_zero,List.take_succ_cons,List.take_zero,List.drop_succ_cons]at g0 g1
  obtain⟨x0,rfl⟩:=rd_int g0
  obtain⟨x1,p1,q1⟩:=rd_Prog (av:=av) hav (by rfl) g1
  exact⟨⟨x0,x1⟩,⟨p1⟩,frc (.sc _ rfl) (frc (frx (q1 0 _ rfl)) (frc (frx (q1 1 _ rfl)) frn))⟩
theorem und_UnitS:PP.underlying 24=some (.slice 199):=by kernel_rfl
theorem cl_UnitS:PP.cellsOf 24=1:=by kernel_rfl
theorem rd_UnitS(hav:∀b,av b){v:Value}(h:DataW.trod enc PP w base spare held n 24 [v]=some D):∃l:List Un,(∀x,x∈l→x.tx)∧FR av w (.fz (l.map Un.cs)) v :=
 fr_slice Un.cs Un.tx (fun _=>rfl) (by decide) hav und_UnitS cl_Unit (fun n cs D hl h=>rd_Unit hav hl h) h
theorem und_Sys:∃f0 f1 f2 f3,PP.underlying 27=some (.struct #[f0,f1,f2,f3])∧(f0.type=22∧f0.offset=0)∧(f1.type=23∧f1.offset=1)∧(f2.type=24∧f2.offset=2)∧(f3.type=25∧f3.offset=3):=⟨_,_,_,_,rfl,⟨rfl,rfl⟩,⟨rfl,rfl⟩,⟨rfl,rfl⟩,⟨rfl,rfl⟩⟩
theorem cl_Sys:PP.cellsOf 27=4:=by kernel_rfl
theorem rd_Sys(hav:∀b,av b)(hl:cs.length=4)(h:DataW.trod enc PP w base spare held n 27 cs=some D) :
  ∃c:Sy,c.tx∧∀(j:Nat) (y:C),(Sy.cs c)[j]?=some y→∃u,cs[j]?=some u∧FR av w y u:=by
 obtain⟨f0,f1,f2,f3,hu,⟨t0,o0⟩,⟨t1,o1⟩,⟨t2,o2⟩,⟨t3,o3⟩⟩:=und_Sys
 obtain⟨xs,m,_,_,_,hx,hf⟩:=DataW.trod_struct hu h
 have hxl:xs.length=4:=hx
 match cs,hl with
 |[a0,a1,a2,a3],_ =>
  have g0:=rg (hf 0 f0 rfl) t0 o0 cl_CellS (by omega)
  have g1:=rg (hf 1 f1 rfl) t1 o1 cl_InstS (by omega)
  have g2:=rg (hf 2 f2 rfl) t2 o2 cl_UnitS (by omega)
  have g3:=rg (hf 3 f3 rfl) t3 o3 clSS (by omega)
  simp only[List.drop_zero,List.take_succ_cons,List.take_zero,List.drop_succ_cons]at g0 g1 g2 g3
  obtain⟨x0,p0,q0⟩:=rd_CellS (av:=av) hav g0
  obtain⟨x1,p1,q1⟩:=rd_InstS (av:=av) hav g1
  obtain⟨x2,p2,q2⟩:=rd_UnitS (av:=av) hav g2
  obtain⟨x3,p3,q3⟩:=rd_strs (av:=av) hav g3
  exact⟨⟨x0,x1,x2,x3⟩,⟨p0,p1,p2,p3⟩,frc q0 (frc q1 (frc q2 (frc q3 frn)))⟩
theorem und_Def:∃f0 f1,PP.underlying 330=some (.struct #[f0,f1])∧(f0.type=9∧f0.offset=0)∧(f1.type=197∧f1.offset=1):=⟨_,_,rfl,⟨rfl,rfl⟩,⟨rfl,rfl⟩⟩
theorem cl_Def:PP.cellsOf 330=3:=by kernel_rfl
theorem rd_Def(hav:∀b,av b)(hl:cs.length=3)(h:DataW.trod enc PP w base spare held n 330 cs=some D) :
  ∃c:Df,c.tx∧∀(j:Nat) (y:C),(Df.cs c)[j]?=some y→∃u,cs[j]?=some u∧FR av w y u:=by
 obtain⟨f0,f1,hu,⟨t0,o0⟩,⟨t1,o1⟩⟩:=und_Def
 obtain⟨xs,m,_,_,_,hx,hf⟩:=DataW.trod_struct hu h
 have hxl:xs.length=2:=hx
 match cs,hl with
 |[a0,a1,a2],_ =>
  have g0:=rg (hf 0 f0 rfl) t0 o0 clS (by omega)
  have g1:=rg (hf 1 f1 rfl) t1 o1 cl_Prog (by omega)
  simp only[List.drop_zero,List.take_succ_cons,List.take_zero,List.drop_succ_cons]at g0 g1
  obtain⟨x0,rfl,p0⟩:=rd_str g0
  obtain⟨x1,p1,q1⟩:=rd_Prog (av:=av) hav (by rfl) g1
  exact⟨⟨x0,x1⟩,⟨p0,p1⟩,frc (.sc _ rfl) (frc (frx (q1 0 _ rfl)) (frc (frx (q1 1 _ rfl)) frn))⟩
theorem und_DefS:PP.underlying 92=some (.slice 330):=by kernel_rfl
theorem cl_DefS:PP.cellsOf 92=1:=by kernel_rfl
theorem rd_DefS(hav:∀b,av b){v:Value}(h:DataW.trod enc PP w base spare held n 92 [v]=some D):∃l:List Df,(∀x,x∈l→x.tx)∧FR av w (.fz (l.map Df.cs)) v :=
 fr_slice Df.cs Df.tx (fun _=>rfl) (by decide) hav und_DefS cl_Def (fun n cs D hl h=>rd_Def hav hl h) h
theorem und_Src:∃f0 f1 f2 f3 f4 f5,PP.underlying 94=some (.struct #[f0,f1,f2,f3,f4,f5])∧(f0.type=9∧f0.offset=0)∧(f1.type=25∧f1.offset=1)∧(f2.type=25∧f2.offset=2)∧(f3.type=91∧f3.offset=3)∧(f4.type=92∧f4.offset=4)∧(f5.type=92∧f5.offset=5):=⟨_,_,_,_,_,_,rfl,⟨rfl,rfl⟩,⟨rfl,rfl⟩,⟨rfl,rfl⟩,⟨rfl,rfl⟩,⟨rfl,rfl⟩,⟨rfl,rfl⟩⟩
theorem cl_Src:PP.cellsOf 94=6:=by kernel_rfl
theorem rd_Src(hav:∀b,av b)(hl:cs.length=6)(h:DataW.trod enc PP w base spare held n 94 cs=some D) :
  ∃c:Sr,c.tx∧∀(j:Nat) (y:C),(Sr.cs c)[j]?=some y→∃u,cs[j]?=some u∧FR av w y u:=by
 obtain⟨f0,f1,f2,f3,f4,f5,hu,⟨t0,o0⟩,⟨t1,o1⟩,⟨t2,o2⟩,⟨t3,o3⟩,⟨t4,o4⟩,⟨t5,o5⟩⟩:=und_Src
 obtain⟨xs,m,_,_,_,hx,hf⟩:=DataW.trod_struct hu h
 have hxl:xs.length=6:=hx
 match cs,hl with
 |[a0,a1,a2,a3,a4,a5],_ =>
  have g0:=rg (hf 0 f0 rfl) t0 o0 clS (by omega)
  have g1:=rg (hf 1 f1 rfl) t1 o1 clSS (by omega)
  have g2:=rg (hf 2 f2 rfl) t2 o2 clSS (by omega)
  have g3:=rg (hf 3 f3 rfl) t3 o3 cl_TypeS (by omega)
  have g4:=rg (hf 4 f4 rfl) t4 o4 cl_DefS (by omega)
  have g5:=rg (hf 5 f5 rfl) t5 o5 cl_DefS (by omega)
  simp only[List.drop_zero,List.take_succ_cons,List.take_zero,List.drop_succ_cons]at g0 g1 g2 g3 g4 g5
  obtain⟨x0,rfl,p0⟩:=rd_str g0
  obtain⟨x1,p1,q1⟩:=rd_strs (av:=av) hav g1
  obtain⟨x2,p2,q2⟩:=rd_strs (av:=av) hav g2
  obtain⟨x3,p3,q3⟩:=rd_TypeS (av:=av) hav g3
  obtain⟨x4,p4,q4⟩:=rd_DefS (av:=av) hav g4
  obtain⟨x5,p5,q5⟩:=rd_DefS (av:=av) hav g5
  exact⟨⟨x0,x1,x2,x3,x4,x5⟩,⟨p0,p1,p2,p3,p4,p5⟩,frc (.sc _ rfl) (frc q1 (frc q2 (frc q3 (frc q4 (frc q5 frn)))))⟩
theorem und_Ent:∃f0 f1 f2,PP.underlying 96=some (.struct #[f0,f1,f2])∧(f0.type=94∧f0.offset=0)∧(f1.type=3∧f1.offset=6)∧(f2.type=3∧f2.offset=7):=⟨_,_,_,rfl,⟨rfl,rfl⟩,⟨rfl,rfl⟩,⟨rfl,rfl⟩⟩
theorem cl_Ent:PP.cellsOf 96=8:=by kernel_rfl
theorem rd_Ent(hav:∀b,av b)(hl:cs.length=8)(h:DataW.trod enc PP w base spare held n 96 cs=some D) :
  ∃c:En,c.tx∧∀(j:Nat) (y:C),(En.cs c)[j]?=some y→∃u,cs[j]?=some u∧FR av w y u:=by
 obtain⟨f0,f1,f2,hu,⟨t0,o0⟩,⟨t1,o1⟩,⟨t2,o2⟩⟩:=und_Ent
 obtain⟨xs,m,_,_,_,hx,hf⟩:=DataW.trod_struct hu h
 have hxl:xs.length=3:=hx
 match cs,hl with
 |[a0,a1,a2,a3,a4,a5,a6,a7],_ =>
  have g0:=rg (hf 0 f0 rfl) t0 o0 cl_Src (by omega)
  have g1:=rg (hf 1 f1 rfl) t1 o1 clI (by omega)
  have g2:=rg (hf 2 f2 rfl) t2 o2 clI (by omega)
  simp only[List.drop_zero,List.take_succ_cons,List.take_zero,List.drop_succ_cons]at g0 g1 g2
  obtain⟨x0,p0,q0⟩:=rd_Src (av:=av) hav (by rfl) g0
  obtain⟨x1,rfl⟩:=rd_int g1
  obtain⟨x2,rfl⟩:=rd_int g2
  exact⟨⟨x0,x1,x2⟩,⟨p0⟩,frc (frx (q0 0 _ rfl)) (frc (frx (q0 1 _ rfl)) (frc (frx (q0 2 _ rfl)) (frc (frx (q0 3 _ rfl)) (frc (frx (q0 4 _ rfl)) (frc (frx (q0 5 _ rfl)) (frc (.sc _ rfl) (frc (.sc _ rfl) frn)))))))⟩
theorem und_EntS:PP.underlying 28=some (.slice 96):=by kernel_rfl
theorem cl_EntS:PP.cellsOf 28=1:=by kernel_rfl
theorem rd_EntS(hav:∀b,av b){v:Value}(h:DataW.trod enc PP w base spare held n 28 [v]=some D):∃l:List En,(∀x,x∈l→x.tx)∧FR av w (.fz (l.map En.cs)) v :=
 fr_slice En.cs En.tx (fun _=>rfl) (by decide) hav und_EntS cl_Ent (fun n cs D hl h=>rd_Ent hav hl h) h
theorem und_Bind:∃f0 f1,PP.underlying 333=some (.struct #[f0,f1])∧(f0.type=9∧f0.offset=0)∧(f1.type=100∧f1.offset=1):=⟨_,_,rfl,⟨rfl,rfl⟩,⟨rfl,rfl⟩⟩
theorem cl_Bind:PP.cellsOf 333=4:=by kernel_rfl
theorem rd_Bind(hav:∀b,av b)(hl:cs.length=4)(h:DataW.trod enc PP w base spare held n 333 cs=some D) :
  ∃c:Bd,c.tx∧∀(j:Nat) (y:C),(Bd.cs c)[j]?=some y→∃u,cs[j]?=some u∧FR av w y u:=by
 obtain⟨f0,f1,hu,⟨t0,o0⟩,⟨t1,o1⟩⟩:=und_Bind
 obtain⟨xs,m,_,_,_,hx,hf⟩:=DataW.trod_struct hu h
 have hxl:xs.length=2:=hx
 match cs,hl with
 |[a0,a1,a2,a3],_ =>
  have g0:=rg (hf 0 f0 rfl) t0 o0 clS (by omega)
  have g1:=rg (hf 1 f1 rfl) t1 o1 cl_Value (by omega)
  simp only[List.drop_zero,List.take_succ_cons,List.take_zero,List.drop_succ_cons]at g0 g1
  obtain⟨x0,rfl,p0⟩:=rd_str g0
  obtain⟨x1,p1,q1⟩:=rd_Value (av:=av) hav (by rfl) g1
  exact⟨⟨x0,x1⟩,⟨p0,p1⟩,frc (.sc _ rfl) (frc (frx (q1 0 _ rfl)) (frc (frx (q1 1 _ rfl)) (frc (frx (q1 2 _ rfl)) frn)))⟩
theorem und_BindS:PP.underlying 98=some (.slice 333):=by kernel_rfl
theorem cl_BindS:PP.cellsOf 98=1:=by kernel_rfl
theorem rd_BindS(hav:∀b,av b){v:Value}(h:DataW.trod enc PP w base spare held n 98 [v]=some D):∃l:List Bd,(∀x,x∈l→x.tx)∧FR av w (.fz (l.map Bd.cs)) v :=
 fr_slice Bd.cs Bd.tx (fun _=>rfl) (by decide) hav und_BindS cl_Bind (fun n cs D hl h=>rd_Bind hav hl h) h
theorem und_Frame:∃f0 f1 f2 f3,PP.underlying 336=some (.struct #[f0,f1,f2,f3])∧(f0.type=3∧f0.offset=0)∧(f1.type=3∧f1.offset=1)∧(f2.type=187∧f2.offset=2)∧(f3.type=98∧f3.offset=3):=⟨_,_,_,_,rfl,⟨rfl,rfl⟩,⟨rfl,rfl⟩,⟨rfl,rfl⟩,⟨rfl,rfl⟩⟩
theorem cl_Frame:PP.cellsOf 336=4:=by kernel_rfl
theorem rd_Frame(hav:∀b,av b)(hl:cs.length=4)(h:DataW.trod enc PP w base spare held n 336 cs=some D) :
  ∃c:Fm,c.tx∧∀(j:Nat) (y:C),(Fm.cs c)[j]?=some y→∃u,cs[j]?=some u∧FR av w y u:=by
 obtain⟨f0,f1,f2,f3,hu,⟨t0,o0⟩,⟨t1,o1⟩,⟨t2,o2⟩,⟨t3,o3⟩⟩:=und_Frame
 obtain⟨xs,m,_,_,_,hx,hf⟩:=DataW.trod_struct hu h
 have hxl:xs.length=4:=hx
 match cs,hl with
 |[a0,a1,a2,a3],_ =>
  have g0:=rg (hf 0 f0 rfl) t0 o0 clI (by omega)
  have g1:=rg (hf 1 f1 rfl) t1 o1 clI (by omega)
  have g2:=rg (hf 2 f2 rfl) t2 o2 cl_ValueS (by omega)
  have g3:=rg (hf 3 f3 rfl) t3 o3 cl_BindS (by omega)
  simp only[List.drop_zero,List.take_succ_cons,List.take_zero,List.drop_succ_cons]at g0 g1 g2 g3
  obtain⟨x0,rfl⟩:=rd_int g0
  obtain⟨x1,rfl⟩:=rd_int g1
  obtain⟨x2,p2,q2⟩:=rd_ValueS (av:=av) hav g2
  obtain⟨x3,p3,q3⟩:=rd_BindS (av:=av) hav g3
  exact⟨⟨x0,x1,x2,x3⟩,⟨p2,p3⟩,frc (.sc _ rfl) (frc (.sc _ rfl) (frc q2 (frc q3 frn)))⟩
theorem und_FrameS:PP.underlying 101=some (.slice 336):=by kernel_rfl
theorem cl_FrameS:PP.cellsOf 101=1:=by kernel_rfl
theorem rd_FrameS(hav:∀b,av b){v:Value}(h:DataW.trod enc PP w base spare held n 101 [v]=some D):∃l:List Fm,(∀x,x∈l→x.tx)∧FR av w (.fz (l.map Fm.cs)) v :=
 fr_slice Fm.cs Fm.tx (fun _=>rfl) (by decide) hav und_FrameS cl_Frame (fun n cs D hl h=>rd_Frame hav hl h) h
theorem und_Machine:∃f0 f1 f2 f3 f4 f5 f6,PP.underlying 103=some (.struct #[f0,f1,f2,f3,f4,f5,f6])∧(f0.type=3∧f0.offset=0)∧(f1.type=3∧f1.offset=1)∧(f2.type=3∧f2.offset=2)∧(f3.type=98∧f3.offset=3)∧(f4.type=100∧f4.offset=4)∧(f5.type=101∧f5.offset=7)∧(f6.type=3∧f6.offset=8):=⟨_,_,_,_,_,_,_,rfl,⟨rfl,rfl⟩,⟨rfl,rfl⟩,⟨rfl,rfl⟩,⟨rfl,rfl⟩,⟨rfl,rfl⟩,⟨rfl,rfl⟩,⟨rfl,rfl⟩⟩
theorem cl_Machine:PP.cellsOf 103=9:=by kernel_rfl
theorem rd_Machine(hav:∀b,av b)(hl:cs.length=9)(h:DataW.trod enc PP w base spare held n 103 cs=some D) :
  ∃c:Mc,c.tx∧∀(j:Nat) (y:C),(Mc.cs c)[j]?=some y→∃u,cs[j]?=some u∧FR av w y u:=by
 obtain⟨f0,f1,f2,f3,f4,f5,f6,hu,⟨t0,o0⟩,⟨t1,o1⟩,⟨t2,o2⟩,⟨t3,o3⟩,⟨t4,o4⟩,⟨t5,o5⟩,⟨t6,o6⟩⟩:=und_Machine
 obtain⟨xs,m,_,_,_,hx,hf⟩:=DataW.trod_struct hu h
 have hxl:xs.length=7:=hx
 match cs,hl with
 |[a0,a1,a2,a3,a4,a5,a6,a7,a8],_ =>
  have g0:=rg (hf 0 f0 rfl) t0 o0 clI (by omega)
  have g1:=rg (hf 1 f1 rfl) t1 o1 clI (by omega)
  have g2:=rg (hf 2 f2 rfl) t2 o2 clI (by omega)
  have g3:=rg (hf 3 f3 rfl) t3 o3 cl_BindS (by omega)
  have g4:=rg (hf 4 f4 rfl) t4 o4 cl_Value (by omega)
  have g5:=rg (hf 5 f5 rfl) t5 o5 cl_FrameS (by omega)
  have g6:=rg (hf 6 f6 rfl) t6 o6 clI (by omega)
  simp only[List.drop_zero,List.take_succ_cons,List.take_zero,List.drop_succ_cons]at g0 g1 g2 g3 g4 g5 g6
  obtain⟨x0,rfl⟩:=rd_int g0
  obtain⟨x1,rfl⟩:=rd_int g1
  obtain⟨x2,rfl⟩:=rd_int g2
  obtain⟨x3,p3,q3⟩:=rd_BindS (av:=av) hav g3
  obtain⟨x4,p4,q4⟩:=rd_Value (av:=av) hav (by rfl) g4
  obtain⟨x5,p5,q5⟩:=rd_FrameS (av:=av) hav g5
  obtain⟨x6,rfl⟩:=rd_int g6
  exact⟨⟨x0,x1,x2,x3,x4,x5,x6⟩,⟨p3,p4,p5⟩,frc (.sc _ rfl) (frc (.sc _ rfl) (frc (.sc _ rfl) (frc q3 (frc (frx (q4 0 _ rfl)) (frc (frx (q4 1 _ rfl)) (frc (frx (q4 2 _ rfl)) (frc q5 (frc (.sc _ rfl) frn))))))))⟩
theorem und_Task:∃f0 f1,PP.underlying 105=some (.struct #[f0,f1])∧(f0.type=3∧f0.offset=0)∧(f1.type=103∧f1.offset=1):=⟨_,_,rfl,⟨rfl,rfl⟩,⟨rfl,rfl⟩⟩
theorem cl_Task:PP.cellsOf 105=10:=by kernel_rfl
theorem rd_Task(hav:∀b,av b)(hl:cs.length=10)(h:DataW.trod enc PP w base spare held n 105 cs=some D) :
  ∃c:Tk,c.tx∧∀(j:Nat) (y:C),(Tk.cs c)[j]?=some y→∃u,cs[j]?=some u∧FR av w y u:=by
 obtain⟨f0,f1,hu,⟨t0,o0⟩,⟨t1,o1⟩⟩:=und_Task
 obtain⟨xs,m,_,_,_,hx,hf⟩:=DataW.trod_struct hu h
 have hxl:xs.length=2:=hx
 match cs,hl with
 |[a0,a1,a2,a3,a4,a5,a6,a7,a8,a9],_ =>
  have g0:=rg (hf 0 f0 rfl) t0 o0 clI (by omega)
  have g1:=rg (hf 1 f1 rfl) t1 o1 cl_Machine (by omega)
  simp only[List.drop_zero,List.take_succ_cons,List.take_zero,List.drop_succ_cons]at g0 g1
  obtain⟨x0,rfl⟩:=rd_int g0
  obtain⟨x1,p1,q1⟩:=rd_Machine (av:=av) hav (by rfl) g1
  exact⟨⟨x0,x1⟩,⟨p1⟩,frc (.sc _ rfl) (frc (frx (q1 0 _ rfl)) (frc (frx (q1 1 _ rfl)) (frc (frx (q1 2 _ rfl)) (frc (frx (q1 3 _ rfl)) (frc (frx (q1 4 _ rfl)) (frc (frx (q1 5 _ rfl)) (frc (frx (q1 6 _ rfl)) (frc (frx (q1 7 _ rfl)) (frc (frx (q1 8 _ rfl)) frn)))))))))⟩
theorem und_TaskS:PP.underlying 29=some (.slice 105):=by kernel_rfl
theorem cl_TaskS:PP.cellsOf 29=1:=by kernel_rfl
theorem rd_TaskS(hav:∀b,av b){v:Value}(h:DataW.trod enc PP w base spare held n 29 [v]=some D):∃l:List Tk,(∀x,x∈l→x.tx)∧FR av w (.fz (l.map Tk.cs)) v :=
 fr_slice Tk.cs Tk.tx (fun _=>rfl) (by decide) hav und_TaskS cl_Task (fun n cs D hl h=>rd_Task hav hl h) h
theorem und_World:∃f0 f1 f2 f3,PP.underlying 31=some (.struct #[f0,f1,f2,f3])∧(f0.type=27∧f0.offset=0)∧(f1.type=28∧f1.offset=4)∧(f2.type=29∧f2.offset=5)∧(f3.type=3∧f3.offset=6):=⟨_,_,_,_,rfl,⟨rfl,rfl⟩,⟨rfl,rfl⟩,⟨rfl,rfl⟩,⟨rfl,rfl⟩⟩
theorem cl_World:PP.cellsOf 31=7:=by kernel_rfl
theorem rd_World(hav:∀b,av b)(hl:cs.length=7)(h:DataW.trod enc PP w base spare held n 31 cs=some D) :
  ∃c:Wd,c.tx∧∀(j:Nat) (y:C),(Wd.cs c)[j]?=some y→∃u,cs[j]?=some u∧FR av w y u:=by
 obtain⟨f0,f1,f2,f3,hu,⟨t0,o0⟩,⟨t1,o1⟩,⟨t2,o2⟩,⟨t3,o3⟩⟩:=und_World
 obtain⟨xs,m,_,_,_,hx,hf⟩:=DataW.trod_struct hu h
 have hxl:xs.length=4:=hx
 match cs,hl with
 |[a0,a1,a2,a3,a4,a5,a6],_ =>
  have g0:=rg (hf 0 f0 rfl) t0 o0 cl_Sys (by omega)
  have g1:=rg (hf 1 f1 rfl) t1 o1 cl_EntS (by omega)
  have g2:=rg (hf 2 f2 rfl) t2 o2 cl_TaskS (by omega)
  have g3:=rg (hf 3 f3 rfl) t3 o3 clI (by omega)
  simp only[List.drop_zero,List.take_succ_cons,List.take_zero,List.drop_succ_cons]at g0 g1 g2 g3
  obtain⟨x0,p0,q0⟩:=rd_Sys (av:=av) hav (by rfl) g0
  obtain⟨x1,p1,q1⟩:=rd_EntS (av:=av) hav g1
  obtain⟨x2,p2,q2⟩:=rd_TaskS (av:=av) hav g2
  obtain⟨x3,rfl⟩:=rd_int g3
  exact⟨⟨x0,x1,x2,x3⟩,⟨p0,p1,p2⟩,frc (frx (q0 0 _ rfl)) (frc (frx (q0 1 _ rfl)) (frc (frx (q0 2 _ rfl)) (frc (frx (q0 3 _ rfl)) (frc q1 (frc q2 (frc (.sc _ rfl) frn))))))⟩
end Go.Own
