import Derived.Test.YtmbiikbjkcnnaaaGreatDoorTm
import Derived.Test.YtmbiikbjkcnnaaaGreatDoorCards
import Derived.Test.YtmbiikbjkcnnaaaGreatDoorTie
import Derived.Lay
import Derived.SevenTiedAt
/- FnExactReach: the program's Reach returns what the reference's returns, for all arguments: no condition beyond the given statement's own. -/
set_option linter.unusedVariables false
set_option linter.unusedSimpArgs false
set_option linter.unusedSectionVars false
set_option maxRecDepth 1000000
namespace Go.Own
open Go.ChangeShapes Go.WideShapes Go.Deep Go.RowKit Go.ChangeAt Go.Proofs.YtmbiikbjkcnnaaaGreatDoor
namespace FnExactReach
theorem facts_of{W:World}(hL:laidMetH PP Rows.fnExactReachRow.laid W)(hsh:W.ShapedOpen PP):Facts W:=by
 have hL:laidMet PP Rows.fnExactReachRow.laid W:=hL
 obtain⟨ps,hv,_⟩:=hL
 have rd:=fun n d hm=>reads_laid hv n d hm
 refine⟨?_,?_,?_,?_⟩
 ·exact Go.Proofs.cell_of_shapedOpen_int (zero:=#[.int .i64 0]) (t:=3) hsh (of_decide_eq_true (by kernel_rfl)) (by kernel_rfl) rfl (by kernel_rfl) (by kernel_rfl) undI
 ·exact err_cell gSyn tSyn (rd "strconv.ErrSyntax" _ (by simp[Rows.fnExactReachRow,Rows.laid_strconv_ErrSyntax];rfl))
 ·exact err_cell gRng tRng (rd "strconv.ErrRange" _ (by simp[Rows.fnExactReachRow,Rows.laid_strconv_ErrRange];rfl))
 ·obtain⟨g,t,cs,fuel,p,h1,h2,h3,h4⟩:=rd "internal/strconv.uint64pow10" Rows.laid_internal_strconv_uint64pow10 (by simp[Rows.fnExactReachRow])
  have ht:t=371:=by
   have:(PP.globalNamed "internal/strconv.uint64pow10").bind (fun g=>(PP.globals[g]?).map (·.type))=some 371:=by kernel_rfl
   rw[h1]at this
   exact Option.some.inj (h2.symm.trans this)
  subst ht
  unfold Lib.TabIs
  rw[h3,←Lib.cells_of_tab (e:=269) (n:=20) (k:=.u64) (zs:=Lib.pow10Tab) (by kernel_rfl) (by kernel_rfl) (by kernel_rfl) (by kernel_rfl) h4]
theorem par:Go.Proofs.Tryz.f5.params=#[31]:=by kernel_rfl
theorem contract(H:Type)(enc:TypeId×Value→H)(W:World)(base:Nat)(args:Array Value)(ds gs:List (DataW H))(before:List MemPlace)
  (hval:∀(j:Nat) t v,Go.Proofs.Tryz.f5.params[j]?=some t→args[j]?=some v→Value.okWide PP W .any base t v)
  (hW:DataW.Whole enc PP Go.Proofs.Tryz.f5.params.toList Rows.fnExactReachSpec.vars false W args.toList ds gs before) (hL:laidMetH PP Rows.fnExactReachRow.laid W) (hsh:W.ShapedOpen PP) :
  Calls PP 5 args W fun e W'=>∃v,e=.returned v∧Rows.fnExactReachSpec.post enc PP Go.Proofs.Tryz.f5 false true false false W args v W':=by
 have hW':=hW
 obtain⟨p,q,hA0,hV,rfl,hfz,hnd⟩:=hW
 have hA:DataW.TrodAll enc PP W 0 (fun _=>true) true Go.Proofs.Tryz.f5.params.toList args.toList ds p:=hA0
 rw[par]at hA hval
 obtain⟨v0,vs0,d0,ds0,p0,q0,hargs,rfl,rfl,h0,r0⟩:=trodAll_cons hA
 obtain⟨rfl,rfl,rfl⟩:=trodAll_nil r0
 obtain rfl:args=#[v0]:=by cases args;simp_all
 obtain⟨rfl,rfl⟩:=trodVars_none hV
 obtain⟨n0,t0⟩:=h0
 have t0':=t0
 obtain⟨_f0,_f1,_f2,_f3,hu0,_⟩:=und_World
 obtain⟨us0,rfl,hs0,o0⟩:=struct_cells hu0 (hval 0 _ v0 rfl rfl)
 rw[cl_World]at hs0
 rw[o0]at t0'
 obtain⟨x0,hx0,hf0⟩:=rd_World (av:=fun b=>(fun _:Nat=>(none:Option (Nat×Pth))) b=none) (fun _=>rfl) (by simpa using hs0) t0'
 have hf:=facts_of hL hsh
 letI:=LI
 haveI:Facts.Of:=⟨fun w h=>h⟩
 refine((c_laws_FnExactReach x0 hx0).run (fun _=>none) W #[(.agg us0)] ⟨hf,LI_lt hf,fun _ _=>rfl⟩ rfl (fun i v hi=>?_) (fun _ _ _ _ h=>by simp[lo]at h) (fun _ _ _ h=>by simp at h) (fun _ _ h=>by simp at h)).mono ?_
 ·match i,hi with
  |0,hi=>simp at hi;subst hi;exact VR.ofFR (cs:=Wd.cs x0) (by rw[hs0];rfl) hf0
  |i+1,hi=>simp at hi
 rintro e W' ⟨u,res,ob',β',rfl,hp⟩
 have hb:Below W.heap.size W W':=⟨hp.os,hp.tape,hp.output,hp.hs,fun b hb=>hp.fr b hb rfl⟩
 have hu:u=.bool true:=by
  have:=hp.res
  rw[hp.ok]at this
  exact this.sc_inv
 subst hu
 have hlt:=hW'.lt
 simp only[List.append_nil,List.append_assoc]at hlt
 refine⟨_,rfl,post_of_below (pa:=p0++[]) (pv:=[]) hW' (fun _ _ _=>trodAll_cons_mk (shut_bool undB _) trodAll_mk0) (fun sp hsp=>?_) (fun _ _=>rfl) (by simp) (hb.frame _) (fun b off hlt=>hb.frozen hlt) (ok_one (by kernel_rfl) rfl (okWide_bool_mk undB _))⟩
 rw[par]
 have hsp':∀x,x∈p0→sp x.block=true∧x.block<W.heap.size:=fun x hx=>by
  refine⟨hsp x ?_,hlt x ?_⟩<;>(try simp only[List.append_nil,List.append_assoc,List.mem_append])<;>exact hx
 exact trodAll_cons_mk (WideElems.Trod_stays laidOut (by kernel_rfl) (of_decide_eq_true (by kernel_rfl)) ⟨n0,t0⟩ (fun x hx=>hb.same (hsp' x hx).2) (fun x hx=>(hsp' x hx).1)) trodAll_mk0
theorem ownN:ownKnob PP.godebug=none:=by kernel_rfl
def wargs:Array Value:=#[.agg #[.slice none 0 0,.slice none 0 0,.slice none 0 0,.slice none 0 0,.slice none 0 0,.slice none 0 0,.int .i64 0]]
noncomputable def wW(os:Os):World:=World.laidAll PP os Rows.fnExactReachRow.laid
theorem laid_met(os:Os):laidMetH PP Rows.fnExactReachRow.laid ((wW os).forCall (fun _ _=>0) ⟨#[],wargs,[]⟩).memory :=
 show laidMet PP Rows.fnExactReachRow.laid _ from laidMet_laidAll wargs (by kernel_rfl) (by kernel_rfl)
theorem wreads(os:Os){H:Type}(enc:TypeId×Value→H):∃places,DataW.whole enc PP ((wW os).forCall (fun _ _=>0) ⟨#[],wargs,[]⟩).memory Go.Proofs.Tryz.f5.params.toList Rows.fnExactReachSpec.vars false wargs.toList 8=some ([.agg [.agg [.nil,.nil,.nil,.nil],.nil,.nil,.lit (.int .i64 0)]],[],places):=
 ⟨[],by kernel_rfl⟩
theorem lifted(os:Os)(started:os.Started)(H:Type)(enc:TypeId×Value→H)(F:Stop.Interp) :
  ReturnsInHanded {} Go.Proofs.Tryz.checked os 5 .any ((OpenSpec.ofChange Rows.fnExactReachSpec).preRow enc PP Go.Proofs.Tryz.f5 Rows.fnExactReachRow.domain false Rows.fnExactReachRow.laid) (((OpenSpec.ofChange Rows.fnExactReachSpec).at F).post enc PP Go.Proofs.Tryz.f5 false true false false):=by
 obtain⟨places,hx⟩:=wreads os enc
 refine returnsInHanded_of_row (C:=Go.Proofs.Tryz.checked) (s:=OpenSpec.ofChange Rows.fnExactReachSpec) ownN started (by kernel_rfl) Go.Proofs.Tryz.func5
  (witness_row_at (enc:=enc) (C:=Go.Proofs.Tryz.checked) false (wW os) wargs (World.laidAll_os _ _ _) (by kernel_rfl) (by kernel_rfl) (by kernel_rfl)
   (OpenSpec.preRow_of_cond 8 hx (by kernel_rfl) (fun k hk=>by cases hk) (by kernel_rfl) (laid_met os))) ?_
 intro W base args ds gs before hval hW _ _ _ hL hsh _
 exact contract H enc W base args ds gs before hval hW hL hsh
theorem k1:(Rows.fnExactReachRow.inPlace==PP.inPlace 5)=true:=by kernel_rfl
theorem k2:(Rows.fnExactReachRow.unfollowed==PP.unfollowed 5)=true:=by kernel_rfl
theorem k3:(Rows.fnExactReachRow.recurses==PP.recurses 5)=true:=by kernel_rfl
theorem k4:(Rows.fnExactReachRow.named==PP.varsNamed 5)=true:=by kernel_rfl
theorem k5:(Rows.fnExactReachRow.loops==(Go.Proofs.Tryz.f5.params.toList++(OpenSpec.ofChange Rows.fnExactReachSpec).bare.plain.varTypes PP).any (PP.loopsFrom ·))=true:=by kernel_rfl
theorem k6:(Rows.fnExactReachRow.wideKeys==(Go.Proofs.Tryz.f5.params.toList++(OpenSpec.ofChange Rows.fnExactReachSpec).bare.plain.varTypes PP++Go.Proofs.Tryz.f5.resultTypes.toList).any (PP.wideKeysFrom ·))=true:=by kernel_rfl
theorem k7:(Rows.fnExactReachRow.veiled==(Go.Proofs.Tryz.f5.params.toList++(OpenSpec.ofChange Rows.fnExactReachSpec).bare.plain.varTypes PP++Go.Proofs.Tryz.f5.resultTypes.toList).any (PP.veiledRec ·))=true:=by kernel_rfl
theorem closed:joinedFacts PP 5 Go.Proofs.Tryz.f5 (OpenSpec.ofChange Rows.fnExactReachSpec).bare Rows.fnExactReachRow=true:=by
 unfold joinedFacts
 simp only[k1,k2,k3,k4,k5,k6,k7,Bool.and_true]
 kernel_rfl
theorem said:Rows.FnExactReachSaid :=
 OpenClaim.holds_of_cond 5 Go.Proofs.Tryz.f5 rfl rfl rfl rfl rfl rfl rfl ⟨rfl,rfl,rfl,rfl,rfl⟩ rfl rfl rfl rfl rfl (by kernel_rfl) Go.Proofs.Tryz.func5 closed
  (of_decide_eq_true (by kernel_rfl)) (by unfold Func.isWrapper;first|(rw[if_pos (by decide +kernel)];kernel_rfl)|(rw[if_neg (by decide +kernel)];exact⟨rfl,rfl⟩))
  (fun os started H enc _ F=>by rw[OpenClaim.pre_eq_preRow];exact lifted os started H enc F)
theorem plainN(f:FuncId)(fn:Func)(hf:Tryz.pinned.checked.prog.funcNamed "loop.example/g00765/laws.FnExactReach" = some f)(hfn:Tryz.pinned.checked.prog.funcs[f]?=some fn) :
  true=Tryz.pinned.checked.prog.looks []∧∀(j:Nat) t,fn.params[j]?=some t→Tryz.pinned.checked.prog.wantsStandIn t=false:=by
 obtain rfl:f=5:=Option.some.inj ((show PP.funcNamed "loop.example/g00765/laws.FnExactReach" = some 5 by kernel_rfl).symm.trans hf) |>.symm
 obtain rfl:fn=Go.Proofs.Tryz.f5:=(Option.some.inj (Go.Proofs.Tryz.func5.symm.trans hfn)).symm
 refine⟨by kernel_rfl,fun j t ht=>?_⟩
 rw[par]at ht
 match j,ht with
 |0,ht=>obtain rfl:=Option.some.inj ht;exact(show PP.wantsStandIn 31=false by kernel_rfl)
 |j+1,ht=>cases ht
theorem card:Rows.FnExactReachCardSaid :=
 Claim7.holds_tied_plain_at .later [] _ _ _ _ said (fun _ h=>by cases h) (by kernel_rfl) (fun _ h=>by cases h) fnExactReach_row_tie rfl ⟨rfl,rfl⟩ (by kernel_rfl) rfl plainN (by kernel_rfl)
end FnExactReach
end Go.Own
namespace Go.Proofs.YtmbiikbjkcnnaaaGreatDoor
theorem fnExactReach_holds:Rows.FnExactReachCardSaid:=Go.Own.FnExactReach.card
end Go.Proofs.YtmbiikbjkcnnaaaGreatDoor
