import Derived.Test.YtmbiikbjkcnnaaaGreatDoorTe
/- Lemmas for the proof in the last text of this claim. -/
set_option linter.unusedVariables false
set_option linter.unusedSimpArgs false
set_option linter.unusedSectionVars false
set_option maxRecDepth 1000000
set_option maxHeartbeats 4000000
namespace Go.Own
attribute [local irreducible] WPc WPL WPS WPS1 WPS2 HAny endP
variable [Laid]
open Go.Lib Go.RowKit
theorem c_laws_eqLink(c:Lk):Con PP 272 [c.av,c.av] [] [] (fun r o=>r=.sc (.bool true)):=by
 refine cof 20 Go.Proofs.Tryz.func272 fun G=>?_
 simp only[entSt,tmOf,List.append_nil,List.cons_append,List.nil_append,Lk.av]
 refine go (L:=_∧True) wb0 wb0 wb0 wb0 wb0 ⟨fun _=>?_,wb0⟩
 all_goals rfl
theorem c_laws_eqLinkS(l:List Lk):Con PP 231 [.fz (l.map Lk.cs),.fz (l.map Lk.cs)] [] [] (fun r o=>r=.sc (.bool true)):=by
 refine Con.lenOf 0 Go.Proofs.Tryz.func231 (by kernel_rfl) (by kernel_rfl) rfl fun hlen=>?_
 simp at hlen
 refine cof 27 Go.Proofs.Tryz.func231 fun G=>?_
 simp only[entSt,tmOf,List.append_nil,List.cons_append,List.nil_append]
 refine go (L:=_∧True) wb0 wb0 wb0 wb0 wb0 ⟨fun _=>?_,wb0⟩
 refine WPc.loopK (σ:=Nat) (fun i=>i≤l.length) (fun i=>l.length-i) (fun i=>[(5,.sc (.int .i64 i))]) [0,1] 0 (by simp) (by simp) (by simp) ?_
 rintro i hi s hs
 simp at hs
 subst hs
 by_cases hlt:i<l.length
 ·refine go (L:=_∧True) (wa3 @Lk.cs.eq_1 @Lk.av.eq_1 @hlt) (wb1 (fun v0 v1 v2 (_:True)=>c_laws_eqLink ⟨v0,v1,v2⟩)) wb0 wb0 (wb2 wb0 (sch 6 [] [(0,[]),(1,[]),(2,[]),(3,[]),(4,[]),(5,[]),(6,[]),(7,[]),(8,[]),(9,[])])) ⟨fun _=>?_,wb0⟩
  all_goals
   refine⟨i+1,⟨hlt,by first|omega|(simp only;omega)|assumption⟩,rfl,rfl,?_,?_⟩<;>simp (disch:=omega) [wrap64]
 ·refine go (L:=_∧True) (wa1 @hlt) wb0 wb0 wb0 wb0 ⟨fun _=>?_,wb0⟩
  all_goals rfl
theorem c_laws_eqType(c:Ty):Con PP 273 [c.av,c.av] [] [] (fun r o=>r=.sc (.bool true)):=by
 refine cof 15 Go.Proofs.Tryz.func273 fun G=>?_
 simp only[entSt,tmOf,List.append_nil,List.cons_append,List.nil_append,Ty.av]
 refine go (L:=_∧True) wb0 wb0 wb0 wb0 wb0 ⟨fun _=>?_,wb0⟩
 all_goals rfl
theorem c_laws_eqTypeS(l:List Ty):Con PP 232 [.fz (l.map Ty.cs),.fz (l.map Ty.cs)] [] [] (fun r o=>r=.sc (.bool true)):=by
 refine Con.lenOf 0 Go.Proofs.Tryz.func232 (by kernel_rfl) (by kernel_rfl) rfl fun hlen=>?_
 simp at hlen
 refine cof 27 Go.Proofs.Tryz.func232 fun G=>?_
 simp only[entSt,tmOf,List.append_nil,List.cons_append,List.nil_append]
 refine go (L:=_∧True) wb0 wb0 wb0 wb0 wb0 ⟨fun _=>?_,wb0⟩
 refine WPc.loopK (σ:=Nat) (fun i=>i≤l.length) (fun i=>l.length-i) (fun i=>[(5,.sc (.int .i64 i))]) [0,1] 0 (by simp) (by simp) (by simp) ?_
 rintro i hi s hs
 simp at hs
 subst hs
 by_cases hlt:i<l.length
 ·refine go (L:=_∧True) (wa3 @Ty.cs.eq_1 @Ty.av.eq_1 @hlt) (wb1 (fun v0 v1 (_:True)=>c_laws_eqType ⟨v0,v1⟩)) wb0 wb0 (wb2 wb0 (sch 6 [] [(0,[]),(1,[]),(2,[]),(3,[]),(4,[]),(5,[]),(6,[]),(7,[]),(8,[]),(9,[])])) ⟨fun _=>?_,wb0⟩
  all_goals
   refine⟨i+1,⟨hlt,by first|omega|(simp only;omega)|assumption⟩,rfl,rfl,?_,?_⟩<;>simp (disch:=omega) [wrap64]
 ·refine go (L:=_∧True) (wa1 @hlt) wb0 wb0 wb0 wb0 ⟨fun _=>?_,wb0⟩
  all_goals rfl
theorem c_laws_eqInst(c:In):Con PP 159 [c.av,c.av] [] [] (fun r o=>r=.sc (.bool true)):=by
 refine cof 39 Go.Proofs.Tryz.func159 fun G=>?_
 simp only[entSt,tmOf,List.append_nil,List.cons_append,List.nil_append,In.av]
 refine go (L:=_∧True) wb0 (wb4 (fun v0 (_:True)=>c_laws_eqStringS v0) (fun v0 (_:True)=>c_laws_eqValueS v0) (fun v0 (_:True)=>c_laws_eqLinkS v0) (fun v0 (_:True)=>c_laws_eqTypeS v0)) wb0 wb0 wb0 ⟨fun _=>?_,wb0⟩
 all_goals rfl
theorem c_laws_eqInstS(l:List In):Con PP 83 [.fz (l.map In.cs),.fz (l.map In.cs)] [] [] (fun r o=>r=.sc (.bool true)):=by
 refine Con.lenOf 0 Go.Proofs.Tryz.func83 (by kernel_rfl) (by kernel_rfl) rfl fun hlen=>?_
 simp at hlen
 refine cof 27 Go.Proofs.Tryz.func83 fun G=>?_
 simp only[entSt,tmOf,List.append_nil,List.cons_append,List.nil_append]
 refine go (L:=_∧True) wb0 wb0 wb0 wb0 wb0 ⟨fun _=>?_,wb0⟩
 refine WPc.loopK (σ:=Nat) (fun i=>i≤l.length) (fun i=>l.length-i) (fun i=>[(5,.sc (.int .i64 i))]) [0,1] 0 (by simp) (by simp) (by simp) ?_
 rintro i hi s hs
 simp at hs
 subst hs
 by_cases hlt:i<l.length
 ·refine go (L:=_∧True) (wa3 @In.cs.eq_1 @In.av.eq_1 @hlt) (wb1 (fun v0 v1 v2 v3 v4 v5 (_:True)=>c_laws_eqInst ⟨v0,v1,v2,v3,v4,v5⟩)) wb0 wb0 (wb2 wb0 (sch 6 [] [(0,[]),(1,[]),(2,[]),(3,[]),(4,[]),(5,[]),(6,[]),(7,[]),(8,[]),(9,[])])) ⟨fun _=>?_,wb0⟩
  all_goals
   refine⟨i+1,⟨hlt,by first|omega|(simp only;omega)|assumption⟩,rfl,rfl,?_,?_⟩<;>simp (disch:=omega) [wrap64]
 ·refine go (L:=_∧True) (wa1 @hlt) wb0 wb0 wb0 wb0 ⟨fun _=>?_,wb0⟩
  all_goals rfl
theorem c_laws_eqUnit(c:Un):Con PP 160 [c.av,c.av] [] [] (fun r o=>r=.sc (.bool true)):=by
 refine cof 16 Go.Proofs.Tryz.func160 fun G=>?_
 simp only[entSt,tmOf,List.append_nil,List.cons_append,List.nil_append,Un.av]
 refine go (L:=_∧True) wb0 (wb1 (fun v0 v1 (_:True)=>c_laws_eqProg ⟨v0,v1⟩)) wb0 wb0 wb0 ⟨fun _=>?_,wb0⟩
 all_goals rfl
theorem c_laws_eqUnitS(l:List Un):Con PP 84 [.fz (l.map Un.cs),.fz (l.map Un.cs)] [] [] (fun r o=>r=.sc (.bool true)):=by
 refine Con.lenOf 0 Go.Proofs.Tryz.func84 (by kernel_rfl) (by kernel_rfl) rfl fun hlen=>?_
 simp at hlen
 refine cof 27 Go.Proofs.Tryz.func84 fun G=>?_
 simp only[entSt,tmOf,List.append_nil,List.cons_append,List.nil_append]
 refine go (L:=_∧True) wb0 wb0 wb0 wb0 wb0 ⟨fun _=>?_,wb0⟩
 refine WPc.loopK (σ:=Nat) (fun i=>i≤l.length) (fun i=>l.length-i) (fun i=>[(5,.sc (.int .i64 i))]) [0,1] 0 (by simp) (by simp) (by simp) ?_
 rintro i hi s hs
 simp at hs
 subst hs
 by_cases hlt:i<l.length
 ·refine go (L:=_∧True) (wa3 @Un.cs.eq_1 @Un.av.eq_1 @hlt) (wb1 (fun v0 v1 (_:True)=>c_laws_eqUnit ⟨v0,v1⟩)) wb0 wb0 (wb2 wb0 (sch 6 [] [(0,[]),(1,[]),(2,[]),(3,[]),(4,[]),(5,[]),(6,[]),(7,[]),(8,[]),(9,[])])) ⟨fun _=>?_,wb0⟩
  all_goals
   refine⟨i+1,⟨hlt,by first|omega|(simp only;omega)|assumption⟩,rfl,rfl,?_,?_⟩<;>simp (disch:=omega) [wrap64]
 ·refine go (L:=_∧True) (wa1 @hlt) wb0 wb0 wb0 wb0 ⟨fun _=>?_,wb0⟩
  all_goals rfl
theorem c_laws_eqSys(c:Sy):Con PP 38 [c.av,c.av] [] [] (fun r o=>r=.sc (.bool true)):=by
 refine cof 29 Go.Proofs.Tryz.func38 fun G=>?_
 simp only[entSt,tmOf,List.append_nil,List.cons_append,List.nil_append,Sy.av]
 refine go (L:=_∧True) wb0 (wb4 (fun v0 (_:True)=>c_laws_eqCellS v0) (fun v0 (_:True)=>c_laws_eqInstS v0) (fun v0 (_:True)=>c_laws_eqUnitS v0) (fun v0 (_:True)=>c_laws_eqStringS v0)) wb0 wb0 wb0 ⟨fun _=>?_,wb0⟩
 all_goals rfl
theorem c_laws_eqBind(c:Bd):Con PP 276 [c.av,c.av] [] [] (fun r o=>r=.sc (.bool true)):=by
 refine cof 16 Go.Proofs.Tryz.func276 fun G=>?_
 simp only[entSt,tmOf,List.append_nil,List.cons_append,List.nil_append,Bd.av]
 refine go (L:=_∧True) wb0 (wb1 (fun v0 v1 v2 (_:True)=>c_laws_eqValue ⟨v0,v1,v2⟩)) wb0 wb0 wb0 ⟨fun _=>?_,wb0⟩
 all_goals rfl
theorem c_laws_eqBindS(l:List Bd):Con PP 235 [.fz (l.map Bd.cs),.fz (l.map Bd.cs)] [] [] (fun r o=>r=.sc (.bool true)):=by
 refine Con.lenOf 0 Go.Proofs.Tryz.func235 (by kernel_rfl) (by kernel_rfl) rfl fun hlen=>?_
 simp at hlen
 refine cof 27 Go.Proofs.Tryz.func235 fun G=>?_
 simp only[entSt,tmOf,List.append_nil,List.cons_append,List.nil_append]
 refine go (L:=_∧True) wb0 wb0 wb0 wb0 wb0 ⟨fun _=>?_,wb0⟩
 refine WPc.loopK (σ:=Nat) (fun i=>i≤l.length) (fun i=>l.length-i) (fun i=>[(5,.sc (.int .i64 i))]) [0,1] 0 (by simp) (by simp) (by simp) ?_
 rintro i hi s hs
 simp at hs
 subst hs
 by_cases hlt:i<l.length
 ·refine go (L:=_∧True) (wa3 @Bd.cs.eq_1 @Bd.av.eq_1 @hlt) (wb1 (fun v0 v1 (_:True)=>c_laws_eqBind ⟨v0,v1⟩)) wb0 wb0 (wb2 wb0 (sch 6 [] [(0,[]),(1,[]),(2,[]),(3,[]),(4,[]),(5,[]),(6,[]),(7,[]),(8,[]),(9,[])])) ⟨fun _=>?_,wb0⟩
  all_goals
   refine⟨i+1,⟨hlt,by first|omega|(simp only;omega)|assumption⟩,rfl,rfl,?_,?_⟩<;>simp (disch:=omega) [wrap64]
 ·refine go (L:=_∧True) (wa1 @hlt) wb0 wb0 wb0 wb0 ⟨fun _=>?_,wb0⟩
  all_goals rfl
theorem c_laws_eqFrame(c:Fm):Con PP 277 [c.av,c.av] [] [] (fun r o=>r=.sc (.bool true)):=by
 refine cof 27 Go.Proofs.Tryz.func277 fun G=>?_
 simp only[entSt,tmOf,List.append_nil,List.cons_append,List.nil_append,Fm.av]
 refine go (L:=_∧True) wb0 (wb2 (fun v0 (_:True)=>c_laws_eqValueS v0) (fun v0 (_:True)=>c_laws_eqBindS v0)) wb0 wb0 wb0 ⟨fun _=>?_,wb0⟩
 all_goals rfl
theorem c_laws_eqFrameS(l:List Fm):Con PP 237 [.fz (l.map Fm.cs),.fz (l.map Fm.cs)] [] [] (fun r o=>r=.sc (.bool true)):=by
 refine Con.lenOf 0 Go.Proofs.Tryz.func237 (by kernel_rfl) (by kernel_rfl) rfl fun hlen=>?_
 simp at hlen
 refine cof 27 Go.Proofs.Tryz.func237 fun G=>?_
 simp only[entSt,tmOf,List.append_nil,List.cons_append,List.nil_append]
 refine go (L:=_∧True) wb0 wb0 wb0 wb0 wb0 ⟨fun _=>?_,wb0⟩
 refine WPc.loopK (σ:=Nat) (fun i=>i≤l.length) (fun i=>l.length-i) (fun i=>[(5,.sc (.int .i64 i))]) [0,1] 0 (by simp) (by simp) (by simp) ?_
 rintro i hi s hs
 simp at hs
 subst hs
 by_cases hlt:i<l.length
 ·refine go (L:=_∧True) (wa3 @Fm.cs.eq_1 @Fm.av.eq_1 @hlt) (wb1 (fun v0 v1 v2 v3 (_:True)=>c_laws_eqFrame ⟨v0,v1,v2,v3⟩)) wb0 wb0 (wb2 wb0 (sch 6 [] [(0,[]),(1,[]),(2,[]),(3,[]),(4,[]),(5,[]),(6,[]),(7,[]),(8,[]),(9,[])])) ⟨fun _=>?_,wb0⟩
  all_goals
   refine⟨i+1,⟨hlt,by first|omega|(simp only;omega)|assumption⟩,rfl,rfl,?_,?_⟩<;>simp (disch:=omega) [wrap64]
 ·refine go (L:=_∧True) (wa1 @hlt) wb0 wb0 wb0 wb0 ⟨fun _=>?_,wb0⟩
  all_goals rfl
theorem c_laws_eqMachine(c:Mc):Con PP 162 [c.av,c.av] [] [] (fun r o=>r=.sc (.bool true)):=by
 refine cof 43 Go.Proofs.Tryz.func162 fun G=>?_
 simp only[entSt,tmOf,List.append_nil,List.cons_append,List.nil_append,Mc.av]
 refine go (L:=_∧True) wb0 (wb3 (fun v0 (_:True)=>c_laws_eqBindS v0) (fun v0 v1 v2 (_:True)=>c_laws_eqValue ⟨v0,v1,v2⟩) (fun v0 (_:True)=>c_laws_eqFrameS v0)) wb0 wb0 wb0 ⟨fun _=>?_,wb0⟩
 all_goals rfl
theorem c_laws_eqDef(c:Df):Con PP 275 [c.av,c.av] [] [] (fun r o=>r=.sc (.bool true)):=by
 refine cof 16 Go.Proofs.Tryz.func275 fun G=>?_
 simp only[entSt,tmOf,List.append_nil,List.cons_append,List.nil_append,Df.av]
 refine go (L:=_∧True) wb0 (wb1 (fun v0 v1 (_:True)=>c_laws_eqProg ⟨v0,v1⟩)) wb0 wb0 wb0 ⟨fun _=>?_,wb0⟩
 all_goals rfl
theorem c_laws_eqDefS(l:List Df):Con PP 234 [.fz (l.map Df.cs),.fz (l.map Df.cs)] [] [] (fun r o=>r=.sc (.bool true)):=by
 refine Con.lenOf 0 Go.Proofs.Tryz.func234 (by kernel_rfl) (by kernel_rfl) rfl fun hlen=>?_
 simp at hlen
 refine cof 27 Go.Proofs.Tryz.func234 fun G=>?_
 simp only[entSt,tmOf,List.append_nil,List.cons_append,List.nil_append]
 refine go (L:=_∧True) wb0 wb0 wb0 wb0 wb0 ⟨fun _=>?_,wb0⟩
 refine WPc.loopK (σ:=Nat) (fun i=>i≤l.length) (fun i=>l.length-i) (fun i=>[(5,.sc (.int .i64 i))]) [0,1] 0 (by simp) (by simp) (by simp) ?_
 rintro i hi s hs
 simp at hs
 subst hs
 by_cases hlt:i<l.length
 ·refine go (L:=_∧True) (wa3 @Df.cs.eq_1 @Df.av.eq_1 @hlt) (wb1 (fun v0 v1 (_:True)=>c_laws_eqDef ⟨v0,v1⟩)) wb0 wb0 (wb2 wb0 (sch 6 [] [(0,[]),(1,[]),(2,[]),(3,[]),(4,[]),(5,[]),(6,[]),(7,[]),(8,[]),(9,[])])) ⟨fun _=>?_,wb0⟩
  all_goals
   refine⟨i+1,⟨hlt,by first|omega|(simp only;omega)|assumption⟩,rfl,rfl,?_,?_⟩<;>simp (disch:=omega) [wrap64]
 ·refine go (L:=_∧True) (wa1 @hlt) wb0 wb0 wb0 wb0 ⟨fun _=>?_,wb0⟩
  all_goals rfl
theorem c_laws_eqSrc(c:Sr):Con PP 161 [c.av,c.av] [] [] (fun r o=>r=.sc (.bool true)):=by
 refine cof 40 Go.Proofs.Tryz.func161 fun G=>?_
 simp only[entSt,tmOf,List.append_nil,List.cons_append,List.nil_append,Sr.av]
 refine go (L:=_∧True) wb0 (wb3 (fun v0 (_:True)=>c_laws_eqStringS v0) (fun v0 (_:True)=>c_laws_eqTypeS v0) (fun v0 (_:True)=>c_laws_eqDefS v0)) wb0 wb0 wb0 ⟨fun _=>?_,wb0⟩
 all_goals rfl
theorem c_laws_eqEnt(c:En):Con PP 86 [c.av,c.av] [] [] (fun r o=>r=.sc (.bool true)):=by
 refine cof 21 Go.Proofs.Tryz.func86 fun G=>?_
 simp only[entSt,tmOf,List.append_nil,List.cons_append,List.nil_append,En.av]
 refine go (L:=_∧True) wb0 (wb1 (fun v0 v1 v2 v3 v4 v5 (_:True)=>c_laws_eqSrc ⟨v0,v1,v2,v3,v4,v5⟩)) wb0 wb0 wb0 ⟨fun _=>?_,wb0⟩
 all_goals rfl
theorem c_laws_eqEntS(l:List En):Con PP 39 [.fz (l.map En.cs),.fz (l.map En.cs)] [] [] (fun r o=>r=.sc (.bool true)):=by
 refine Con.lenOf 0 Go.Proofs.Tryz.func39 (by kernel_rfl) (by kernel_rfl) rfl fun hlen=>?_
 simp at hlen
 refine cof 27 Go.Proofs.Tryz.func39 fun G=>?_
 simp only[entSt,tmOf,List.append_nil,List.cons_append,List.nil_append]
 refine go (L:=_∧True) wb0 wb0 wb0 wb0 wb0 ⟨fun _=>?_,wb0⟩
 refine WPc.loopK (σ:=Nat) (fun i=>i≤l.length) (fun i=>l.length-i) (fun i=>[(5,.sc (.int .i64 i))]) [0,1] 0 (by simp) (by simp) (by simp) ?_
 rintro i hi s hs
 simp at hs
 subst hs
 by_cases hlt:i<l.length
 ·refine go (L:=_∧True) (wa3 @En.cs.eq_1 @En.av.eq_1 @hlt) (wb1 (fun v0 v1 v2 (_:True)=>c_laws_eqEnt ⟨v0,v1,v2⟩)) wb0 wb0 (wb2 wb0 (sch 6 [] [(0,[]),(1,[]),(2,[]),(3,[]),(4,[]),(5,[]),(6,[]),(7,[]),(8,[]),(9,[])])) ⟨fun _=>?_,wb0⟩
  all_goals
   refine⟨i+1,⟨hlt,by first|omega|(simp only;omega)|assumption⟩,rfl,rfl,?_,?_⟩<;>simp (disch:=omega) [wrap64]
 ·refine go (L:=_∧True) (wa1 @hlt) wb0 wb0 wb0 wb0 ⟨fun _=>?_,wb0⟩
  all_goals rfl
theorem c_laws_eqTask(c:Tk):Con PP 87 [c.av,c.av] [] [] (fun r o=>r=.sc (.bool true)):=by
 refine cof 16 Go.Proofs.Tryz.func87 fun G=>?_
 simp only[entSt,tmOf,List.append_nil,List.cons_append,List.nil_append,Tk.av]
 refine go (L:=_∧True) wb0 (wb1 (fun v0 v1 v2 v3 v4 v5 v6 (_:True)=>c_laws_eqMachine ⟨v0,v1,v2,v3,v4,v5,v6⟩)) wb0 wb0 wb0 ⟨fun _=>?_,wb0⟩
 all_goals rfl
theorem c_laws_eqTaskS(l:List Tk):Con PP 40 [.fz (l.map Tk.cs),.fz (l.map Tk.cs)] [] [] (fun r o=>r=.sc (.bool true)):=by
 refine Con.lenOf 0 Go.Proofs.Tryz.func40 (by kernel_rfl) (by kernel_rfl) rfl fun hlen=>?_
 simp at hlen
 refine cof 27 Go.Proofs.Tryz.func40 fun G=>?_
 simp only[entSt,tmOf,List.append_nil,List.cons_append,List.nil_append]
 refine go (L:=_∧True) wb0 wb0 wb0 wb0 wb0 ⟨fun _=>?_,wb0⟩
 refine WPc.loopK (σ:=Nat) (fun i=>i≤l.length) (fun i=>l.length-i) (fun i=>[(5,.sc (.int .i64 i))]) [0,1] 0 (by simp) (by simp) (by simp) ?_
 rintro i hi s hs
 simp at hs
 subst hs
 by_cases hlt:i<l.length
 ·refine go (L:=_∧True) (wa3 @Tk.cs.eq_1 @Tk.av.eq_1 @hlt) (wb1 (fun v0 v1 (_:True)=>c_laws_eqTask ⟨v0,v1⟩)) wb0 wb0 (wb2 wb0 (sch 6 [] [(0,[]),(1,[]),(2,[]),(3,[]),(4,[]),(5,[]),(6,[]),(7,[]),(8,[]),(9,[])])) ⟨fun _=>?_,wb0⟩
  all_goals
   refine⟨i+1,⟨hlt,by first|omega|(simp only;omega)|assumption⟩,rfl,rfl,?_,?_⟩<;>simp (disch:=omega) [wrap64]
 ·refine go (L:=_∧True) (wa1 @hlt) wb0 wb0 wb0 wb0 ⟨fun _=>?_,wb0⟩
  all_goals rfl
theorem c_laws_eqWorld(c:Wd):Con PP 11 [c.av,c.av] [] [] (fun r o=>r=.sc (.bool true)):=by
 refine cof 28 Go.Proofs.Tryz.func11 fun G=>?_
 simp only[entSt,tmOf,List.append_nil,List.cons_append,List.nil_append,Wd.av]
 refine go (L:=_∧True) wb0 (wb3 (fun v0 v1 v2 v3 (_:True)=>c_laws_eqSys ⟨v0,v1,v2,v3⟩) (fun v0 (_:True)=>c_laws_eqEntS v0) (fun v0 (_:True)=>c_laws_eqTaskS v0)) wb0 wb0 wb0 ⟨fun _=>?_,wb0⟩
 all_goals rfl
end Go.Own
set_option maxRecDepth 100000
namespace Go.Own
variable [Laid]
open Go.Lib Go.RowKit
def allI{α:Type}(l:List α)(f:Nat→α→Bool):Bool:=(List.range l.length).all fun k=>match l[k]? with
 |some x=>f k x
 |none=>true
theorem allI_iff{α:Type}{l:List α}{f:Nat→α→Bool}:allI l f=true↔∀k,(h:k<l.length)→f k l[k]=true:=by
 unfold allI
 rw[List.all_eq_true]
 constructor
 ·intro h k hk
  have:=h k (List.mem_range.2 hk)
  simpa[List.getElem?_eq_getElem hk]using this
 ·intro h k hk
  have hk:=List.mem_range.1 hk
  simpa[List.getElem?_eq_getElem hk]using h k hk
theorem all_get{α:Type}{l:List α}{f:α→Bool}:l.all f=allI l fun _ x=>f x:=by
 rw[Bool.eq_iff_iff,allI_iff,List.all_eq_true]
 constructor
 ·intro h k hk;exact h _ (List.getElem_mem hk)
 ·intro h x hx
  obtain⟨k,hk,rfl⟩:=List.mem_iff_getElem.1 hx
  exact h k hk
theorem allI_and{α:Type}{l:List α}{f g:Nat→α→Bool}:(allI l f&&allI l g)=allI l fun k x=>f k x&&g k x:=by
 rw[Bool.eq_iff_iff,Bool.and_eq_true,allI_iff,allI_iff,allI_iff]
 constructor
 ·intro h k hk;rw[h.1 k hk,h.2 k hk];rfl
 ·intro h
  exact⟨fun k hk=>by have:=h k hk;rw[Bool.and_eq_true]at this;exact this.1,fun k hk=>by have:=h k hk;rw[Bool.and_eq_true]at this;exact this.2⟩
theorem allI_map{α β:Type}{l:List α}{g:α→β}{f:Nat→β→Bool}:allI (l.map g) f=allI l fun k x=>f k (g x):=by
 rw[Bool.eq_iff_iff,allI_iff,allI_iff]
 constructor
 ·intro h k hk;have:=h k (by simpa using hk);simpa using this
 ·intro h k hk;have:=h k (by simpa using hk);simpa using this
theorem namesOk_allI(l:List ByteArray)(m:Int):namesOk l m=(decide ((l.length:Int)≤m)&&allI l fun k s=>isName s && !isW (l.take k) s):=by
 rw[namesOk,Bool.and_comm]
 congr 1
 unfold allI
 congr 1
 funext k
 unfold okName
 cases l[k]?<;>rfl
theorem isW_app(a b:List ByteArray)(s:ByteArray):isW (a++b) s=(isW a s||isW b s):=by simp[isW,List.any_append]
def tyOk(l:List Ty):Bool:=l.all (fun t=>inRange t.size 0 8)&&namesOk (l.map Ty.name) 8
def tyS(l:List Ty)(k:Nat)(t:Ty):Bool:=isName t.name && !isW ((l.take k).map Ty.name) t.name&&inRange t.size 0 8
theorem tyOk_eq(l:List Ty):tyOk l=(decide ((l.length:Int)≤8)&&allI l (tyS l)):=by
 rw[tyOk,namesOk_allI,all_get,allI_map,Bool.and_left_comm,List.length_map,allI_and]
 congr 2
 funext k t
 rw[tyS,List.map_take]
 cases isName t.name<;>cases isW (List.take k (l.map Ty.name)) t.name<;>cases inRange t.size 0 8<;>rfl
def lkGood(n:Nat)(names:List ByteArray)(l:Lk):Bool := !isW names l.name&&(inRange l.inst 0 ((n:Int)-1)&&isName l.tgt)
def lksOk(n:Nat)(x:In):Bool:=x.links.all (lkGood n x.names)&&namesOk (x.links.map Lk.name) 30
def lkS(n:Nat)(x:In)(k:Nat)(l:Lk):Bool:=isName l.name && !isW (x.names++(x.links.take k).map Lk.name) l.name&&inRange l.inst 0 ((n:Int)-1)&&isName l.tgt
theorem lksOk_eq(n:Nat)(x:In):lksOk n x=(decide ((x.links.length:Int)≤30)&&allI x.links (lkS n x)):=by
 rw[lksOk,namesOk_allI,all_get,allI_map,Bool.and_left_comm,List.length_map,allI_and]
 congr 2
 funext k l
 rw[lkS,lkGood,isW_app,List.map_take]
 cases isName l.name<;>cases isW x.names l.name<;>cases isW (List.take k (x.links.map Lk.name)) l.name<;>cases inRange l.inst 0 ((n:Int)-1)<;>cases isName l.tgt<;>rfl
def vOk0(h:List Cl)(v:V):Bool:=decide (v=noV)||valueOk h v
def headOk(i:Nat)(x:In):Bool:=if i=0 then decide (x.lib=zs)&&decide (x.ver=0) else isName x.lib&&inRange x.ver 1 1000
def inOk(y:Sy)(i:Nat)(x:In):Bool:=headOk i x&&(x.vals.all (vOk0 y.heap)&&(namesOk x.names 30&&(decide (x.vals.length=x.names.length)&&(lksOk y.insts.length x&&tyOk x.types))))
def ndZ:Nd:=⟨0,0,zs,[],[]⟩
def nodeAt(y:Sy)(u n:Int):Option Nd:=(y.units[u.toNat]?).bind fun t=>t.prog.nodes[n.toNat]?
def isNode(y:Sy)(u n:Int):Bool:=decide (0≤u)&&decide (0≤n)&&(nodeAt y u n).isSome
def isLam(y:Sy)(u n:Int):Bool:=isNode y u n&&(match nodeAt y u n with
 |some c=>decide (c.k=7)
 |none=>false)
def unOk(y:Sy)(u:Un):Bool:=inRange u.home 0 ((y.insts.length:Int)-1)&&progOk u.prog
def celOk(y:Sy)(c:Cl):Bool:=decide (c.k≠2)||isLam y c.a c.b
def sysOk(y:Sy):Bool:=inRange y.insts.length 1 12&&(decide (y.units.length≤60)&&(decide (y.out.length≤40)&&(heapOk y.heap&&(allI y.insts (inOk y)&&(y.units.all (unOk y)&&y.heap.all (celOk y))))))
def envOk(y:Sy)(e:List Bd):Bool:=e.all fun b=>isName b.name&&valueOk y.heap b.val
def fmOk(y:Sy)(f:Fm):Bool:=isNode y f.unit f.node&&(f.vals.all (valueOk y.heap)&&(envOk y f.env&&(match nodeAt y f.unit f.node with
 |some c=>if c.k=6∨c.k=10 then decide (f.vals.length=0) else if c.k=8∨c.k=9∨c.k=11 then decide (f.vals.length<c.args.length) else false
 |none=>false)))
def mcOk(y:Sy)(m:Mc):Bool:=inRange m.mode 1 3&&(inRange m.fin 0 7&&(isNode y m.unit m.node&&(decide (m.stack.length≤120)&&(envOk y m.env&&(m.stack.all (fmOk y) &&
 (if m.mode=1 then decide (m.val=noV) else if m.mode=2 then valueOk y.heap m.val else vOk0 y.heap m.val))))))
def machOk(y:Sy)(m:Mc):Bool:=sysOk y&&mcOk y m
end Go.Own
set_option maxRecDepth 1000000
set_option maxHeartbeats 4000000
namespace Go.Own
attribute [local irreducible] WPc WPL WPS WPS1 WPS2 HAny endP
variable [Laid]
open Go.Lib Go.RowKit
theorem msum{α:Type}{f:α→Nat}{l:List α}{x:α}(h:x∈l):f x≤(l.map f).sum:=by
 induction l with
 |nil=>cases h
 |cons y l ih =>
  simp only[List.map_cons,List.sum_cons]
  rcases List.mem_cons.1 h with rfl|h
  ·omega
  ·have:=ih h;omega
theorem smallS{l:List ByteArray}(h:costS l≤1048576):(∀x,x∈l→x.size<4294967000)∧l.length≤1000000000:=by
 unfold costS at h
 exact⟨fun x hx=>by have:=msum (f:=ByteArray.size) hx;omega,by omega⟩
theorem smallVs{l:List V}(h:costV l≤1048576):(∀x,x∈l→x.sm)∧l.length≤1000000000:=by
 unfold costV at h
 exact⟨fun x hx=>by have:=msum (f:=fun v:V=>v.s.size) hx;unfold V.sm;omega,by omega⟩
theorem smallC{c:Cl}(h:costC c≤1048576):c.sm∧c.rm:=by
 unfold costC at h
 have q_names:=smallS (l:=c.names) (by omega)
 have q_vals:=smallVs (l:=c.vals) (by omega)
 exact⟨⟨by omega,q_names.1,q_vals.1⟩,⟨q_names.2,q_vals.2⟩⟩
theorem smallH{l:List Cl}(h:costH l≤1048576):(∀c,c∈l→c.sm)∧(∀c,c∈l→c.rm)∧l.length≤1000000000:=by
 have hm:∀c,c∈l→costC c≤1048576:=fun c hc=>by have:=msum (f:=costC) hc;unfold costH at h;omega
 exact⟨fun c hc=>(smallC (hm c hc)).1,fun c hc=>(smallC (hm c hc)).2,by unfold costH at h;omega⟩
theorem smallN{c:Nd}(h:costN c≤1048576):c.sm∧c.rm:=by
 unfold costN at h
 have q_names:=smallS (l:=c.names) (by omega)
 exact⟨⟨by omega,q_names.1⟩,⟨q_names.2,by omega⟩⟩
theorem smallPg{p:Pg}(h:costP p.nodes≤1048576):(∀c,c∈p.nodes→c.sm)∧p.rm:=by
 have hm:∀c,c∈p.nodes→costN c≤1048576:=fun c hc=>by have:=msum (f:=costN) hc;unfold costP at h;omega
 exact⟨fun c hc=>(smallN (hm c hc)).1,⟨by unfold costP at h;omega,fun c hc=>(smallN (hm c hc)).2⟩⟩
structure Lk.sm(c:Lk):Prop where
 name:c.name.size<4294967000
 tgt:c.tgt.size<4294967000
structure Ty.sm(c:Ty):Prop where
 name:c.name.size<4294967000
structure In.sm(c:In):Prop where
 lib:c.lib.size<4294967000
 names:∀x,x∈c.names→x.size<4294967000
 vals:∀x,x∈c.vals→x.sm
 links:∀x,x∈c.links→x.sm
 types:∀x,x∈c.types→x.sm
structure Un.sm(c:Un):Prop where
 prog:∀x,x∈c.prog.nodes→x.sm
structure Sy.sm(c:Sy):Prop where
 heap:∀x,x∈c.heap→x.sm
 insts:∀x,x∈c.insts→x.sm
 units:∀x,x∈c.units→x.sm
 out:∀x,x∈c.out→x.size<4294967000
structure Bd.sm(c:Bd):Prop where
 name:c.name.size<4294967000
 val:c.val.sm
structure Fm.sm(c:Fm):Prop where
 vals:∀x,x∈c.vals→x.sm
 env:∀x,x∈c.env→x.sm
structure Mc.sm(c:Mc):Prop where
 env:∀x,x∈c.env→x.sm
 val:c.val.sm
 stack:∀x,x∈c.stack→x.sm
structure Df.sm(c:Df):Prop where
 name:c.name.size<4294967000
 prog:∀x,x∈c.prog.nodes→x.sm
structure Sr.sm(c:Sr):Prop where
 name:c.name.size<4294967000
 imports:∀x,x∈c.imports→x.size<4294967000
 exports:∀x,x∈c.exports→x.size<4294967000
 types:∀x,x∈c.types→x.sm
 defs:∀x,x∈c.defs→x.sm
 convs:∀x,x∈c.convs→x.sm
structure En.sm(c:En):Prop where
 src:c.src.sm
structure Tk.sm(c:Tk):Prop where
 mac:c.mac.sm
structure Wd.sm(c:Wd):Prop where
 sys:c.sys.sm
 libs:∀x,x∈c.libs→x.sm
 tasks:∀x,x∈c.tasks→x.sm
theorem costLk_eq(c:Lk):costLk c=c.name.size+c.tgt.size:=rfl
theorem smallLk{c:Lk}(h:costLk c≤1048576):c.sm:=by
 rw[costLk_eq]at h
 have s_name:c.name.size<4294967000:=by omega
 have s_tgt:c.tgt.size<4294967000:=by omega
 exact⟨s_name,s_tgt⟩
theorem smallLkS{l:List Lk}(h:costLkS l≤1048576):(∀c,c∈l→c.sm)∧l.length≤1000000000:=by
 have hm:∀c,c∈l→costLk c≤1048576:=fun c hc=>by have:=msum (f:=costLk) hc;unfold costLkS at h;omega
 exact⟨fun c hc=>smallLk (hm c hc),by unfold costLkS at h;omega⟩
theorem costTy_eq(c:Ty):costTy c=c.name.size:=rfl
theorem smallTy{c:Ty}(h:costTy c≤1048576):c.sm:=by
 rw[costTy_eq]at h
 have s_name:c.name.size<4294967000:=by omega
 exact⟨s_name⟩
theorem smallTyS{l:List Ty}(h:costTyS l≤1048576):(∀c,c∈l→c.sm)∧l.length≤1000000000:=by
 have hm:∀c,c∈l→costTy c≤1048576:=fun c hc=>by have:=msum (f:=costTy) hc;unfold costTyS at h;omega
 exact⟨fun c hc=>smallTy (hm c hc),by unfold costTyS at h;omega⟩
theorem costIn_eq(c:In):costIn c=c.lib.size+costS c.names+costV c.vals+costLkS c.links+costTyS c.types:=rfl
theorem smallIn{c:In}(h:costIn c≤1048576):c.sm∧c.rm:=by
 rw[costIn_eq]at h
 have s_lib:c.lib.size<4294967000:=by omega
 have q_names:=smallS (l:=c.names) (by omega)
 have q_vals:=smallVs (l:=c.vals) (by omega)
 have q_links:=smallLkS (l:=c.links) (by omega)
 have q_types:=smallTyS (l:=c.types) (by omega)
 exact⟨⟨s_lib,q_names.1,q_vals.1,q_links.1,q_types.1⟩,⟨q_names.2,q_vals.2,q_links.2,q_types.2⟩⟩
theorem smallInS{l:List In}(h:costInS l≤1048576):(∀c,c∈l→c.sm)∧(∀c,c∈l→c.rm)∧l.length≤1000000000:=by
 have hm:∀c,c∈l→costIn c≤1048576:=fun c hc=>by have:=msum (f:=costIn) hc;unfold costInS at h;omega
 exact⟨fun c hc=>(smallIn (hm c hc)).1,fun c hc=>(smallIn (hm c hc)).2,by unfold costInS at h;omega⟩
theorem costUn_eq(c:Un):costUn c=costP c.prog.nodes:=rfl
theorem smallUn{c:Un}(h:costUn c≤1048576):c.sm∧c.rm:=by
 rw[costUn_eq]at h
 have q_prog:=smallPg (p:=c.prog) (by omega)
 exact⟨⟨q_prog.1⟩,⟨q_prog.2⟩⟩
theorem smallUnS{l:List Un}(h:costUnS l≤1048576):(∀c,c∈l→c.sm)∧(∀c,c∈l→c.rm)∧l.length≤1000000000:=by
 have hm:∀c,c∈l→costUn c≤1048576:=fun c hc=>by have:=msum (f:=costUn) hc;unfold costUnS at h;omega
 exact⟨fun c hc=>(smallUn (hm c hc)).1,fun c hc=>(smallUn (hm c hc)).2,by unfold costUnS at h;omega⟩
theorem costSy_eq(c:Sy):costSy c=costH c.heap+costInS c.insts+costUnS c.units+costS c.out:=rfl
theorem smallSy{c:Sy}(h:costSy c≤1048576):c.sm∧c.rm:=by
 rw[costSy_eq]at h
 have q_heap:=smallH (l:=c.heap) (by omega)
 have q_insts:=smallInS (l:=c.insts) (by omega)
 have q_units:=smallUnS (l:=c.units) (by omega)
 have q_out:=smallS (l:=c.out) (by omega)
 exact⟨⟨q_heap.1,q_insts.1,q_units.1,q_out.1⟩,⟨q_heap.2.2,q_heap.2.1,q_insts.2.2,q_insts.2.1,q_units.2.2,q_units.2.1,q_out.2⟩⟩
theorem costBd_eq(c:Bd):costBd c=c.name.size+c.val.s.size:=rfl
theorem smallBd{c:Bd}(h:costBd c≤1048576):c.sm:=by
 rw[costBd_eq]at h
 have s_name:c.name.size<4294967000:=by omega
 have s_val:c.val.sm:=by unfold V.sm;omega
 exact⟨s_name,s_val⟩
theorem smallBdS{l:List Bd}(h:costBdS l≤1048576):(∀c,c∈l→c.sm)∧l.length≤1000000000:=by
 have hm:∀c,c∈l→costBd c≤1048576:=fun c hc=>by have:=msum (f:=costBd) hc;unfold costBdS at h;omega
 exact⟨fun c hc=>smallBd (hm c hc),by unfold costBdS at h;omega⟩
theorem costFm_eq(c:Fm):costFm c=costV c.vals+costBdS c.env:=rfl
theorem smallFm{c:Fm}(h:costFm c≤1048576):c.sm∧c.rm:=by
 rw[costFm_eq]at h
 have q_vals:=smallVs (l:=c.vals) (by omega)
 have q_env:=smallBdS (l:=c.env) (by omega)
 exact⟨⟨q_vals.1,q_env.1⟩,⟨q_vals.2,q_env.2⟩⟩
theorem smallFmS{l:List Fm}(h:costFmS l≤1048576):(∀c,c∈l→c.sm)∧(∀c,c∈l→c.rm)∧l.length≤1000000000:=by
 have hm:∀c,c∈l→costFm c≤1048576:=fun c hc=>by have:=msum (f:=costFm) hc;unfold costFmS at h;omega
 exact⟨fun c hc=>(smallFm (hm c hc)).1,fun c hc=>(smallFm (hm c hc)).2,by unfold costFmS at h;omega⟩
theorem costMc_eq(c:Mc):costMc c=costBdS c.env+c.val.s.size+costFmS c.stack:=rfl
theorem smallMc{c:Mc}(h:costMc c≤1048576):c.sm∧c.rm:=by
 rw[costMc_eq]at h
 have q_env:=smallBdS (l:=c.env) (by omega)
 have s_val:c.val.sm:=by unfold V.sm;omega
 have q_stack:=smallFmS (l:=c.stack) (by omega)
 exact⟨⟨q_env.1,s_val,q_stack.1⟩,⟨q_env.2,q_stack.2.2,q_stack.2.1⟩⟩
theorem costDf_eq(c:Df):costDf c=c.name.size+costP c.prog.nodes:=rfl
theorem smallDf{c:Df}(h:costDf c≤1048576):c.sm∧c.rm:=by
 rw[costDf_eq]at h
 have s_name:c.name.size<4294967000:=by omega
 have q_prog:=smallPg (p:=c.prog) (by omega)
 exact⟨⟨s_name,q_prog.1⟩,⟨q_prog.2⟩⟩
theorem smallDfS{l:List Df}(h:costDfS l≤1048576):(∀c,c∈l→c.sm)∧(∀c,c∈l→c.rm)∧l.length≤1000000000:=by
 have hm:∀c,c∈l→costDf c≤1048576:=fun c hc=>by have:=msum (f:=costDf) hc;unfold costDfS at h;omega
 exact⟨fun c hc=>(smallDf (hm c hc)).1,fun c hc=>(smallDf (hm c hc)).2,by unfold costDfS at h;omega⟩
theorem costSr_eq(c:Sr):costSr c=c.name.size+costS c.imports+costS c.exports+costTyS c.types+costDfS c.defs+costDfS c.convs:=rfl
theorem smallSr{c:Sr}(h:costSr c≤1048576):c.sm∧c.rm:=by
 rw[costSr_eq]at h
 have s_name:c.name.size<4294967000:=by omega
 have q_imports:=smallS (l:=c.imports) (by omega)
 have q_exports:=smallS (l:=c.exports) (by omega)
 have q_types:=smallTyS (l:=c.types) (by omega)
 have q_defs:=smallDfS (l:=c.defs) (by omega)
 have q_convs:=smallDfS (l:=c.convs) (by omega)
 exact⟨⟨s_name,q_imports.1,q_exports.1,q_types.1,q_defs.1,q_convs.1⟩,⟨q_imports.2,q_exports.2,q_types.2,q_defs.2.2,q_defs.2.1,q_convs.2.2,q_convs.2.1⟩⟩
theorem costEn_eq(c:En):costEn c=costSr c.src:=rfl
theorem smallEn{c:En}(h:costEn c≤1048576):c.sm∧c.rm:=by
 rw[costEn_eq]at h
 have q_src:=smallSr (c:=c.src) (by omega)
 exact⟨⟨q_src.1⟩,⟨q_src.2⟩⟩
theorem smallEnS{l:List En}(h:costEnS l≤1048576):(∀c,c∈l→c.sm)∧(∀c,c∈l→c.rm)∧l.length≤1000000000:=by
 have hm:∀c,c∈l→costEn c≤1048576:=fun c hc=>by have:=msum (f:=costEn) hc;unfold costEnS at h;omega
 exact⟨fun c hc=>(smallEn (hm c hc)).1,fun c hc=>(smallEn (hm c hc)).2,by unfold costEnS at h;omega⟩
theorem costTk_eq(c:Tk):costTk c=costMc c.mac:=rfl
theorem smallTk{c:Tk}(h:costTk c≤1048576):c.sm∧c.rm:=by
 rw[costTk_eq]at h
 have q_mac:=smallMc (c:=c.mac) (by omega)
 exact⟨⟨q_mac.1⟩,⟨q_mac.2⟩⟩
theorem smallTkS{l:List Tk}(h:costTkS l≤1048576):(∀c,c∈l→c.sm)∧(∀c,c∈l→c.rm)∧l.length≤1000000000:=by
 have hm:∀c,c∈l→costTk c≤1048576:=fun c hc=>by have:=msum (f:=costTk) hc;unfold costTkS at h;omega
 exact⟨fun c hc=>(smallTk (hm c hc)).1,fun c hc=>(smallTk (hm c hc)).2,by unfold costTkS at h;omega⟩
theorem costWd_eq(c:Wd):costWd c=costSy c.sys+costEnS c.libs+costTkS c.tasks:=rfl
theorem smallWd{c:Wd}(h:costWd c≤1048576):c.sm∧c.rm:=by
 rw[costWd_eq]at h
 have q_sys:=smallSy (c:=c.sys) (by omega)
 have q_libs:=smallEnS (l:=c.libs) (by omega)
 have q_tasks:=smallTkS (l:=c.tasks) (by omega)
 exact⟨⟨q_sys.1,q_libs.1,q_tasks.1⟩,⟨q_sys.2,q_libs.2.2,q_libs.2.1,q_tasks.2.2,q_tasks.2.1⟩⟩
end Go.Own
set_option maxRecDepth 1000000
set_option maxHeartbeats 4000000
namespace Go.Own
attribute [local irreducible] WPc WPL WPS WPS1 WPS2 HAny endP
variable [Laid]
open Go.Lib Go.RowKit
theorem c_impl_ProgOk[F:Facts.Of](p:Pg)(hs:∀c,c∈p.nodes→c.sm)(hr:∀c,c∈p.nodes→c.args.length≤1000000000):Con PP 140 [p.av] [] [] (fun r o=>r=.sc (.bool (progOk p))):=by
 by_cases hN:inRange p.nodes.length 1 400=true
 ·have hN':=hN
  simp only[inRange,Bool.and_eq_true,decide_eq_true_eq]at hN'
  obtain⟨n1,n2⟩:=hN'
  obtain⟨m,hm⟩:∃m,p.nodes.length=m+1:=⟨p.nodes.length-1,by omega⟩
  have hw1:IntKind.i64.wrap ((p.nodes.length:Int)-1)=m:=by rw[wrap64 (by omega) (by omega)];omega
  by_cases hroot:p.root=(p.nodes.length:Int)-1
  ·have hroot':(p.root=(m:Int))=True:=by simp only[eq_iff_iff,iff_true];omega
   have hb1:(8:Int)*(p.nodes.length:Int)≤281474976710656:=by omega
   have hb2:(p.nodes.length:Int)≤9223372036854775807:=by omega
   refine cof 77 Go.Proofs.Tryz.func140 fun G=>?_
   simp only[entSt,tmOf,List.append_nil,List.cons_append,List.nil_append,Pg.av]
   refine go (L:=_∧True) (wa5 @hN @hw1 @hroot' @hb1 @hb2) (wb1 (fun v0 v1 v2 (_:True)=>c_impl_inRange v0 v1 v2)) wb0 wb0 wb0 ⟨fun _=>?_,wb0⟩
   refine WPc.loopV (σ:=Nat) (fun i=>i≤p.nodes.length∧(∀j,j<i→okNode p.nodes j=true)) (fun i=>p.nodes.length-i) (fun i=>[(33,.sc (.int .i64 i))]) (fun i=>[(29,3,1,(seenTo p.nodes i).map nC)]) [3,4,31,32] 0 (by simp[seenTo_zero,nC]) (by simp[seenTo_zero,nC]) (by simp) ?_
   rintro i ⟨hi,hall⟩ s hs
   simp at hs
   subst hs
   by_cases hlt:i<p.nodes.length
   ·have hz:=hs _ (List.getElem_mem hlt)
    have hz':Nd.sm ⟨p.nodes[i].k,p.nodes[i].n,p.nodes[i].s,p.nodes[i].names,p.nodes[i].args⟩:=hz
    have hra:=hr _ (List.getElem_mem hlt)
    have ee:nodeOk ⟨p.nodes[i].k,p.nodes[i].n,p.nodes[i].s,p.nodes[i].names,p.nodes[i].args⟩=nodeOk p.nodes[i]:=rfl
    cases hno:nodeOk p.nodes[i]with
    |false =>
     rw[progOk_node hlt (by rw[okNode_eq hlt,hno];rfl)]
     refine go (L:=_∧True) (wa5 @Nd.cs.eq_1 @Nd.av.eq_1 @hlt @ee @hno) (wb1 (fun v0 v1 v2 v3 v4 (h:_)=>c_impl_nodeOk ⟨v0,v1,v2,v3,v4⟩ h)) wb0 wb0 wb0 ⟨fun _=>?_,wb0⟩
     all_goals rfl
    |true =>
     refine go (L:=_∧True) (wa5 @Nd.cs.eq_1 @Nd.av.eq_1 @hlt @ee @hno) (wb1 (fun v0 v1 v2 v3 v4 (h:_)=>c_impl_nodeOk ⟨v0,v1,v2,v3,v4⟩ h)) wb0 wb0 wb0 ⟨fun _=>?_,wb0⟩
     refine WPc.loopV (σ:=Nat) (fun k=>k≤p.nodes[i].args.length∧(p.nodes[i].args.take k).all (fun a=>inRange a 0 ((i:Int)-1))=true) (fun k=>p.nodes[i].args.length-k) (fun k=>[(44,.sc (.int .i64 k))]) (fun k=>[(29,3,1,(bumps (seenTo p.nodes i) (p.nodes[i].args.take k)).map nC)]) [3,4,5,31,32,33,42,43] 0 (by simp[bumps_zero,nC]) (by simp[bumps_zero,nC]) (by simp) ?_
     rintro k ⟨hk,hka⟩ s hs
     simp at hs
     subst hs
     by_cases hklt:k<p.nodes[i].args.length
     ·have hv:p.nodes[i].args[k]?=some p.nodes[i].args[k]:=List.getElem?_eq_getElem hklt
      have hwi:IntKind.i64.wrap ((i:Int)-1)=i-1:=wrap64 (by omega) (by omega)
      cases hin:inRange p.nodes[i].args[k] 0 ((i:Int)-1) with
      |false =>
       rw[progOk_node hlt (by rw[okNode_eq hlt,argsOk,all_at hv hin,Bool.and_false])]
       refine go (L:=_∧True) (wa5 @Nd.cs.eq_1 @nC.eq_1 @hklt @hwi @hin) (wb1 (fun v0 v1 v2 (_:True)=>c_impl_inRange v0 v1 v2)) wb0 wb0 wb0 ⟨fun _=>?_,wb0⟩
       all_goals rfl
      |true =>
       have hin':=hin
       simp only[inRange,Bool.and_eq_true,decide_eq_true_eq]at hin'
       obtain⟨a0,a1⟩:=hin'
       have hbn:=bnd_bumps (p.nodes[i].args.take k) (bnd_seen hr (show i≤400 by omega))
       have hlen:(bumps (seenTo p.nodes i) (p.nodes[i].args.take k)).length=p.nodes.length:=by simp
       have hnx:=bumps_next (l:=seenTo p.nodes i) hklt
       generalize bumps (seenTo p.nodes i) (p.nodes[i].args.take k)=L at *
       have a2:p.nodes[i].args[k].toNat<L.length:=by omega
       have a3:p.nodes[i].args[k]<(L.length:Int):=by omega
       have a4:p.nodes[i].args[k]<(p.nodes.length:Int):=by omega
       have a5:p.nodes[i].args[k].toNat<p.nodes.length:=by omega
       have hx:=hbn _ (List.getElem_mem a2)
       have hwx:IntKind.i64.wrap (L[p.nodes[i].args[k].toNat]+1)=L[p.nodes[i].args[k].toNat]+1:=wrap64 (by omega) (by simp at hx;omega)
       have hmod:=modify_nC a2
       refine go (L:=_∧True) (wa12 @Nd.cs.eq_1 @nC.eq_1 @hklt @hwi @hin @a0 @a2 @a4 @a5 @hlen @hwx @hmod) (wb1 (fun v0 v1 v2 (_:True)=>c_impl_inRange v0 v1 v2)) wb0 wb0 wb0 ⟨fun _=>?_,wb0⟩
       refine⟨k+1,⟨⟨hklt,all_next hv hin hka⟩,by first|omega|(simp only;omega)|assumption⟩,rfl,rfl,?_,?_⟩<;>simp (disch:=omega) [wrap64,hnx,hmod,bump,nC]
     ·obtain rfl:k=p.nodes[i].args.length:=by omega
      rw[List.take_length]at hka
      have hsn:=seenTo_next hlt
      refine go (L:=_∧True) (wa1 @hklt) wb0 wb0 wb0 wb0 ⟨fun _=>?_,wb0⟩
      have hok:okNode p.nodes i=true:=by rw[okNode_eq hlt,hno,argsOk,hka];rfl
      have hall2:∀j,j<i+1→okNode p.nodes j=true:=fun j hj=>by
       rcases Nat.lt_succ_iff_lt_or_eq.1 hj with h|rfl
       ·exact hall _ h
       ·exact hok
      refine⟨i+1,⟨⟨hlt,hall2⟩,by first|omega|(simp only;omega)|assumption⟩,rfl,rfl,?_,?_⟩<;>simp (disch:=omega) [wrap64,hsn,List.take_length]
   ·obtain rfl:i=p.nodes.length:=by omega
    have hlast:=seen_last (show 0<p.nodes.length by omega) hall p.nodes.length (Nat.le_refl _)
    have hlen:(seenTo p.nodes p.nodes.length).length=p.nodes.length:=by simp
    have hno:=fun (i:Nat) (hi:i<p.nodes.length-1) (x:Int)=>progOk_seen (p:=p) hi (x:=x)
    have hyes:=progOk_yes (p:=p) hN hroot hall
    generalize seenTo p.nodes p.nodes.length=S at *
    have hm1:p.nodes.length-1=m:=by omega
    rw[hm1]at hlast hyes
    have l0:m<S.length:=by omega
    have l1:m≤p.nodes.length:=by omega
    have l2:(m:Int)≤(p.nodes.length:Int):=by omega
    have l3:(m:Int)<(p.nodes.length:Int):=by omega
    have l4:m<p.nodes.length:=by omega
    have l5:S[m]=0:=by rw[List.getElem?_eq_getElem l0]at hlast;exact Option.some.inj hlast
    refine go (L:=_∧True) (wa6 @l0 @l1 @l2 @l3 @l4 @hlen) wb0 wb0 wb0 wb0 ⟨fun _=>?_,wb0⟩
    refine WPc.loopV (σ:=Nat) (fun i=>i≤m∧(S.take i).all (fun n=>decide (n=1))=true) (fun i=>m-i) (fun i=>[(65,.sc (.int .i64 i))]) (fun i=>[(29,3,1,S.map nC)]) [3,4,63,64] 0 (by simp) (by simp) (by simp) ?_
    rintro i ⟨hi,hall1⟩ s hs
    simp at hs
    subst hs
    by_cases hlt2:i<m
    ·have hiS:i<S.length:=by omega
     have hiN:i<p.nodes.length:=by omega
     by_cases he:S[i]=1
     ·refine go (L:=_∧True) (wa6 @nC.eq_1 @hlt2 @hiS @hiN @he @hlen) wb0 wb0 wb0 wb0 ⟨fun _=>?_,wb0⟩
      refine⟨i+1,⟨⟨hlt2,all_next (List.getElem?_eq_getElem hiS) (by simp[he]) hall1⟩,by first|omega|(simp only;omega)|assumption⟩,rfl,rfl,?_,?_⟩<;>simp (disch:=omega) [wrap64]
     ·rw[hno i (by omega) _ (List.getElem?_eq_getElem hiS) he]
      refine go (L:=_∧True) (wa6 @nC.eq_1 @hlt2 @hiS @hiN @he @hlen) wb0 wb0 wb0 wb0 ⟨fun _=>?_,wb0⟩
      all_goals rfl
    ·obtain rfl:i=m:=by omega
     rw[hyes hall1]
     refine go (L:=_∧True) (wa9 @nC.eq_1 @hlt2 @l0 @l1 @l2 @l3 @l4 @l5 @hlen) wb0 wb0 wb0 wb0 ⟨fun _=>?_,wb0⟩
     all_goals rfl
  ·have hroot':(p.root=(m:Int))=False:=by simp only[eq_iff_iff,iff_false];omega
   rw[progOk_root hroot]
   refine cof 77 Go.Proofs.Tryz.func140 fun G=>?_
   simp only[entSt,tmOf,List.append_nil,List.cons_append,List.nil_append,Pg.av]
   refine go (L:=_∧True) (wa3 @hN @hw1 @hroot') (wb1 (fun v0 v1 v2 (_:True)=>c_impl_inRange v0 v1 v2)) wb0 wb0 wb0 ⟨fun _=>?_,wb0⟩
   all_goals rfl
 ·have hN':inRange p.nodes.length 1 400=false:=by simpa using hN
  rw[progOk_len hN']
  refine cof 77 Go.Proofs.Tryz.func140 fun G=>?_
  simp only[entSt,tmOf,List.append_nil,List.cons_append,List.nil_append,Pg.av]
  refine go (L:=_∧True) (wa1 @hN') (wb1 (fun v0 v1 v2 (_:True)=>c_impl_inRange v0 v1 v2)) wb0 wb0 wb0 ⟨fun _=>?_,wb0⟩
  all_goals rfl
end Go.Own
set_option maxRecDepth 1000000
set_option maxHeartbeats 4000000
namespace Go.Own
attribute [local irreducible] WPc WPL WPS WPS1 WPS2 HAny endP
variable [Laid]
open Go.Lib Go.RowKit
theorem fidx_ge{s:ByteArray}:∀{l:List ByteArray} {k:Nat},isW l s=true→(k:Int)≤fidx l s k
 |[],_,h=>by simp[isW]at h
 |x::l,k,h=>by
  simp only[fidx]
  split
  ·omega
  ·rename_i hx
   have h':isW l s=true:=by
    rw[isW_cons,Bool.or_eq_true]at h
    rcases h with h|h
    ·exact absurd (of_decide_eq_true h) hx
    ·exact h
   have:=fidx_ge (l:=l) (k:=k+1) h'
   omega
theorem c_slices_Contains(l:List ByteArray)(s:ByteArray):Con PP 228 [.fz (l.map sC),.sc (.string s)] [] [] (fun r o=>r=.sc (.bool (isW l s))):=by
 refine cof 9 Go.Proofs.Tryz.func228 fun G=>?_
 simp only[entSt,tmOf,List.append_nil,List.cons_append,List.nil_append]
 cases h:isW l s with
 |false =>
  have e:fidx l s 0 = -1:=fidx_none h
  refine go (L:=_∧True) (wa1 @e) (wb1 (fun v0 v1 (_:True)=>c_slices_IndexS v0 v1)) wb0 wb0 wb0 ⟨fun _=>?_,wb0⟩
  all_goals rfl
 |true =>
  have e:=fidx_ge (k:=0) h
  have e':0≤fidx l s 0:=by omega
  refine go (L:=_∧True) (wa1 @e') (wb1 (fun v0 v1 (_:True)=>c_slices_IndexS v0 v1)) wb0 wb0 wb0 ⟨fun _=>?_,wb0⟩
  all_goals rfl
def mapT{α β:Type}(f:α→β)(l:List α)(i:Nat):List β:=(l.take i).map f
theorem mapT_zero{α β:Type}(f:α→β)(l:List α):mapT f l 0=[]:=rfl
theorem mapT_len{α β:Type}(f:α→β){l:List α}{i:Nat}(hi:i≤l.length):(mapT f l i).length=i:=by rw[mapT,List.length_map,List.length_take];omega
theorem mapT_next{α β:Type}(f:α→β){l:List α}{i:Nat}(hi:i<l.length):mapT f l (i+1)=mapT f l i++[f l[i]]:=by
 unfold mapT
 rw[List.take_add_one,List.getElem?_eq_getElem hi,Option.toList_some,List.map_append,List.map_cons,List.map_nil]
theorem mapT_all{α β:Type}(f:α→β)(l:List α):mapT f l l.length=l.map f:=by rw[mapT,List.take_length]
theorem dz_S{l:List ByteArray}{n:Nat}(h:l.length=n):dzLL (List.take n (l.map sC))=l.map sC:=by rw[List.take_of_length_le (by simp[h]),dz_sC]
theorem tyOk_no{l:List Ty}{i:Nat}(hi:i<l.length)(h:inRange l[i].size 0 8=false):tyOk l=false:=by
 rw[tyOk,all_at (List.getElem?_eq_getElem hi) h,Bool.false_and]
theorem c_impl_typesOk[F:Facts.Of](l:List Ty)(h1:l.length≤1000000000)(hs:∀t,t∈l→t.sm):Con PP 217 [.fz (l.map Ty.cs)] [] [] (fun r o=>r=.sc (.bool (tyOk l))):=by
 have hz:∀v,v∈l.map Ty.name→v.size<4294967000:=fun v hv=>by
  obtain⟨t,ht,rfl⟩:=List.mem_map.1 hv
  exact(hs t ht).name
 refine cof 24 Go.Proofs.Tryz.func217 fun G=>?_
 simp only[entSt,tmOf,List.append_nil,List.cons_append,List.nil_append]
 refine go (L:=_∧True) wb0 wb0 wb0 wb0 wb0 ⟨fun _=>?_,wb0⟩
 refine WPc.adoptK 3 900001 9 1 fun K hK=>?_
 simp -implicitDefEqProofs
 refine hK _ ?_;clear hK K
 refine WPc.loopV (σ:=Nat) (fun i=>i≤l.length∧(l.take i).all (fun t=>inRange t.size 0 8)=true) (fun i=>l.length-i) (fun i=>[(8,.sc (.int .i64 i)),(3,.sl 900001 1 [] 0 i)]) (fun i=>[(900001,9,1,(mapT Ty.name l i).map sC)]) [6,7] 0 (by simp[mapT_zero]) (by simp[mapT_zero]) (by simp) ?_
 rintro i ⟨hi,hall⟩ s hs
 simp at hs
 subst hs
 by_cases hlt:i<l.length
 ·have hb1:(i+1)*16≤140737488355328:=by omega
  have hb2:i+1≤9223372036854775807:=by omega
  have hv:=List.getElem?_eq_getElem hlt
  have hn:=mapT_next Ty.name hlt
  have hll:=mapT_len Ty.name hi
  cases hin:inRange l[i].size 0 8 with
  |false =>
   rw[tyOk_no hlt hin]
   refine go (L:=_∧True) (wa6 @Ty.cs.eq_1 @hlt @hb1 @hb2 @hll @hin) (wb1 (fun v0 v1 v2 (_:True)=>c_impl_inRange v0 v1 v2)) wb0 wb0 wb0 ⟨fun _=>?_,wb0⟩
   all_goals rfl
  |true =>
   refine go (L:=_∧True) (wa6 @Ty.cs.eq_1 @hlt @hb1 @hb2 @hll @hin) (wb1 (fun v0 v1 v2 (_:True)=>c_impl_inRange v0 v1 v2)) wb0 wb0 wb0 ⟨fun _=>?_,wb0⟩
   refine⟨i+1,⟨⟨hlt,all_next hv hin hall⟩,by first|omega|(simp only;omega)|assumption⟩,rfl,rfl,?_,?_⟩<;>simp (disch:=omega) [wrap64,hn,sC]
 ·obtain rfl:i=l.length:=by omega
  rw[List.take_length]at hall
  have hll:=mapT_len Ty.name hi
  have hdz:=dz_S hll
  have e:tyOk l=namesOk (mapT Ty.name l l.length) 8:=by rw[tyOk,hall,Bool.true_and,mapT_all]
  rw[e]
  rw[←mapT_all]at hz
  refine go (L:=_∧True) (wa3 @hlt @hll @hdz) (wb1 (fun v0 v1 (h:_)=>c_impl_namesOk v0 v1 h)) wb0 wb0 wb0 ⟨fun _=>?_,wb0⟩
  all_goals rfl
theorem lksOk_no{n i:Nat}{x:In}(hi:i<x.links.length)(h:lkGood n x.names x.links[i]=false):lksOk n x=false:=by
 rw[lksOk,all_at (List.getElem?_eq_getElem hi) h,Bool.false_and]
theorem c_impl_linksOk[F:Facts.Of](y:Sy)(x:In)(hs:x.sm)(hr:x.rm)(hy:y.insts.length≤1000000000):Con PP 216 [.fp y.cs,x.av] [] [] (fun r o=>r=.sc (.bool (lksOk y.insts.length x))):=by
 have hz:∀v,v∈x.links.map Lk.name→v.size<4294967000:=fun v hv=>by
  obtain⟨t,ht,rfl⟩:=List.mem_map.1 hv
  exact(hs.links t ht).name
 have hr1:=hr.links
 have hw:IntKind.i64.wrap ((y.insts.length:Int)-1)=(y.insts.length:Int)-1:=wrap64 (by omega) (by omega)
 refine cof 46 Go.Proofs.Tryz.func216 fun G=>?_
 simp only[entSt,tmOf,List.append_nil,List.cons_append,List.nil_append,In.av,Sy.cs]
 refine go (L:=_∧True) wb0 wb0 wb0 wb0 wb0 ⟨fun _=>?_,wb0⟩
 refine WPc.adoptK 5 900001 9 1 fun K hK=>?_
 simp -implicitDefEqProofs
 refine hK _ ?_;clear hK K
 refine WPc.loopV (σ:=Nat) (fun i=>i≤x.links.length∧(x.links.take i).all (lkGood y.insts.length x.names)=true) (fun i=>x.links.length-i) (fun i=>[(11,.sc (.int .i64 i)),(5,.sl 900001 1 [] 0 i)]) (fun i=>[(900001,9,1,(mapT Lk.name x.links i).map sC),(3,83,6,[x.cs])]) [0,3,9,10] 0 (by simp[In.cs,mapT_zero]) (by simp[In.cs,mapT_zero]) (by simp) ?_
 rintro i ⟨hi,hall⟩ s hs
 simp at hs
 subst hs
 by_cases hlt:i<x.links.length
 ·have hb1:(i+1)*16≤140737488355328:=by omega
  have hb2:i+1≤9223372036854775807:=by omega
  have hv:=List.getElem?_eq_getElem hlt
  have hn:=mapT_next Lk.name hlt
  have hll:=mapT_len Lk.name hi
  have hz1:=hs.links _ (List.getElem_mem hlt)
  have z1:=hz1.name
  have z2:=hz1.tgt
  refine go (L:=_∧_∧_∧_∧True) (wa7 @Lk.cs.eq_1 @hlt @hb1 @hb2 @hll @hw @In.cs.eq_1) (wb3 (fun v0 v1 v2 (_:True)=>c_impl_inRange v0 v1 v2) (fun v0 (h:_)=>c_impl_IsName v0 h) (fun v0 v1 (_:True)=>c_slices_Contains v0 v1)) wb0 wb0 (wb2 wb0 (sch 6 [] [(0,[]),(1,[]),(2,[]),(3,[]),(4,[]),(5,[]),(6,[]),(7,[]),(8,[]),(9,[]),(10,[]),(11,[]),(12,[]),(13,[]),(14,[]),(15,[]),(16,[]),(17,[]),(18,[]),(19,[]),(20,[]),(21,[]),(22,[])])) ⟨fun _ _ _ hq=>?_,fun _ _ _ hq=>?_,fun _ _ _=>?_,fun _ _=>?_,wb0⟩
  all_goals (try(rw[lksOk_no hlt (by unfold lkGood;simp_all)];done))
  refine⟨i+1,⟨⟨hlt,all_next hv (by unfold lkGood;simp_all) hall⟩,by first|omega|(simp only;omega)|assumption⟩,rfl,rfl,?_,?_⟩<;>simp (disch:=omega) [wrap64,hn,sC,In.cs]
 ·obtain rfl:i=x.links.length:=by omega
  rw[List.take_length]at hall
  have hll:=mapT_len Lk.name hi
  have hdz:=dz_S hll
  have e:lksOk y.insts.length x=namesOk (mapT Lk.name x.links x.links.length) 30:=by rw[lksOk,hall,Bool.true_and,mapT_all]
  rw[e]
  rw[←mapT_all]at hz
  refine go (L:=_∧True) (wa4 @hlt @hll @hdz @In.cs.eq_1) (wb1 (fun v0 v1 (h:_)=>c_impl_namesOk v0 v1 h)) wb0 wb0 wb0 ⟨fun _=>?_,wb0⟩
  all_goals rfl
theorem isNode_eq{y:Sy}{u n:Int}:isNode y u n=(inRange u 0 ((y.units.length:Int)-1)&&(match y.units[u.toNat]? with
  |some t=>inRange n 0 ((t.prog.nodes.length:Int)-1)
  |none=>false)):=by
 unfold isNode nodeAt inRange
 by_cases h1:0≤u
 ·by_cases h2:u.toNat<y.units.length
  ·rw[List.getElem?_eq_getElem h2]
   have h3:u≤(y.units.length:Int)-1:=by omega
   by_cases h4:0≤n
   ·by_cases h5:n.toNat<y.units[u.toNat].prog.nodes.length
    ·have h6:n≤(y.units[u.toNat].prog.nodes.length:Int)-1:=by omega
     simp[h1,h3,h4,h5,h6]
    ·have h6:¬n≤(y.units[u.toNat].prog.nodes.length:Int)-1:=by omega
     simp[h1,h3,h4,h5,h6]
   ·simp[h4]
  ·have h3:¬u≤(y.units.length:Int)-1:=by omega
   simp[h2,h3]
 ·simp[h1]
theorem isNode_yes{y:Sy}{u n:Int}(h:isNode y u n=true):0≤u∧0≤n∧∃h1:u.toNat<y.units.length,n.toNat<y.units[u.toNat].prog.nodes.length:=by
 unfold isNode nodeAt at h
 simp only[Bool.and_eq_true,decide_eq_true_eq]at h
 obtain⟨⟨h1,h2⟩,h3⟩:=h
 by_cases h4:u.toNat<y.units.length
 ·refine⟨h1,h2,h4,?_⟩
  rw[List.getElem?_eq_getElem h4]at h3
  simpa using h3
 ·rw[List.getElem?_eq_none (by omega)]at h3
  cases h3
theorem c_impl_isNode(y:Sy)(u n:Int)(hy:y.units.length≤1000000000)(hr:∀t,t∈y.units→t.rm):Con PP 144 [.fp y.cs,.sc (.int .i64 u),.sc (.int .i64 n)] [] [] (fun r o=>r=.sc (.bool (isNode y u n))):=by
 rw[isNode_eq]
 have hw:IntKind.i64.wrap ((y.units.length:Int)-1)=(y.units.length:Int)-1:=wrap64 (by omega) (by omega)
 refine cof 30 Go.Proofs.Tryz.func144 fun G=>?_
 simp only[entSt,tmOf,List.append_nil,List.cons_append,List.nil_append,Sy.cs]
 cases hu:inRange u 0 ((y.units.length:Int)-1) with
 |false =>
  refine go (L:=_∧True) (wa2 @hw @hu) (wb1 (fun v0 v1 v2 (_:True)=>c_impl_inRange v0 v1 v2)) wb0 wb0 wb0 ⟨fun _=>?_,wb0⟩
  all_goals rfl
 |true =>
  have hu':=hu
  simp only[inRange,Bool.and_eq_true,decide_eq_true_eq]at hu'
  have a1:u.toNat<y.units.length:=by omega
  have a2:u<(y.units.length:Int):=by omega
  have a0:=hu'.1
  have hrm:=(hr _ (List.getElem_mem a1)).prog.nodes
  have hw2:IntKind.i64.wrap ((y.units[u.toNat].prog.nodes.length:Int)-1)=(y.units[u.toNat].prog.nodes.length:Int)-1:=wrap64 (by omega) (by omega)
  rw[List.getElem?_eq_getElem a1]
  refine go (L:=_∧True) (wa7 @hw @hu @a0 @a1 @a2 @hw2 @Un.cs.eq_1) (wb1 (fun v0 v1 v2 (_:True)=>c_impl_inRange v0 v1 v2)) wb0 wb0 wb0 ⟨fun _=>?_,wb0⟩
  all_goals rfl
theorem isLam_eq{y:Sy}{u n:Int}(h:isNode y u n=true)(h1:u.toNat<y.units.length)(h2:n.toNat<y.units[u.toNat].prog.nodes.length):isLam y u n=decide (y.units[u.toNat].prog.nodes[n.toNat].k=7):=by
 unfold isLam nodeAt
 rw[h,List.getElem?_eq_getElem h1,Option.bind_some,List.getElem?_eq_getElem h2,Bool.true_and]
theorem isLam_no{y:Sy}{u n:Int}(h:isNode y u n=false):isLam y u n=false:=by rw[isLam,h,Bool.false_and]
theorem c_impl_isLambda(y:Sy)(u n:Int)(hy:y.units.length≤1000000000)(hr:∀t,t∈y.units→t.rm):Con PP 141 [.fp y.cs,.sc (.int .i64 u),.sc (.int .i64 n)] [] [] (fun r o=>r=.sc (.bool (isLam y u n))):=by
 have hw:IntKind.i64.wrap ((y.units.length:Int)-1)=(y.units.length:Int)-1:=wrap64 (by omega) (by omega)
 refine cof 39 Go.Proofs.Tryz.func141 fun G=>?_
 simp only[entSt,tmOf,List.append_nil,List.cons_append,List.nil_append,Sy.cs]
 cases hu:inRange u 0 ((y.units.length:Int)-1) with
 |false =>
  rw[isLam_no (by rw[isNode_eq,hu,Bool.false_and])]
  refine go (L:=_∧True) (wa2 @hw @hu) (wb1 (fun v0 v1 v2 (_:True)=>c_impl_inRange v0 v1 v2)) wb0 wb0 wb0 ⟨fun _=>?_,wb0⟩
  all_goals rfl
 |true =>
  have hu':=hu
  simp only[inRange,Bool.and_eq_true,decide_eq_true_eq]at hu'
  have a1:u.toNat<y.units.length:=by omega
  have a2:u<(y.units.length:Int):=by omega
  have a0:=hu'.1
  have hrm:=(hr _ (List.getElem_mem a1)).prog.nodes
  have hw2:IntKind.i64.wrap ((y.units[u.toNat].prog.nodes.length:Int)-1)=(y.units[u.toNat].prog.nodes.length:Int)-1:=wrap64 (by omega) (by omega)
  have e:isNode y u n=inRange n 0 ((y.units[u.toNat].prog.nodes.length:Int)-1):=by rw[isNode_eq,hu,List.getElem?_eq_getElem a1,Bool.true_and]
  cases hn:inRange n 0 ((y.units[u.toNat].prog.nodes.length:Int)-1) with
  |false =>
   rw[isLam_no (by rw[e,hn])]
   refine go (L:=_∧True) (wa8 @hw @hu @a0 @a1 @a2 @hw2 @hn @Un.cs.eq_1) (wb1 (fun v0 v1 v2 (_:True)=>c_impl_inRange v0 v1 v2)) wb0 wb0 wb0 ⟨fun _=>?_,wb0⟩
   all_goals rfl
  |true =>
   have hn':=hn
   simp only[inRange,Bool.and_eq_true,decide_eq_true_eq]at hn'
   have b1:n.toNat<y.units[u.toNat].prog.nodes.length:=by omega
   have b2:n<(y.units[u.toNat].prog.nodes.length:Int):=by omega
   have b0:=hn'.1
   rw[isLam_eq (by rw[e,hn]) a1 b1]
   refine go (L:=_∧True) (wa12 @hw @hu @a0 @a1 @a2 @hw2 @hn @b0 @b1 @b2 @Un.cs.eq_1 @Nd.cs.eq_1) (wb1 (fun v0 v1 v2 (_:True)=>c_impl_inRange v0 v1 v2)) wb0 wb0 wb0 ⟨fun _=>?_,wb0⟩
   all_goals rfl
end Go.Own
namespace Go.Own
variable {P:Program}{w0:World}{β0:Blk}{st st':St}{β:Blk}{a:Act}{w w':World}{o:Oper}[Laid]
class Pin where
 b:Nat
 o:Nat
 cs:List C
 rd:∀w β,LW w β→VR β w (.fp cs) (.pointer (some ⟨b,o,none⟩))
def pinS[K:Pin](st:St)(t:Nat):St:={ st with tm:=(t,.fp K.cs)::st.tm }
theorem Gst.pin[K:Pin]{t:Nat}(hv:lk st.tm t=.sc (.pointer (some ⟨K.b,K.o,none⟩))):Gst st (pinS st t):=fun w0 β0 β a w hr=>by
 refine⟨β,hr.sameB ?_,fun _ _ h=>h⟩
 have hl:=hr.laid
 have hq:=hr.rel
 refine⟨hq.nt,hq.df,fun n=>?_,hq.ob,hq.uq,hq.lt,hq.fr,hq.old,hq.hs,hq.os,hq.tape,hq.output⟩
 simp only[pinS,lk]
 split
 ·rename_i e
  subst e
  have:=hq.tm t
  rw[hv]at this
  rw[this.sc_inv]
  exact K.rd w β hl
 ·exact hq.tm n
theorem WPL.pinAt[C:Pin]{ops:Array Oper}{l:List Oper}{Ψ:St→Prop}(d t:Nat)(hd:dstOf l=some d)
  (h:∀K:St→Prop,(∀s,WPL P ops l s Ψ→K s)→lk st.tm t=.sc (.pointer (some ⟨C.b,C.o,none⟩))∧K (pinS st t)):WPL P ops l st Ψ:=by
 obtain⟨h1,h2⟩:=h (fun s=>WPL P ops l s Ψ) fun _ h=>h
 exact WPL.gst (Gst.pin h1) h2
theorem WPS.pinAt[C:Pin]{ops:Array Oper}{l:List (Nat×List Nat)}{Ψ:St→Prop}(d t:Nat)(hd:dstS ops l=some d)
  (h:∀K:St→Prop,(∀s,WPS P ops l s Ψ→K s)→lk st.tm t=.sc (.pointer (some ⟨C.b,C.o,none⟩))∧K (pinS st t)):WPS P ops l st Ψ:=by
 obtain⟨h1,h2⟩:=h (fun s=>WPS P ops l s Ψ) fun _ h=>h
 exact WPS.gst (Gst.pin h1) h2
attribute [simp] pinS
@[reducible] def LIp(L:Laid)(W:World)(B:Blk)(h:∀b,L.S b→B b=none∧b<W.heap.size):Laid where
 S:=fun b=>B b=none∧b<W.heap.size
 ok:=fun w=>L.ok W∧∀b,B b=none→b<W.heap.size→w.heap[b]?=W.heap[b]?
 mono:=fun w w' hs hf=>⟨hf.1,fun b h1 h2=>(hs b ⟨h1,h2⟩).trans (hf.2 b h1 h2)⟩
theorem LIp.old{L:Laid}{W:World}{B:Blk}{h:∀b,L.S b→B b=none∧b<W.heap.size}{w:World}(hw:(LIp L W B h).ok w):L.ok w :=
 L.mono W w (fun b hb=>hw.2 b (h b hb).1 (h b hb).2) hw.1
theorem Con.pin{f:Nat}{ins:List AV}{ob:List (Nat×Root)}{keep:List Nat}{Φ:AV→List (Nat×Root)→Prop}{cs:List C}(L:Laid)
  (hf:∃fn,P.funcs[f]?=some fn∧(fn.name == "runtime.NumGoroutine")=false∧fn.body.isNone=false)
  (h:∀(L2:Laid),(∀w,L2.ok w→L.ok w)→∀(K:@Pin L2),K.cs=cs→@Con L2 P f (.sc (.pointer (some ⟨K.b,K.o,none⟩))::ins) ob keep Φ) (hk:¬0∈keep):@Con L P f (.fp cs::ins) ob keep Φ:=by
 refine⟨hf,fun β w args hl h1 h2 h3 h4 h5=>?_⟩
 have hS:∀b,L.S b→β b=none∧b<w.heap.size:=fun b hb=>⟨@LW.fz L _ _ hl b hb,@LW.sz L _ _ hl b hb⟩
 have v0:=h2 0 _ rfl
 obtain⟨b,o,f0,g1,g2,g3,g4,g5⟩:=v0.fp_inv
 let L2:=LIp L w β hS
 let K:@Pin L2:=@Pin.mk L2 b o cs (fun w' β' hw=>by
  have hq:∀c,β c=none→c<w.heap.size→β' c=none∧w'.heap[c]?=w.heap[c]?:=fun c hc hlt=>⟨@LW.fz L2 _ _ hw c ⟨hc,hlt⟩,(@LW.ok L2 _ _ hw).2 c hc hlt⟩
  refine .fp cs b o f0 (hq b g1 g2).1 (@LW.sz L2 _ _ hw b ⟨g1,g2⟩) (fun j x hj=>cell_same (g3 j x hj) (hq b g1 g2).2) (fun j x hj=>(g4 j x hj).mono hq))
 have hc:=h L2 (fun w hw=>LIp.old hw) K rfl
 refine(@Con.run L2 _ _ _ _ _ _ hc β w args ⟨⟨@LW.ok L _ _ hl,fun _ _ _=>rfl⟩,fun c hc=>hc.2,fun c hc=>hc.1⟩ (by simpa using h1) (fun i v hv=>?_) h3 h4 h5).mono fun e w' ⟨u,res,ob',β',he,hp⟩=>⟨u,res,ob',β',he,{ hp with keep:=fun i hi v hv=>?_ }⟩
 ·cases i with
  |zero =>
   simp only[List.getElem?_cons_zero,Option.some.injEq]at hv
   subst hv
   rw[g5];exact .sc _
  |succ i=>exact h2 (i+1) v (by simpa using hv)
 ·cases i with
  |zero=>exact absurd hi hk
  |succ i=>exact hp.keep (i+1) hi v (by simpa using hv)
end Go.Own
set_option maxRecDepth 1000000
set_option maxHeartbeats 4000000
namespace Go.Own
attribute [local irreducible] WPc WPL WPS WPS1 WPS2 HAny endP
variable [Laid]
open Go.Lib Go.RowKit
def boC(b:Bool):List C:=[.sc (.bool b)]
@[simp] theorem boC.len(c:Bool):(boC c).length=1:=rfl
@[simp] theorem boC.frz(c:Bool):(boC c).map Own.frz=boC c:=rfl
@[simp] theorem boC.pln(c:Bool):(boC c).all plainC=true:=rfl
@[simp] theorem boC.lenA(l:List Bool):lenAll 1 (l.map boC)=true:=lenAll_map boC.len l
@[simp] theorem boC.frzA(l:List Bool):frzAll (l.map boC)=l.map boC:=frzAll_map boC.frz l
@[simp] theorem boC.plnA(l:List Bool):plainAll (l.map boC)=true:=plainAll_map boC.pln l
theorem dz_boC(l:List Bool):dzLL (l.map boC)=l.map boC:=by rw[dzLL_map,List.map_map];rfl
attribute [simp] dz_boC
@[simp] theorem dz_boC1(l:List Bool):dzLL (List.take l.length (l.map boC))=l.map boC:=by
 rw[List.take_of_length_le (by simp),dz_boC]
@[simp] theorem sc_boC(l:List Bool):scLL (l.map boC)=true:=by
 induction l with
 |nil=>rfl
 |cons x l ih=>simp only[List.map_cons,scLL,ih,boC,scL,scC];rfl
def lvO(a b c:List Bool):List C:=[.sl 4 1 (a.map boC),.sl 4 1 (b.map boC),.sl 4 1 (c.map boC)]
theorem set_boC{l:List Bool}{i:Nat}(h:i<l.length):(l.map boC).modify i (fun r=>r.set 0 (.sc (.bool true)))=(l.set i true).map boC:=by
 apply List.ext_getElem
 ·simp
 ·intro j h1 h2
  simp only[List.getElem_modify,List.getElem_map,List.getElem_set]
  split
  ·rfl
  ·rfl
structure Rch where
 cl:List Bool
 il:List Bool
 ul:List Bool
 cq:List Int
 iq:List Int
 uq:List Int
 deriving DecidableEq
def rchR(b o:Nat)(r:Rch):Root:=(150,7,[[.sc (.pointer (some ⟨b,o,none⟩)),.sl 4 1 (r.cl.map boC),.sl 4 1 (r.il.map boC),.sl 4 1 (r.ul.map boC),.sl 3 1 (r.cq.map nC),.sl 3 1 (r.iq.map nC),.sl 3 1 (r.uq.map nC)]])
def Rch.addC(r:Rch)(n:Int):Rch:=if (r.cl[n.toNat]?).getD true then r else { r with cl:=r.cl.set n.toNat true,cq:=r.cq++[n] }
def Rch.addI(r:Rch)(n:Int):Rch:=if (r.il[n.toNat]?).getD true then r else { r with il:=r.il.set n.toNat true,iq:=r.iq++[n] }
def Rch.addU(r:Rch)(n:Int):Rch:=if (r.ul[n.toNat]?).getD true then r else { r with ul:=r.ul.set n.toNat true,uq:=r.uq++[n] }
theorem c_impl_rcell(b o:Nat)(r:Rch)(n:Int)(h0:0≤n)(h1:n<(r.cl.length:Int))(hq:r.cq.length≤1000000000):Con PP 229 [.ptr 0 7 [] 0 0,.sc (.int .i64 n)] [(0,rchR b o r)] [0] (fun x y=>x=.tup []∧y=[(0,rchR b o (r.addC n))]):=by
 have h2:n.toNat<r.cl.length:=by omega
 cases hc:r.cl[n.toNat]with
 |true =>
  have hM:r.addC n=r:=by simp[Rch.addC,List.getElem?_eq_getElem h2,hc]
  rw[hM]
  refine cof 30 Go.Proofs.Tryz.func229 fun G=>?_
  simp only[entSt,tmOf,List.append_nil,List.cons_append,List.nil_append,rchR]
  refine gox (L:=_∧True) (wa5 @h0 @h1 @h2 @boC.eq_1 @hc) wb0 wb0 wb0 (wb1 (outs [0])) ⟨fun _=>?_,wb0⟩
  all_goals exact⟨rfl,rfl⟩
 |false =>
  have hM:r.addC n={ r with cl:=r.cl.set n.toNat true,cq:=r.cq++[n] }:=by simp[Rch.addC,List.getElem?_eq_getElem h2,hc]
  rw[hM]
  have hb1:(r.cq.length+1)*8≤140737488355328:=by omega
  have hb2:r.cq.length+1≤9223372036854775807:=by omega
  refine cof 30 Go.Proofs.Tryz.func229 fun G=>?_
  simp only[entSt,tmOf,List.append_nil,List.cons_append,List.nil_append,rchR]
  refine gox (L:=_∧True) (wa8 @h0 @h1 @h2 @boC.eq_1 @hc @hb1 @hb2 @nC.eq_1) wb0 wb0 wb0 (wb1 (outs [0])) ⟨fun _=>?_,wb0⟩
  all_goals (refine⟨rfl,?_⟩;simp only[set_boC h2,List.map_append,List.map_cons,List.map_nil,nC])
theorem c_impl_rinst(b o:Nat)(r:Rch)(n:Int)(h0:0≤n)(h1:n<(r.il.length:Int))(hq:r.iq.length≤1000000000):Con PP 79 [.ptr 0 7 [] 0 0,.sc (.int .i64 n)] [(0,rchR b o r)] [0] (fun x y=>x=.tup []∧y=[(0,rchR b o (r.addI n))]):=by
 have h2:n.toNat<r.il.length:=by omega
 cases hc:r.il[n.toNat]with
 |true =>
  have hM:r.addI n=r:=by simp[Rch.addI,List.getElem?_eq_getElem h2,hc]
  rw[hM]
  refine cof 30 Go.Proofs.Tryz.func79 fun G=>?_
  simp only[entSt,tmOf,List.append_nil,List.cons_append,List.nil_append,rchR]
  refine gox (L:=_∧True) (wa5 @h0 @h1 @h2 @boC.eq_1 @hc) wb0 wb0 wb0 (wb1 (outs [0])) ⟨fun _=>?_,wb0⟩
  all_goals exact⟨rfl,rfl⟩
 |false =>
  have hM:r.addI n={ r with il:=r.il.set n.toNat true,iq:=r.iq++[n] }:=by simp[Rch.addI,List.getElem?_eq_getElem h2,hc]
  rw[hM]
  have hb1:(r.iq.length+1)*8≤140737488355328:=by omega
  have hb2:r.iq.length+1≤9223372036854775807:=by omega
  refine cof 30 Go.Proofs.Tryz.func79 fun G=>?_
  simp only[entSt,tmOf,List.append_nil,List.cons_append,List.nil_append,rchR]
  refine gox (L:=_∧True) (wa8 @h0 @h1 @h2 @boC.eq_1 @hc @hb1 @hb2 @nC.eq_1) wb0 wb0 wb0 (wb1 (outs [0])) ⟨fun _=>?_,wb0⟩
  all_goals (refine⟨rfl,?_⟩;simp only[set_boC h2,List.map_append,List.map_cons,List.map_nil,nC])
theorem c_impl_runit(b o:Nat)(r:Rch)(n:Int)(h0:0≤n)(h1:n<(r.ul.length:Int))(hq:r.uq.length≤1000000000):Con PP 152 [.ptr 0 7 [] 0 0,.sc (.int .i64 n)] [(0,rchR b o r)] [0] (fun x y=>x=.tup []∧y=[(0,rchR b o (r.addU n))]):=by
 have h2:n.toNat<r.ul.length:=by omega
 cases hc:r.ul[n.toNat]with
 |true =>
  have hM:r.addU n=r:=by simp[Rch.addU,List.getElem?_eq_getElem h2,hc]
  rw[hM]
  refine cof 30 Go.Proofs.Tryz.func152 fun G=>?_
  simp only[entSt,tmOf,List.append_nil,List.cons_append,List.nil_append,rchR]
  refine gox (L:=_∧True) (wa5 @h0 @h1 @h2 @boC.eq_1 @hc) wb0 wb0 wb0 (wb1 (outs [0])) ⟨fun _=>?_,wb0⟩
  all_goals exact⟨rfl,rfl⟩
 |false =>
  have hM:r.addU n={ r with ul:=r.ul.set n.toNat true,uq:=r.uq++[n] }:=by simp[Rch.addU,List.getElem?_eq_getElem h2,hc]
  rw[hM]
  have hb1:(r.uq.length+1)*8≤140737488355328:=by omega
  have hb2:r.uq.length+1≤9223372036854775807:=by omega
  refine cof 30 Go.Proofs.Tryz.func152 fun G=>?_
  simp only[entSt,tmOf,List.append_nil,List.cons_append,List.nil_append,rchR]
  refine gox (L:=_∧True) (wa8 @h0 @h1 @h2 @boC.eq_1 @hc @hb1 @hb2 @nC.eq_1) wb0 wb0 wb0 (wb1 (outs [0])) ⟨fun _=>?_,wb0⟩
  all_goals (refine⟨rfl,?_⟩;simp only[set_boC h2,List.map_append,List.map_cons,List.map_nil,nC])
end Go.Own
namespace Go.Own
variable {P:Program}{w0:World}{β0:Blk}{st st':St}{β:Blk}{a:Act}{w w':World}{o:Oper}[Laid]
theorem CellsR.take{R:Nat→Nat→C→Value→Prop}{k:Nat}{es:List (List C)}{vs:List Value}(m:Nat)(h:CellsR R k es (vs.take (es.length*k)))(hl:es.length*k≤vs.length) :
  CellsR R k (es.take m) (vs.take ((es.take m).length*k)):=by
 obtain⟨h1,h2,h3⟩:=h
 have hle:(es.take m).length*k≤es.length*k:=Nat.mul_le_mul_right _ (by simp;omega)
 refine⟨by rw[List.length_take];omega,fun r hr=>h2 r (List.mem_of_mem_take hr),fun i j r x hi hj=>?_⟩
 have hi2:es[i]?=some r:=by
  rw[List.getElem?_take]at hi
  split at hi
  ·exact hi
  ·simp at hi
 obtain⟨u,hu,hR⟩:=h3 i j r x hi2 hj
 refine⟨u,?_,hR⟩
 have hil:=(List.getElem?_eq_some_iff.1 hi).1
 have hr:=h2 r (List.mem_of_getElem? hi2)
 have hjl:=(List.getElem?_eq_some_iff.1 hj).1
 have hlt:i*k+j<(es.take m).length*k:=by
  have:(i+1)*k≤(es.take m).length*k:=Nat.mul_le_mul_right _ hil
  rw[Nat.add_mul]at this;omega
 rw[List.getElem?_take]at hu ⊢
 rw[if_pos hlt]
 rw[if_pos (by omega)]at hu
 exact hu
theorem SubR.take{β:Blk}{w:World}{id e k m:Nat}{q:Pth}{es:List (List C)}(h:SubR β w id q e k es):SubR β w id q e k (es.take m):=by
 intro s e' k' es' hn
 cases s with
 |nil =>
  simp only[nav,Option.some.injEq,Prod.mk.injEq]at hn
  obtain⟨rfl,rfl,rfl⟩:=hn
  obtain⟨h0,h1⟩:=h [] _ _ _ rfl
  refine⟨h0,?_⟩
  rcases h1 with ⟨rfl,h1⟩|⟨b,cap,cur,g1,g2,g3,g4,g5,g6⟩
  ·exact .inl ⟨by simp,h1⟩
  ·exact .inr ⟨b,cap,cur,g1,g2,by simp;omega,g4,g5,g6.take m (by
    have:=Nat.mul_le_mul_right k g3
    simp only[Array.length_toList,g5];exact this)⟩
 |cons p s =>
  obtain⟨i,j⟩:=p
  refine h ((i,j)::s) e' k' es' ?_
  simp only[nav]at hn ⊢
  rw[List.getElem?_take]at hn
  by_cases hlt:i<m
  ·rw[if_pos hlt]at hn;exact hn
  ·rw[if_neg hlt]at hn;simp at hn
def shrS(st:St)(id m:Nat):Option St :=
 match lo st.ob id with
 |some (e,k,es)=>if m<es.length then some { st with ob:=putO st.ob id (e,k,es.take m) } else none
 |none=>none
theorem Gst.shr{id m:Nat}(h:shrS st id m=some st'):Gst st st':=fun w0 β0 β a w hr=>by
 unfold shrS at h
 split at h
 ·rename_i e k es he
  split at h
  ·injection h with h
   subst h
   have hq:=hr.rel
   refine⟨β,hr.sameB ⟨hq.nt,hq.df,hq.tm,fun id' e' k' es' hl=>?_,hq.uq,hq.lt,hq.fr,hq.old,hq.hs,hq.os,hq.tape,hq.output⟩,fun _ _ h=>h⟩
   rw[lo_put]at hl
   split at hl
   ·rename_i hid
    simp only[Option.some.injEq,Prod.mk.injEq]at hl
    obtain⟨rfl,rfl,rfl⟩:=hl
    subst hid
    exact(hq.ob _ _ _ _ he).take
   ·exact hq.ob _ _ _ _ hl
  ·simp at h
 ·simp at h
theorem WPL.shrSt{ops:Array Oper}{l:List Oper}{Ψ:St→Prop}(d id m:Nat)(hd:stHd d l=true)
  (h:∀K:St→Prop,(∀s,WPL P ops l s Ψ→K s)→∃s,shrS st id m=some s∧K s):WPL P ops l st Ψ:=by
 obtain⟨s,h1,h2⟩:=h (fun s=>WPL P ops l s Ψ) fun _ h=>h
 exact WPL.gst (Gst.shr h1) h2
attribute [simp] shrS
end Go.Own
set_option maxRecDepth 1000000
set_option maxHeartbeats 4000000
namespace Go.Own
attribute [local irreducible] WPc WPL WPS WPS1 WPS2 HAny endP
variable [Laid]
open Go.Lib Go.RowKit
def setV(a:List Bool)(v:V):List Bool:=if inRange v.k 5 7 then a.set v.n.toNat true else a
theorem setV_len(a:List Bool)(v:V):(setV a v).length=a.length:=by unfold setV;split<;>simp
theorem c_spec_l16Val(a b c:List Bool)(v:V)(hv:inRange v.k 5 7=true→0≤v.n∧v.n<(a.length:Int)):Con PP 131 [.agg [.sl 0 1 [] 0 a.length,.sl 1 1 [] 0 b.length,.sl 2 1 [] 0 c.length],v.av] [(0,4,1,a.map boC),(1,4,1,b.map boC),(2,4,1,c.map boC)] [] (fun r o=>r=.agg [.sl 4 1 [(0,0)] 0 a.length,.sl 4 1 [(0,1)] 0 b.length,.sl 4 1 [(0,2)] 0 c.length]∧o=[(4,49,3,[[.sl 4 1 ((setV a v).map boC),.sl 4 1 (b.map boC),.sl 4 1 (c.map boC)]])]):=by
 have u1:=c_spec_l6Points v
 simp only[V.av]at u1
 cases hk:inRange v.k 5 7 with
 |false =>
  have e:setV a v=a:=by rw[setV,hk];rfl
  rw[e]
  rw[hk]at u1
  refine cof 13 Go.Proofs.Tryz.func131 fun G=>?_
  simp only[entSt,tmOf,List.append_nil,List.cons_append,List.nil_append,V.av]
  refine WPc.renC 2 900033 fun K hK=>?_
  simp -implicitDefEqProofs
  refine hK _ ?_;clear hK K
  refine gox (L:=_∧True) (wa1 @V.cs.eq_1) (wb1 (fun _=>u1)) wb0 wb0 (wb4 (outs [4]) (nm 1 [12,2,900021,0,0]) (nm 1 [12,2,900022,0,1]) (nm 1 [12,2,900023,0,2])) ⟨fun _=>?_,wb0⟩
  all_goals exact⟨rfl,rfl⟩
 |true =>
  obtain⟨h0,h1⟩:=hv hk
  have h2:v.n.toNat<a.length:=by omega
  have e:setV a v=a.set v.n.toNat true:=by rw[setV,hk];rfl
  rw[e]
  rw[hk]at u1
  refine cof 13 Go.Proofs.Tryz.func131 fun G=>?_
  simp only[entSt,tmOf,List.append_nil,List.cons_append,List.nil_append,V.av]
  refine WPc.renC 2 900033 fun K hK=>?_
  simp -implicitDefEqProofs
  refine hK _ ?_;clear hK K
  refine gox (L:=_∧True) (wa4 @V.cs.eq_1 @h0 @h1 @h2) (wb1 (fun _=>u1)) wb0 wb0 (wb4 (outs [4]) (nm 1 [12,2,900021,0,0]) (nm 1 [12,2,900022,0,1]) (nm 1 [12,2,900023,0,2])) ⟨fun _=>?_,wb0⟩
  all_goals (refine⟨rfl,?_⟩;simp only[set_boC h2])
end Go.Own
set_option maxRecDepth 1000000
set_option maxHeartbeats 4000000
namespace Go.Own
attribute [local irreducible] WPc WPL WPS WPS1 WPS2 HAny endP
variable [Laid]
open Go.Lib Go.RowKit
def setVs(a:List Bool)(l:List V):List Bool:=l.foldl setV a
theorem setVs_len(l:List V):∀a:List Bool,(setVs a l).length=a.length:=by
 induction l with
 |nil=>intro a;rfl
 |cons v l ih=>intro a;show (setVs (setV a v) l).length=_;rw[ih,setV_len]
theorem foldl_nextB{α β:Type}(f:β→α→β)(r:β){l:List α}{i:Nat}(hi:i<l.length):(l.take (i+1)).foldl f r=f ((l.take i).foldl f r) l[i]:=by
 rw[List.take_add_one,List.getElem?_eq_getElem hi,Option.toList_some,List.foldl_append];rfl
theorem setVs_next(a:List Bool){l:List V}{i:Nat}(hi:i<l.length):setVs a (l.take (i+1))=setV (setVs a (l.take i)) l[i]:=foldl_nextB _ _ hi
theorem c_spec_l16Vals(a b c:List Bool)(l:List V)(hl:l.length≤1000000000)(hv:∀v,v∈l→inRange v.k 5 7=true→0≤v.n∧v.n<(a.length:Int)):Con PP 66 [.agg [.sl 0 1 [] 0 a.length,.sl 1 1 [] 0 b.length,.sl 2 1 [] 0 c.length],.fz (l.map V.cs)] [(0,4,1,a.map boC),(1,4,1,b.map boC),(2,4,1,c.map boC)] [] (fun r o=>r=.agg [.sl 4 1 [(0,0)] 0 a.length,.sl 4 1 [(0,1)] 0 b.length,.sl 4 1 [(0,2)] 0 c.length]∧o=[(4,49,3,[[.sl 4 1 ((setVs a l).map boC),.sl 4 1 (b.map boC),.sl 4 1 (c.map boC)]])]):=by
 refine cof 19 Go.Proofs.Tryz.func66 fun G=>?_
 simp only[entSt,tmOf,List.append_nil,List.cons_append,List.nil_append]
 refine WPc.renC 2 900033 fun K hK=>?_
 simp -implicitDefEqProofs
 refine hK _ ?_;clear hK K
 refine go (L:=_∧True) wb0 wb0 wb0 wb0 wb0 ⟨fun _=>?_,wb0⟩
 refine WPc.loopV (σ:=Nat) (fun i=>i≤l.length) (fun i=>l.length-i) (fun i=>[(5,.sc (.int .i64 i))]) (fun i=>[(2,49,3,[[.sl 4 1 ((setVs a (l.take i)).map boC),.sl 4 1 (b.map boC),.sl 4 1 (c.map boC)]]),(4,49,3,[[.sc (.slice none 0 0),.sc (.slice none 0 0),.sc (.slice none 0 0)]])]) [1,2,4] 0 (by simp[setVs]) (by simp[setVs]) (by simp) ?_
 rintro i hi s hs
 simp at hs
 subst hs
 by_cases hlt:i<l.length
 ·have hb:i+1≤9223372036854775807:=by omega
  have hn:=setVs_next a hlt
  have hlen:=setVs_len (l.take i) a
  have hin:=hv _ (List.getElem_mem hlt)
  generalize setVs a (l.take i)=R at hn hlen ⊢
  have uV:=c_spec_l16Val R b c l[i] (by rw[hlen];exact hin)
  rw[←hn]at uV
  simp only[V.av]at uV
  have hlen2:(setVs a (l.take (i+1))).length=R.length:=by rw[setVs_len,hlen]
  refine gox (L:=_∧True) (wa3 @hlt @V.cs.eq_1 @hlen2) wb0 (wb1 (fun _=>uV)) wb0 (wb8 wb0 (nm 2 [17,2,500002,0,0]) (nm 2 [17,2,600002,0,1]) (nm 2 [17,2,700002,0,2]) (nm 1 [17,17,500017,0,0]) (nm 1 [17,17,600017,0,1]) (nm 1 [17,17,700017,0,2]) (sch 4 [(5,[2,17,1017,2017,500002,600002,700002]),(6,[2,17,500017,600017,700017])] [(0,[]),(1,[]),(2,[]),(3,[]),(4,[]),(5,[2,17,1017,2017,500002,600002,700002]),(6,[2,17,500017,600017,700017])])) ⟨fun _=>?_,wb0⟩
  refine⟨i+1,⟨hlt,by first|omega|(simp only;omega)|assumption⟩,rfl,rfl,?_,?_⟩<;>simp (disch:=omega) [wrap64,List.map_map]
 ·obtain rfl:i=l.length:=by omega
  rw[List.take_length]
  have hlen:=setVs_len l a
  refine gox (L:=_∧True) (wa2 @hlt @hlen) wb0 wb0 wb0 (wb4 (outs [4]) (nm 1 [18,2,900021,0,0]) (nm 1 [18,2,900022,0,1]) (nm 1 [18,2,900023,0,2])) ⟨fun _=>?_,wb0⟩
  all_goals exact⟨by rw[hlen],rfl⟩
def setBs(a:List Bool)(l:List Bd):List Bool:=l.foldl (fun a x=>setV a x.val) a
theorem setBs_len(l:List Bd):∀a:List Bool,(setBs a l).length=a.length:=by
 induction l with
 |nil=>intro a;rfl
 |cons v l ih=>intro a;show (setBs (setV a v.val) l).length=_;rw[ih,setV_len]
theorem setBs_next(a:List Bool){l:List Bd}{i:Nat}(hi:i<l.length):setBs a (l.take (i+1))=setV (setBs a (l.take i)) l[i].val:=foldl_nextB _ _ hi
theorem c_spec_l16Env(a b c:List Bool)(l:List Bd)(hl:l.length≤1000000000)(hv:∀v,v∈l→inRange v.val.k 5 7=true→0≤v.val.n∧v.val.n<(a.length:Int)):Con PP 132 [.agg [.sl 0 1 [] 0 a.length,.sl 1 1 [] 0 b.length,.sl 2 1 [] 0 c.length],.fz (l.map Bd.cs)] [(0,4,1,a.map boC),(1,4,1,b.map boC),(2,4,1,c.map boC)] [] (fun r o=>r=.agg [.sl 4 1 [(0,0)] 0 a.length,.sl 4 1 [(0,1)] 0 b.length,.sl 4 1 [(0,2)] 0 c.length]∧o=[(4,49,3,[[.sl 4 1 ((setBs a l).map boC),.sl 4 1 (b.map boC),.sl 4 1 (c.map boC)]])]):=by
 refine cof 20 Go.Proofs.Tryz.func132 fun G=>?_
 simp only[entSt,tmOf,List.append_nil,List.cons_append,List.nil_append]
 refine WPc.renC 2 900033 fun K hK=>?_
 simp -implicitDefEqProofs
 refine hK _ ?_;clear hK K
 refine go (L:=_∧True) wb0 wb0 wb0 wb0 wb0 ⟨fun _=>?_,wb0⟩
 refine WPc.loopV (σ:=Nat) (fun i=>i≤l.length) (fun i=>l.length-i) (fun i=>[(5,.sc (.int .i64 i))]) (fun i=>[(2,49,3,[[.sl 4 1 ((setBs a (l.take i)).map boC),.sl 4 1 (b.map boC),.sl 4 1 (c.map boC)]]),(4,49,3,[[.sc (.slice none 0 0),.sc (.slice none 0 0),.sc (.slice none 0 0)]])]) [1,2,4] 0 (by simp[setBs]) (by simp[setBs]) (by simp) ?_
 rintro i hi s hs
 simp at hs
 subst hs
 by_cases hlt:i<l.length
 ·have hb:i+1≤9223372036854775807:=by omega
  have hn:=setBs_next a hlt
  have hlen:=setBs_len (l.take i) a
  have hin:=hv _ (List.getElem_mem hlt)
  generalize setBs a (l.take i)=R at hn hlen ⊢
  have uV:=c_spec_l16Val R b c l[i].val (by rw[hlen];exact hin)
  rw[←hn]at uV
  simp only[V.av]at uV
  have hlen2:(setBs a (l.take (i+1))).length=R.length:=by rw[setBs_len,hlen]
  refine gox (L:=_∧True) (wa3 @hlt @Bd.cs.eq_1 @hlen2) wb0 (wb1 (fun _=>uV)) wb0 (wb8 wb0 (nm 2 [18,2,500002,0,0]) (nm 2 [18,2,600002,0,1]) (nm 2 [18,2,700002,0,2]) (nm 1 [18,18,500018,0,0]) (nm 1 [18,18,600018,0,1]) (nm 1 [18,18,700018,0,2]) (sch 4 [(6,[2,18,1018,2018,500002,600002,700002]),(7,[2,18,500018,600018,700018])] [(0,[]),(1,[]),(2,[]),(3,[]),(4,[]),(5,[]),(6,[2,18,1018,2018,500002,600002,700002]),(7,[2,18,500018,600018,700018])])) ⟨fun _=>?_,wb0⟩
  refine⟨i+1,⟨hlt,by first|omega|(simp only;omega)|assumption⟩,rfl,rfl,?_,?_⟩<;>simp (disch:=omega) [wrap64,List.map_map]
 ·obtain rfl:i=l.length:=by omega
  rw[List.take_length]
  have hlen:=setBs_len l a
  refine gox (L:=_∧True) (wa2 @hlt @hlen) wb0 wb0 wb0 (wb4 (outs [4]) (nm 1 [19,2,900021,0,0]) (nm 1 [19,2,900022,0,1]) (nm 1 [19,2,900023,0,2])) ⟨fun _=>?_,wb0⟩
  all_goals exact⟨by rw[hlen],rfl⟩
end Go.Own
set_option maxRecDepth 1000000
set_option maxHeartbeats 4000000
namespace Go.Own
attribute [local irreducible] WPc WPL WPS WPS1 WPS2 HAny endP
variable [Laid]
open Go.Lib Go.RowKit
theorem c_impl_last4(a b c d e f:C)(q:List Int)(k:Nat)(hk:q.length=k+1)(hq:q.length≤1000000000):Con PP 156 [.ptr 0 7 [] 0 4] [(0,150,7,[[a,b,c,d,.sl 3 1 (q.map nC),e,f]])] [0] (fun x y=>x=.sc (.int .i64 (q[k]'(by omega)))∧y=[(0,150,7,[[a,b,c,d,.sl 3 1 ((q.take k).map nC),e,f]])]):=by
 have hw:IntKind.i64.wrap ((q.length:Int)-1)=(k:Int):=by rw[wrap64 (by omega) (by omega)];omega
 have h1:k<q.length:=by omega
 have h2:k≤q.length:=by omega
 refine cof 24 Go.Proofs.Tryz.func156 fun G=>?_
 simp only[entSt,tmOf,List.append_nil,List.cons_append,List.nil_append]
 repeat' (first
  |(refine WPL.shrSt 21 900001 k ?_ ?_;(focus(simp;done));refine fun K hK=>?_;simp -implicitDefEqProofs +contextual [-Int.not_le,-Int.not_lt,-Nat.not_le,-Nat.not_lt,-List.all_eq_true,-List.all_eq_false,-List.any_eq_true,-List.any_eq_false,hw,h1,h2,nC];(repeat1' (first|apply hK|apply And.intro|intro _))<;>clear hK K)
  |(refine WPL.rnToSt tok 21 _ (by simp[isFn];rfl) fun K hK=>?_;simp -implicitDefEqProofs +contextual [-Int.not_le,-Int.not_lt,-Nat.not_le,-Nat.not_lt,-List.all_eq_true,-List.all_eq_false,-List.any_eq_true,-List.any_eq_false,hw,h1,h2,nC];(repeat1' (first|apply hK|apply And.intro|intro _))<;>clear hK K<;>(try dsimp only[List.drop]))
  |(refine WPL.detSt 21 0 900001 [] 0 4 ?_ ?_;(focus(simp;done));refine fun K hK=>?_;simp -implicitDefEqProofs +contextual [-Int.not_le,-Int.not_lt,-Nat.not_le,-Nat.not_lt,-List.all_eq_true,-List.all_eq_false,-List.any_eq_true,-List.any_eq_false,hw,h1,h2,nC];(repeat1' (first|apply hK|apply And.intro|intro _))<;>clear hK K)
  |apply WPc.sq
  |(apply WPc.ret;apply endP.sel (is:=[0]) (he:=.inr rfl);(case hs=>rfl);(case hg=>rfl);(case h=>(simp;rfl));(case hO=>(simp;rfl));(case hk=>(simp;done)))
  |refine WPL.nil ?_
  |((first|refine WPc.rq tok rfl fun K hK=>?_|refine WPL.rn tok _ (by simp[ahead,isFn];rfl) fun K hK=>?_);simp -implicitDefEqProofs +contextual [-Int.not_le,-Int.not_lt,-Nat.not_le,-Nat.not_lt,-List.all_eq_true,-List.all_eq_false,-List.any_eq_true,-List.any_eq_false,hw,h1,h2,nC];(repeat1' (first|apply hK|apply And.intro|intro _))<;>clear hK K<;>(try dsimp only[List.drop]))
  |(refine WPc.region ?_;simp only[List.toList_toArray]))
 all_goals exact⟨rfl,by rw[List.map_take]⟩
theorem c_impl_last5(a b c d e f:C)(q:List Int)(k:Nat)(hk:q.length=k+1)(hq:q.length≤1000000000):Con PP 156 [.ptr 0 7 [] 0 5] [(0,150,7,[[a,b,c,d,e,.sl 3 1 (q.map nC),f]])] [0] (fun x y=>x=.sc (.int .i64 (q[k]'(by omega)))∧y=[(0,150,7,[[a,b,c,d,e,.sl 3 1 ((q.take k).map nC),f]])]):=by
 have hw:IntKind.i64.wrap ((q.length:Int)-1)=(k:Int):=by rw[wrap64 (by omega) (by omega)];omega
 have h1:k<q.length:=by omega
 have h2:k≤q.length:=by omega
 refine cof 24 Go.Proofs.Tryz.func156 fun G=>?_
 simp only[entSt,tmOf,List.append_nil,List.cons_append,List.nil_append]
 repeat' (first
  |(refine WPL.shrSt 21 900001 k ?_ ?_;(focus(simp;done));refine fun K hK=>?_;simp -implicitDefEqProofs +contextual [-Int.not_le,-Int.not_lt,-Nat.not_le,-Nat.not_lt,-List.all_eq_true,-List.all_eq_false,-List.any_eq_true,-List.any_eq_false,hw,h1,h2,nC];(repeat1' (first|apply hK|apply And.intro|intro _))<;>clear hK K)
  |(refine WPL.rnToSt tok 21 _ (by simp[isFn];rfl) fun K hK=>?_;simp -implicitDefEqProofs +contextual [-Int.not_le,-Int.not_lt,-Nat.not_le,-Nat.not_lt,-List.all_eq_true,-List.all_eq_false,-List.any_eq_true,-List.any_eq_false,hw,h1,h2,nC];(repeat1' (first|apply hK|apply And.intro|intro _))<;>clear hK K<;>(try dsimp only[List.drop]))
  |(refine WPL.detSt 21 0 900001 [] 0 5 ?_ ?_;(focus(simp;done));refine fun K hK=>?_;simp -implicitDefEqProofs +contextual [-Int.not_le,-Int.not_lt,-Nat.not_le,-Nat.not_lt,-List.all_eq_true,-List.all_eq_false,-List.any_eq_true,-List.any_eq_false,hw,h1,h2,nC];(repeat1' (first|apply hK|apply And.intro|intro _))<;>clear hK K)
  |apply WPc.sq
  |(apply WPc.ret;apply endP.sel (is:=[0]) (he:=.inr rfl);(case hs=>rfl);(case hg=>rfl);(case h=>(simp;rfl));(case hO=>(simp;rfl));(case hk=>(simp;done)))
  |refine WPL.nil ?_
  |((first|refine WPc.rq tok rfl fun K hK=>?_|refine WPL.rn tok _ (by simp[ahead,isFn];rfl) fun K hK=>?_);simp -implicitDefEqProofs +contextual [-Int.not_le,-Int.not_lt,-Nat.not_le,-Nat.not_lt,-List.all_eq_true,-List.all_eq_false,-List.any_eq_true,-List.any_eq_false,hw,h1,h2,nC];(repeat1' (first|apply hK|apply And.intro|intro _))<;>clear hK K<;>(try dsimp only[List.drop]))
  |(refine WPc.region ?_;simp only[List.toList_toArray]))
 all_goals exact⟨rfl,by rw[List.map_take]⟩
theorem c_impl_last6(a b c d e f:C)(q:List Int)(k:Nat)(hk:q.length=k+1)(hq:q.length≤1000000000):Con PP 156 [.ptr 0 7 [] 0 6] [(0,150,7,[[a,b,c,d,e,f,.sl 3 1 (q.map nC)]])] [0] (fun x y=>x=.sc (.int .i64 (q[k]'(by omega)))∧y=[(0,150,7,[[a,b,c,d,e,f,.sl 3 1 ((q.take k).map nC)]])]):=by
 have hw:IntKind.i64.wrap ((q.length:Int)-1)=(k:Int):=by rw[wrap64 (by omega) (by omega)];omega
 have h1:k<q.length:=by omega
 have h2:k≤q.length:=by omega
 refine cof 24 Go.Proofs.Tryz.func156 fun G=>?_
 simp only[entSt,tmOf,List.append_nil,List.cons_append,List.nil_append]
 repeat' (first
  |(refine WPL.shrSt 21 900001 k ?_ ?_;(focus(simp;done));refine fun K hK=>?_;simp -implicitDefEqProofs +contextual [-Int.not_le,-Int.not_lt,-Nat.not_le,-Nat.not_lt,-List.all_eq_true,-List.all_eq_false,-List.any_eq_true,-List.any_eq_false,hw,h1,h2,nC];(repeat1' (first|apply hK|apply And.intro|intro _))<;>clear hK K)
  |(refine WPL.rnToSt tok 21 _ (by simp[isFn];rfl) fun K hK=>?_;simp -implicitDefEqProofs +contextual [-Int.not_le,-Int.not_lt,-Nat.not_le,-Nat.not_lt,-List.all_eq_true,-List.all_eq_false,-List.any_eq_true,-List.any_eq_false,hw,h1,h2,nC];(repeat1' (first|apply hK|apply And.intro|intro _))<;>clear hK K<;>(try dsimp only[List.drop]))
  |(refine WPL.detSt 21 0 900001 [] 0 6 ?_ ?_;(focus(simp;done));refine fun K hK=>?_;simp -implicitDefEqProofs +contextual [-Int.not_le,-Int.not_lt,-Nat.not_le,-Nat.not_lt,-List.all_eq_true,-List.all_eq_false,-List.any_eq_true,-List.any_eq_false,hw,h1,h2,nC];(repeat1' (first|apply hK|apply And.intro|intro _))<;>clear hK K)
  |apply WPc.sq
  |(apply WPc.ret;apply endP.sel (is:=[0]) (he:=.inr rfl);(case hs=>rfl);(case hg=>rfl);(case h=>(simp;rfl));(case hO=>(simp;rfl));(case hk=>(simp;done)))
  |refine WPL.nil ?_
  |((first|refine WPc.rq tok rfl fun K hK=>?_|refine WPL.rn tok _ (by simp[ahead,isFn];rfl) fun K hK=>?_);simp -implicitDefEqProofs +contextual [-Int.not_le,-Int.not_lt,-Nat.not_le,-Nat.not_lt,-List.all_eq_true,-List.all_eq_false,-List.any_eq_true,-List.any_eq_false,hw,h1,h2,nC];(repeat1' (first|apply hK|apply And.intro|intro _))<;>clear hK K<;>(try dsimp only[List.drop]))
  |(refine WPc.region ?_;simp only[List.toList_toArray]))
 all_goals exact⟨rfl,by rw[List.map_take]⟩
structure Rch.rm(r:Rch):Prop where
 c:r.cq.length+r.cl.count false≤1000000000
 i:r.iq.length+r.il.count false≤1000000000
 u:r.uq.length+r.ul.count false≤1000000000
theorem count_next{l:List Bool}{i:Nat}(hi:i<l.length)(h:l[i]=false):(l.set i true).count false+1=l.count false:=by
 rw[List.count_set hi]
 have:0<l.count false:=List.count_pos_iff.2 (h▸List.getElem_mem hi)
 simp[h];omega
theorem getD_false{l:List Bool}{i:Nat}(h:(l[i]?).getD true=false):∃hi:i<l.length,l[i]=false:=by
 cases hg:l[i]? with
 |none=>rw[hg]at h;simp at h
 |some x =>
  obtain⟨h1,h2⟩:=List.getElem?_eq_some_iff.1 hg
  rw[hg]at h
  exact⟨h1,by rw[h2];simpa using h⟩
theorem Rch.rm.addC{r:Rch}(h:r.rm)(n:Int):(r.addC n).rm:=by
 unfold Rch.addC
 split
 ·exact h
 ·rename_i hf
  obtain⟨h1,h2⟩:=getD_false (by simpa using hf)
  have:=count_next h1 h2
  have:=h.c
  exact⟨by simp;omega,h.i,h.u⟩
theorem Rch.rm.addI{r:Rch}(h:r.rm)(n:Int):(r.addI n).rm:=by
 unfold Rch.addI
 split
 ·exact h
 ·rename_i hf
  obtain⟨h1,h2⟩:=getD_false (by simpa using hf)
  have:=count_next h1 h2
  have:=h.i
  exact⟨h.c,by simp;omega,h.u⟩
theorem Rch.rm.addU{r:Rch}(h:r.rm)(n:Int):(r.addU n).rm:=by
 unfold Rch.addU
 split
 ·exact h
 ·rename_i hf
  obtain⟨h1,h2⟩:=getD_false (by simpa using hf)
  have:=count_next h1 h2
  have:=h.u
  exact⟨h.c,h.i,by simp;omega⟩
def Rch.sz(r:Rch):Nat×Nat×Nat:=(r.cl.length,r.il.length,r.ul.length)
@[simp] theorem Rch.addC_sz(r:Rch)(n:Int):(r.addC n).sz=r.sz:=by unfold Rch.addC;split<;>simp[Rch.sz]
@[simp] theorem Rch.addI_sz(r:Rch)(n:Int):(r.addI n).sz=r.sz:=by unfold Rch.addI;split<;>simp[Rch.sz]
@[simp] theorem Rch.addU_sz(r:Rch)(n:Int):(r.addU n).sz=r.sz:=by unfold Rch.addU;split<;>simp[Rch.sz]
def valC(r:Rch)(v:V):Rch:=if cellKind v.k=0 then r else r.addC v.n
def valsC(r:Rch)(l:List V):Rch:=l.foldl valC r
theorem valC_sz(r:Rch)(v:V):(valC r v).sz=r.sz:=by unfold valC;split<;>simp
theorem valsC_sz(l:List V):∀r:Rch,(valsC r l).sz=r.sz:=by
 induction l with
 |nil=>intro r;rfl
 |cons v l ih=>intro r;show (valsC (valC r v) l).sz=_;rw[ih,valC_sz]
theorem Rch.rm.val{r:Rch}(h:r.rm)(v:V):(valC r v).rm:=by unfold valC;split;exact h;exact h.addC _
theorem Rch.rm.vals(l:List V):∀{r:Rch} (_:r.rm),(valsC r l).rm:=by
 induction l with
 |nil=>intro r h;exact h
 |cons v l ih=>intro r h;exact ih (h.val v)
theorem foldl_next{α β:Type}(f:β→α→β)(r:β){l:List α}{i:Nat}(hi:i<l.length):(l.take (i+1)).foldl f r=f ((l.take i).foldl f r) l[i]:=by
 rw[List.take_add_one,List.getElem?_eq_getElem hi,Option.toList_some,List.foldl_append];rfl
theorem valsC_next(r:Rch){l:List V}{i:Nat}(hi:i<l.length):valsC r (l.take (i+1))=valC (valsC r (l.take i)) l[i]:=foldl_next _ _ hi
def inV(n:Nat)(v:V):Prop:=cellKind v.k≠0→0≤v.n∧v.n<(n:Int)
theorem c_impl_rvalues(b o:Nat)(r:Rch)(l:List V)(hr:r.rm)(hl:l.length≤1000000000)(hin:∀v,v∈l→inV r.cl.length v):Con PP 154 [.ptr 0 7 [] 0 0,.fz (l.map V.cs)] [(0,rchR b o r)] [0] (fun x y=>x=.tup []∧y=[(0,rchR b o (valsC r l))]):=by
 refine cof 21 Go.Proofs.Tryz.func154 fun G=>?_
 simp only[entSt,tmOf,List.append_nil,List.cons_append,List.nil_append,rchR]
 refine go (L:=_∧True) wb0 wb0 wb0 wb0 wb0 ⟨fun _=>?_,wb0⟩
 refine WPc.loopV (σ:=Nat) (fun i=>i≤l.length) (fun i=>l.length-i) (fun i=>[(8,.sc (.int .i64 i))]) (fun i=>[(0,rchR b o (valsC r (l.take i)))]) [0,6,7,21] 0 (by simp[rchR,valsC]) (by simp[rchR,valsC]) (by simp) ?_
 rintro i hi s hs
 simp at hs
 subst hs
 by_cases hlt:i<l.length
 ·have hb:i+1≤9223372036854775807:=by omega
  have hn:=valsC_next r hlt
  have hrm:=Rch.rm.vals (l.take i) hr
  have hsz:=valsC_sz (l.take i) r
  have hv:=hin _ (List.getElem_mem hlt)
  generalize valsC r (l.take i)=R at hn hrm hsz ⊢
  by_cases hk:cellKind l[i].k=0
  ·have hk':(cellKind l[i].k=0)=True:=by simp[hk]
   have hn':valsC r (l.take (i+1))=R:=by rw[hn,valC,if_pos hk]
   refine go (L:=_∧True) (wa4 @hlt @V.cs.eq_1 @hk' @rchR.eq_1) (wb1 (fun v0 (_:True)=>c_impl_cellKind v0)) wb0 wb0 wb0 ⟨fun _=>?_,wb0⟩
   refine⟨i+1,⟨hlt,by first|omega|(simp only;omega)|assumption⟩,rfl,rfl,?_,?_⟩<;>simp (disch:=omega) [wrap64,hn',rchR]
  ·have hk':(cellKind l[i].k=0)=False:=by simp[hk]
   obtain⟨z1,z2⟩:=hv hk
   have hcl:R.cl.length=r.cl.length:=congrArg (·.1) hsz
   have hq:=hrm.c
   have hn':valsC r (l.take (i+1))=R.addC l[i].n:=by rw[hn,valC,if_neg hk]
   have uC:=c_impl_rcell b o R l[i].n z1 (by omega) (by omega)
   simp only[rchR]at uC
   refine go (L:=_∧True) (wa4 @hlt @V.cs.eq_1 @hk' @rchR.eq_1) (wb1 (fun v0 (_:True)=>c_impl_cellKind v0)) (wb1 (fun _=>uC)) wb0 wb0 ⟨fun _=>?_,wb0⟩
   refine⟨i+1,⟨hlt,by first|omega|(simp only;omega)|assumption⟩,rfl,rfl,?_,?_⟩<;>simp (disch:=omega) [wrap64,hn',rchR]
 ·obtain rfl:i=l.length:=by omega
  rw[List.take_length]
  refine gox (L:=_∧True) (wa2 @hlt @rchR.eq_1) wb0 wb0 wb0 (wb1 (outs [0])) ⟨fun _=>?_,wb0⟩
  all_goals exact⟨rfl,rfl⟩
end Go.Own
set_option maxRecDepth 1000000
set_option maxHeartbeats 4000000
namespace Go.Own
attribute [local irreducible] WPc WPL WPS WPS1 WPS2 HAny endP
variable [Laid]
open Go.Lib Go.RowKit
def bindC(r:Rch)(x:Bd):Rch:=valC r x.val
def envC(r:Rch)(l:List Bd):Rch:=l.foldl bindC r
theorem envC_sz(l:List Bd):∀r:Rch,(envC r l).sz=r.sz:=by
 induction l with
 |nil=>intro r;rfl
 |cons v l ih=>intro r;show (envC (bindC r v) l).sz=_;rw[ih,bindC,valC_sz]
theorem Rch.rm.env(l:List Bd):∀{r:Rch} (_:r.rm),(envC r l).rm:=by
 induction l with
 |nil=>intro r h;exact h
 |cons v l ih=>intro r h;exact ih (h.val v.val)
theorem envC_next(r:Rch){l:List Bd}{i:Nat}(hi:i<l.length):envC r (l.take (i+1))=valsC (envC r (l.take i)) [l[i].val]:=foldl_next _ _ hi
theorem sz_c{r s:Rch}(h:r.sz=s.sz):r.cl.length=s.cl.length:=congrArg (·.1) h
theorem sz_i{r s:Rch}(h:r.sz=s.sz):r.il.length=s.il.length:=congrArg (·.2.1) h
theorem sz_u{r s:Rch}(h:r.sz=s.sz):r.ul.length=s.ul.length:=congrArg (·.2.2) h
theorem c_impl_renv(b o:Nat)(r:Rch)(l:List Bd)(hr:r.rm)(hl:l.length≤1000000000)(hin:∀x,x∈l→inV r.cl.length x.val):Con PP 153 [.ptr 0 7 [] 0 0,.fz (l.map Bd.cs)] [(0,rchR b o r)] [0] (fun x y=>x=.tup []∧y=[(0,rchR b o (envC r l))]):=by
 refine cof 18 Go.Proofs.Tryz.func153 fun G=>?_
 simp only[entSt,tmOf,List.append_nil,List.cons_append,List.nil_append,rchR]
 refine go (L:=_∧True) wb0 wb0 wb0 wb0 wb0 ⟨fun _=>?_,wb0⟩
 refine WPc.loopV (σ:=Nat) (fun i=>i≤l.length) (fun i=>l.length-i) (fun i=>[(8,.sc (.int .i64 i))]) (fun i=>[(0,rchR b o (envC r (l.take i)))]) [0,6,7,18] 0 (by simp[rchR,envC]) (by simp[rchR,envC]) (by simp) ?_
 rintro i hi s hs
 simp at hs
 subst hs
 by_cases hlt:i<l.length
 ·have hb:i+1≤9223372036854775807:=by omega
  have hn:=envC_next r hlt
  have hrm:=Rch.rm.env (l.take i) hr
  have hsz:=envC_sz (l.take i) r
  have hv:=hin _ (List.getElem_mem hlt)
  generalize envC r (l.take i)=R at hn hrm hsz ⊢
  have uV:=c_impl_rvalues b o R [l[i].val] hrm (by simp) (fun v hm=>by
   rw[List.mem_singleton]at hm
   subst hm
   rw[sz_c hsz];exact hv)
  rw[←hn]at uV
  simp only[rchR,List.map_cons,List.map_nil,V.cs]at uV
  refine go (L:=_∧True) (wa3 @hlt @Bd.cs.eq_1 @rchR.eq_1) wb0 (wb1 (fun _=>uV)) wb0 wb0 ⟨fun _=>?_,wb0⟩
  refine⟨i+1,⟨hlt,by first|omega|(simp only;omega)|assumption⟩,rfl,rfl,?_,?_⟩<;>simp (disch:=omega) [wrap64,rchR]
 ·obtain rfl:i=l.length:=by omega
  rw[List.take_length]
  refine gox (L:=_∧True) (wa2 @hlt @rchR.eq_1) wb0 wb0 wb0 (wb1 (outs [0])) ⟨fun _=>?_,wb0⟩
  all_goals exact⟨rfl,rfl⟩
def goC(r:Rch)(c:Cl):Rch:=if c.k=2 then (valsC r c.vals).addU c.a else valsC r c.vals
theorem c_impl_rgoCell(b o:Nat)(r:Rch)(c:Cl)(hr:r.rm)(hl:c.vals.length≤1000000000)(hin:∀v,v∈c.vals→inV r.cl.length v)(hu:c.k=2→0≤c.a∧c.a<(r.ul.length:Int)):Con PP 155 [.ptr 0 7 [] 0 0,c.av] [(0,rchR b o r)] [0] (fun x y=>x=.tup []∧y=[(0,rchR b o (goC r c))]):=by
 have uV:=c_impl_rvalues b o r c.vals hr hl hin
 have hrm:=Rch.rm.vals c.vals hr
 have hsz:=valsC_sz c.vals r
 have hG:goC r c=if c.k=2 then (valsC r c.vals).addU c.a else valsC r c.vals:=rfl
 generalize valsC r c.vals=R at uV hrm hsz hG
 simp only[rchR]at uV
 by_cases hk:c.k=2
 ·have hk':(c.k=2)=True:=by simp[hk]
  obtain⟨z1,z2⟩:=hu hk
  have hq:=hrm.u
  have hul:=sz_u hsz
  have uU:=c_impl_runit b o R c.a z1 (by omega) (by omega)
  simp only[rchR]at uU
  rw[hG,if_pos hk]
  refine cof 15 Go.Proofs.Tryz.func155 fun G=>?_
  simp only[entSt,tmOf,List.append_nil,List.cons_append,List.nil_append,rchR,Cl.av]
  refine gox (L:=_∧True) (wa2 @hk' @rchR.eq_1) wb0 (wb2 (fun _=>uV) (fun _=>uU)) wb0 (wb1 (outs [0])) ⟨fun _=>?_,wb0⟩
  all_goals exact⟨rfl,rfl⟩
 ·have hk':(c.k=2)=False:=by simp[hk]
  rw[hG,if_neg hk]
  refine cof 15 Go.Proofs.Tryz.func155 fun G=>?_
  simp only[entSt,tmOf,List.append_nil,List.cons_append,List.nil_append,rchR,Cl.av]
  refine gox (L:=_∧True) (wa2 @hk' @rchR.eq_1) wb0 (wb1 (fun _=>uV)) wb0 (wb1 (outs [0])) ⟨fun _=>?_,wb0⟩
  all_goals exact⟨rfl,rfl⟩
def lnkC(r:Rch)(x:Lk):Rch:=r.addI x.inst
def lnksC(r:Rch)(l:List Lk):Rch:=l.foldl lnkC r
def goI(r:Rch)(x:In):Rch:=lnksC (valsC r x.vals) x.links
theorem lnksC_sz(l:List Lk):∀r:Rch,(lnksC r l).sz=r.sz:=by
 induction l with
 |nil=>intro r;rfl
 |cons v l ih=>intro r;show (lnksC (lnkC r v) l).sz=_;rw[ih,lnkC,Rch.addI_sz]
theorem Rch.rm.lnks(l:List Lk):∀{r:Rch} (_:r.rm),(lnksC r l).rm:=by
 induction l with
 |nil=>intro r h;exact h
 |cons v l ih=>intro r h;exact ih (h.addI v.inst)
theorem lnksC_next(r:Rch){l:List Lk}{i:Nat}(hi:i<l.length):lnksC r (l.take (i+1))=(lnksC r (l.take i)).addI l[i].inst:=foldl_next _ _ hi
theorem c_impl_rgoInst(b o:Nat)(r:Rch)(x:In)(hr:r.rm)(hl:x.vals.length≤1000000000)(hl2:x.links.length≤1000000000)(hin:∀v,v∈x.vals→inV r.cl.length v)(hu:∀l,l∈x.links→0≤l.inst∧l.inst<(r.il.length:Int)):Con PP 157 [.ptr 0 7 [] 0 0,x.av] [(0,rchR b o r)] [0] (fun z y=>z=.tup []∧y=[(0,rchR b o (goI r x))]):=by
 have uV:=c_impl_rvalues b o r x.vals hr hl hin
 have hrm:=Rch.rm.vals x.vals hr
 have hsz:=valsC_sz x.vals r
 have hG:goI r x=lnksC (valsC r x.vals) x.links:=rfl
 generalize valsC r x.vals=R at uV hrm hsz hG
 simp only[rchR]at uV
 rw[hG]
 have hil:=sz_i hsz
 refine cof 22 Go.Proofs.Tryz.func157 fun G=>?_
 simp only[entSt,tmOf,List.append_nil,List.cons_append,List.nil_append,rchR,In.av]
 refine go (L:=_∧True) (wa1 @rchR.eq_1) wb0 (wb1 (fun _=>uV)) wb0 wb0 ⟨fun _=>?_,wb0⟩
 refine WPc.loopV (σ:=Nat) (fun i=>i≤x.links.length) (fun i=>x.links.length-i) (fun i=>[(13,.sc (.int .i64 i))]) (fun i=>[(0,rchR b o (lnksC R (x.links.take i)))]) [0,11,12,22] 0 (by simp[rchR,lnksC]) (by simp[rchR,lnksC]) (by simp) ?_
 rintro i hi s hs
 simp at hs
 subst hs
 by_cases hlt:i<x.links.length
 ·have hb:i+1≤9223372036854775807:=by omega
  have hn:=lnksC_next R hlt
  have hrm2:=Rch.rm.lnks (x.links.take i) hrm
  have hsz2:=sz_i (lnksC_sz (x.links.take i) R)
  obtain⟨z1,z2⟩:=hu _ (List.getElem_mem hlt)
  generalize lnksC R (x.links.take i)=R2 at hn hrm2 hsz2 ⊢
  have hq:=hrm2.i
  have uI:=c_impl_rinst b o R2 x.links[i].inst z1 (by omega) (by omega)
  rw[←hn]at uI
  simp only[rchR]at uI
  refine go (L:=_∧True) (wa3 @hlt @Lk.cs.eq_1 @rchR.eq_1) wb0 (wb1 (fun _=>uI)) wb0 wb0 ⟨fun _=>?_,wb0⟩
  refine⟨i+1,⟨hlt,by first|omega|(simp only;omega)|assumption⟩,rfl,rfl,?_,?_⟩<;>simp (disch:=omega) [wrap64,rchR]
 ·obtain rfl:i=x.links.length:=by omega
  rw[List.take_length]
  refine gox (L:=_∧True) (wa2 @hlt @rchR.eq_1) wb0 wb0 wb0 (wb1 (outs [0])) ⟨fun _=>?_,wb0⟩
  all_goals exact⟨rfl,rfl⟩
end Go.Own
set_option maxRecDepth 1000000
set_option maxHeartbeats 4000000
namespace Go.Own
attribute [local irreducible] WPc WPL WPS WPS1 WPS2 HAny endP
variable [Laid]
open Go.Lib Go.RowKit
def frmC(r:Rch)(f:Fm):Rch:=envC (valsC (r.addU f.unit) f.vals) f.env
def frmsC(r:Rch)(l:List Fm):Rch:=l.foldl frmC r
def macC(r:Rch)(m:Mc):Rch:=frmsC (valsC (envC (r.addU m.unit) m.env) [m.val]) m.stack
theorem frmC_sz(r:Rch)(f:Fm):(frmC r f).sz=r.sz:=by rw[frmC,envC_sz,valsC_sz,Rch.addU_sz]
theorem frmsC_sz(l:List Fm):∀r:Rch,(frmsC r l).sz=r.sz:=by
 induction l with
 |nil=>intro r;rfl
 |cons v l ih=>intro r;show (frmsC (frmC r v) l).sz=_;rw[ih,frmC_sz]
theorem Rch.rm.frm{r:Rch}(h:r.rm)(f:Fm):(frmC r f).rm:=Rch.rm.env _ (Rch.rm.vals _ (h.addU _))
theorem Rch.rm.frms(l:List Fm):∀{r:Rch} (_:r.rm),(frmsC r l).rm:=by
 induction l with
 |nil=>intro r h;exact h
 |cons v l ih=>intro r h;exact ih (h.frm v)
theorem frmsC_next(r:Rch){l:List Fm}{i:Nat}(hi:i<l.length):frmsC r (l.take (i+1))=frmC (frmsC r (l.take i)) l[i]:=foldl_next _ _ hi
structure inF(z:Nat×Nat×Nat)(f:Fm):Prop where
 u:0≤f.unit∧f.unit<(z.2.2:Int)
 v:∀v,v∈f.vals→inV z.1 v
 e:∀x,x∈f.env→inV z.1 x.val
structure inM(z:Nat×Nat×Nat)(m:Mc):Prop where
 u:0≤m.unit∧m.unit<(z.2.2:Int)
 e:∀x,x∈m.env→inV z.1 x.val
 v:inV z.1 m.val
 s:∀f,f∈m.stack→inF z f
theorem c_impl_rmachine(b o:Nat)(r:Rch)(m:Mc)(hr:r.rm)(hm:m.rm)(hin:inM r.sz m):Con PP 80 [.ptr 0 7 [] 0 0,m.av] [(0,rchR b o r)] [0] (fun z y=>z=.tup []∧y=[(0,rchR b o (macC r m))]):=by
 have hlen:=hm.env
 have hlen2:=hm.stack
 obtain⟨z1,z2⟩:=hin.u
 have z2':m.unit<(r.ul.length:Int):=z2
 have hq:=hr.u
 have uU:=c_impl_runit b o r m.unit z1 z2' (by omega)
 have r1:=hr.addU m.unit
 have s1:=Rch.addU_sz r m.unit
 have hG:macC r m=frmsC (valsC (envC (r.addU m.unit) m.env) [m.val]) m.stack:=rfl
 generalize r.addU m.unit=R1 at uU r1 s1 hG
 have uE:=c_impl_renv b o R1 m.env r1 hlen (fun x hx=>by rw[sz_c s1];exact hin.e x hx)
 have r2:=Rch.rm.env m.env r1
 have s2:=(envC_sz m.env R1).trans s1
 generalize envC R1 m.env=R2 at uE r2 s2 hG
 have uV:=c_impl_rvalues b o R2 [m.val] r2 (by simp) (fun v hv=>by
  rw[List.mem_singleton]at hv
  subst hv
  rw[sz_c s2];exact hin.v)
 have r3:=Rch.rm.vals [m.val] r2
 have s3:=(valsC_sz [m.val] R2).trans s2
 generalize valsC R2 [m.val]=R3 at uV r3 s3 hG
 rw[hG]
 simp only[rchR,List.map_cons,List.map_nil,V.cs]at uU uE uV
 refine cof 39 Go.Proofs.Tryz.func80 fun G=>?_
 simp only[entSt,tmOf,List.append_nil,List.cons_append,List.nil_append,rchR,Mc.av]
 refine go (L:=_∧True) (wa1 @rchR.eq_1) wb0 (wb3 (fun _=>uU) (fun _=>uE) (fun _=>uV)) wb0 wb0 ⟨fun _=>?_,wb0⟩
 refine WPc.loopV (σ:=Nat) (fun i=>i≤m.stack.length) (fun i=>m.stack.length-i) (fun i=>[(22,.sc (.int .i64 i))]) (fun i=>[(0,rchR b o (frmsC R3 (m.stack.take i)))]) [0,20,21,39] 0 (by simp[rchR,frmsC]) (by simp[rchR,frmsC]) (by simp) ?_
 rintro i hi s hs
 simp at hs
 subst hs
 by_cases hlt:i<m.stack.length
 ·have hb:i+1≤9223372036854775807:=by omega
  have hn:=frmsC_next R3 hlt
  have q1:=Rch.rm.frms (m.stack.take i) r3
  have q2:=(frmsC_sz (m.stack.take i) R3).trans s3
  have hf:=hin.s _ (List.getElem_mem hlt)
  have hfr:=hm.stack1 _ (List.getElem_mem hlt)
  generalize frmsC R3 (m.stack.take i)=R at hn q1 q2 ⊢
  have hu:=sz_u q2
  have hq2:=q1.u
  obtain⟨y1,y2⟩:=hf.u
  have y2':m.stack[i].unit<(r.ul.length:Int):=y2
  have wU:=c_impl_runit b o R m.stack[i].unit y1 (by omega) (by omega)
  have p1:=q1.addU m.stack[i].unit
  have t1:=(Rch.addU_sz R m.stack[i].unit).trans q2
  have hH:frmC R m.stack[i]=envC (valsC (R.addU m.stack[i].unit) m.stack[i].vals) m.stack[i].env:=rfl
  generalize R.addU m.stack[i].unit=T1 at wU p1 t1 hH
  have wV:=c_impl_rvalues b o T1 m.stack[i].vals p1 hfr.vals (fun v hv=>by rw[sz_c t1];exact hf.v v hv)
  have p2:=Rch.rm.vals m.stack[i].vals p1
  have t2:=(valsC_sz m.stack[i].vals T1).trans t1
  generalize valsC T1 m.stack[i].vals=T2 at wV p2 t2 hH
  have wE:=c_impl_renv b o T2 m.stack[i].env p2 hfr.env (fun x hx=>by rw[sz_c t2];exact hf.e x hx)
  rw[←hH,←hn]at wE
  simp only[rchR]at wU wV wE
  refine go (L:=_∧True) (wa3 @hlt @Fm.cs.eq_1 @rchR.eq_1) wb0 (wb3 (fun _=>wU) (fun _=>wE) (fun _=>wV)) wb0 wb0 ⟨fun _=>?_,wb0⟩
  refine⟨i+1,⟨hlt,by first|omega|(simp only;omega)|assumption⟩,rfl,rfl,?_,?_⟩<;>simp (disch:=omega) [wrap64,rchR]
 ·obtain rfl:i=m.stack.length:=by omega
  rw[List.take_length]
  refine gox (L:=_∧True) (wa2 @hlt @rchR.eq_1) wb0 wb0 wb0 (wb1 (outs [0])) ⟨fun _=>?_,wb0⟩
  all_goals exact⟨rfl,rfl⟩
end Go.Own
set_option maxRecDepth 1000000
set_option maxHeartbeats 4000000
namespace Go.Own
attribute [local irreducible] WPc WPL WPS WPS1 WPS2 HAny endP
variable [Laid]
open Go.Lib Go.RowKit
def frA(a:List Bool)(f:Fm):List Bool:=setVs (setBs a f.env) f.vals
def frU(u:List Bool)(f:Fm):List Bool:=u.set f.unit.toNat true
def tkA(a:List Bool)(m:Mc):List Bool:=m.stack.foldl frA (setV (setBs a m.env) m.val)
def tkU(u:List Bool)(m:Mc):List Bool:=m.stack.foldl frU (u.set m.unit.toNat true)
theorem frA_len(l:List Fm):∀a:List Bool,(l.foldl frA a).length=a.length:=by
 induction l with
 |nil=>intro a;rfl
 |cons v l ih=>intro a;rw[List.foldl_cons,ih,frA,setVs_len,setBs_len]
theorem frU_len(l:List Fm):∀a:List Bool,(l.foldl frU a).length=a.length:=by
 induction l with
 |nil=>intro a;rfl
 |cons v l ih=>intro a;rw[List.foldl_cons,ih,frU,List.length_set]
theorem inRange_kind{k:Int}(h:inRange k 5 7=true):cellKind k≠0:=by
 simp only[inRange,Bool.and_eq_true,decide_eq_true_eq]at h
 have:k=5∨k=6∨k=7:=by omega
 rcases this with rfl|rfl|rfl<;>decide
theorem c_spec_l16Task(a b c:List Bool)(m:Mc)(hm:m.rm)(hin:inM (a.length,b.length,c.length) m):Con PP 65 [.agg [.sl 0 1 [] 0 a.length,.sl 1 1 [] 0 b.length,.sl 2 1 [] 0 c.length],m.av] [(0,4,1,a.map boC),(1,4,1,b.map boC),(2,4,1,c.map boC)] [] (fun r o=>r=.agg [.sl 4 1 [(0,0)] 0 a.length,.sl 4 1 [(0,1)] 0 b.length,.sl 4 1 [(0,2)] 0 c.length]∧o=[(4,49,3,[[.sl 4 1 ((tkA a m).map boC),.sl 4 1 (b.map boC),.sl 4 1 ((tkU c m).map boC)]])]):=by
 obtain⟨z1,z2⟩:=hin.u
 have z2':m.unit<(c.length:Int):=z2
 have z3:m.unit.toNat<c.length:=by omega
 have uE:=c_spec_l16Env a b (c.set m.unit.toNat true) m.env hm.env (fun v hv hk=>hin.e v hv (inRange_kind hk))
 have l1:=setBs_len m.env a
 have hA:tkA a m=m.stack.foldl frA (setV (setBs a m.env) m.val):=rfl
 generalize setBs a m.env=A1 at uE l1 hA
 have uV:=c_spec_l16Val A1 b (c.set m.unit.toNat true) m.val (fun hk=>by rw[l1];exact hin.v (inRange_kind hk))
 have l2:=setV_len A1 m.val
 generalize setV A1 m.val=A2 at uV l2 hA
 have hU:tkU c m=m.stack.foldl frU (c.set m.unit.toNat true):=rfl
 have hs:=set_boC z3
 have lc:(c.set m.unit.toNat true).length=c.length:=List.length_set
 generalize c.set m.unit.toNat true=C1 at uE uV hU hs lc
 rw[hA,hU]
 simp only[lc,l1,l2,V.av]at uE uV
 refine cof 50 Go.Proofs.Tryz.func65 fun G=>?_
 simp only[entSt,tmOf,List.append_nil,List.cons_append,List.nil_append,Mc.av]
 refine WPc.renC 2 900033 fun K hK=>?_
 simp -implicitDefEqProofs
 refine hK _ ?_;clear hK K
 repeat' (first
  |(refine WPS.detAt 14 2 500002 [] 0 0 ?_ (by decide) ?_;(focus(simp;done));refine fun K hK=>?_;simp -implicitDefEqProofs +contextual [-Int.not_le,-Int.not_lt,-Nat.not_le,-Nat.not_lt,-List.all_eq_true,-List.all_eq_false,-List.any_eq_true,-List.any_eq_false,z1,z2',z3,hs,lc,l1,l2];(repeat1' (first|apply hK|apply And.intro|intro _))<;>clear hK K)
  |(refine WPS.detAt 14 2 600002 [] 0 1 ?_ (by decide) ?_;(focus(simp;done));refine fun K hK=>?_;simp -implicitDefEqProofs +contextual [-Int.not_le,-Int.not_lt,-Nat.not_le,-Nat.not_lt,-List.all_eq_true,-List.all_eq_false,-List.any_eq_true,-List.any_eq_false,z1,z2',z3,hs,lc,l1,l2];(repeat1' (first|apply hK|apply And.intro|intro _))<;>clear hK K)
  |(refine WPS.detAt 14 2 700002 [] 0 2 ?_ (by decide) ?_;(focus(simp;done));refine fun K hK=>?_;simp -implicitDefEqProofs +contextual [-Int.not_le,-Int.not_lt,-Nat.not_le,-Nat.not_lt,-List.all_eq_true,-List.all_eq_false,-List.any_eq_true,-List.any_eq_false,z1,z2',z3,hs,lc,l1,l2];(repeat1' (first|apply hK|apply And.intro|intro _))<;>clear hK K)
  |(refine WPS.detAt 17 14 500014 [] 0 0 ?_ (by decide) ?_;(focus(simp;done));refine fun K hK=>?_;simp -implicitDefEqProofs +contextual [-Int.not_le,-Int.not_lt,-Nat.not_le,-Nat.not_lt,-List.all_eq_true,-List.all_eq_false,-List.any_eq_true,-List.any_eq_false,z1,z2',z3,hs,lc,l1,l2];(repeat1' (first|apply hK|apply And.intro|intro _))<;>clear hK K)
  |(refine WPS.detAt 17 14 600014 [] 0 1 ?_ (by decide) ?_;(focus(simp;done));refine fun K hK=>?_;simp -implicitDefEqProofs +contextual [-Int.not_le,-Int.not_lt,-Nat.not_le,-Nat.not_lt,-List.all_eq_true,-List.all_eq_false,-List.any_eq_true,-List.any_eq_false,z1,z2',z3,hs,lc,l1,l2];(repeat1' (first|apply hK|apply And.intro|intro _))<;>clear hK K)
  |(refine WPS.detAt 17 14 700014 [] 0 2 ?_ (by decide) ?_;(focus(simp;done));refine fun K hK=>?_;simp -implicitDefEqProofs +contextual [-Int.not_le,-Int.not_lt,-Nat.not_le,-Nat.not_lt,-List.all_eq_true,-List.all_eq_false,-List.any_eq_true,-List.any_eq_false,z1,z2',z3,hs,lc,l1,l2];(repeat1' (first|apply hK|apply And.intro|intro _))<;>clear hK K)
  |(refine WPS.detSt 17 17 500017 [] 0 0 ?_ (by decide) ?_;(focus(simp;done));refine fun K hK=>?_;simp -implicitDefEqProofs +contextual [-Int.not_le,-Int.not_lt,-Nat.not_le,-Nat.not_lt,-List.all_eq_true,-List.all_eq_false,-List.any_eq_true,-List.any_eq_false,z1,z2',z3,hs,lc,l1,l2];(repeat1' (first|apply hK|apply And.intro|intro _))<;>clear hK K)
  |(refine WPS.detSt 17 17 600017 [] 0 1 ?_ (by decide) ?_;(focus(simp;done));refine fun K hK=>?_;simp -implicitDefEqProofs +contextual [-Int.not_le,-Int.not_lt,-Nat.not_le,-Nat.not_lt,-List.all_eq_true,-List.all_eq_false,-List.any_eq_true,-List.any_eq_false,z1,z2',z3,hs,lc,l1,l2];(repeat1' (first|apply hK|apply And.intro|intro _))<;>clear hK K)
  |(refine WPS.detSt 17 17 700017 [] 0 2 ?_ (by decide) ?_;(focus(simp;done));refine fun K hK=>?_;simp -implicitDefEqProofs +contextual [-Int.not_le,-Int.not_lt,-Nat.not_le,-Nat.not_lt,-List.all_eq_true,-List.all_eq_false,-List.any_eq_true,-List.any_eq_false,z1,z2',z3,hs,lc,l1,l2];(repeat1' (first|apply hK|apply And.intro|intro _))<;>clear hK K)
  |((first|refine WPS.rnTo tok 14 _ (by simp;rfl) fun K hK=>?_|refine WPc.rq tok rfl fun K hK=>?_);simp -implicitDefEqProofs +contextual [-Int.not_le,-Int.not_lt,-Nat.not_le,-Nat.not_lt,-List.all_eq_true,-List.all_eq_false,-List.any_eq_true,-List.any_eq_false,z1,z2',z3,hs,lc,l1,l2];(repeat1' (first|apply hK|apply And.intro|intro _))<;>clear hK K<;>(try dsimp only[List.drop]))
  |apply WPc.sq
  |apply WPc.block
  |(apply WPS.cU (hc:=uV);(case ho=>exact rfl);(case q=>(repeat' (first|refine And.intro ?_ ?_|intro _|(with_reducible exact cleanOut_nil)|(refine Eqv.mk ?_;first|rfl|(simp -implicitDefEqProofs [z1,z2',z3,hs,lc,l1,l2];done))|(simp -implicitDefEqProofs [z1,z2',z3,hs,lc,l1,l2];done)|(simp -implicitDefEqProofs [z1,z2',z3,hs,lc,l1,l2];rfl)|(simp;done)|(simp;rfl)|rfl))))
  |(apply WPS.cU (hc:=uE);(case ho=>exact rfl);(case q=>(repeat' (first|refine And.intro ?_ ?_|intro _|(with_reducible exact cleanOut_nil)|(refine Eqv.mk ?_;first|rfl|(simp -implicitDefEqProofs [z1,z2',z3,hs,lc,l1,l2];done))|(simp -implicitDefEqProofs [z1,z2',z3,hs,lc,l1,l2];done)|(simp -implicitDefEqProofs [z1,z2',z3,hs,lc,l1,l2];rfl)|(simp;done)|(simp;rfl)|rfl))))
  |(refine WPc.sched (id:=2) tok [(3,[2,14,1014,2014,500002,600002,700002]),(6,[14,17,1017,2017,500014,600014,700014]),(7,[2,17,500017,600017,700017])] [(0,[]),(1,[]),(2,[]),(4,[2,14,1014,2014,500002,600002,700002]),(5,[2,14,1014,2014,500002,600002,700002]),(3,[2,14,1014,2014,500002,600002,700002]),(6,[14,17,1017,2017,500014,600014,700014]),(7,[2,17,500017,600017,700017])] (by kernel_rfl) ?_)
  |(refine WPS.nil ?_)
  |(refine WPS.eff tok fun K hK=>?_;simp -implicitDefEqProofs +contextual [-Int.not_le,-Int.not_lt,-Nat.not_le,-Nat.not_lt,-List.all_eq_true,-List.all_eq_false,-List.any_eq_true,-List.any_eq_false,z1,z2',z3,hs,lc,l1,l2];(repeat1' (first|apply hK|apply And.intro|intro _))<;>clear hK K))
 have hlen0:=hm.stack
 refine WPc.loopV (σ:=Nat) (fun i=>i≤m.stack.length) (fun i=>m.stack.length-i) (fun i=>[(5,.sc (.int .i64 i))]) (fun i=>[(2,49,3,[[.sl 4 1 (((m.stack.take i).foldl frA A2).map boC),.sl 4 1 (b.map boC),.sl 4 1 (((m.stack.take i).foldl frU C1).map boC)]]),(3,123,9,[m.cs]),(4,49,3,[[.sc (.slice none 0 0),.sc (.slice none 0 0),.sc (.slice none 0 0)]])]) [2,3,4] 0 (by simp[Mc.cs]) (by simp[Mc.cs]) (by simp) ?_
 rintro i hi s hs
 simp at hs
 subst hs
 by_cases hlt:i<m.stack.length
 ·have hb:i+1≤9223372036854775807:=by omega
  have n1:=foldl_nextB frA A2 hlt
  have n2:=foldl_nextB frU C1 hlt
  have k1:=frA_len (m.stack.take i) A2
  have k2:=frU_len (m.stack.take i) C1
  have hf:=hin.s _ (List.getElem_mem hlt)
  have hfr:=hm.stack1 _ (List.getElem_mem hlt)
  generalize (m.stack.take i).foldl frA A2=RA at n1 k1 ⊢
  generalize (m.stack.take i).foldl frU C1=RU at n2 k2 ⊢
  obtain⟨y1,y2⟩:=hf.u
  have y2':m.stack[i].unit<(RU.length:Int):=by rw[k2,lc];exact y2
  have y3:m.stack[i].unit.toNat<RU.length:=by omega
  have hs2:=set_boC y3
  have lr:(RU.set m.stack[i].unit.toNat true).length=RU.length:=List.length_set
  have hfU:frU RU m.stack[i]=RU.set m.stack[i].unit.toNat true:=rfl
  rw[hfU]at n2
  have la:RA.length=a.length:=by rw[k1,l2,l1]
  have wE:=c_spec_l16Env RA b (RU.set m.stack[i].unit.toNat true) m.stack[i].env hfr.env (fun v hv hk=>by rw[la];exact hf.e v hv (inRange_kind hk))
  have le:=setBs_len m.stack[i].env RA
  have hfA:frA RA m.stack[i]=setVs (setBs RA m.stack[i].env) m.stack[i].vals:=rfl
  rw[hfA]at n1
  generalize setBs RA m.stack[i].env=R3 at wE le n1
  have wV:=c_spec_l16Vals R3 b (RU.set m.stack[i].unit.toNat true) m.stack[i].vals hfr.vals (fun v hv hk=>by rw[le,la];exact hf.v v hv (inRange_kind hk))
  have lv:=setVs_len m.stack[i].vals R3
  generalize setVs R3 m.stack[i].vals=R4 at wV lv n1
  generalize RU.set m.stack[i].unit.toNat true=R5 at wE wV hs2 lr n2
  simp only[lr,le]at wE wV
  repeat' (first
   |(refine WPS.detAt 41 2 500002 [] 0 0 ?_ (by decide) ?_;(focus(simp;done));refine fun K hK=>?_;simp -implicitDefEqProofs +contextual [-Int.not_le,-Int.not_lt,-Nat.not_le,-Nat.not_lt,-List.all_eq_true,-List.all_eq_false,-List.any_eq_true,-List.any_eq_false,hlt,Mc.cs,Fm.cs,y1,y2',y3,hs2,lr,le,lv];(repeat1' (first|apply hK|apply And.intro|intro _))<;>clear hK K)
   |(refine WPS.detAt 41 2 600002 [] 0 1 ?_ (by decide) ?_;(focus(simp;done));refine fun K hK=>?_;simp -implicitDefEqProofs +contextual [-Int.not_le,-Int.not_lt,-Nat.not_le,-Nat.not_lt,-List.all_eq_true,-List.all_eq_false,-List.any_eq_true,-List.any_eq_false,hlt,Mc.cs,Fm.cs,y1,y2',y3,hs2,lr,le,lv];(repeat1' (first|apply hK|apply And.intro|intro _))<;>clear hK K)
   |(refine WPS.detAt 41 2 700002 [] 0 2 ?_ (by decide) ?_;(focus(simp;done));refine fun K hK=>?_;simp -implicitDefEqProofs +contextual [-Int.not_le,-Int.not_lt,-Nat.not_le,-Nat.not_lt,-List.all_eq_true,-List.all_eq_false,-List.any_eq_true,-List.any_eq_false,hlt,Mc.cs,Fm.cs,y1,y2',y3,hs2,lr,le,lv];(repeat1' (first|apply hK|apply And.intro|intro _))<;>clear hK K)
   |(refine WPS.detAt 48 41 500041 [] 0 0 ?_ (by decide) ?_;(focus(simp;done));refine fun K hK=>?_;simp -implicitDefEqProofs +contextual [-Int.not_le,-Int.not_lt,-Nat.not_le,-Nat.not_lt,-List.all_eq_true,-List.all_eq_false,-List.any_eq_true,-List.any_eq_false,hlt,Mc.cs,Fm.cs,y1,y2',y3,hs2,lr,le,lv];(repeat1' (first|apply hK|apply And.intro|intro _))<;>clear hK K)
   |(refine WPS.detAt 48 41 600041 [] 0 1 ?_ (by decide) ?_;(focus(simp;done));refine fun K hK=>?_;simp -implicitDefEqProofs +contextual [-Int.not_le,-Int.not_lt,-Nat.not_le,-Nat.not_lt,-List.all_eq_true,-List.all_eq_false,-List.any_eq_true,-List.any_eq_false,hlt,Mc.cs,Fm.cs,y1,y2',y3,hs2,lr,le,lv];(repeat1' (first|apply hK|apply And.intro|intro _))<;>clear hK K)
   |(refine WPS.detAt 48 41 700041 [] 0 2 ?_ (by decide) ?_;(focus(simp;done));refine fun K hK=>?_;simp -implicitDefEqProofs +contextual [-Int.not_le,-Int.not_lt,-Nat.not_le,-Nat.not_lt,-List.all_eq_true,-List.all_eq_false,-List.any_eq_true,-List.any_eq_false,hlt,Mc.cs,Fm.cs,y1,y2',y3,hs2,lr,le,lv];(repeat1' (first|apply hK|apply And.intro|intro _))<;>clear hK K)
   |(refine WPS.detSt 48 48 500048 [] 0 0 ?_ (by decide) ?_;(focus(simp;done));refine fun K hK=>?_;simp -implicitDefEqProofs +contextual [-Int.not_le,-Int.not_lt,-Nat.not_le,-Nat.not_lt,-List.all_eq_true,-List.all_eq_false,-List.any_eq_true,-List.any_eq_false,hlt,Mc.cs,Fm.cs,y1,y2',y3,hs2,lr,le,lv];(repeat1' (first|apply hK|apply And.intro|intro _))<;>clear hK K)
   |(refine WPS.detSt 48 48 600048 [] 0 1 ?_ (by decide) ?_;(focus(simp;done));refine fun K hK=>?_;simp -implicitDefEqProofs +contextual [-Int.not_le,-Int.not_lt,-Nat.not_le,-Nat.not_lt,-List.all_eq_true,-List.all_eq_false,-List.any_eq_true,-List.any_eq_false,hlt,Mc.cs,Fm.cs,y1,y2',y3,hs2,lr,le,lv];(repeat1' (first|apply hK|apply And.intro|intro _))<;>clear hK K)
   |(refine WPS.detSt 48 48 700048 [] 0 2 ?_ (by decide) ?_;(focus(simp;done));refine fun K hK=>?_;simp -implicitDefEqProofs +contextual [-Int.not_le,-Int.not_lt,-Nat.not_le,-Nat.not_lt,-List.all_eq_true,-List.all_eq_false,-List.any_eq_true,-List.any_eq_false,hlt,Mc.cs,Fm.cs,y1,y2',y3,hs2,lr,le,lv];(repeat1' (first|apply hK|apply And.intro|intro _))<;>clear hK K)
   |((first|refine WPS.rnTo tok 41 _ (by simp;rfl) fun K hK=>?_|refine WPc.rq tok rfl fun K hK=>?_|refine WPS.rn tok _ (by simp[aheadS];rfl) fun K hK=>?_);simp -implicitDefEqProofs +contextual [-Int.not_le,-Int.not_lt,-Nat.not_le,-Nat.not_lt,-List.all_eq_true,-List.all_eq_false,-List.any_eq_true,-List.any_eq_false,hlt,Mc.cs,Fm.cs,y1,y2',y3,hs2,lr,le,lv];(repeat1' (first|apply hK|apply And.intro|intro _))<;>clear hK K<;>(try dsimp only[List.drop]))
   |apply WPc.sq
   |apply WPc.block
   |apply WPc.skip
   |(apply WPS.cU (hc:=wV);(case ho=>exact rfl);(case q=>(repeat' (first|refine And.intro ?_ ?_|intro _|(with_reducible exact cleanOut_nil)|(refine Eqv.mk ?_;first|rfl|(simp -implicitDefEqProofs [hlt,Mc.cs,Fm.cs,y1,y2',y3,hs2,lr,le,lv];done))|(simp -implicitDefEqProofs [hlt,Mc.cs,Fm.cs,y1,y2',y3,hs2,lr,le,lv];done)|(simp -implicitDefEqProofs [hlt,Mc.cs,Fm.cs,y1,y2',y3,hs2,lr,le,lv];rfl)|(simp;done)|(simp;rfl)|rfl))))
   |(apply WPS.cU (hc:=wE);(case ho=>exact rfl);(case q=>(repeat' (first|refine And.intro ?_ ?_|intro _|(with_reducible exact cleanOut_nil)|(refine Eqv.mk ?_;first|rfl|(simp -implicitDefEqProofs [hlt,Mc.cs,Fm.cs,y1,y2',y3,hs2,lr,le,lv];done))|(simp -implicitDefEqProofs [hlt,Mc.cs,Fm.cs,y1,y2',y3,hs2,lr,le,lv];done)|(simp -implicitDefEqProofs [hlt,Mc.cs,Fm.cs,y1,y2',y3,hs2,lr,le,lv];rfl)|(simp;done)|(simp;rfl)|rfl))))
   |(refine WPc.sched (id:=6) tok [(9,[2])] [(0,[]),(1,[]),(2,[]),(3,[]),(4,[]),(5,[]),(6,[]),(7,[]),(8,[]),(9,[2])] (by kernel_rfl) ?_)
   |(refine WPc.sched (id:=7) tok [(7,[2,41,1041,2041,500002,600002,700002]),(14,[41,48,1048,2048,500041,600041,700041]),(15,[2,48,500048,600048,700048])] [(0,[]),(1,[]),(2,[]),(3,[]),(4,[]),(5,[]),(6,[]),(8,[2,41,1041,2041,500002,600002,700002]),(9,[2,41,1041,2041,500002,600002,700002]),(10,[2,41,1041,2041,500002,600002,700002]),(11,[2,41,1041,2041,500002,600002,700002]),(12,[2,41,1041,2041,500002,600002,700002]),(13,[2,41,1041,2041,500002,600002,700002]),(7,[2,41,1041,2041,500002,600002,700002]),(14,[41,48,1048,2048,500041,600041,700041]),(15,[2,48,500048,600048,700048])] (by kernel_rfl) ?_)
   |(refine WPS.nil ?_)
   |(refine WPS.eff tok fun K hK=>?_;simp -implicitDefEqProofs +contextual [-Int.not_le,-Int.not_lt,-Nat.not_le,-Nat.not_lt,-List.all_eq_true,-List.all_eq_false,-List.any_eq_true,-List.any_eq_false,hlt,Mc.cs,Fm.cs,y1,y2',y3,hs2,lr,le,lv];(repeat1' (first|apply hK|apply And.intro|intro _))<;>clear hK K)
   |(refine WPc.condT ?_ ?_;(focus(simp;done))))
  refine⟨i+1,⟨hlt,by first|omega|(simp only;omega)|assumption⟩,rfl,rfl,?_,?_⟩<;>simp (disch:=omega) [wrap64,n1,n2,Mc.cs]
 ·obtain rfl:i=m.stack.length:=by omega
  rw[List.take_length]
  have k1:=frA_len m.stack A2
  have k2:=frU_len m.stack C1
  refine gox (L:=_∧True) (wa2 @hlt @Mc.cs.eq_1) wb0 wb0 wb0 (wb4 (outs [4]) (nm 1 [49,2,900021,0,0]) (nm 1 [49,2,900022,0,1]) (nm 1 [49,2,900023,0,2])) ⟨fun _=>?_,wb0⟩
  all_goals exact⟨by rw[k1,k2,l2,l1,lc],rfl⟩
end Go.Own
set_option maxRecDepth 1000000
set_option maxHeartbeats 4000000
namespace Go.Own
attribute [local irreducible] WPc WPL WPS WPS1 WPS2 HAny endP
variable [Laid]
open Go.Lib Go.RowKit
def zW(w:Wd):Nat×Nat×Nat:=(w.sys.heap.length,w.sys.insts.length,w.sys.units.length)
structure inW(w:Wd):Prop where
 c:∀c,c∈w.sys.heap→(∀v,v∈c.vals→inV w.sys.heap.length v)∧(c.k=2→0≤c.a∧c.a<(w.sys.units.length:Int))
 i:∀x,x∈w.sys.insts→(∀v,v∈x.vals→inV w.sys.heap.length v)∧∀l,l∈x.links→0≤l.inst∧l.inst<(w.sys.insts.length:Int)
 u:∀u,u∈w.sys.units→0≤u.home∧u.home<(w.sys.insts.length:Int)
structure Bq(w:Wd)(s:Rch):Prop where
 rm:s.rm
 sz:s.sz=zW w
 qc:∀x,x∈s.cq→0≤x∧x<(w.sys.heap.length:Int)
 qi:∀x,x∈s.iq→0≤x∧x<(w.sys.insts.length:Int)
 qu:∀x,x∈s.uq→0≤x∧x<(w.sys.units.length:Int)
def meas(s:Rch):Nat:=2*(s.cl.count false+s.il.count false+s.ul.count false)+(s.cq.length+s.iq.length+s.uq.length)
theorem Bq.addC{w:Wd}{s:Rch}(h:Bq w s){n:Int}(hn:0≤n∧n<(w.sys.heap.length:Int)):Bq w (s.addC n):=by
 refine⟨h.rm.addC n,by rw[Rch.addC_sz,h.sz],fun x hx=>?_,fun x hx=>?_,fun x hx=>?_⟩
 all_goals
  unfold Rch.addC at hx
  split at hx
 ·exact h.qc x hx
 ·simp only[List.mem_append,List.mem_singleton]at hx
  rcases hx with hx|rfl
  ·exact h.qc x hx
  ·exact hn
 ·exact h.qi x hx
 ·exact h.qi x hx
 ·exact h.qu x hx
 ·exact h.qu x hx
theorem Bq.addI{w:Wd}{s:Rch}(h:Bq w s){n:Int}(hn:0≤n∧n<(w.sys.insts.length:Int)):Bq w (s.addI n):=by
 refine⟨h.rm.addI n,by rw[Rch.addI_sz,h.sz],fun x hx=>?_,fun x hx=>?_,fun x hx=>?_⟩
 all_goals
  unfold Rch.addI at hx
  split at hx
 ·exact h.qc x hx
 ·exact h.qc x hx
 ·exact h.qi x hx
 ·simp only[List.mem_append,List.mem_singleton]at hx
  rcases hx with hx|rfl
  ·exact h.qi x hx
  ·exact hn
 ·exact h.qu x hx
 ·exact h.qu x hx
theorem Bq.addU{w:Wd}{s:Rch}(h:Bq w s){n:Int}(hn:0≤n∧n<(w.sys.units.length:Int)):Bq w (s.addU n):=by
 refine⟨h.rm.addU n,by rw[Rch.addU_sz,h.sz],fun x hx=>?_,fun x hx=>?_,fun x hx=>?_⟩
 all_goals
  unfold Rch.addU at hx
  split at hx
 ·exact h.qc x hx
 ·exact h.qc x hx
 ·exact h.qi x hx
 ·exact h.qi x hx
 ·exact h.qu x hx
 ·simp only[List.mem_append,List.mem_singleton]at hx
  rcases hx with hx|rfl
  ·exact h.qu x hx
  ·exact hn
theorem meas_addC(s:Rch)(n:Int):meas (s.addC n)≤meas s:=by
 unfold Rch.addC
 split
 ·exact Nat.le_refl _
 ·rename_i hf
  obtain⟨h1,h2⟩:=getD_false (by simpa using hf)
  have:=count_next h1 h2
  simp only[meas,List.length_append,List.length_singleton];omega
theorem meas_addI(s:Rch)(n:Int):meas (s.addI n)≤meas s:=by
 unfold Rch.addI
 split
 ·exact Nat.le_refl _
 ·rename_i hf
  obtain⟨h1,h2⟩:=getD_false (by simpa using hf)
  have:=count_next h1 h2
  simp only[meas,List.length_append,List.length_singleton];omega
theorem meas_addU(s:Rch)(n:Int):meas (s.addU n)≤meas s:=by
 unfold Rch.addU
 split
 ·exact Nat.le_refl _
 ·rename_i hf
  obtain⟨h1,h2⟩:=getD_false (by simpa using hf)
  have:=count_next h1 h2
  simp only[meas,List.length_append,List.length_singleton];omega
theorem Bq.val{w:Wd}{s:Rch}(h:Bq w s){v:V}(hv:inV w.sys.heap.length v):Bq w (valC s v)∧meas (valC s v)≤meas s:=by
 unfold valC
 split
 ·exact⟨h,Nat.le_refl _⟩
 ·rename_i hk;exact⟨h.addC (hv hk),meas_addC _ _⟩
theorem Bq.vals{w:Wd}(l:List V):∀{s:Rch} (_:Bq w s) (_:∀v,v∈l→inV w.sys.heap.length v),Bq w (valsC s l)∧meas (valsC s l)≤meas s:=by
 induction l with
 |nil=>intro s h _;exact⟨h,Nat.le_refl _⟩
 |cons v l ih =>
  intro s h hv
  obtain⟨a1,a2⟩:=h.val (hv v (by simp))
  obtain⟨b1,b2⟩:=ih a1 fun x hx=>hv x (by simp[hx])
  exact⟨b1,Nat.le_trans b2 a2⟩
theorem Bq.lnks{w:Wd}(l:List Lk):∀{s:Rch} (_:Bq w s) (_:∀x,x∈l→0≤x.inst∧x.inst<(w.sys.insts.length:Int)),Bq w (lnksC s l)∧meas (lnksC s l)≤meas s:=by
 induction l with
 |nil=>intro s h _;exact⟨h,Nat.le_refl _⟩
 |cons v l ih =>
  intro s h hv
  obtain⟨b1,b2⟩:=ih (h.addI (hv v (by simp))) fun x hx=>hv x (by simp[hx])
  exact⟨b1,Nat.le_trans b2 (meas_addI _ _)⟩
def popC(s:Rch)(k:Nat):Rch:={ s with cq:=s.cq.take k }
def popI(s:Rch)(k:Nat):Rch:={ s with iq:=s.iq.take k }
def popU(s:Rch)(k:Nat):Rch:={ s with uq:=s.uq.take k }
theorem Bq.popC{w:Wd}{s:Rch}(h:Bq w s){k:Nat}(hk:s.cq.length=k+1):Bq w (popC s k)∧meas (Own.popC s k)<meas s:=by
 have:=h.rm.c
 refine⟨⟨⟨?_,h.rm.i,h.rm.u⟩,h.sz,fun x hx=>h.qc x (List.mem_of_mem_take hx),h.qi,h.qu⟩,?_⟩
 ·simp only[Own.popC,List.length_take];omega
 ·simp only[meas,Own.popC,List.length_take];omega
theorem Bq.popI{w:Wd}{s:Rch}(h:Bq w s){k:Nat}(hk:s.iq.length=k+1):Bq w (popI s k)∧meas (Own.popI s k)<meas s:=by
 have:=h.rm.i
 refine⟨⟨⟨h.rm.c,?_,h.rm.u⟩,h.sz,h.qc,fun x hx=>h.qi x (List.mem_of_mem_take hx),h.qu⟩,?_⟩
 ·simp only[Own.popI,List.length_take];omega
 ·simp only[meas,Own.popI,List.length_take];omega
theorem Bq.popU{w:Wd}{s:Rch}(h:Bq w s){k:Nat}(hk:s.uq.length=k+1):Bq w (popU s k)∧meas (Own.popU s k)<meas s:=by
 have:=h.rm.u
 refine⟨⟨⟨h.rm.c,h.rm.i,?_⟩,h.sz,h.qc,h.qi,fun x hx=>h.qu x (List.mem_of_mem_take hx)⟩,?_⟩
 ·simp only[Own.popU,List.length_take];omega
 ·simp only[meas,Own.popU,List.length_take];omega
theorem Bq.goC{w:Wd}{s:Rch}(h:Bq w s)(hw:inW w){c:Cl}(hc:c∈w.sys.heap):Bq w (goC s c)∧meas (Own.goC s c)≤meas s:=by
 obtain⟨a1,a2⟩:=Bq.vals c.vals h (hw.c c hc).1
 unfold Own.goC
 split
 ·rename_i hk
  exact⟨a1.addU ((hw.c c hc).2 hk),Nat.le_trans (meas_addU _ _) a2⟩
 ·exact⟨a1,a2⟩
theorem Bq.goI{w:Wd}{s:Rch}(h:Bq w s)(hw:inW w){x:In}(hx:x∈w.sys.insts):Bq w (goI s x)∧meas (Own.goI s x)≤meas s:=by
 obtain⟨a1,a2⟩:=Bq.vals x.vals h (hw.i x hx).1
 obtain⟨b1,b2⟩:=Bq.lnks x.links a1 (hw.i x hx).2
 exact⟨b1,Nat.le_trans b2 a2⟩
end Go.Own
namespace Go.Own
variable {P:Program}{tt:Nat→Option TI}{st st':St}[Laid]{ops:Array Oper}{l:List (Nat×List Nat)}{Ψ:St→Prop}{k:Nat}{T:List Nat}
theorem WPS1.cU{f d:Nat}{ins ins0:List AV}{ob ob0:List (Nat×Root)}{keep:List Nat}{ren nw:List (Nat×Nat)}{kP kS:List Nat}{args:Array Operand}{tys:Array TypeId}{ty:TypeId}{pos:String}{af:Array Edge}{g:Option (Nat×Bool)}{lent:List Nat}
  {R:AV} {O:List (Nat×Root)} {s:St} (ho:ops[k]?=some { dst:=some d,op:=.call { callee:=.value (.func f),args:=args,argTypes:=tys },type:=ty,pos:=pos,after:=af,guard:=g })
  (hc:Con P f ins ob keep (fun r o=>r=R∧o=O))
  (q:(wantA ops st { dst:=some d,op:=.call { callee:=.value (.func f),args:=args,argTypes:=tys },type:=ty,pos:=pos,after:=af,guard:=g }=some true∧d<st.nt∧lentAt st ins args.toList=lent∧renAt st lent args.toList=ren∧insA st ren lent args.toList=some ins0∧Eqv ins0 ins∧obIn st ren=ob0∧Eqv ob0 ob)∧(nwAt d ren 0 (keys O)=nw∧callOk ren lent nw=true∧kpOf ren nw (partsAt st keep args.toList)=kP∧ksOf ren nw (partsAt st keep args.toList)=kS∧cleanOut lent R O=true∧subB (ren.map (·.1)++nw.map (·.2)) T=true∧putSt (callSt st ren nw kP kS O) (some d) (rnT nw R)=s))
  (hk:WPS P ops l s Ψ):WPS1 P ops ((k,T)::l) st Ψ:=by
 obtain⟨⟨q1,q2,q3,q4,q5,⟨rfl⟩,q7,⟨rfl⟩⟩,p1,p2,rfl,rfl,p5,p6,p7⟩:=q
 refine WPS1.stp ho q1 (Stp.callR hc.one rfl (by simpa using q2) p2 q5 q7 (fun _ _=>p5)) p6 ?_
 rintro s' ⟨y,hy,rfl⟩
 rw[p7];exact hk
def effV(tt:Nat→Option TI)(ops:Array Oper)(st:St)(T:List Nat):Option Oper→Option St
 |some o=>if wantA ops st o=some true∧dstOk st o=true then (stepA tt st (o.dst.getD 0) o.op).bind (finS T o.dst) else none
 |none=>none
theorem WPS1.val(tok:TOk P tt)(h:∀K:St→Prop,(∀s,WPS P ops l s Ψ→K s)→∃s,effV tt ops st T ops[k]?=some s∧K s):WPS1 P ops ((k,T)::l) st Ψ:=by
 obtain⟨s,h1,h2⟩:=h (fun s=>WPS P ops l s Ψ) fun _ h=>h
 unfold effV at h1
 split at h1
 ·rename_i o ho
  split at h1
  ·rename_i hc
   obtain⟨c2,c3⟩:=hc
   simp only[Option.bind_eq_some_iff]at h1
   obtain⟨⟨v,st2,T2⟩,e1,e2⟩:=h1
   unfold finS at e2
   split at e2
   ·rename_i hT
    injection e2 with e2
    subst e2
    exact WPS1.stp ho c2 (Stp.step tok c3 e1 hT.2) hT.1 (fun s hs=>hs▸h2)
   ·simp at e2
  ·simp at h1
 ·simp at h1
@[simp] theorem effV_some{o:Oper}:effV tt ops st T (some o)=if wantA ops st o=some true∧dstOk st o=true then (stepA tt st (o.dst.getD 0) o.op).bind (finS T o.dst) else none:=rfl
@[simp] theorem finS_wr{d:Nat}{v:AV}:finS T (some d) (wr st v)=some (putSt st (some d) v):=by simp[finS,wr,subB,below]
end Go.Own
set_option maxRecDepth 1000000
set_option maxHeartbeats 4000000
namespace Go.Own
attribute [local irreducible] WPc WPL WPS WPS1 WPS2 HAny endP
variable [Laid]
open Go.Lib Go.RowKit
structure KeepsJ(w:Wd)(J:Rch→Prop):Prop where
 c:∀s k,(hB:Bq w s)→J s→(hk:s.cq.length=k+1)→(hi:(s.cq[k]'(by omega)).toNat<w.sys.heap.length)→J (goC (popC s k) w.sys.heap[(s.cq[k]'(by omega)).toNat])
 i:∀s k,(hB:Bq w s)→J s→(hk:s.iq.length=k+1)→(hi:(s.iq[k]'(by omega)).toNat<w.sys.insts.length)→J (goI (popI s k) w.sys.insts[(s.iq[k]'(by omega)).toNat])
 u:∀s k,(hB:Bq w s)→J s→(hk:s.uq.length=k+1)→(hi:(s.uq[k]'(by omega)).toNat<w.sys.units.length)→J ((popU s k).addI w.sys.units[(s.uq[k]'(by omega)).toNat].home)
theorem c_impl_rall[Kp:Pin](w:Wd)(hcs:Kp.cs=w.cs)(hw:inW w)(hr:w.rm)(J:Rch→Prop)(hJ:KeepsJ w J)(r:Rch)(hB:Bq w r)(h0:J r):Con PP 81 [.ptr 0 7 [] 0 0] [(0,rchR Kp.b Kp.o r)] [0] (fun z y=>∃s:Rch,(Bq w s∧J s∧s.cq=[]∧s.iq=[]∧s.uq=[])∧z=.tup []∧y=[(0,rchR Kp.b Kp.o s)]):=by
 have hrh:=hr.sys.heap1
 have hri:=hr.sys.insts1
 refine cof 69 Go.Proofs.Tryz.func81 fun G=>?_
 simp only[entSt,tmOf,List.append_nil,List.cons_append,List.nil_append,rchR]
 refine go (L:=_∧True) wb0 wb0 wb0 wb0 wb0 ⟨fun _=>?_,wb0⟩
 refine WPc.loopV (σ:=Rch) (fun s=>Bq w s∧J s) (fun s=>meas s) (fun s=>[]) (fun s=>[(0,rchR Kp.b Kp.o s)]) [0,69] r (by simp[rchR]) (by simp[rchR]) (⟨hB,h0⟩) ?_
 rintro s ⟨hs,hj⟩ s hs
 simp at hs
 subst hs
 by_cases hc0:s.cq.length=0
 ·have hc0':¬(0:Int)<(s.cq.length:Int):=by omega
  by_cases hi0:s.iq.length=0
  ·have hi0':¬(0:Int)<(s.iq.length:Int):=by omega
   by_cases hu0:s.uq.length=0
   ·have hu0':¬(0:Int)<(s.uq.length:Int):=by omega
    have e1:s.cq=[]:=List.length_eq_zero_iff.1 hc0
    have e2:s.iq=[]:=List.length_eq_zero_iff.1 hi0
    have e3:s.uq=[]:=List.length_eq_zero_iff.1 hu0
    refine go (L:=_∧True) (wa7 @hc0 @hi0 @hu0 @e1 @e2 @e3 @rchR.eq_1) wb0 wb0 wb0 (wb1 (outs [0])) ⟨fun _=>?_,wb0⟩
    all_goals exact⟨s,⟨hs,hj,e1,e2,e3⟩,rfl,by simp[rchR,e1,e2,e3]⟩
   ·obtain⟨k,hk⟩:∃k,s.uq.length=k+1:=⟨s.uq.length-1,by omega⟩
    have hk0:(0:Int)<(s.uq.length:Int):=by omega
    have hk1:0<s.uq.length:=by omega
    have hq:=hs.rm.u
    obtain⟨a0,a1⟩:=hs.qu _ (List.getElem_mem (by omega:k<s.uq.length))
    have a2:(s.uq[k]'(by omega)).toNat<w.sys.units.length:=by omega
    obtain⟨b1,b2⟩:=hs.popU hk
    have hc:=List.getElem_mem a2
    have h9:=hw.u _ hc
    have d1:=b1.addI h9
    have d2:=meas_addI (popU s k) w.sys.units[(s.uq[k]'(by omega)).toNat].home
    have j1:=hJ.u s k hs hj hk a2
    have hil:(popU s k).il.length=w.sys.insts.length:=congrArg (·.2.1) b1.sz
    have hq3:=b1.rm.i
    have uGu:=c_impl_rinst Kp.b Kp.o (popU s k) w.sys.units[(s.uq[k]'(by omega)).toNat].home h9.1 (by omega) (by omega)
    generalize (popU s k).addI w.sys.units[(s.uq[k]'(by omega)).toNat].home=T at uGu d1 d2 j1
    have uLu:=c_impl_last6 (.sc (.pointer (some ⟨Kp.b,Kp.o,none⟩))) (.sl 4 1 (s.cl.map boC)) (.sl 4 1 (s.il.map boC)) (.sl 4 1 (s.ul.map boC)) (.sl 3 1 (s.cq.map nC)) (.sl 3 1 (s.iq.map nC)) s.uq k hk (by omega)
    simp only[rchR,popU,List.map_take]at uGu
    generalize hx:w.sys.units[(s.uq[k]'(by omega)).toNat]=cx at uGu
    have hm:meas T<meas s:=by omega
    repeat' (first
     |(refine WPS.pinAt 59 58 ?_ ?_;(focus(simp;done));refine fun K hK=>?_;simp -implicitDefEqProofs +contextual [-Int.not_le,-Int.not_lt,-Nat.not_le,-Nat.not_lt,-List.all_eq_true,-List.all_eq_false,-List.any_eq_true,-List.any_eq_false,hk0,hk1,hc0,hc0',hi0,hi0',hcs,Wd.cs,Un.cs,a0,a1,a2,hx,rchR];(repeat1' (first|apply hK|apply And.intro|intro _))<;>clear hK K)
     |((first|refine WPS.rnTo tok 59 _ (by simp;rfl) fun K hK=>?_|refine WPc.rq tok rfl fun K hK=>?_|refine WPS.rn tok _ (by simp[aheadS];rfl) fun K hK=>?_);simp -implicitDefEqProofs +contextual [-Int.not_le,-Int.not_lt,-Nat.not_le,-Nat.not_lt,-List.all_eq_true,-List.all_eq_false,-List.any_eq_true,-List.any_eq_false,hk0,hk1,hc0,hc0',hi0,hi0',hcs,Wd.cs,Un.cs,a0,a1,a2,hx,rchR];(repeat1' (first|apply hK|apply And.intro|intro _))<;>clear hK K<;>(try dsimp only[List.drop]))
     |apply WPc.sq
     |apply WPc.block
     |(apply WPS.cU (hc:=uGu);(case ho=>exact rfl);(case q=>(repeat' (first|refine And.intro ?_ ?_|intro _|(with_reducible exact cleanOut_nil)|(refine Eqv.mk ?_;first|rfl|(simp -implicitDefEqProofs [hk0,hk1,hc0,hc0',hi0,hi0',hcs,Wd.cs,Un.cs,a0,a1,a2,hx,rchR];done))|(simp -implicitDefEqProofs [hk0,hk1,hc0,hc0',hi0,hi0',hcs,Wd.cs,Un.cs,a0,a1,a2,hx,rchR];done)|(simp -implicitDefEqProofs [hk0,hk1,hc0,hc0',hi0,hi0',hcs,Wd.cs,Un.cs,a0,a1,a2,hx,rchR];rfl)|(simp;done)|(simp;rfl)|rfl))))
     |(apply WPS1.cU (hc:=uLu);(case ho=>exact rfl);(case q=>(repeat' (first|refine And.intro ?_ ?_|intro _|(with_reducible exact cleanOut_nil)|(refine Eqv.mk ?_;first|rfl|(simp -implicitDefEqProofs [hk0,hk1,hc0,hc0',hi0,hi0',hcs,Wd.cs,Un.cs,a0,a1,a2,hx,rchR];done))|(simp -implicitDefEqProofs [hk0,hk1,hc0,hc0',hi0,hi0',hcs,Wd.cs,Un.cs,a0,a1,a2,hx,rchR];done)|(simp -implicitDefEqProofs [hk0,hk1,hc0,hc0',hi0,hi0',hcs,Wd.cs,Un.cs,a0,a1,a2,hx,rchR];rfl)|(simp;done)|(simp;rfl)|rfl))))
     |(apply WPS.cU (hc:=uLu);(case ho=>exact rfl);(case q=>(repeat' (first|refine And.intro ?_ ?_|intro _|(with_reducible exact cleanOut_nil)|(refine Eqv.mk ?_;first|rfl|(simp -implicitDefEqProofs [hk0,hk1,hc0,hc0',hi0,hi0',hcs,Wd.cs,Un.cs,a0,a1,a2,hx,rchR];done))|(simp -implicitDefEqProofs [hk0,hk1,hc0,hc0',hi0,hi0',hcs,Wd.cs,Un.cs,a0,a1,a2,hx,rchR];done)|(simp -implicitDefEqProofs [hk0,hk1,hc0,hc0',hi0,hi0',hcs,Wd.cs,Un.cs,a0,a1,a2,hx,rchR];rfl)|(simp;done)|(simp;rfl)|rfl))))
     |(refine WPc.sched2 (id:=5) tok [(11,[0,64,1064,2064]),(15,[0,68,1068,2068])] [(0,[0,64,1064,2064]),(1,[0,64,1064,2064]),(2,[0,64,1064,2064]),(3,[0,64,1064,2064]),(8,[]),(9,[]),(10,[])] [(4,[]),(5,[0,64,1064,2064]),(6,[0,64,1064,2064]),(7,[0,64,1064,2064]),(11,[0,64,1064,2064]),(12,[]),(13,[]),(14,[]),(15,[0,68,1068,2068])] [(11,[0,64,1064,2064]),(4,[]),(5,[]),(6,[]),(7,[]),(12,[]),(13,[]),(14,[]),(15,[0,68,1068,2068])] (by kernel_rfl) fun K hK=>?_;simp -implicitDefEqProofs +contextual [-Int.not_le,-Int.not_lt,-Nat.not_le,-Nat.not_lt,-List.all_eq_true,-List.all_eq_false,-List.any_eq_true,-List.any_eq_false,hk0,hk1,hc0,hc0',hi0,hi0',hcs,Wd.cs,Un.cs,a0,a1,a2,hx,rchR];(repeat1' (first|refine hK _ ?_ ?_|apply And.intro|intro _))<;>clear hK K)
     |(refine WPS1.val tok fun K hK=>?_;simp -implicitDefEqProofs +contextual [-Int.not_le,-Int.not_lt,-Nat.not_le,-Nat.not_lt,-List.all_eq_true,-List.all_eq_false,-List.any_eq_true,-List.any_eq_false,hk0,hk1,hc0,hc0',hi0,hi0',hcs,Wd.cs,Un.cs,a0,a1,a2,hx,rchR];(repeat1' (first|apply hK|apply And.intro|intro _))<;>clear hK K)
     |(refine WPS.nil ?_)
     |(refine WPc.condT ?_ ?_;(focus(simp;done)))
     |(refine WPc.condF ?_ ?_;(focus(simp;done))))
    all_goals
     refine⟨T,⟨⟨d1,j1⟩,by first|omega|(simp only;omega)|assumption⟩,rfl,rfl,?_,?_⟩<;>simp (disch:=omega) [wrap64,rchR]
  ·obtain⟨k,hk⟩:∃k,s.iq.length=k+1:=⟨s.iq.length-1,by omega⟩
   have hk0:(0:Int)<(s.iq.length:Int):=by omega
   have hk1:0<s.iq.length:=by omega
   have hq:=hs.rm.i
   obtain⟨a0,a1⟩:=hs.qi _ (List.getElem_mem (by omega:k<s.iq.length))
   have a2:(s.iq[k]'(by omega)).toNat<w.sys.insts.length:=by omega
   obtain⟨b1,b2⟩:=hs.popI hk
   have hc:=List.getElem_mem a2
   obtain⟨d1,d2⟩:=b1.goI hw hc
   have j1:=hJ.i s k hs hj hk a2
   have hcl:(popI s k).cl.length=w.sys.heap.length:=congrArg (·.1) b1.sz
   have hil:(popI s k).il.length=w.sys.insts.length:=congrArg (·.2.1) b1.sz
   have uGi:=c_impl_rgoInst Kp.b Kp.o (popI s k) w.sys.insts[(s.iq[k]'(by omega)).toNat] b1.rm (hri _ hc).vals (hri _ hc).links (by rw[hcl];exact(hw.i _ hc).1) (by rw[hil];exact(hw.i _ hc).2)
   generalize goI (popI s k) w.sys.insts[(s.iq[k]'(by omega)).toNat]=T at uGi d1 d2 j1
   have uLi:=c_impl_last5 (.sc (.pointer (some ⟨Kp.b,Kp.o,none⟩))) (.sl 4 1 (s.cl.map boC)) (.sl 4 1 (s.il.map boC)) (.sl 4 1 (s.ul.map boC)) (.sl 3 1 (s.cq.map nC)) (.sl 3 1 (s.uq.map nC)) s.iq k hk (by omega)
   simp only[rchR,popI,In.av,List.map_take]at uGi
   generalize hx:w.sys.insts[(s.iq[k]'(by omega)).toNat]=cx at uGi
   have hm:meas T<meas s:=by omega
   repeat' (first
    |(refine WPS.pinAt 37 36 ?_ ?_;(focus(simp;done));refine fun K hK=>?_;simp -implicitDefEqProofs +contextual [-Int.not_le,-Int.not_lt,-Nat.not_le,-Nat.not_lt,-List.all_eq_true,-List.all_eq_false,-List.any_eq_true,-List.any_eq_false,hk0,hk1,hc0,hc0',hcs,Wd.cs,In.cs,a0,a1,a2,hx,rchR];(repeat1' (first|apply hK|apply And.intro|intro _))<;>clear hK K)
    |((first|refine WPS.rnTo tok 37 _ (by simp;rfl) fun K hK=>?_|refine WPc.rq tok rfl fun K hK=>?_|refine WPS.rn tok _ (by simp[aheadS];rfl) fun K hK=>?_);simp -implicitDefEqProofs +contextual [-Int.not_le,-Int.not_lt,-Nat.not_le,-Nat.not_lt,-List.all_eq_true,-List.all_eq_false,-List.any_eq_true,-List.any_eq_false,hk0,hk1,hc0,hc0',hcs,Wd.cs,In.cs,a0,a1,a2,hx,rchR];(repeat1' (first|apply hK|apply And.intro|intro _))<;>clear hK K<;>(try dsimp only[List.drop]))
    |apply WPc.sq
    |apply WPc.block
    |(apply WPS1.cU (hc:=uLi);(case ho=>exact rfl);(case q=>(repeat' (first|refine And.intro ?_ ?_|intro _|(with_reducible exact cleanOut_nil)|(refine Eqv.mk ?_;first|rfl|(simp -implicitDefEqProofs [hk0,hk1,hc0,hc0',hcs,Wd.cs,In.cs,a0,a1,a2,hx,rchR];done))|(simp -implicitDefEqProofs [hk0,hk1,hc0,hc0',hcs,Wd.cs,In.cs,a0,a1,a2,hx,rchR];done)|(simp -implicitDefEqProofs [hk0,hk1,hc0,hc0',hcs,Wd.cs,In.cs,a0,a1,a2,hx,rchR];rfl)|(simp;done)|(simp;rfl)|rfl))))
    |(apply WPS.cU (hc:=uLi);(case ho=>exact rfl);(case q=>(repeat' (first|refine And.intro ?_ ?_|intro _|(with_reducible exact cleanOut_nil)|(refine Eqv.mk ?_;first|rfl|(simp -implicitDefEqProofs [hk0,hk1,hc0,hc0',hcs,Wd.cs,In.cs,a0,a1,a2,hx,rchR];done))|(simp -implicitDefEqProofs [hk0,hk1,hc0,hc0',hcs,Wd.cs,In.cs,a0,a1,a2,hx,rchR];done)|(simp -implicitDefEqProofs [hk0,hk1,hc0,hc0',hcs,Wd.cs,In.cs,a0,a1,a2,hx,rchR];rfl)|(simp;done)|(simp;rfl)|rfl))))
    |(apply WPS.cU (hc:=uGi);(case ho=>exact rfl);(case q=>(repeat' (first|refine And.intro ?_ ?_|intro _|(with_reducible exact cleanOut_nil)|(refine Eqv.mk ?_;first|rfl|(simp -implicitDefEqProofs [hk0,hk1,hc0,hc0',hcs,Wd.cs,In.cs,a0,a1,a2,hx,rchR];done))|(simp -implicitDefEqProofs [hk0,hk1,hc0,hc0',hcs,Wd.cs,In.cs,a0,a1,a2,hx,rchR];done)|(simp -implicitDefEqProofs [hk0,hk1,hc0,hc0',hcs,Wd.cs,In.cs,a0,a1,a2,hx,rchR];rfl)|(simp;done)|(simp;rfl)|rfl))))
    |(refine WPc.sched2 (id:=3) tok [(11,[0,42,1042,2042]),(14,[0,45,1045,2045])] [(0,[0,42,1042,2042]),(1,[0,42,1042,2042]),(2,[0,42,1042,2042]),(3,[0,42,1042,2042]),(8,[]),(9,[]),(10,[])] [(4,[]),(5,[0,42,1042,2042]),(6,[0,42,1042,2042]),(7,[0,42,1042,2042]),(11,[0,42,1042,2042]),(12,[]),(13,[]),(14,[0,45,1045,2045])] [(11,[0,42,1042,2042]),(4,[]),(5,[]),(6,[]),(7,[]),(12,[]),(13,[]),(14,[0,45,1045,2045])] (by kernel_rfl) fun K hK=>?_;simp -implicitDefEqProofs +contextual [-Int.not_le,-Int.not_lt,-Nat.not_le,-Nat.not_lt,-List.all_eq_true,-List.all_eq_false,-List.any_eq_true,-List.any_eq_false,hk0,hk1,hc0,hc0',hcs,Wd.cs,In.cs,a0,a1,a2,hx,rchR];(repeat1' (first|refine hK _ ?_ ?_|apply And.intro|intro _))<;>clear hK K)
    |(refine WPS1.val tok fun K hK=>?_;simp -implicitDefEqProofs +contextual [-Int.not_le,-Int.not_lt,-Nat.not_le,-Nat.not_lt,-List.all_eq_true,-List.all_eq_false,-List.any_eq_true,-List.any_eq_false,hk0,hk1,hc0,hc0',hcs,Wd.cs,In.cs,a0,a1,a2,hx,rchR];(repeat1' (first|apply hK|apply And.intro|intro _))<;>clear hK K)
    |(refine WPS.nil ?_)
    |(refine WPc.condT ?_ ?_;(focus(simp;done)))
    |(refine WPc.condF ?_ ?_;(focus(simp;done))))
   all_goals
    refine⟨T,⟨⟨d1,j1⟩,by first|omega|(simp only;omega)|assumption⟩,rfl,rfl,?_,?_⟩<;>simp (disch:=omega) [wrap64,rchR]
 ·obtain⟨k,hk⟩:∃k,s.cq.length=k+1:=⟨s.cq.length-1,by omega⟩
  have hk0:(0:Int)<(s.cq.length:Int):=by omega
  have hk1:0<s.cq.length:=by omega
  have hq:=hs.rm.c
  obtain⟨a0,a1⟩:=hs.qc _ (List.getElem_mem (by omega:k<s.cq.length))
  have a2:(s.cq[k]'(by omega)).toNat<w.sys.heap.length:=by omega
  obtain⟨b1,b2⟩:=hs.popC hk
  have hc:=List.getElem_mem a2
  obtain⟨d1,d2⟩:=b1.goC hw hc
  have j1:=hJ.c s k hs hj hk a2
  have hcl:(popC s k).cl.length=w.sys.heap.length:=congrArg (·.1) b1.sz
  have hul:(popC s k).ul.length=w.sys.units.length:=congrArg (·.2.2) b1.sz
  have uGc:=c_impl_rgoCell Kp.b Kp.o (popC s k) w.sys.heap[(s.cq[k]'(by omega)).toNat] b1.rm (hrh _ hc).vals (by rw[hcl];exact(hw.c _ hc).1) (by rw[hul];exact(hw.c _ hc).2)
  generalize goC (popC s k) w.sys.heap[(s.cq[k]'(by omega)).toNat]=T at uGc d1 d2 j1
  have uLc:=c_impl_last4 (.sc (.pointer (some ⟨Kp.b,Kp.o,none⟩))) (.sl 4 1 (s.cl.map boC)) (.sl 4 1 (s.il.map boC)) (.sl 4 1 (s.ul.map boC)) (.sl 3 1 (s.iq.map nC)) (.sl 3 1 (s.uq.map nC)) s.cq k hk (by omega)
  simp only[rchR,popC,Cl.av,List.map_take]at uGc
  generalize hx:w.sys.heap[(s.cq[k]'(by omega)).toNat]=cx at uGc
  have hm:meas T<meas s:=by omega
  repeat' (first
   |(refine WPS.pinAt 15 14 ?_ ?_;(focus(simp;done));refine fun K hK=>?_;simp -implicitDefEqProofs +contextual [-Int.not_le,-Int.not_lt,-Nat.not_le,-Nat.not_lt,-List.all_eq_true,-List.all_eq_false,-List.any_eq_true,-List.any_eq_false,hk0,hk1,hcs,Wd.cs,Cl.cs,a0,a1,a2,hx,rchR];(repeat1' (first|apply hK|apply And.intro|intro _))<;>clear hK K)
   |((first|refine WPS.rnTo tok 15 _ (by simp;rfl) fun K hK=>?_|refine WPc.rq tok rfl fun K hK=>?_|refine WPS.rn tok _ (by simp[aheadS];rfl) fun K hK=>?_);simp -implicitDefEqProofs +contextual [-Int.not_le,-Int.not_lt,-Nat.not_le,-Nat.not_lt,-List.all_eq_true,-List.all_eq_false,-List.any_eq_true,-List.any_eq_false,hk0,hk1,hcs,Wd.cs,Cl.cs,a0,a1,a2,hx,rchR];(repeat1' (first|apply hK|apply And.intro|intro _))<;>clear hK K<;>(try dsimp only[List.drop]))
   |apply WPc.sq
   |apply WPc.block
   |(apply WPS.cU (hc:=uGc);(case ho=>exact rfl);(case q=>(repeat' (first|refine And.intro ?_ ?_|intro _|(with_reducible exact cleanOut_nil)|(refine Eqv.mk ?_;first|rfl|(simp -implicitDefEqProofs [hk0,hk1,hcs,Wd.cs,Cl.cs,a0,a1,a2,hx,rchR];done))|(simp -implicitDefEqProofs [hk0,hk1,hcs,Wd.cs,Cl.cs,a0,a1,a2,hx,rchR];done)|(simp -implicitDefEqProofs [hk0,hk1,hcs,Wd.cs,Cl.cs,a0,a1,a2,hx,rchR];rfl)|(simp;done)|(simp;rfl)|rfl))))
   |(apply WPS1.cU (hc:=uLc);(case ho=>exact rfl);(case q=>(repeat' (first|refine And.intro ?_ ?_|intro _|(with_reducible exact cleanOut_nil)|(refine Eqv.mk ?_;first|rfl|(simp -implicitDefEqProofs [hk0,hk1,hcs,Wd.cs,Cl.cs,a0,a1,a2,hx,rchR];done))|(simp -implicitDefEqProofs [hk0,hk1,hcs,Wd.cs,Cl.cs,a0,a1,a2,hx,rchR];done)|(simp -implicitDefEqProofs [hk0,hk1,hcs,Wd.cs,Cl.cs,a0,a1,a2,hx,rchR];rfl)|(simp;done)|(simp;rfl)|rfl))))
   |(apply WPS.cU (hc:=uLc);(case ho=>exact rfl);(case q=>(repeat' (first|refine And.intro ?_ ?_|intro _|(with_reducible exact cleanOut_nil)|(refine Eqv.mk ?_;first|rfl|(simp -implicitDefEqProofs [hk0,hk1,hcs,Wd.cs,Cl.cs,a0,a1,a2,hx,rchR];done))|(simp -implicitDefEqProofs [hk0,hk1,hcs,Wd.cs,Cl.cs,a0,a1,a2,hx,rchR];done)|(simp -implicitDefEqProofs [hk0,hk1,hcs,Wd.cs,Cl.cs,a0,a1,a2,hx,rchR];rfl)|(simp;done)|(simp;rfl)|rfl))))
   |(refine WPc.sched2 (id:=1) tok [(11,[0,20,1020,2020]),(14,[0,23,1023,2023])] [(0,[0,20,1020,2020]),(1,[0,20,1020,2020]),(2,[0,20,1020,2020]),(3,[0,20,1020,2020]),(8,[]),(9,[]),(10,[])] [(4,[]),(5,[0,20,1020,2020]),(6,[0,20,1020,2020]),(7,[0,20,1020,2020]),(11,[0,20,1020,2020]),(12,[]),(13,[]),(14,[0,23,1023,2023])] [(11,[0,20,1020,2020]),(4,[]),(5,[]),(6,[]),(7,[]),(12,[]),(13,[]),(14,[0,23,1023,2023])] (by kernel_rfl) fun K hK=>?_;simp -implicitDefEqProofs +contextual [-Int.not_le,-Int.not_lt,-Nat.not_le,-Nat.not_lt,-List.all_eq_true,-List.all_eq_false,-List.any_eq_true,-List.any_eq_false,hk0,hk1,hcs,Wd.cs,Cl.cs,a0,a1,a2,hx,rchR];(repeat1' (first|refine hK _ ?_ ?_|apply And.intro|intro _))<;>clear hK K)
   |(refine WPS1.val tok fun K hK=>?_;simp -implicitDefEqProofs +contextual [-Int.not_le,-Int.not_lt,-Nat.not_le,-Nat.not_lt,-List.all_eq_true,-List.all_eq_false,-List.any_eq_true,-List.any_eq_false,hk0,hk1,hcs,Wd.cs,Cl.cs,a0,a1,a2,hx,rchR];(repeat1' (first|apply hK|apply And.intro|intro _))<;>clear hK K)
   |(refine WPS.nil ?_)
   |(refine WPc.condT ?_ ?_;(focus(simp;done))))
  all_goals
   refine⟨T,⟨⟨d1,j1⟩,by first|omega|(simp only;omega)|assumption⟩,rfl,rfl,?_,?_⟩<;>simp (disch:=omega) [wrap64,rchR]
end Go.Own
namespace Go.Own
variable {P:Program}{tt:Nat→Option TI}{st st':St}[Laid]{ops:Array Oper}{l:List (Nat×List Nat)}{Ψ Ψ':St→Prop}{k:Nat}{T T':List Nat}{o:Oper}
def runG(tt:Nat→Option TI)(ops:Array Oper)(te:List (Nat×List Nat)):Nat→List Nat→St→(St→Prop)→Prop
 |0,_,st,K=>K st
 |n+1,E,st,K=>∀k,k∈E→∃s,effS tt ops st (teOf te k) ops[k]?=some s∧runG tt ops te n (E.erase k) s K
def chkG(te:List (Nat×List Nat))(ops:Array Oper)(l:List (Nat×List Nat)):Nat→List Nat→Array Bool→Bool
 |0,_,listed=>schedF te ops listed l
 |n+1,E,listed=>(Region.ready .any ops listed==E) && !E.isEmpty&&E.all fun k=>chkG te ops l n (E.erase k) (listed.setIfInBounds k true)
theorem one_stp{te:List (Nat×List Nat)}{n:Nat}{listed:Array Bool}(ho:ops[k]?=some o)(hw:wantA ops st o=some true)(h:Stp P o st T' Ψ')(hsub:∀x,x∈T'→x∈teOf te k)
  (hk:∀s,Ψ' s→HAnyF P ops (teOf te) n (listed.setIfInBounds k true) s Ψ) {w0:World} {β0 β:Blk} {a:Act} {w:World} (hrl:RL w0 β0 st β a w) :
  wpOp P ops (post (norm Ψ) w0 β0) k (fun a' w'=>∃Z':Nat→Nat→Prop,(∀b,ZZ (teOf te k) β w b→w'.heap[b]?=w.heap[b]?)∧(∀e b,ZZ (teOf te k) β w b→ZZ (teOf te e) β w b→Z' e b) ∧
    wpAnyF P .any ops (post (norm Ψ) w0 β0) n (listed.setIfInBounds k true) Z' a' w') a w:=by
 unfold wpOp
 simp only[ho,want_of hrl.rel hw,if_true]
 refine .inl (Oper.wp_mono ?_ (h w0 β0 β a w hrl _))
 rintro a' w' ⟨st',β',h1,h2,h3,h4⟩
 have h3T:Fr T' β w β' w':=h3
 refine⟨fun e=>ZZ (teOf te e) β' w',fun b hb=>(h3T.to b hb.1 fun id p e hm=>hb.2 id p e (hsub _ hm)).2,fun e b hi hb=>?_,hk st' h1 w0 β0 β' a' w' h2⟩
 have:=(h3T.to b hb.1 fun id p e hm=>hi.2 id p e (hsub _ hm)).1
 exact⟨Nat.lt_of_lt_of_le hb.1 h4,fun id p e=>hb.2 id p (this▸e)⟩
theorem groupF(tok:TOk P tt){te:List (Nat×List Nat)}(hs:Region.noSelect ops=true):∀(n:Nat) (E:List Nat) (listed:Array Bool) (st:St),chkG te ops l n E listed=true→runG tt ops te n E st (fun s=>WPS P ops l s Ψ) →
  HAnyF P ops (teOf te) (n+l.length) listed st Ψ
 |0,E,listed,st,hc,hr=>by
  rw[Nat.zero_add]
  exact hr te listed hs hc
 |n+1,E,listed,st,hc,hr=>by
  simp only[chkG,Bool.and_eq_true,beq_iff_eq,Bool.not_eq_true']at hc
  obtain⟨⟨b1,b2⟩,b3⟩:=hc
  intro w0 β0 β a w hrl
  rw[show n+1+l.length=(n+l.length)+1 by omega]
  refine⟨fun h0=>(by rw[b1]at h0;rw[h0]at b2;cases b2),fun k hk=>?_⟩
  rw[b1]at hk
  obtain⟨s,e1,e2⟩:=hr k hk
  have hck:=List.all_eq_true.1 b3 k hk
  unfold effS at e1
  split at e1
  ·rename_i o ho
   split at e1
   ·rename_i hc
    obtain⟨c1,c2,c3⟩:=hc
    simp only[Option.bind_eq_some_iff]at e1
    obtain⟨⟨v,st2,T2⟩,d1,d2⟩:=e1
    unfold finS at d2
    split at d2
    ·rename_i hT
     injection d2 with d2
     subst d2
     exact one_stp ho c2 (Stp.step tok c3 d1 hT.2) (fun x hx=>by simpa using List.all_eq_true.1 hT.1 x hx) (fun s hs'=>hs'▸groupF tok hs n _ _ _ hck e2) hrl
    ·simp at d2
   ·simp at e1
  ·simp at e1
def chkP(te:List (Nat×List Nat))(ops:Array Oper)(E:List Nat)(l:List (Nat×List Nat)):Array Bool→List (Nat×List Nat)→Bool
 |listed,[]=>chkG te ops l E.length E listed
 |listed,(k,T)::r=>(match ops[k]? with
  |some o=>valOp o.op&&takeF te ops listed k T
  |none=>false)&&chkP te ops E l (listed.setIfInBounds k true) r
def WPG(P:Program)(ops:Array Oper)(te p:List (Nat×List Nat))(E:List Nat)(l:List (Nat×List Nat))(st:St)(Ψ:St→Prop):Prop :=
 ∀listed,Region.noSelect ops=true→chkP te ops E l listed p=true→HAnyF P ops (teOf te) (p.length+(E.length+l.length)) listed st Ψ
theorem WPG.take{te:List (Nat×List Nat)}{E:List Nat}(ho:ops[k]?=some o)(hd:dstOk st o=true){v:AV}{p:List (Nat×List Nat)}(hv:(wantA ops st o=some true∧Val P o st v T)∨(wantA ops st o=some false∧v=.sc undef))
  (hk:WPG P ops te p E l (putSt st o.dst v) Ψ):WPG P ops te ((k,T)::p) E l st Ψ:=by
 intro listed hs hB
 simp only[chkP,ho,Bool.and_eq_true]at hB
 obtain⟨⟨_,hB⟩,hB'⟩:=hB
 have hk:=hk _ hs hB'
 intro w0 β0 β a w hr
 simp only[takeF,Bool.and_eq_true]at hB
 obtain⟨⟨⟨k2,k3⟩,k4⟩,k5⟩:=hB
 have hR:∀j,(ops[j]?).isSome=true→j≠k→j∉aft ops listed k→listed.getD j true=false→∀b,ZZ T β w b→ZZ (teOf te j) β w b:=fun j hjs hj hjB hun b hb=>by
  by_cases hlt:j<ops.size
  ·have:=List.all_eq_true.1 k5 j (List.mem_range.2 hlt)
   rw[hun]at this
   simp only[Bool.or_false,Bool.or_eq_true,beq_iff_eq,List.contains_eq_mem,decide_eq_true_eq]at this
   rcases this with (h|h)|h
   ·exact absurd h hj
   ·exact absurd h hjB
   ·exact⟨hb.1,fun id p e hm=>hb.2 id p e (by simpa using List.all_eq_true.1 h _ hm)⟩
  ·simp[Array.getElem?_eq_none (Nat.le_of_not_lt hlt)]at hjs
 have hQ:∀(u:Value) c a' w',post (norm Ψ) w0 β0 (.panic c) (a'.put o.dst u) w'→post (norm Ψ) w0 β0 (.panic c) a' w':=by
  rintro u c a' w' ⟨s,β',⟨h,_⟩,_⟩
  cases h
 have hlen:((k,T)::p).length+(E.length+l.length)=(p.length+(E.length+l.length))+1:=by simp only[List.length_cons];omega
 rw[hlen]
 rcases hv with ⟨hw,hval⟩|⟨hw,rfl⟩
 ·obtain⟨u,hu,hvr⟩:=hval β a w hr.rel.ev hr.rel.uq hr.rel.ob
  exact wpAnyF_first ho (Region.noSelect_spec hs) (hQ u) _ (ZZ T β w) _ listed _ a w (Region.free_spec ho k2) (okB_spec k4) hR (by simpa using k3)
   (.inl ⟨want_of hr.rel hw,fun w2 hz=>hu w2 fun b hb hq=>hz b ⟨hb,hq⟩⟩) (hk w0 β0 β _ w (hr.put (dst_lt hd) hvr))
 ·exact wpAnyF_first (v:=undef) ho (Region.noSelect_spec hs) (hQ undef) _ (ZZ T β w) _ listed _ a w (Region.free_spec ho k2) (okB_spec k4) hR (by simpa using k3)
   (.inr ⟨want_of hr.rel hw,rfl⟩) (hk w0 β0 β _ w (hr.put (dst_lt hd) (.sc _)))
theorem WPG.step(tok:TOk P tt){te p:List (Nat×List Nat)}{E:List Nat}(h:stepS tt ops st T ops[k]?=some st')(hk:WPG P ops te p E l st' Ψ):WPG P ops te ((k,T)::p) E l st Ψ:=by
 unfold stepS at h
 split at h
 ·rename_i o ho
  split at h
  ·rename_i hc
   obtain⟨c1,c2⟩:=hc
   simp only[runL,Option.bind_eq_some_iff]at h
   obtain⟨s1,h1,h2⟩:=h
   injection h2 with h2
   subst h2
   have cV:isV o.op=true:=by simp only[valOp,Bool.and_eq_true]at c1;exact c1.1
   unfold stepO at h1
   split at h1
   ·rename_i hw
    split at h1
    ·rename_i hd
     simp only[Option.bind_eq_some_iff]at h1
     obtain⟨⟨v,st2,T2⟩,e1,e2⟩:=h1
     obtain⟨rfl,hval⟩:=valT tok cV c2 e1
     unfold fin at e2
     split at e2
     ·injection e2 with e2
      subst e2
      exact WPG.take ho hd (.inl ⟨hw,hval⟩) hk
     ·simp at e2
    ·simp at h1
   ·rename_i hw
    split at h1
    ·rename_i hd
     injection h1 with h1
     subst h1
     exact WPG.take ho hd (.inr ⟨hw,rfl⟩) hk
    ·simp at h1
   ·simp at h1
  ·simp at h
 ·simp at h
theorem WPG.nil(tok:TOk P tt){te:List (Nat×List Nat)}{E:List Nat}(h:runG tt ops te E.length E st (fun s=>WPS P ops l s Ψ)):WPG P ops te [] E l st Ψ:=fun listed hs hc=>by
 simp only[List.length_nil,Nat.zero_add]
 exact groupF tok hs E.length E listed st hc h
theorem WPG.gst{te p:List (Nat×List Nat)}{E:List Nat}(h:Gst st st')(hk:WPG P ops te p E l st' Ψ):WPG P ops te p E l st Ψ:=fun listed h1 h2 w0 β0 β a w hr=>by
 obtain⟨β',g1,g2⟩:=h w0 β0 β a w hr
 refine wpAnyF_anti _ _ a w ?_ (hk listed h1 h2 w0 β0 β' a w g1)
 rintro e b ⟨q1,q2⟩
 exact⟨q1,fun id p hb=>q2 id p (g2 _ _ hb)⟩
theorem WPG.pinAt[C:Pin]{te p:List (Nat×List Nat)}{E:List Nat}(d t:Nat)(hd:dstS ops p=some d)
  (h:∀K:St→Prop,(∀s,WPG P ops te p E l s Ψ→K s)→lk st.tm t=.sc (.pointer (some ⟨C.b,C.o,none⟩))∧K (pinS st t)):WPG P ops te p E l st Ψ:=by
 obtain⟨h1,h2⟩:=h (fun s=>WPG P ops te p E l s Ψ) fun _ h=>h
 exact WPG.gst (Gst.pin h1) h2
theorem WPG.run(tok:TOk P tt){te:List (Nat×List Nat)}{E:List Nat}:∀(n:Nat) {p:List (Nat×List Nat)} {st st':St} (_:runS tt ops (p.take n) st=some st') (_:WPG P ops te (p.drop n) E l st' Ψ),WPG P ops te p E l st Ψ
 |0,p,st,st',h,hk=>by
  simp only[List.take_zero,runS,Option.some.injEq]at h
  subst h
  simpa using hk
 |n+1,[],st,st',h,hk=>by
  simp only[List.take_nil,runS,Option.some.injEq]at h
  subst h
  simpa using hk
 |n+1,(k,T)::p,st,st',h,hk=>by
  simp only[List.take_succ_cons,runS,Option.bind_eq_some_iff]at h
  obtain⟨s1,h1,h2⟩:=h
  exact WPG.step tok h1 (WPG.run tok n h2 (by simpa using hk))
theorem WPG.rnTo(tok:TOk P tt){te p:List (Nat×List Nat)}{E:List Nat}(d m:Nat)(hm:upToS ops d p 0=m+1)
  (h:∀K:St→Prop,(∀s,WPG P ops te (p.drop (m+1)) E l s Ψ→K s)→∃s,runS tt ops (p.take (m+1)) st=some s∧K s):WPG P ops te p E l st Ψ:=by
 obtain⟨s,h1,h2⟩:=h (fun s=>WPG P ops te (p.drop (m+1)) E l s Ψ) fun _ h=>h
 exact WPG.run tok (m+1) h1 h2
theorem WPG.rn(tok:TOk P tt){te p:List (Nat×List Nat)}{E:List Nat}(m:Nat)(hm:p.length=m+1)
  (h:∀K:St→Prop,(∀s,WPG P ops te [] E l s Ψ→K s)→∃s,runS tt ops p st=some s∧K s):WPG P ops te p E l st Ψ:=by
 obtain⟨s,h1,h2⟩:=h (fun s=>WPG P ops te [] E l s Ψ) fun _ h=>h
 refine WPG.run tok p.length (by rw[List.take_length];exact h1) (by rw[List.drop_length];exact h2)
theorem WPG.all(tok:TOk P tt){te:List (Nat×List Nat)}{E:List Nat}(h:∀K:St→Prop,(∀s,WPS P ops l s Ψ→K s)→runG tt ops te E.length E st K):WPG P ops te [] E l st Ψ :=
 WPG.nil tok (h _ fun _ h=>h)
theorem WPc.cutG{id:Nat}{c:Go.Code}{Φ:Exit→St→Prop}(st1:St)(h1:WPc P (.region id ops true) st (seqP (fun s=>FitS s st1) (fun _ _=>False)))(h2:WPc P c st1 Φ):WPc P (.seq (.region id ops true) c) st Φ :=
 WPc.seq (Ψ:=fun s=>FitS s st1) (h1.mono fun e s h=>by
  cases e with
  |normal=>exact h
  |_=>exact h.elim) fun s hs=>WPc.fit hs h2
end Go.Own
namespace Go.Own
variable {P:Program}{tt:Nat→Option TI}{st st':St}[Laid]{ops:Array Oper}{Ψ Ψ':St→Prop}{k:Nat}{T T':List Nat}{o:Oper}
inductive Tr where
 |done
 |nil
 |pin (t:Nat) (x:Tr)
 |adp (t i nid e k:Nat) (x:Tr)
 |val (k:Nat) (T:List Nat) (x:Tr)
 |eff (k:Nat) (x alt:Tr)
def Tr.keys:Tr→List Nat
 |.eff k _ alt=>k::alt.keys
 |_=>[]
def Tr.dep:Tr→Nat
 |.done=>0
 |.nil=>0
 |.pin _ x=>x.dep
 |.adp _ _ _ _ _ x=>x.dep
 |.val _ _ x=>x.dep+1
 |.eff _ x _=>x.dep+1
def chkT(te:List (Nat×List Nat))(ops:Array Oper):Tr→Bool→Nat→Array Bool→Bool
 |.done,b,n,listed => !b&&(Region.ready .any ops listed).isEmpty&&tiedB te
 |.nil,b,_,_=>b
 |.pin _ x,b,n,listed => !b&&chkT te ops x false 0 listed
 |.adp _ _ _ _ _ x,b,n,listed => !b&&chkT te ops x false 0 listed
 |.val k T x,b,n,listed => !b&&(match ops[k]? with
  |some o=>valOp o.op&&takeF te ops listed k T
  |none=>false)&&chkT te ops x false 0 (listed.setIfInBounds k true)
 |.eff k x alt,b,n,listed=>(b||(Region.ready .any ops listed==k::alt.keys))&&(!b||x.dep==n)&&chkT te ops x false 0 (listed.setIfInBounds k true)&&chkT te ops alt true (if b then n else x.dep) listed
class PinF where
 v:St→Nat→Prop
 f:St→Nat→St
 ok:∀st t,v st t→Gst st (f st t)
instance:PinF:=⟨fun _ _=>False,fun s _=>s,fun _ _ h=>h.elim⟩
instance [K:Pin]:PinF:=⟨fun st t=>lk st.tm t=.sc (.pointer (some ⟨K.b,K.o,none⟩)),pinS,fun _ _ h=>Gst.pin h⟩
def runT[Kp:PinF](tt:Nat→Option TI)(ops:Array Oper)(te:List (Nat×List Nat))(K:St→Prop):Tr→St→Prop
 |.done,st=>K st
 |.nil,_=>True
 |.pin t x,st=>Kp.v st t∧runT tt ops te K x (Kp.f st t)
 |.adp t i nid e k x,st=>∃s,Own.adoptC st t i nid e k=some s∧runT tt ops te K x s
 |.val k T x,st=>∃s,stepS tt ops st T ops[k]?=some s∧runT tt ops te K x s
 |.eff k x alt,st=>(∃s,effS tt ops st (teOf te k) ops[k]?=some s∧runT tt ops te K x s)∧runT tt ops te K alt st
theorem HAnyF.gst{te:List (Nat×List Nat)}{n:Nat}{listed:Array Bool}(h:Gst st st')(hk:HAnyF P ops (teOf te) n listed st' Ψ):HAnyF P ops (teOf te) n listed st Ψ:=fun w0 β0 β a w hr=>by
 obtain⟨β',g1,g2⟩:=h w0 β0 β a w hr
 refine wpAnyF_anti _ _ a w ?_ (hk w0 β0 β' a w g1)
 rintro e b ⟨q1,q2⟩
 exact⟨q1,fun id p hb=>q2 id p (g2 _ _ hb)⟩
theorem HAnyF.val(tok:TOk P tt)(hs:Region.noSelect ops=true){te:List (Nat×List Nat)}{n:Nat}{listed:Array Bool}(ho:(match ops[k]? with|some o=>valOp o.op&&takeF te ops listed k T|none=>false)=true)
  (h:stepS tt ops st T ops[k]?=some st') (hk:HAnyF P ops (teOf te) n (listed.setIfInBounds k true) st' Ψ):HAnyF P ops (teOf te) (n+1) listed st Ψ:=by
 have hG:WPG P ops te [(k,T)] [] [] st (fun _=>True)→True:=fun _=>trivial
 cases hok:ops[k]? with
 |none=>rw[hok]at ho;simp at ho
 |some o =>
  rw[hok]at ho h
  simp only[Bool.and_eq_true]at ho
  obtain⟨hv,hB⟩:=ho
  unfold stepS at h
  split at h
  ·rename_i o' hc
   injection hc with hc
   subst hc
   split at h
   ·rename_i hc
    obtain⟨c1,c2⟩:=hc
    simp only[runL,Option.bind_eq_some_iff]at h
    obtain⟨s1,h1,h2⟩:=h
    injection h2 with h2
    subst h2
    have cV:isV o.op=true:=by simp only[valOp,Bool.and_eq_true]at c1;exact c1.1
    intro w0 β0 β a w hr
    simp only[takeF,Bool.and_eq_true]at hB
    obtain⟨⟨⟨k2,k3⟩,k4⟩,k5⟩:=hB
    have hR:∀j,(ops[j]?).isSome=true→j≠k→j∉aft ops listed k→listed.getD j true=false→∀b,ZZ T β w b→ZZ (teOf te j) β w b:=fun j hjs hj hjB hun b hb=>by
     by_cases hlt:j<ops.size
     ·have:=List.all_eq_true.1 k5 j (List.mem_range.2 hlt)
      rw[hun]at this
      simp only[Bool.or_false,Bool.or_eq_true,beq_iff_eq,List.contains_eq_mem,decide_eq_true_eq]at this
      rcases this with (h|h)|h
      ·exact absurd h hj
      ·exact absurd h hjB
      ·exact⟨hb.1,fun id p e hm=>hb.2 id p e (by simpa using List.all_eq_true.1 h _ hm)⟩
     ·simp[Array.getElem?_eq_none (Nat.le_of_not_lt hlt)]at hjs
    have hQ:∀(u:Value) c a' w',post (norm Ψ) w0 β0 (.panic c) (a'.put o.dst u) w'→post (norm Ψ) w0 β0 (.panic c) a' w':=by
     rintro u c a' w' ⟨s,β',⟨h,_⟩,_⟩
     cases h
    unfold stepO at h1
    split at h1
    ·rename_i hw
     split at h1
     ·rename_i hd
      simp only[Option.bind_eq_some_iff]at h1
      obtain⟨⟨v,st2,T2⟩,e1,e2⟩:=h1
      obtain⟨rfl,hval⟩:=valT tok cV c2 e1
      unfold fin at e2
      split at e2
      ·injection e2 with e2
       subst e2
       obtain⟨u,hu,hvr⟩:=hval β a w hr.rel.ev hr.rel.uq hr.rel.ob
       exact wpAnyF_first hok (Region.noSelect_spec hs) (hQ u) _ (ZZ T β w) _ listed _ a w (Region.free_spec hok k2) (okB_spec k4) hR (by simpa using k3)
        (.inl ⟨want_of hr.rel hw,fun w2 hz=>hu w2 fun b hb hq=>hz b ⟨hb,hq⟩⟩) (hk w0 β0 β _ w (hr.put (dst_lt hd) hvr))
      ·simp at e2
     ·simp at h1
    ·rename_i hw
     split at h1
     ·rename_i hd
      injection h1 with h1
      subst h1
      exact wpAnyF_first (v:=undef) hok (Region.noSelect_spec hs) (hQ undef) _ (ZZ T β w) _ listed _ a w (Region.free_spec hok k2) (okB_spec k4) hR (by simpa using k3)
       (.inr ⟨want_of hr.rel hw,rfl⟩) (hk w0 β0 β _ w (hr.put (dst_lt hd) (.sc _)))
     ·simp at h1
    ·simp at h1
   ·simp at h
  ·simp at h
theorem treeF[Kp:PinF](tok:TOk P tt)(hs:Region.noSelect ops=true){te:List (Nat×List Nat)}:∀(t:Tr),(∀listed st,chkT te ops t false 0 listed=true→runT tt ops te Ψ t st→HAnyF P ops (teOf te) t.dep listed st Ψ) ∧
  (∀n listed st,chkT te ops t true n listed=true→runT tt ops te Ψ t st→∀k,k∈t.keys→∀w0 β0 β a w,RL w0 β0 st β a w →
   wpOp P ops (post (norm Ψ) w0 β0) k (fun a' w'=>∃Z':Nat→Nat→Prop,(∀b,ZZ (teOf te k) β w b→w'.heap[b]?=w.heap[b]?)∧(∀e b,ZZ (teOf te k) β w b→ZZ (teOf te e) β w b→Z' e b) ∧
    wpAnyF P .any ops (post (norm Ψ) w0 β0) n (listed.setIfInBounds k true) Z' a' w') a w)
 |.done=>⟨fun listed st hc hr=>by
   simp only[chkT,Bool.and_eq_true,Bool.not_false]at hc
   exact fun w0 β0 β a w hrl=>⟨by simpa using hc.1.2,st,β,⟨rfl,hr⟩,hrl⟩,fun n listed st hc=>by simp[chkT]at hc⟩
 |.nil=>⟨fun listed st hc=>by simp[chkT]at hc,fun n listed st hc hr k hk=>by simp[Tr.keys]at hk⟩
 |.pin t x=>⟨fun listed st hc hr=>by
   simp only[chkT,Bool.and_eq_true,Bool.not_false]at hc
   exact HAnyF.gst (Kp.ok _ _ hr.1) ((treeF tok hs x).1 listed _ hc.2 hr.2),fun n listed st hc=>by simp[chkT]at hc⟩
 |.adp t i nid e k x=>⟨fun listed st hc hr=>by
   simp only[chkT,Bool.and_eq_true,Bool.not_false]at hc
   obtain⟨s,h1,h2⟩:=hr
   exact HAnyF.gst (Gst.adoptC h1) ((treeF tok hs x).1 listed _ hc.2 h2),fun n listed st hc=>by simp[chkT]at hc⟩
 |.val k T x=>⟨fun listed st hc hr=>by
   simp only[chkT,Bool.and_eq_true,Bool.not_false]at hc
   obtain⟨s,h1,h2⟩:=hr
   exact HAnyF.val tok hs hc.1.2 h1 ((treeF tok hs x).1 _ _ hc.2 h2),fun n listed st hc=>by simp[chkT]at hc⟩
 |.eff k x alt=>by
  have one:∀(n:Nat) (listed:Array Bool) (st:St),x.dep=n→chkT te ops x false 0 (listed.setIfInBounds k true)=true→(∃s,effS tt ops st (teOf te k) ops[k]?=some s∧runT tt ops te Ψ x s)→∀w0 β0 β a w,RL w0 β0 st β a w →
    wpOp P ops (post (norm Ψ) w0 β0) k (fun a' w'=>∃Z':Nat→Nat→Prop,(∀b,ZZ (teOf te k) β w b→w'.heap[b]?=w.heap[b]?)∧(∀e b,ZZ (teOf te k) β w b→ZZ (teOf te e) β w b→Z' e b) ∧
     wpAnyF P .any ops (post (norm Ψ) w0 β0) n (listed.setIfInBounds k true) Z' a' w') a w:=by
   intro n listed st hn hc hr w0 β0 β a w hrl
   obtain⟨s,e1,e2⟩:=hr
   unfold effS at e1
   split at e1
   ·rename_i o ho
    split at e1
    ·rename_i hcc
     obtain⟨c1,c2,c3⟩:=hcc
     simp only[Option.bind_eq_some_iff]at e1
     obtain⟨⟨v,st2,T2⟩,d1,d2⟩:=e1
     unfold finS at d2
     split at d2
     ·rename_i hT
      injection d2 with d2
      subst d2
      subst hn
      exact one_stp ho c2 (Stp.step tok c3 d1 hT.2) (fun x hx=>by simpa using List.all_eq_true.1 hT.1 x hx) (fun s hs'=>hs'▸(treeF tok hs x).1 _ _ hc e2) hrl
     ·simp at d2
    ·simp at e1
   ·simp at e1
  refine⟨fun listed st hc hr=>?_,fun n listed st hc hr j hj=>?_⟩
  ·simp only[chkT,Bool.and_eq_true,Bool.false_or,Bool.not_false,Bool.true_or,beq_iff_eq,Bool.false_eq_true,if_false]at hc
   obtain⟨⟨⟨b1,_⟩,b3⟩,b4⟩:=hc
   intro w0 β0 β a w hrl
   refine⟨fun h0=>(by rw[b1]at h0;cases h0),fun j hj=>?_⟩
   rw[b1]at hj
   rcases List.mem_cons.1 hj with rfl|hj
   ·exact one _ listed st rfl b3 hr.1 w0 β0 β a w hrl
   ·exact(treeF tok hs alt).2 _ listed st b4 hr.2 j hj w0 β0 β a w hrl
  ·simp only[chkT,Bool.and_eq_true,Bool.true_or,Bool.not_true,Bool.false_or,beq_iff_eq,if_true]at hc
   obtain⟨⟨⟨_,b2⟩,b3⟩,b4⟩:=hc
   intro w0 β0 β a w hrl
   simp only[Tr.keys]at hj
   rcases List.mem_cons.1 hj with rfl|hj
   ·exact one n listed st b2 b3 hr.1 w0 β0 β a w hrl
   ·exact(treeF tok hs alt).2 n listed st b4 hr.2 j hj w0 β0 β a w hrl
theorem WPc.tree[Kp:PinF](tok:TOk P tt){id:Nat}{Φ:Exit→St→Prop}(te:List (Nat×List Nat))(t:Tr)(hn:(Region.noSelect ops&&chkT te ops t false 0 (Array.replicate ops.size false)&&(t.dep==ops.size))=true)
  (h:∀K:St→Prop,(∀s,Φ .normal s→K s)→runT tt ops te K t st):WPc P (.region id ops true) st Φ:=by
 simp only[Bool.and_eq_true,beq_iff_eq]at hn
 obtain⟨⟨h1,h2⟩,h3⟩:=hn
 have:=(treeF (Ψ:=Φ .normal) tok h1 t).1 _ st h2 (h _ fun _ h=>h)
 rw[h3]at this
 exact WPc.drawF tok _ this
section
variable [Kp:PinF]{te:List (Nat×List Nat)}{K:St→Prop}{x alt:Tr}
theorem runT.v(h:∀R:St→Prop,(∀s,runT tt ops te K x s→R s)→∃s,stepS tt ops st T ops[k]?=some s∧R s):runT tt ops te K (.val k T x) st:=h _ fun _ h=>h
theorem runT.e(h:∀R:St→Prop,(∀s,runT tt ops te K x s→R s)→∃s,effS tt ops st (teOf te k) ops[k]?=some s∧R s)(ha:runT tt ops te K alt st):runT tt ops te K (.eff k x alt) st:=⟨h _ fun _ h=>h,ha⟩
theorem runT.a{t i nid e kk:Nat}(h:∀R:St→Prop,(∀s,runT tt ops te K x s→R s)→∃s,Own.adoptC st t i nid e kk=some s∧R s):runT tt ops te K (.adp t i nid e kk x) st:=h _ fun _ h=>h
theorem runT.n:runT tt ops te K .nil st:=trivial
theorem runT.d(h:K st):runT tt ops te K .done st:=h
end
theorem runT.p[Kp:Pin]{te:List (Nat×List Nat)}{K:St→Prop}{x:Tr}{t:Nat}(h:∀R:St→Prop,(∀s,runT tt ops te K x s→R s)→lk st.tm t=.sc (.pointer (some ⟨Kp.b,Kp.o,none⟩))∧R (pinS st t)):runT tt ops te K (.pin t x) st:=h _ fun _ h=>h
attribute [simp] teOf
end Go.Own
set_option maxRecDepth 1000000
set_option maxHeartbeats 8000000
namespace Go.Own
attribute [local irreducible] WPc WPL WPS WPS1 WPS2 HAny endP runT
variable [Laid]
open Go.Lib Go.RowKit
def r00(w:Wd):Rch:=⟨List.replicate w.sys.heap.length false,List.replicate w.sys.insts.length false,List.replicate w.sys.units.length false,[],[],[]⟩
def entC(r:Rch)(e:En):Rch:=r.addI e.inst
def entsC(r:Rch)(l:List En):Rch:=l.foldl entC r
def tskC(r:Rch)(t:Tk):Rch:=macC r t.mac
def tsksC(r:Rch)(l:List Tk):Rch:=l.foldl tskC r
def startW(w:Wd):Rch:=tsksC (entsC ((r00 w).addI 0) w.libs) w.tasks
theorem entsC_next(r:Rch){l:List En}{i:Nat}(hi:i<l.length):entsC r (l.take (i+1))=(entsC r (l.take i)).addI l[i].inst:=foldl_next _ _ hi
theorem tsksC_next(r:Rch){l:List Tk}{i:Nat}(hi:i<l.length):tsksC r (l.take (i+1))=macC (tsksC r (l.take i)) l[i].mac:=foldl_next _ _ hi
structure inT(w:Wd):Prop where
 z:0<w.sys.insts.length
 l:∀e,e∈w.libs→0≤e.inst∧e.inst<(w.sys.insts.length:Int)
 t:∀x,x∈w.tasks→inM (zW w) x.mac
theorem Bq.env{w:Wd}(l:List Bd):∀{s:Rch} (_:Bq w s) (_:∀x,x∈l→inV w.sys.heap.length x.val),Bq w (envC s l):=by
 induction l with
 |nil=>intro s h _;exact h
 |cons v l ih=>intro s h hv;exact ih (h.val (hv v (by simp))).1 fun x hx=>hv x (by simp[hx])
theorem Bq.frm{w:Wd}{s:Rch}(h:Bq w s){f:Fm}(hf:inF (zW w) f):Bq w (frmC s f):=
 Bq.env _ (Bq.vals _ (h.addU hf.u) hf.v).1 hf.e
theorem Bq.frms{w:Wd}(l:List Fm):∀{s:Rch} (_:Bq w s) (_:∀x,x∈l→inF (zW w) x),Bq w (frmsC s l):=by
 induction l with
 |nil=>intro s h _;exact h
 |cons v l ih=>intro s h hv;exact ih (h.frm (hv v (by simp))) fun x hx=>hv x (by simp[hx])
theorem Bq.mac{w:Wd}{s:Rch}(h:Bq w s){m:Mc}(hm:inM (zW w) m):Bq w (macC s m):=
 Bq.frms _ (Bq.vals _ (Bq.env _ (h.addU hm.u) hm.e) fun v hv=>by rw[List.mem_singleton]at hv;subst hv;exact hm.v).1 hm.s
theorem Bq.ents{w:Wd}(l:List En):∀{s:Rch} (_:Bq w s) (_:∀e,e∈l→0≤e.inst∧e.inst<(w.sys.insts.length:Int)),Bq w (entsC s l):=by
 induction l with
 |nil=>intro s h _;exact h
 |cons v l ih=>intro s h hv;exact ih (h.addI (hv v (by simp))) fun x hx=>hv x (by simp[hx])
theorem Bq.tsks{w:Wd}(l:List Tk):∀{s:Rch} (_:Bq w s) (_:∀x,x∈l→inM (zW w) x.mac),Bq w (tsksC s l):=by
 induction l with
 |nil=>intro s h _;exact h
 |cons v l ih=>intro s h hv;exact ih (h.mac (hv v (by simp))) fun x hx=>hv x (by simp[hx])
theorem Bq.r00{w:Wd}(hr:w.rm):Bq w (r00 w):=by
 have a1:=hr.sys.heap
 have a2:=hr.sys.insts
 have a3:=hr.sys.units
 refine⟨⟨?_,?_,?_⟩,by simp[Own.r00,Rch.sz,zW],fun x hx=>by simp[Own.r00]at hx,fun x hx=>by simp[Own.r00]at hx,fun x hx=>by simp[Own.r00]at hx⟩
 all_goals simp[Own.r00];omega
theorem c_impl_reach0[Kp:Pin](w:Wd)(hcs:Kp.cs=w.cs)(hw:inW w)(ht:inT w)(hr:w.rm)(J:Rch→Prop)(hJ:KeepsJ w J)(h0:J (startW w)):Con PP 36 [.sc (.pointer (some ⟨Kp.b,Kp.o,none⟩))] [] [] (fun r o=>∃s:Rch,(Bq w s∧J s∧s.cq=[]∧s.iq=[]∧s.uq=[])∧r=.agg [.sl 2 1 [(0,0)] 0 s.cl.length,.sl 2 1 [(0,1)] 0 s.il.length,.sl 2 1 [(0,2)] 0 s.ul.length]∧o=[(2,49,3,[[.sl 4 1 (s.cl.map boC),.sl 4 1 (s.il.map boC),.sl 4 1 (s.ul.map boC)]])]):=by
 have a1:=hr.sys.heap
 have a2:=hr.sys.insts
 have a3:=hr.sys.units
 have b1:(w.sys.heap.length:Int)≤281474976710656:=by omega
 have b2:(w.sys.insts.length:Int)≤281474976710656:=by omega
 have b3:(w.sys.units.length:Int)≤281474976710656:=by omega
 have c1:(w.sys.heap.length:Int)≤9223372036854775807:=by omega
 have c2:(w.sys.insts.length:Int)≤9223372036854775807:=by omega
 have c3:(w.sys.units.length:Int)≤9223372036854775807:=by omega
 have q0:=Bq.r00 hr
 have hz:=ht.z
 have i1:(r00 w).il.length=w.sys.insts.length:=by simp[r00]
 have hi0:=q0.rm.i
 have u1:=c_impl_rinst Kp.b Kp.o (r00 w) 0 (by omega) (by simp[r00];omega) (by simp[r00])
 have q1:=q0.addI (n:=0) (by omega)
 have hS:startW w=tsksC (entsC ((r00 w).addI 0) w.libs) w.tasks:=rfl
 generalize (r00 w).addI 0=R1 at u1 q1 hS
 simp only[rchR,r00]at u1
 refine cof 63 Go.Proofs.Tryz.func36 fun G=>?_
 simp only[entSt,tmOf,List.append_nil,List.cons_append,List.nil_append]
 repeat' (first
  |(refine WPc.cutG (id:=2) (⟨63,G,[(0,.sc (.pointer (some ⟨Kp.b,Kp.o,none⟩))),(3,.sc (.pointer (some ⟨Kp.b,Kp.o,none⟩))),(4,.ptr 4 7 [] 0 0),(2,.ptr 2 3 [] 0 0)],[(4,rchR Kp.b Kp.o (r00 w)),(2,49,3,[[.sc (.slice none 0 0),.sc (.slice none 0 0),.sc (.slice none 0 0)]])]⟩:St) ?_ ?_)
  |(refine WPc.tree (id:=2) tok [(6,[18]),(12,[24]),(18,[30]),(21,[4]),(22,[4,18,24,30,900041,900042,900043])] (.val 0 [4,18,24,30] (.val 1 [4,24,30] (.val 2 [4,24,30] (.pin 14 (.val 3 [4,24,30] (.val 4 [4,24,30] (.val 5 [4,24,30] (.val 7 [4,18,30] (.val 8 [4,18,30] (.pin 20 (.val 9 [4,18,30] (.val 10 [4,18,30] (.val 11 [4,18,30] (.val 13 [4,18,24] (.val 14 [4,18,24] (.pin 26 (.val 15 [4,18,24] (.val 16 [4,18,24] (.val 17 [4,18,24] (.eff 6 (.eff 12 (.eff 18 (.val 19 [4] (.val 20 [4] (.eff 21 (.adp 32 4 900041 3 1 (.adp 32 5 900042 3 1 (.adp 32 6 900043 3 1 (.eff 22 .done .nil)))) .nil))) (.eff 21 (.eff 18 (.val 19 [] (.val 20 [] (.adp 32 4 900041 3 1 (.adp 32 5 900042 3 1 (.adp 32 6 900043 3 1 (.eff 22 .done .nil)))))) .nil) .nil)) (.eff 18 (.eff 12 (.val 19 [4] (.val 20 [4] (.eff 21 (.adp 32 4 900041 3 1 (.adp 32 5 900042 3 1 (.adp 32 6 900043 3 1 (.eff 22 .done .nil)))) .nil))) (.eff 21 (.eff 12 (.val 19 [] (.val 20 [] (.adp 32 4 900041 3 1 (.adp 32 5 900042 3 1 (.adp 32 6 900043 3 1 (.eff 22 .done .nil)))))) .nil) .nil)) (.eff 21 (.eff 12 (.eff 18 (.val 19 [] (.val 20 [] (.adp 32 4 900041 3 1 (.adp 32 5 900042 3 1 (.adp 32 6 900043 3 1 (.eff 22 .done .nil)))))) .nil) (.eff 18 (.eff 12 (.val 19 [] (.val 20 [] (.adp 32 4 900041 3 1 (.adp 32 5 900042 3 1 (.adp 32 6 900043 3 1 (.eff 22 .done .nil)))))) .nil) .nil)) .nil))) (.eff 12 (.eff 6 (.eff 18 (.val 19 [4] (.val 20 [4] (.eff 21 (.adp 32 4 900041 3 1 (.adp 32 5 900042 3 1 (.adp 32 6 900043 3 1 (.eff 22 .done .nil)))) .nil))) (.eff 21 (.eff 18 (.val 19 [] (.val 20 [] (.adp 32 4 900041 3 1 (.adp 32 5 900042 3 1 (.adp 32 6 900043 3 1 (.eff 22 .done .nil)))))) .nil) .nil)) (.eff 18 (.eff 6 (.val 19 [4] (.val 20 [4] (.eff 21 (.adp 32 4 900041 3 1 (.adp 32 5 900042 3 1 (.adp 32 6 900043 3 1 (.eff 22 .done .nil)))) .nil))) (.eff 21 (.eff 6 (.val 19 [] (.val 20 [] (.adp 32 4 900041 3 1 (.adp 32 5 900042 3 1 (.adp 32 6 900043 3 1 (.eff 22 .done .nil)))))) .nil) .nil)) (.eff 21 (.eff 6 (.eff 18 (.val 19 [] (.val 20 [] (.adp 32 4 900041 3 1 (.adp 32 5 900042 3 1 (.adp 32 6 900043 3 1 (.eff 22 .done .nil)))))) .nil) (.eff 18 (.eff 6 (.val 19 [] (.val 20 [] (.adp 32 4 900041 3 1 (.adp 32 5 900042 3 1 (.adp 32 6 900043 3 1 (.eff 22 .done .nil)))))) .nil) .nil)) .nil))) (.eff 18 (.eff 6 (.eff 12 (.val 19 [4] (.val 20 [4] (.eff 21 (.adp 32 4 900041 3 1 (.adp 32 5 900042 3 1 (.adp 32 6 900043 3 1 (.eff 22 .done .nil)))) .nil))) (.eff 21 (.eff 12 (.val 19 [] (.val 20 [] (.adp 32 4 900041 3 1 (.adp 32 5 900042 3 1 (.adp 32 6 900043 3 1 (.eff 22 .done .nil)))))) .nil) .nil)) (.eff 12 (.eff 6 (.val 19 [4] (.val 20 [4] (.eff 21 (.adp 32 4 900041 3 1 (.adp 32 5 900042 3 1 (.adp 32 6 900043 3 1 (.eff 22 .done .nil)))) .nil))) (.eff 21 (.eff 6 (.val 19 [] (.val 20 [] (.adp 32 4 900041 3 1 (.adp 32 5 900042 3 1 (.adp 32 6 900043 3 1 (.eff 22 .done .nil)))))) .nil) .nil)) (.eff 21 (.eff 6 (.eff 12 (.val 19 [] (.val 20 [] (.adp 32 4 900041 3 1 (.adp 32 5 900042 3 1 (.adp 32 6 900043 3 1 (.eff 22 .done .nil)))))) .nil) (.eff 12 (.eff 6 (.val 19 [] (.val 20 [] (.adp 32 4 900041 3 1 (.adp 32 5 900042 3 1 (.adp 32 6 900043 3 1 (.eff 22 .done .nil)))))) .nil) .nil)) .nil))) (.eff 21 (.eff 6 (.eff 12 (.eff 18 (.val 19 [] (.val 20 [] (.adp 32 4 900041 3 1 (.adp 32 5 900042 3 1 (.adp 32 6 900043 3 1 (.eff 22 .done .nil)))))) .nil) (.eff 18 (.eff 12 (.val 19 [] (.val 20 [] (.adp 32 4 900041 3 1 (.adp 32 5 900042 3 1 (.adp 32 6 900043 3 1 (.eff 22 .done .nil)))))) .nil) .nil)) (.eff 12 (.eff 6 (.eff 18 (.val 19 [] (.val 20 [] (.adp 32 4 900041 3 1 (.adp 32 5 900042 3 1 (.adp 32 6 900043 3 1 (.eff 22 .done .nil)))))) .nil) (.eff 18 (.eff 6 (.val 19 [] (.val 20 [] (.adp 32 4 900041 3 1 (.adp 32 5 900042 3 1 (.adp 32 6 900043 3 1 (.eff 22 .done .nil)))))) .nil) .nil)) (.eff 18 (.eff 6 (.eff 12 (.val 19 [] (.val 20 [] (.adp 32 4 900041 3 1 (.adp 32 5 900042 3 1 (.adp 32 6 900043 3 1 (.eff 22 .done .nil)))))) .nil) (.eff 12 (.eff 6 (.val 19 [] (.val 20 [] (.adp 32 4 900041 3 1 (.adp 32 5 900042 3 1 (.adp 32 6 900043 3 1 (.eff 22 .done .nil)))))) .nil) .nil)) .nil))) .nil))))))))))))))))))))))) (by kernel_rfl) fun K hT=>?_)
  |(refine runT.v fun K hK=>?_;simp -implicitDefEqProofs +contextual [-Int.not_le,-Int.not_lt,-Nat.not_le,-Nat.not_lt,-List.all_eq_true,-List.all_eq_false,-List.any_eq_true,-List.any_eq_false,hcs,Wd.cs,r00,rchR,boC,List.map_replicate,b1,b2,b3,c1,c2,c3];(repeat1' (first|apply hK|apply And.intro|intro _))<;>clear hK K)
  |(refine runT.p fun K hK=>?_;simp -implicitDefEqProofs +contextual [-Int.not_le,-Int.not_lt,-Nat.not_le,-Nat.not_lt,-List.all_eq_true,-List.all_eq_false,-List.any_eq_true,-List.any_eq_false,hcs,Wd.cs,r00,rchR,boC,List.map_replicate,b1,b2,b3,c1,c2,c3];(repeat1' (first|apply hK|apply And.intro|intro _))<;>clear hK K)
  |(refine runT.a fun K hK=>?_;simp -implicitDefEqProofs +contextual [-Int.not_le,-Int.not_lt,-Nat.not_le,-Nat.not_lt,-List.all_eq_true,-List.all_eq_false,-List.any_eq_true,-List.any_eq_false,hcs,Wd.cs,r00,rchR,boC,List.map_replicate,b1,b2,b3,c1,c2,c3];(repeat1' (first|apply hK|apply And.intro|intro _))<;>clear hK K)
  |(refine runT.e (fun K hK=>?_) ?_<;>(try(simp -implicitDefEqProofs +contextual [-Int.not_le,-Int.not_lt,-Nat.not_le,-Nat.not_lt,-List.all_eq_true,-List.all_eq_false,-List.any_eq_true,-List.any_eq_false,hcs,Wd.cs,r00,rchR,boC,List.map_replicate,b1,b2,b3,c1,c2,c3];(repeat1' (first|apply hK|apply And.intro|intro _))<;>clear hK K)))
  |exact runT.n
  |(refine runT.d (hT _ ?_))
  |(refine FitS.mk rfl rfl ?_ ?_<;>simp[FitO,hcs,Wd.cs,r00,rchR,boC,List.map_replicate,b1,b2,b3,c1,c2,c3])
  |(refine WPL.pinAt 36 35 ?_ ?_;(focus(simp;done));refine fun K hK=>?_;simp -implicitDefEqProofs +contextual [-Int.not_le,-Int.not_lt,-Nat.not_le,-Nat.not_lt,-List.all_eq_true,-List.all_eq_false,-List.any_eq_true,-List.any_eq_false,hcs,Wd.cs,r00,rchR,boC,List.map_replicate,b1,b2,b3,c1,c2,c3];(repeat1' (first|apply hK|apply And.intro|intro _))<;>clear hK K)
  |((first|refine WPL.rnTo tok 36 _ (by simp[isFn];rfl) fun K hK=>?_|refine WPc.rq tok rfl fun K hK=>?_|refine WPL.rn tok _ (by simp[ahead,isFn];rfl) fun K hK=>?_);simp -implicitDefEqProofs +contextual [-Int.not_le,-Int.not_lt,-Nat.not_le,-Nat.not_lt,-List.all_eq_true,-List.all_eq_false,-List.any_eq_true,-List.any_eq_false,hcs,Wd.cs,r00,rchR,boC,List.map_replicate,b1,b2,b3,c1,c2,c3];(repeat1' (first|apply hK|apply And.intro|intro _))<;>clear hK K<;>(try dsimp only[List.drop]))
  |apply WPc.sq
  |apply WPc.block
  |refine WPL.nil ?_
  |(apply WPL.cU u1;(case q=>(repeat' (first|refine And.intro ?_ ?_|intro _|(with_reducible exact cleanOut_nil)|(refine Eqv.mk ?_;first|rfl|(simp -implicitDefEqProofs [hcs,Wd.cs,r00,rchR,boC,List.map_replicate,b1,b2,b3,c1,c2,c3];done))|(simp -implicitDefEqProofs [hcs,Wd.cs,r00,rchR,boC,List.map_replicate,b1,b2,b3,c1,c2,c3];done)|(simp -implicitDefEqProofs [hcs,Wd.cs,r00,rchR,boC,List.map_replicate,b1,b2,b3,c1,c2,c3];rfl)|(simp;done)|(simp;rfl)|rfl))))
  |(refine WPc.region ?_;simp only[List.toList_toArray]))
 have k1:=hr.libs
 have k2:=hr.tasks
 refine WPc.loopV (σ:=Nat) (fun i=>i≤w.libs.length) (fun i=>w.libs.length-i) (fun i=>[(39,.sc (.int .i64 i))]) (fun i=>[(4,rchR Kp.b Kp.o (entsC R1 (w.libs.take i))),(2,49,3,[[.sc (.slice none 0 0),.sc (.slice none 0 0),.sc (.slice none 0 0)]])]) [0,2,4,37,38] 0 (by simp[rchR,entsC]) (by simp[rchR,entsC]) (by simp) ?_
 rintro i hi s hs
 simp at hs
 subst hs
 by_cases hlt:i<w.libs.length
 ·have hb:i+1≤9223372036854775807:=by omega
  have hn:=entsC_next R1 hlt
  have qq:=Bq.ents (w.libs.take i) q1 (fun e he=>ht.l e (List.mem_of_mem_take he))
  generalize entsC R1 (w.libs.take i)=R at hn qq ⊢
  obtain⟨z1,z2⟩:=ht.l _ (List.getElem_mem hlt)
  have hil:R.il.length=w.sys.insts.length:=congrArg (·.2.1) qq.sz
  have hqi:=qq.rm.i
  have v1:=c_impl_rinst Kp.b Kp.o R w.libs[i].inst z1 (by omega) (by omega)
  rw[←hn]at v1
  simp only[rchR]at v1
  refine go (L:=_∧True) (wa3 @hlt @En.cs.eq_1 @rchR.eq_1) wb0 (wb1 (fun _=>v1)) wb0 wb0 ⟨fun _=>?_,wb0⟩
  refine⟨i+1,⟨hlt,by first|omega|(simp only;omega)|assumption⟩,rfl,rfl,?_,?_⟩<;>simp (disch:=omega) [wrap64,rchR]
 obtain rfl:i=w.libs.length:=by omega
 rw[List.take_length]
 have q2:=Bq.ents w.libs q1 ht.l
 generalize entsC R1 w.libs=R2 at q2 hS ⊢
 repeat' (first
  |(refine WPL.pinAt 49 48 ?_ ?_;(focus(simp;done));refine fun K hK=>?_;simp -implicitDefEqProofs +contextual [-Int.not_le,-Int.not_lt,-Nat.not_le,-Nat.not_lt,-List.all_eq_true,-List.all_eq_false,-List.any_eq_true,-List.any_eq_false,hlt,rchR,hcs,Wd.cs];(repeat1' (first|apply hK|apply And.intro|intro _))<;>clear hK K)
  |((first|refine WPL.rnTo tok 49 _ (by simp[isFn];rfl) fun K hK=>?_|refine WPc.rq tok rfl fun K hK=>?_|refine WPL.rn tok _ (by simp[ahead,isFn];rfl) fun K hK=>?_);simp -implicitDefEqProofs +contextual [-Int.not_le,-Int.not_lt,-Nat.not_le,-Nat.not_lt,-List.all_eq_true,-List.all_eq_false,-List.any_eq_true,-List.any_eq_false,hlt,rchR,hcs,Wd.cs];(repeat1' (first|apply hK|apply And.intro|intro _))<;>clear hK K<;>(try dsimp only[List.drop]))
  |apply WPc.sq
  |apply WPc.block
  |apply WPc.exit
  |refine WPL.nil ?_
  |(refine WPc.region ?_;simp only[List.toList_toArray])
  |(refine WPc.condF ?_ ?_;(focus(simp;done))))
 refine WPc.loopV (σ:=Nat) (fun i=>i≤w.tasks.length) (fun i=>w.tasks.length-i) (fun i=>[(52,.sc (.int .i64 i))]) (fun i=>[(4,rchR Kp.b Kp.o (tsksC R2 (w.tasks.take i))),(2,49,3,[[.sc (.slice none 0 0),.sc (.slice none 0 0),.sc (.slice none 0 0)]])]) [2,4,50,51] 0 (by simp[rchR,tsksC]) (by simp[rchR,tsksC]) (by simp) ?_
 rintro i hi s hs
 simp at hs
 subst hs
 by_cases hlt:i<w.tasks.length
 ·have hb:i+1≤9223372036854775807:=by omega
  have hn:=tsksC_next R2 hlt
  have qq:=Bq.tsks (w.tasks.take i) q2 (fun e he=>ht.t e (List.mem_of_mem_take he))
  generalize tsksC R2 (w.tasks.take i)=R at hn qq ⊢
  have v2:=c_impl_rmachine Kp.b Kp.o R w.tasks[i].mac qq.rm (hr.tasks1 _ (List.getElem_mem hlt)).mac (by rw[qq.sz];exact ht.t _ (List.getElem_mem hlt))
  rw[←hn]at v2
  simp only[rchR,Mc.av]at v2
  refine go (L:=_∧True) (wa3 @hlt @Tk.cs.eq_1 @rchR.eq_1) wb0 (wb1 (fun _=>v2)) wb0 wb0 ⟨fun _=>?_,wb0⟩
  refine⟨i+1,⟨hlt,by first|omega|(simp only;omega)|assumption⟩,rfl,rfl,?_,?_⟩<;>simp (disch:=omega) [wrap64,rchR]
 obtain rfl:i=w.tasks.length:=by omega
 rw[List.take_length]
 have q3:=Bq.tsks w.tasks q2 ht.t
 rw[←hS]at q3 ⊢
 have v3:=c_impl_rall w hcs hw hr J hJ (startW w) q3 h0
 simp only[rchR]at v3
 generalize startW w=R3 at v3 ⊢
 refine gox (L:=_∧True) (wa2 @hlt @rchR.eq_1) wb0 wb0 (wb1 (fun _=>v3)) (wb4 (outs [2]) (nm 1 [62,4,900011,0,1]) (nm 1 [62,4,900012,0,2]) (nm 1 [62,4,900013,0,3])) ⟨fun _ y hy=>?_,wb0⟩
 all_goals exact⟨y,hy,rfl,rfl⟩
end Go.Own
namespace Go.Own
variable [Laid]
open Go.Lib Go.RowKit
structure Lv where
 a:List Bool
 b:List Bool
 c:List Bool
def Lv.sz(s:Lv):Nat×Nat×Nat:=(s.a.length,s.b.length,s.c.length)
def lnkS(b:List Bool)(l:List Lk):List Bool:=l.foldl (fun b x=>b.set x.inst.toNat true) b
def libS(b:List Bool)(l:List En):List Bool:=l.foldl (fun b x=>b.set x.inst.toNat true) b
def tskA(a:List Bool)(l:List Tk):List Bool:=l.foldl (fun a x=>tkA a x.mac) a
def tskU(c:List Bool)(l:List Tk):List Bool:=l.foldl (fun c x=>tkU c x.mac) c
def sL(w:Wd):Lv:=⟨tskA (List.replicate w.sys.heap.length false) w.tasks,libS ((List.replicate w.sys.insts.length false).set 0 true) w.libs,tskU (List.replicate w.sys.units.length false) w.tasks⟩
def stI(x:In)(s:Lv):Lv:=⟨setVs s.a x.vals,lnkS s.b x.links,s.c⟩
def stC(x:Cl)(s:Lv):Lv:=⟨setVs s.a x.vals,s.b,if x.k=2 then s.c.set x.a.toNat true else s.c⟩
def stU(x:Un)(s:Lv):Lv:=⟨s.a,s.b.set x.home.toNat true,s.c⟩
def upI(l:List In)(s:Lv):Nat→Lv
 |0=>s
 |n+1=>if h:n<l.length then if (upI l s n).b[n]?=some true then stI l[n] (upI l s n) else upI l s n else upI l s n
def upC(l:List Cl)(s:Lv):Nat→Lv
 |0=>s
 |n+1=>if h:n<l.length then if (upC l s n).a[n]?=some true then stC l[n] (upC l s n) else upC l s n else upC l s n
def upU(l:List Un)(s:Lv):Nat→Lv
 |0=>s
 |n+1=>if h:n<l.length then if (upU l s n).c[n]?=some true then stU l[n] (upU l s n) else upU l s n else upU l s n
def rndS(w:Wd)(s:Lv):Lv:=upU w.sys.units (upC w.sys.heap (upI w.sys.insts s w.sys.insts.length) w.sys.heap.length) w.sys.units.length
def nthS(w:Wd):Nat→Lv
 |0=>sL w
 |k+1=>rndS w (nthS w k)
def Lv.cnt(s:Lv):Nat:=s.a.count true+s.b.count true+s.c.count true
theorem lnkS_len(l:List Lk):∀b:List Bool,(lnkS b l).length=b.length:=by
 induction l with
 |nil=>intro b;rfl
 |cons v l ih=>intro b;show (lnkS (b.set _ _) l).length=_;rw[ih,List.length_set]
theorem libS_len(l:List En):∀b:List Bool,(libS b l).length=b.length:=by
 induction l with
 |nil=>intro b;rfl
 |cons v l ih=>intro b;show (libS (b.set _ _) l).length=_;rw[ih,List.length_set]
theorem tkA_len(a:List Bool)(m:Mc):(tkA a m).length=a.length:=by rw[tkA,frA_len,setV_len,setBs_len]
theorem tkU_len(c:List Bool)(m:Mc):(tkU c m).length=c.length:=by rw[tkU,frU_len,List.length_set]
theorem tskA_len(l:List Tk):∀b:List Bool,(tskA b l).length=b.length:=by
 induction l with
 |nil=>intro b;rfl
 |cons v l ih=>intro b;show (tskA (tkA b v.mac) l).length=_;rw[ih,tkA_len]
theorem tskU_len(l:List Tk):∀b:List Bool,(tskU b l).length=b.length:=by
 induction l with
 |nil=>intro b;rfl
 |cons v l ih=>intro b;show (tskU (tkU b v.mac) l).length=_;rw[ih,tkU_len]
theorem lnkS_next(b:List Bool){l:List Lk}{i:Nat}(hi:i<l.length):lnkS b (l.take (i+1))=(lnkS b (l.take i)).set l[i].inst.toNat true:=foldl_nextB _ _ hi
theorem libS_next(b:List Bool){l:List En}{i:Nat}(hi:i<l.length):libS b (l.take (i+1))=(libS b (l.take i)).set l[i].inst.toNat true:=foldl_nextB _ _ hi
theorem tskA_next(b:List Bool){l:List Tk}{i:Nat}(hi:i<l.length):tskA b (l.take (i+1))=tkA (tskA b (l.take i)) l[i].mac:=foldl_nextB _ _ hi
theorem tskU_next(b:List Bool){l:List Tk}{i:Nat}(hi:i<l.length):tskU b (l.take (i+1))=tkU (tskU b (l.take i)) l[i].mac:=foldl_nextB _ _ hi
theorem sL_sz(w:Wd):(sL w).sz=zW w:=by simp[sL,Lv.sz,zW,tskA_len,libS_len,tskU_len]
theorem stI_sz(x:In)(s:Lv):(stI x s).sz=s.sz:=by simp[stI,Lv.sz,setVs_len,lnkS_len]
theorem stC_sz(x:Cl)(s:Lv):(stC x s).sz=s.sz:=by
 simp only[stC,Lv.sz,setVs_len]
 split<;>simp
theorem stU_sz(x:Un)(s:Lv):(stU x s).sz=s.sz:=by simp[stU,Lv.sz]
theorem upI_sz(l:List In)(s:Lv):∀n,(upI l s n).sz=s.sz
 |0=>rfl
 |n+1=>by
  rw[upI]
  split
  ·split
   ·rw[stI_sz,upI_sz l s n]
   ·exact upI_sz l s n
  ·exact upI_sz l s n
theorem upC_sz(l:List Cl)(s:Lv):∀n,(upC l s n).sz=s.sz
 |0=>rfl
 |n+1=>by
  rw[upC]
  split
  ·split
   ·rw[stC_sz,upC_sz l s n]
   ·exact upC_sz l s n
  ·exact upC_sz l s n
theorem upU_sz(l:List Un)(s:Lv):∀n,(upU l s n).sz=s.sz
 |0=>rfl
 |n+1=>by
  rw[upU]
  split
  ·split
   ·rw[stU_sz,upU_sz l s n]
   ·exact upU_sz l s n
  ·exact upU_sz l s n
theorem rndS_sz(w:Wd)(s:Lv):(rndS w s).sz=s.sz:=by rw[rndS,upU_sz,upC_sz,upI_sz]
theorem nthS_sz(w:Wd):∀k,(nthS w k).sz=zW w
 |0=>sL_sz w
 |k+1=>by rw[nthS,rndS_sz,nthS_sz w k]
structure subL(l m:List Bool):Prop where
 len:l.length=m.length
 sub:∀i:Nat,l[i]?=some true→m[i]?=some true
theorem subL.refl(l:List Bool):subL l l:=⟨rfl,fun _ h=>h⟩
theorem subL.trans{l m n:List Bool}(h:subL l m)(g:subL m n):subL l n:=⟨h.len.trans g.len,fun i q=>g.sub i (h.sub i q)⟩
theorem subL.set(l:List Bool)(i:Nat):subL l (l.set i true):=⟨by simp,fun j h=>by
 rw[List.getElem?_set]
 split
 ·split
  ·rfl
  ·rename_i h1 h2
   subst h1
   rw[List.getElem?_eq_none (by omega)]at h
   cases h
 ·exact h⟩
theorem subL.count:∀{l m:List Bool},subL l m→l.count true≤m.count true∧(l.count true=m.count true→l=m)
 |[],[],_=>⟨Nat.le_refl _,fun _=>rfl⟩
 |[],_::_,h=>by have:=h.len;simp at this
 |_::_,[],h=>by have:=h.len;simp at this
 |x::l,y::m,h=>by
  have ht:subL l m:=⟨by have:=h.len;simpa using this,fun i q=>by have:=h.sub (i+1);simpa using this (by simpa using q)⟩
  obtain⟨h1,h2⟩:=ht.count
  have h0:=h.sub 0
  simp only[List.getElem?_cons_zero,Option.some.injEq]at h0
  cases x with
  |true =>
   have hy:=h0 rfl
   subst hy
   simp only[List.count_cons_self]
   exact⟨by omega,fun e=>by rw[h2 (by omega)]⟩
  |false =>
   cases y with
   |true =>
    rw[List.count_cons_self,List.count_cons_of_ne (by simp)]
    exact⟨by omega,fun e=>by omega⟩
   |false =>
    rw[List.count_cons_of_ne (by simp),List.count_cons_of_ne (by simp)]
    exact⟨h1,fun e=>by rw[h2 e]⟩
theorem setV_sub(a:List Bool)(v:V):subL a (setV a v):=by
 unfold setV
 split
 ·exact subL.set _ _
 ·exact subL.refl _
theorem setVs_sub(l:List V):∀a:List Bool,subL a (setVs a l):=by
 induction l with
 |nil=>intro a;exact subL.refl _
 |cons v l ih=>intro a;exact(setV_sub a v).trans (ih _)
theorem lnkS_sub(l:List Lk):∀a:List Bool,subL a (lnkS a l):=by
 induction l with
 |nil=>intro a;exact subL.refl _
 |cons v l ih=>intro a;exact(subL.set a _).trans (ih _)
structure subS(s t:Lv):Prop where
 a:subL s.a t.a
 b:subL s.b t.b
 c:subL s.c t.c
theorem subS.refl(s:Lv):subS s s:=⟨.refl _,.refl _,.refl _⟩
theorem subS.trans{s t u:Lv}(h:subS s t)(g:subS t u):subS s u:=⟨h.a.trans g.a,h.b.trans g.b,h.c.trans g.c⟩
theorem stI_sub(x:In)(s:Lv):subS s (stI x s):=⟨setVs_sub _ _,lnkS_sub _ _,.refl _⟩
theorem stC_sub(x:Cl)(s:Lv):subS s (stC x s):=⟨setVs_sub _ _,.refl _,by
 simp only[stC]
 split
 ·exact .set _ _
 ·exact .refl _⟩
theorem stU_sub(x:Un)(s:Lv):subS s (stU x s):=⟨.refl _,.set _ _,.refl _⟩
theorem upI_sub(l:List In)(s:Lv):∀n,subS s (upI l s n)
 |0=>.refl _
 |n+1=>by
  rw[upI]
  split
  ·split
   ·exact(upI_sub l s n).trans (stI_sub _ _)
   ·exact upI_sub l s n
  ·exact upI_sub l s n
theorem upC_sub(l:List Cl)(s:Lv):∀n,subS s (upC l s n)
 |0=>.refl _
 |n+1=>by
  rw[upC]
  split
  ·split
   ·exact(upC_sub l s n).trans (stC_sub _ _)
   ·exact upC_sub l s n
  ·exact upC_sub l s n
theorem upU_sub(l:List Un)(s:Lv):∀n,subS s (upU l s n)
 |0=>.refl _
 |n+1=>by
  rw[upU]
  split
  ·split
   ·exact(upU_sub l s n).trans (stU_sub _ _)
   ·exact upU_sub l s n
  ·exact upU_sub l s n
theorem rndS_sub(w:Wd)(s:Lv):subS s (rndS w s):=((upI_sub _ s _).trans (upC_sub _ _ _)).trans (upU_sub _ _ _)
theorem subS.count{s t:Lv}(h:subS s t):s.cnt≤t.cnt∧(s.cnt=t.cnt→s=t):=by
 obtain⟨a1,a2⟩:=h.a.count
 obtain⟨b1,b2⟩:=h.b.count
 obtain⟨c1,c2⟩:=h.c.count
 refine⟨by simp only[Lv.cnt];omega,fun e=>?_⟩
 simp only[Lv.cnt]at e
 cases s
 cases t
 simp only at *
 rw[a2 (by omega),b2 (by omega),c2 (by omega)]
theorem Lv.cnt_le(s:Lv):s.cnt≤s.a.length+s.b.length+s.c.length:=by
 have h1:s.a.count true≤s.a.length:=List.count_le_length
 have h2:s.b.count true≤s.b.length:=List.count_le_length
 have h3:s.c.count true≤s.c.length:=List.count_le_length
 simp only[Lv.cnt];omega
end Go.Own
