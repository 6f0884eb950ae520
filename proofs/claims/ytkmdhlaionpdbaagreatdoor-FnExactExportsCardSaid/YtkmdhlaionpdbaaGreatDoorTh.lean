import Derived.Test.YtkmdhlaionpdbaaGreatDoorTg
/- Lemmas for the proof in the last text of this claim. -/
set_option linter.unusedVariables false
set_option linter.unusedSimpArgs false
set_option linter.unusedSectionVars false
set_option maxRecDepth 1000000
set_option maxHeartbeats 4000000
namespace Go.Own
attribute [local irreducible] WPc WPL WPS WPS1 WPS2 HAny endP
variable [Laid]
open Go.Lib Go.RowKit
theorem lenC (l : List Cl) : l.length ≤ sumC l := lenSum (fun x => by unfold mk; omega) l
theorem marksC_len' (k : Int) (h : List Cl) : (marksC k h).length = h.length := by simp [marksC]
def markSy (k : Int) (y : Sy) : Sy := ⟨marksC k y.heap, marksIn (k + sumC y.heap) y.insts, marksUn (k + sumC y.heap + sumIn y.insts) y.units, marksS (k + sumC y.heap + sumIn y.insts + sumUn y.units) y.out.length⟩
def mkSy (y : Sy) : Nat := sumC y.heap + sumIn y.insts + sumUn y.units + y.out.length
theorem c_laws_markSys (y : Sy) (k : Int) (h1 : 0 ≤ k) (h2 : k + mkSy y ≤ 1000000000) : Con PP 52 [.agg [.sl 0 6 [] 0 y.heap.length, .sl 1 6 [] 0 y.insts.length, .sl 2 3 [] 0 y.units.length, .sl 3 1 [] 0 y.out.length], .sc (.int .i64 k)]
    [(0, 133, 6, y.heap.map Cl.ow), (1, 68, 6, y.insts.map In.ow), (2, 130, 3, y.units.map Un.ow), (3, 9, 1, y.out.map sC)] [0]
    (fun r o => r = .sc (.int .i64 (k + sumC y.heap + sumIn y.insts + sumUn y.units + y.out.length)) ∧ o = [(0, 133, 6, (marksC k y.heap).map Cl.ow), (1, 68, 6, (marksIn (k + sumC y.heap) y.insts).map In.ow), (2, 130, 3, (marksUn (k + sumC y.heap + sumIn y.insts) y.units).map Un.ow), (3, 9, 1, (marksS (k + sumC y.heap + sumIn y.insts + sumUn y.units) y.out.length).map sC)]) := by
  have l1 := lenC y.heap
  unfold mkSy at h2
  refine cof 22 Go.Proofs.Tryz.func52 fun G => ?_
  simp only [entSt, tmOf, List.append_nil, List.cons_append, List.nil_append]
  refine WPc.renC 2 900033 fun K hK => ?_
  simp -implicitDefEqProofs
  refine hK _ ?_; clear hK K
  refine WPc.ghS 0 2022 0 fun u0 hu0 K hK => ?_
  simp -implicitDefEqProofs
  refine hK _ ?_; clear hK K
  refine WPc.ghS 0 2023 1 fun u1 hu1 K hK => ?_
  simp -implicitDefEqProofs
  refine hK _ ?_; clear hK K
  refine WPc.ghS 0 2024 2 fun u2 hu2 K hK => ?_
  simp -implicitDefEqProofs
  refine hK _ ?_; clear hK K
  refine WPc.ghS 0 2025 3 fun u3 hu3 K hK => ?_
  simp -implicitDefEqProofs
  refine hK _ ?_; clear hK K
  refine gox (L := _ ∧ True) (wa4 @hu0 @hu1 @hu2 @hu3) wb0 (wb4 (fun v0 v1 (h : _ ∧ _ ∧ _ ∧ _) => c_laws_markCellS v0 v1 h.1 h.2.1 h.2.2.1 h.2.2.2) (fun v0 v1 (h : _ ∧ _) => c_laws_markInstS v0 v1 h.1 h.2) (fun v0 v1 (h : _ ∧ _) => c_laws_markUnitS v0 v1 h.1 h.2) (fun v0 v1 (h : _ ∧ _ ∧ _) => c_laws_markStringS v0 v1 h.1 h.2.1 h.2.2)) wb0 (wb7 (outs [0, 1, 2, 3]) (nm 14 [8, 6, 2022]) (nm 14 [12, 10, 2023]) (nm 14 [16, 14, 2024]) (nm 14 [20, 18, 2025]) (nm 6 [900033, 2]) (nm 9 [])) ⟨fun _ => ?_, wb0⟩
  exact ⟨rfl, rfl⟩
def mkWd (w : Wd) : Nat := mkSy w.sys + sumEn w.libs + sumTk w.tasks
def posA (k : Int) (y : Sy) : Int := k + sumC y.heap + sumIn y.insts + sumUn y.units + y.out.length
def markWd (k : Int) (w : Wd) : Wd := ⟨markSy k w.sys, marksEn (posA k w.sys) w.libs, marksTk (posA k w.sys + sumEn w.libs) w.tasks, w.next⟩
theorem c_laws_markWorld (w : Wd) (k : Int) (h1 : 0 ≤ k) (h2 : k + mkWd w ≤ 1000000000) : Con PP 19 [.agg [.sl 0 6 [(0, 0)] 0 w.sys.heap.length, .sl 0 6 [(0, 1)] 0 w.sys.insts.length, .sl 0 3 [(0, 2)] 0 w.sys.units.length, .sl 0 1 [(0, 3)] 0 w.sys.out.length, .sl 0 8 [(0, 4)] 0 w.libs.length, .sl 0 10 [(0, 5)] 0 w.tasks.length, .sc (.int .i64 w.next)], .sc (.int .i64 k)]
    [(0, 42, 7, [w.ow])] [] (fun r o => r = .sc (.int .i64 (k + mkWd w)) ∧ o = [(0, 42, 7, [(markWd k w).ow])]) := by
  have l1 := lenC w.sys.heap
  have p1 : 0 ≤ posA k w.sys := by unfold posA; omega
  have p2 : posA k w.sys + sumEn w.libs ≤ 1000000000 := by unfold mkWd mkSy at h2; unfold posA; omega
  have p3 : posA k w.sys + sumEn w.libs + sumTk w.tasks ≤ 1000000000 := by unfold mkWd mkSy at h2; unfold posA; omega
  have p4 : k + mkSy w.sys ≤ 1000000000 := by unfold mkWd at h2; omega
  have p5 : 0 ≤ posA k w.sys + sumEn w.libs := by omega
  have uS := c_laws_markSys w.sys k h1 p4
  have hp : k + sumC w.sys.heap + sumIn w.sys.insts + sumUn w.sys.units + w.sys.out.length = posA k w.sys := rfl
  rw [hp] at uS
  refine cof 18 Go.Proofs.Tryz.func19 fun G => ?_
  simp only [entSt, tmOf, List.append_nil, List.cons_append, List.nil_append, Wd.ow]
  refine WPc.detgc 0 900001 2100 [] 0 0 fun v0 K hK => ?_
  simp -implicitDefEqProofs
  refine hK _ ?_; clear hK K
  refine WPc.detgc 0 900002 2101 [] 0 1 fun v1 K hK => ?_
  simp -implicitDefEqProofs
  refine hK _ ?_; clear hK K
  refine WPc.detgc 0 900003 2102 [] 0 2 fun v2 K hK => ?_
  simp -implicitDefEqProofs
  refine hK _ ?_; clear hK K
  refine WPc.detgc 0 900004 2103 [] 0 3 fun v3 K hK => ?_
  simp -implicitDefEqProofs
  refine hK _ ?_; clear hK K
  refine WPc.detgc 0 900005 2104 [] 0 4 fun v4 K hK => ?_
  simp -implicitDefEqProofs
  refine hK _ ?_; clear hK K
  refine WPc.detgc 0 900006 2105 [] 0 5 fun v5 K hK => ?_
  simp -implicitDefEqProofs
  refine hK _ ?_; clear hK K
  refine WPc.ghS 0 2018 0 fun u0 hu0 K hK => ?_
  simp -implicitDefEqProofs
  refine hK _ ?_; clear hK K
  refine WPc.ghS 0 2019 1 fun u1 hu1 K hK => ?_
  simp -implicitDefEqProofs
  refine hK _ ?_; clear hK K
  refine WPc.ghS 0 2020 2 fun u2 hu2 K hK => ?_
  simp -implicitDefEqProofs
  refine hK _ ?_; clear hK K
  refine WPc.ghS 0 2021 3 fun u3 hu3 K hK => ?_
  simp -implicitDefEqProofs
  refine hK _ ?_; clear hK K
  refine WPc.ghS 0 2022 4 fun u4 hu4 K hK => ?_
  simp -implicitDefEqProofs
  refine hK _ ?_; clear hK K
  refine WPc.ghS 0 2023 5 fun u5 hu5 K hK => ?_
  simp -implicitDefEqProofs
  refine hK _ ?_; clear hK K
  repeat' (first
    | (refine WPL.utAt 12 10 2022 ?_ ?_; (focus (simp; done)); refine fun K hK => ?_; simp -implicitDefEqProofs +contextual [-Int.not_le, -Int.not_lt, -Nat.not_le, -Nat.not_lt, -List.all_eq_true, -List.all_eq_false, -List.any_eq_true, -List.any_eq_false, hu0, hu1, hu2, hu3, hu4, hu5, Wd.ow, marksC_len', marksIn_len, marksUn_len, marksS_len, marksEn_len, marksTk_len]; (repeat1' (first | apply hK | apply And.intro | intro _)) <;> clear hK K)
    | (refine WPL.utAt 16 14 2023 ?_ ?_; (focus (simp; done)); refine fun K hK => ?_; simp -implicitDefEqProofs +contextual [-Int.not_le, -Int.not_lt, -Nat.not_le, -Nat.not_lt, -List.all_eq_true, -List.all_eq_false, -List.any_eq_true, -List.any_eq_false, hu0, hu1, hu2, hu3, hu4, hu5, Wd.ow, marksC_len', marksIn_len, marksUn_len, marksS_len, marksEn_len, marksTk_len]; (repeat1' (first | apply hK | apply And.intro | intro _)) <;> clear hK K)
    | (refine WPc.attRet 0 900001 2100 [] 0 0 rfl fun K hK => ?_; simp -implicitDefEqProofs +contextual [-Int.not_le, -Int.not_lt, -Nat.not_le, -Nat.not_lt, -List.all_eq_true, -List.all_eq_false, -List.any_eq_true, -List.any_eq_false, hu0, hu1, hu2, hu3, hu4, hu5, Wd.ow, marksC_len', marksIn_len, marksUn_len, marksS_len, marksEn_len, marksTk_len]; (repeat1' (first | apply hK | apply And.intro | intro _)) <;> clear hK K)
    | (refine WPc.attRet 0 900002 2101 [] 0 1 rfl fun K hK => ?_; simp -implicitDefEqProofs +contextual [-Int.not_le, -Int.not_lt, -Nat.not_le, -Nat.not_lt, -List.all_eq_true, -List.all_eq_false, -List.any_eq_true, -List.any_eq_false, hu0, hu1, hu2, hu3, hu4, hu5, Wd.ow, marksC_len', marksIn_len, marksUn_len, marksS_len, marksEn_len, marksTk_len]; (repeat1' (first | apply hK | apply And.intro | intro _)) <;> clear hK K)
    | (refine WPc.attRet 0 900003 2102 [] 0 2 rfl fun K hK => ?_; simp -implicitDefEqProofs +contextual [-Int.not_le, -Int.not_lt, -Nat.not_le, -Nat.not_lt, -List.all_eq_true, -List.all_eq_false, -List.any_eq_true, -List.any_eq_false, hu0, hu1, hu2, hu3, hu4, hu5, Wd.ow, marksC_len', marksIn_len, marksUn_len, marksS_len, marksEn_len, marksTk_len]; (repeat1' (first | apply hK | apply And.intro | intro _)) <;> clear hK K)
    | (refine WPc.attRet 0 900004 2103 [] 0 3 rfl fun K hK => ?_; simp -implicitDefEqProofs +contextual [-Int.not_le, -Int.not_lt, -Nat.not_le, -Nat.not_lt, -List.all_eq_true, -List.all_eq_false, -List.any_eq_true, -List.any_eq_false, hu0, hu1, hu2, hu3, hu4, hu5, Wd.ow, marksC_len', marksIn_len, marksUn_len, marksS_len, marksEn_len, marksTk_len]; (repeat1' (first | apply hK | apply And.intro | intro _)) <;> clear hK K)
    | (refine WPc.attRet 0 900005 2104 [] 0 4 rfl fun K hK => ?_; simp -implicitDefEqProofs +contextual [-Int.not_le, -Int.not_lt, -Nat.not_le, -Nat.not_lt, -List.all_eq_true, -List.all_eq_false, -List.any_eq_true, -List.any_eq_false, hu0, hu1, hu2, hu3, hu4, hu5, Wd.ow, marksC_len', marksIn_len, marksUn_len, marksS_len, marksEn_len, marksTk_len]; (repeat1' (first | apply hK | apply And.intro | intro _)) <;> clear hK K)
    | (refine WPc.attRet 0 900006 2105 [] 0 5 rfl fun K hK => ?_; simp -implicitDefEqProofs +contextual [-Int.not_le, -Int.not_lt, -Nat.not_le, -Nat.not_lt, -List.all_eq_true, -List.all_eq_false, -List.any_eq_true, -List.any_eq_false, hu0, hu1, hu2, hu3, hu4, hu5, Wd.ow, marksC_len', marksIn_len, marksUn_len, marksS_len, marksEn_len, marksTk_len]; (repeat1' (first | apply hK | apply And.intro | intro _)) <;> clear hK K)
    | (refine WPL.unAt 8 6 2018 0 ?_ ?_; (focus (simp; done)); refine fun K hK => ?_; simp -implicitDefEqProofs +contextual [-Int.not_le, -Int.not_lt, -Nat.not_le, -Nat.not_lt, -List.all_eq_true, -List.all_eq_false, -List.any_eq_true, -List.any_eq_false, hu0, hu1, hu2, hu3, hu4, hu5, Wd.ow, marksC_len', marksIn_len, marksUn_len, marksS_len, marksEn_len, marksTk_len]; (repeat1' (first | apply hK | apply And.intro | intro _)) <;> clear hK K)
    | (refine WPL.unAt 8 6 2019 1 ?_ ?_; (focus (simp; done)); refine fun K hK => ?_; simp -implicitDefEqProofs +contextual [-Int.not_le, -Int.not_lt, -Nat.not_le, -Nat.not_lt, -List.all_eq_true, -List.all_eq_false, -List.any_eq_true, -List.any_eq_false, hu0, hu1, hu2, hu3, hu4, hu5, Wd.ow, marksC_len', marksIn_len, marksUn_len, marksS_len, marksEn_len, marksTk_len]; (repeat1' (first | apply hK | apply And.intro | intro _)) <;> clear hK K)
    | (refine WPL.unAt 8 6 2020 2 ?_ ?_; (focus (simp; done)); refine fun K hK => ?_; simp -implicitDefEqProofs +contextual [-Int.not_le, -Int.not_lt, -Nat.not_le, -Nat.not_lt, -List.all_eq_true, -List.all_eq_false, -List.any_eq_true, -List.any_eq_false, hu0, hu1, hu2, hu3, hu4, hu5, Wd.ow, marksC_len', marksIn_len, marksUn_len, marksS_len, marksEn_len, marksTk_len]; (repeat1' (first | apply hK | apply And.intro | intro _)) <;> clear hK K)
    | (refine WPL.unAt 8 6 2021 3 ?_ ?_; (focus (simp; done)); refine fun K hK => ?_; simp -implicitDefEqProofs +contextual [-Int.not_le, -Int.not_lt, -Nat.not_le, -Nat.not_lt, -List.all_eq_true, -List.all_eq_false, -List.any_eq_true, -List.any_eq_false, hu0, hu1, hu2, hu3, hu4, hu5, Wd.ow, marksC_len', marksIn_len, marksUn_len, marksS_len, marksEn_len, marksTk_len]; (repeat1' (first | apply hK | apply And.intro | intro _)) <;> clear hK K)
    | (refine WPc.dropR rfl ?_; dsimp only)
    | ((first | refine WPL.rnTo tok 12 _ (by simp [isFn]; rfl) fun K hK => ?_ | refine WPL.rnTo tok 16 _ (by simp [isFn]; rfl) fun K hK => ?_ | refine WPL.rnTo tok 8 _ (by simp [isFn]; rfl) fun K hK => ?_ | refine WPc.rq tok rfl fun K hK => ?_ | refine WPL.rn tok _ (by simp [ahead, isFn]; rfl) fun K hK => ?_); simp -implicitDefEqProofs +contextual [-Int.not_le, -Int.not_lt, -Nat.not_le, -Nat.not_lt, -List.all_eq_true, -List.all_eq_false, -List.any_eq_true, -List.any_eq_false, hu0, hu1, hu2, hu3, hu4, hu5, Wd.ow, marksC_len', marksIn_len, marksUn_len, marksS_len, marksEn_len, marksTk_len]; (repeat1' (first | apply hK | apply And.intro | intro _)) <;> clear hK K <;> (try dsimp only [List.drop]))
    | apply WPc.sq
    | (apply WPc.ret; apply endP.sel (is := [0]) (he := .inr rfl); (case hs => rfl); (case hg => rfl); (case h => (simp; rfl)); (case hO => (simp; rfl)); (case hk => (simp; done)))
    | refine WPL.nil ?_
    | (apply WPL.cU uS; (case q => (repeat' (first | refine And.intro ?_ ?_ | intro _ | (with_reducible exact cleanOut_nil) | (refine Eqv.mk ?_; first | rfl | (simp -implicitDefEqProofs [hu0, hu1, hu2, hu3, hu4, hu5, Wd.ow, marksC_len', marksIn_len, marksUn_len, marksS_len, marksEn_len, marksTk_len]; done)) | (simp -implicitDefEqProofs [hu0, hu1, hu2, hu3, hu4, hu5, Wd.ow, marksC_len', marksIn_len, marksUn_len, marksS_len, marksEn_len, marksTk_len]; done) | (simp -implicitDefEqProofs [hu0, hu1, hu2, hu3, hu4, hu5, Wd.ow, marksC_len', marksIn_len, marksUn_len, marksS_len, marksEn_len, marksTk_len]; rfl) | (simp; done) | (simp; rfl) | rfl))))
    | (apply WPL.cU (c_laws_markEntS _ _ ?g1 ?g2); (case q => (repeat' (first | refine And.intro ?_ ?_ | intro _ | (with_reducible exact cleanOut_nil) | (refine Eqv.mk ?_; first | rfl | (simp -implicitDefEqProofs [hu0, hu1, hu2, hu3, hu4, hu5, Wd.ow, marksC_len', marksIn_len, marksUn_len, marksS_len, marksEn_len, marksTk_len]; done)) | (simp -implicitDefEqProofs [hu0, hu1, hu2, hu3, hu4, hu5, Wd.ow, marksC_len', marksIn_len, marksUn_len, marksS_len, marksEn_len, marksTk_len]; done) | (simp -implicitDefEqProofs [hu0, hu1, hu2, hu3, hu4, hu5, Wd.ow, marksC_len', marksIn_len, marksUn_len, marksS_len, marksEn_len, marksTk_len]; rfl) | (simp; done) | (simp; rfl) | rfl))); (case g1 => (first | assumption | omega)); (case g2 => (first | assumption | omega)))
    | (apply WPL.cU (c_laws_markTaskS _ _ ?g1 ?g2); (case q => (repeat' (first | refine And.intro ?_ ?_ | intro _ | (with_reducible exact cleanOut_nil) | (refine Eqv.mk ?_; first | rfl | (simp -implicitDefEqProofs [hu0, hu1, hu2, hu3, hu4, hu5, Wd.ow, marksC_len', marksIn_len, marksUn_len, marksS_len, marksEn_len, marksTk_len]; done)) | (simp -implicitDefEqProofs [hu0, hu1, hu2, hu3, hu4, hu5, Wd.ow, marksC_len', marksIn_len, marksUn_len, marksS_len, marksEn_len, marksTk_len]; done) | (simp -implicitDefEqProofs [hu0, hu1, hu2, hu3, hu4, hu5, Wd.ow, marksC_len', marksIn_len, marksUn_len, marksS_len, marksEn_len, marksTk_len]; rfl) | (simp; done) | (simp; rfl) | rfl))); (case g1 => (first | assumption | omega)); (case g2 => (first | assumption | omega)))
    | (refine WPc.region ?_; simp only [List.toList_toArray]))
  refine ⟨?_, rfl⟩
  unfold mkWd mkSy posA; congr 2; omega
end Go.Own
set_option maxRecDepth 1000000
set_option maxHeartbeats 8000000
namespace Go.Own
attribute [local irreducible] WPc WPL WPS WPS1 WPS2 HAny endP
variable [Laid]
open Go.Lib Go.RowKit
theorem le8 {α : Type} {f g : α → Nat} (h : ∀ x, f x ≤ 8 + 8 * g x) : ∀ l : List α, (l.map f).sum ≤ 8 * (l.length + (l.map g).sum)
  | [] => by simp
  | x :: l => by
    have := le8 h l
    have := h x
    simp only [List.length_cons, List.map_cons, List.sum_cons]; omega
theorem leC (l : List Cl) : sumC l ≤ 8 * costH l := le8 (fun x => by unfold mk costC costS costV; omega) l
theorem leN (l : List Nd) : sumN l ≤ 8 * costP l := le8 (fun x => by unfold mkN costN costS; omega) l
theorem leLk (l : List Lk) : sumLk l ≤ 8 * costLkS l := le8 (fun x => by unfold mkLk; omega) l
theorem leTy (l : List Ty) : sumTy l ≤ 8 * costTyS l := le8 (fun x => by unfold mkTy; omega) l
theorem leBd (l : List Bd) : sumBd l ≤ 8 * costBdS l := le8 (fun x => by unfold mkBd; omega) l
theorem leIn (l : List In) : sumIn l ≤ 8 * costInS l := le8 (fun x => by
  have := leLk x.links; have := leTy x.types
  unfold mkIn costIn costS costV; omega) l
theorem leUn (l : List Un) : sumUn l ≤ 8 * costUnS l := le8 (fun x => by
  have := leN x.prog.nodes
  unfold mkUn costUn; omega) l
theorem leDf (l : List Df) : sumDf l ≤ 8 * costDfS l := le8 (fun x => by
  have := leN x.prog.nodes
  unfold mkDf costDf; omega) l
theorem leFm (l : List Fm) : sumFm l ≤ 8 * costFmS l := le8 (fun x => by
  have := leBd x.env
  unfold mkFm costFm costV; omega) l
theorem leEn (l : List En) : sumEn l ≤ 8 * costEnS l := le8 (fun x => by
  have := leTy x.src.types; have := leDf x.src.defs; have := leDf x.src.convs
  unfold mkEn costEn costSr costS; omega) l
theorem leTk (l : List Tk) : sumTk l ≤ 8 * costTkS l := le8 (fun x => by
  have := leBd x.mac.env; have := leFm x.mac.stack
  unfold mkTk costTk costMc; omega) l
theorem leWd (w : Wd) : mkWd w ≤ 8 * costWd w := by
  have := leC w.sys.heap; have := leIn w.sys.insts; have := leUn w.sys.units; have := leEn w.libs; have := leTk w.tasks
  unfold mkWd mkSy costWd costSy costS; omega
theorem eqStr0 : Con PP 18 [.sc (.slice none 0 0), .fz []] [] [] (fun r o => r = .sc (.bool true)) := by
  refine cof 26 Go.Proofs.Tryz.func18 fun G => ?_
  simp only [entSt, tmOf, List.append_nil, List.cons_append, List.nil_append]
  refine go (L := _ ∧ True) wb0 wb0 wb0 wb0 wb0 ⟨fun _ => ?_, wb0⟩
  refine WPc.loopK (σ := Nat) (fun i => i = 0) (fun i => 0) (fun i => [(5, .sc (.int .i64 i))])  [0, 1] 0 (by simp) (by simp) (rfl) ?_
  rintro i rfl s hs
  simp at hs
  subst hs
  refine go (L := _ ∧ True) wb0 wb0 wb0 wb0 wb0 ⟨fun _ => ?_, wb0⟩
  all_goals rfl
theorem markStr0 (k : Int) : Con PP 20 [.sc (.slice none 0 0), .sc (.int .i64 k)] [] [] (fun r o => r = .sc (.int .i64 k)) := by
  refine cof 20 Go.Proofs.Tryz.func20 fun G => ?_
  simp only [entSt, tmOf, List.append_nil, List.cons_append, List.nil_append]
  refine go (L := _ ∧ True) wb0 wb0 wb0 wb0 wb0 ⟨fun _ => ?_, wb0⟩
  refine WPc.loopK (σ := Nat) (fun i => i = 0) (fun i => 0) (fun i => [(5, .sc (.int .i64 i)), (1, .sc (.int .i64 k))])  [0] 0 (by simp) (by simp) (rfl) ?_
  rintro i rfl s hs
  simp at hs
  subst hs
  refine go (L := _ ∧ True) wb0 wb0 wb0 wb0 wb0 ⟨fun _ => ?_, wb0⟩
  all_goals rfl
theorem heldStr0 (k : Int) : Con PP 21 [.sc (.slice none 0 0), .sc (.int .i64 k)] [] [] (fun r o => r = .sc (.int .i64 k)) := by
  refine cof 22 Go.Proofs.Tryz.func21 fun G => ?_
  simp only [entSt, tmOf, List.append_nil, List.cons_append, List.nil_append]
  refine go (L := _ ∧ True) wb0 wb0 wb0 wb0 wb0 ⟨fun _ => ?_, wb0⟩
  refine WPc.loopK (σ := Nat) (fun i => i = 0) (fun i => 0) (fun i => [(5, .sc (.int .i64 i)), (1, .sc (.int .i64 k))])  [0] 0 (by simp) (by simp) (rfl) ?_
  rintro i rfl s hs
  simp at hs
  subst hs
  refine go (L := _ ∧ True) wb0 wb0 wb0 wb0 wb0 ⟨fun _ => ?_, wb0⟩
  all_goals rfl
theorem c_laws_FnExactExports [F : Facts.Of] (w : Wd) (s : ByteArray) (tw : w.tx) (hs : s.size ≤ 9223372036854775807) : Con PP 6 [w.av, .sc (.string s)] [] [] (fun r o => r = .sc (.bool true)) := by
  by_cases g0 : s.size ≤ 1048576
  rotate_left
  · have g0' : (1048576 : Int) < (s.size : Int) := by omega
    refine cof 77 Go.Proofs.Tryz.func6 fun G => ?_
    simp only [entSt, tmOf, List.append_nil, List.cons_append, List.nil_append, Wd.av]
    refine go (L := _ ∧ True) (wa1 @g0') wb0 wb0 wb0 wb0 ⟨fun _ => ?_, wb0⟩
    all_goals rfl
  have g0' : ¬ (1048576 : Int) < (s.size : Int) := by omega
  have u1 := c_laws_szWorld w 1048576 (by omega) (by omega) tw
  by_cases g1 : (costWd w : Int) ≤ 1048576
  · have e1 : szR 1048576 (costWd w) = 1048576 - costWd w := szR_ok g1
    rw [e1] at u1
    obtain ⟨s1, r1⟩ := smallWd (c := w) (by omega)
    have hle := leWd w
    have u3 := c_laws_toWorld w r1
    have u7 := c_laws_eqWorld w
    have u8 := c_laws_markWorld w 1 (by omega) (by omega)
    have hp0 : ¬ (1 + (mkWd w : Int) < 0) := by omega
    simp only [Wd.av] at u1 u3 u7
    cases hx : expW w s with
    | none =>
      have u5 := c_spec_Exports0 w s s1 r1 hx
      have u6 := c_impl_Exports0 w s s1 r1 hx
      have v1 := eqStr0
      have v2 := markStr0 1
      have v3 := heldStr0 1
      simp only [Wd.av] at u5 u6
      clear tw s1 r1 hx
      refine cof 77 Go.Proofs.Tryz.func6 fun G => ?_
      simp only [entSt, tmOf, List.append_nil, List.cons_append, List.nil_append, Wd.av]
      refine gox (L := _ ∧ True) (wa3 @Wd.ow.eq_1 @g0' @hp0) (wb6 (fun _ => u1) (fun _ => u6) (fun _ => v1) (fun _ => v2) (fun _ => v3) (fun _ => u7)) (wb3 (fun _ => u3) (fun _ => u5) (fun _ => u8)) wb0 (wb8 wb0 (nm 1 [26, 26, 900001, 0, 0]) (nm 1 [26, 26, 900002, 0, 1]) (nm 1 [26, 26, 900003, 0, 2]) (nm 1 [26, 26, 900004, 0, 3]) (nm 1 [26, 26, 900005, 0, 4]) (nm 1 [26, 26, 900006, 0, 5]) (sch 12 [(2, [36, 1036, 2036])] [(0, [36, 1036, 2036]), (1, []), (2, [36, 1036, 2036]), (3, []), (4, [])])) ⟨fun _ hq => ?_, wb0⟩
      all_goals first | rfl | (exfalso; omega) | (simp_all; done)
    | some y =>
      have hye : y.length ≤ 1000000000 := by
        obtain ⟨m, _, _, hm, rfl⟩ := exp_some hx
        exact (r1.libs1 _ (List.getElem_mem hm)).src.exports
      have u5 := c_spec_Exports1 w s y s1 r1 hx
      have u6 := c_impl_Exports1 w s y s1 r1 hx
      have v1 := c_laws_eqStringS y
      have v2 := c_laws_markStringS y 1 (by omega) (by omega) hye
      have v3 := c_laws_heldStringS y.length 1 (by omega) (by omega) hye
      have hml := marksS_len 1 y.length
      have hdz := dz_S hml
      have hdy := dz_S (rfl : y.length = y.length)
      have hp1 : ¬ (1 + (y.length : Int) < 0) := by omega
      simp only [Wd.av] at u5 u6
      clear tw s1 r1 hx
      refine cof 77 Go.Proofs.Tryz.func6 fun G => ?_
      simp only [entSt, tmOf, List.append_nil, List.cons_append, List.nil_append, Wd.av]
      refine gox (L := _ ∧ True) (wa7 @Wd.ow.eq_1 @g0' @hp0 @hp1 @hdz @hdy @hml) (wb4 (fun _ => u1) (fun _ => v1) (fun _ => v3) (fun _ => u7)) (wb5 (fun _ => u3) (fun _ => u5) (fun _ => u6) (fun _ => u8) (fun _ => v2)) wb0 (wb8 wb0 (nm 1 [26, 26, 900001, 0, 0]) (nm 1 [26, 26, 900002, 0, 1]) (nm 1 [26, 26, 900003, 0, 2]) (nm 1 [26, 26, 900004, 0, 3]) (nm 1 [26, 26, 900005, 0, 4]) (nm 1 [26, 26, 900006, 0, 5]) (sch 12 [(2, [36, 1036, 2036])] [(0, [36, 1036, 2036]), (1, []), (2, [36, 1036, 2036]), (3, []), (4, [])])) ⟨fun _ hq => ?_, wb0⟩
      all_goals first | rfl | (exfalso; omega) | (simp_all; done)
  · have e1 : szR 1048576 (costWd w) = -1 := szR_no (by omega)
    rw [e1] at u1
    simp only [Wd.av] at u1
    refine cof 77 Go.Proofs.Tryz.func6 fun G => ?_
    simp only [entSt, tmOf, List.append_nil, List.cons_append, List.nil_append, Wd.av]
    refine go (L := _ ∧ True) (wa2 @Wd.av.eq_1 @g0') (wb1 (fun _ => u1)) wb0 wb0 wb0 ⟨fun _ => ?_, wb0⟩
    all_goals first | rfl | (exfalso; omega) | (simp_all; done)
end Go.Own
