import Derived.Test.YtfanjfmgacfpjaaGreatDoorTe
import Derived.Deep.Slices
import Derived.ChangeArms
import Derived.Test.YtfanjfmgacfpjaaGreatDoorCards
import Derived.Test.YtfanjfmgacfpjaaGreatDoorTie
import Derived.OpenShut
import Derived.Deep.DeepHandedRow
import Derived.Lib.LaidTab
import Derived.Carry
import Derived.Lay
import Derived.SevenTiedAt
/- The law FnExactConstant returns true for every input, and leaves its argument as it was. -/
set_option linter.unusedVariables false
set_option linter.unusedSimpArgs false
set_option linter.unusedSectionVars false
set_option maxRecDepth 1000000
set_option maxHeartbeats 4000000
namespace Go.Own
attribute [local irreducible] WPc WPL WPS WPS1 WPS2 HAny endP valOf
variable [Laid]
open Go.Lib Go.RowKit
theorem foldP_rec : ∀ (m : Nat) (p : Pg) (t : T) (i : Int) (out : List Nd), t.size ≤ m → Rep p.nodes i t → t.wf → okT p.nodes → out.length + t.size ≤ 1000000 →
    Con PP 71 [p.av, .sc (.int .i64 i), .sl 0 5 [] 0 out.length] [(0, nodesR out)] [] (fun r o => r = .tup [.sl 900009 5 [] 0 (spT t out).1.length, .sc (.int .i64 (spT t out).2)] ∧ o = [(900009, nodesR (spT t out).1)])
  | 0, p, t, i, out, hm, _, _, _, _ => by have := t.size_pos; omega
  | m + 1, p, .nd k n s names ks, i, out, hm, hr, hwf, hok, hb => by
    have ih := foldP_rec m p
    simp only [Rep] at hr
    simp only [T.wf] at hwf
    obtain ⟨h0, c, hc, e1, e2, e3, e4, e5, e6⟩ := hr
    obtain ⟨hlt, hce⟩ := List.getElem?_eq_some_iff.1 hc
    have hlt2 : i < (p.nodes.length : Int) := by omega
    have hokc := hok c (List.mem_of_getElem? hc)
    have hln := e6.len
    refine Con.of tok (nt := 146) Go.Proofs.Tryz.func71 (by kernel_rfl) rfl rfl rfl (Nat.le_of_ble_eq_true rfl) fun G => ?_
    simp only [entSt, tmOf, List.append_nil, List.cons_append, List.nil_append, nodesR, Pg.av]
    repeat' (first
      | apply WPc.sq
      | apply WPc.block
      | (refine WPc.rq tok rfl fun K hK => ?_; simp -implicitDefEqProofs +contextual [-Int.not_le, -Int.not_lt, -Nat.not_le, -Nat.not_lt, -List.all_eq_true, -List.all_eq_false, -List.any_eq_true, -List.any_eq_false, h0, hlt, hlt2, hce, Nd.cs]; (repeat1' (first | apply hK | apply And.intro | intro _)) <;> clear hK K <;> (try dsimp only [List.drop])))
    refine WPc.renC 0 900002 fun K hK => ?_
    simp -implicitDefEqProofs
    refine hK _ ?_; clear hK K
    refine WPc.renC 22 900003 fun K hK => ?_
    simp -implicitDefEqProofs
    refine hK _ ?_; clear hK K
    refine WPc.loopV (σ := Nat) (fun j => j ≤ ks.length) (fun j => ks.length - j) (fun j => [(10, .sc (.int .i64 j)), (2, .sl 900002 5 [] 0 (spL (ks.take j) out).1.length), (9, .sl 900003 1 [] 0 j)]) (fun j => [(900002, 97, 5, (spL (ks.take j) out).1.map Nd.ow), (900003, 3, 1, (spL (ks.take j) out).2.map nC), (8, 97, 5, [[.sc (.int .i64 c.k), .sc (.int .i64 c.n), .sc (.string c.s), .fz (c.names.map sC), .fz (c.args.map nC)]]), (3, 54, 2, [[.fz (p.nodes.map Nd.cs), .sc (.int .i64 p.root)]])]) [3, 8] 0 (by simp [spL]) (by simp [spL]) (by simp) ?_
    rintro j hj s hs
    simp at hs
    subst hs
    by_cases hjl : j < ks.length
    · have hja : j < c.args.length := by omega
      have hja' : (j : Int) < (c.args.length : Int) := by omega
      have hrep := e6.get (List.getElem?_eq_getElem hja) (List.getElem?_eq_getElem hjl)
      have hsz := sizeL_mem (List.getElem_mem hjl)
      have hsn : spL (ks.take (j + 1)) out = spL (ks.take j ++ [ks[j]]) out := by rw [List.take_add_one, List.getElem?_eq_getElem hjl]; rfl
      rw [spL_snoc] at hsn
      have hzl : sizeL (ks.take (j + 1)) = sizeL (ks.take j) + ks[j].size := by rw [List.take_add_one, List.getElem?_eq_getElem hjl, Option.toList_some, sizeL_snoc]
      have hzz : sizeL (ks.take (j + 1)) ≤ sizeL ks := by
        conv => rhs; rw [← List.take_append_drop (j + 1) ks]
        rw [sizeL_app]; omega
      have hL := (spL_len1 (ks.take j) out).2
      have hA := spL_len (ks.take j) out
      simp only [T.size] at hm hb
      have hcon := ih ks[j] c.args[j] (spL (ks.take j) out).1 (by omega) hrep (wfL_mem hwf.2.2.2 (List.getElem_mem hjl)) hok (by omega)
      simp only [nodesR, Pg.av] at hcon
      have hlA : (spL (ks.take j) out).2.length = j := by rw [hA]; simp; omega
      have hb1 : (j + 1) * 8 ≤ 140737488355328 := by omega
      have hb2 : j + 1 ≤ 9223372036854775807 := by omega
      repeat' (first
        | (refine WPc.renRg (r := 7) 38 900002 fun K hK => ?_; simp -implicitDefEqProofs +contextual [-Int.not_le, -Int.not_lt, -Nat.not_le, -Nat.not_lt, -List.all_eq_true, -List.all_eq_false, -List.any_eq_true, -List.any_eq_false, nC, hjl, hja, hja', hce, Nd.cs, hlA, hb1, hb2]; (repeat1' (first | apply hK | apply And.intro | intro _)) <;> clear hK K)
        | apply WPc.sq
        | apply WPc.block
        | apply WPc.skip
        | (apply WPS.cU (hc := hcon); (case ho => exact rfl); (case q => (repeat' (first | refine And.intro ?_ ?_ | intro _ | exact cleanOut_nil | (refine Eqv.mk ?_; first | rfl | (simp -implicitDefEqProofs [nC, hjl, hja, hja', hce, Nd.cs, hlA, hb1, hb2]; done)) | (simp -implicitDefEqProofs [nC, hjl, hja, hja', hce, Nd.cs, hlA, hb1, hb2]; done) | (simp -implicitDefEqProofs [nC, hjl, hja, hja', hce, Nd.cs, hlA, hb1, hb2]; rfl) | (simp; done) | (simp; rfl) | rfl))))
        | ((first | refine WPc.rq tok rfl fun K hK => ?_ | refine WPS.rn tok _ (by simp [aheadS]; rfl) fun K hK => ?_); simp -implicitDefEqProofs +contextual [-Int.not_le, -Int.not_lt, -Nat.not_le, -Nat.not_lt, -List.all_eq_true, -List.all_eq_false, -List.any_eq_true, -List.any_eq_false, nC, hjl, hja, hja', hce, Nd.cs, hlA, hb1, hb2]; (repeat1' (first | apply hK | apply And.intro | intro _)) <;> clear hK K <;> (try dsimp only [List.drop]))
        | (refine WPc.sched (id := 6) tok [(7, [38, 1038, 2038, 900002])] [(0, []), (1, []), (2, []), (3, []), (4, []), (5, []), (6, []), (7, [38, 1038, 2038, 900002]), (8, []), (9, []), (10, []), (11, []), (12, [])] (by kernel_rfl) ?_)
        | (refine WPS.nil ?_)
        | (refine WPc.condT ?_ ?_; (focus (simp; done))))
      refine ⟨j + 1, ⟨hjl, by first | omega | (simp only; omega) | assumption⟩, rfl, rfl, ?_, ?_⟩ <;> simp (disch := omega) [wrap64, hsn, nC]
    · obtain rfl : j = ks.length := by omega
      have hL := (spL_len1 ks out).2
      have hA := spL_len ks out
      have hB := spL_bd ks out hwf.2.2.2
      simp only [T.size] at hm hb
      have hT : spT (.nd k n s names ks) out = spN ⟨k, n, s, names, []⟩ (spL ks out).1 (spL ks out).2 := by rw [spT]
      rw [hT]
      subst e1 e2 e3 e4
      rw [List.take_length]
      generalize spL ks out = y at hL hA hB ⊢
      obtain ⟨O, X⟩ := y
      dsimp only at hL hA hB ⊢
      obtain ⟨w9, w6, w11, _⟩ := hwf
      have hb1 : (O.length + 1) * 80 ≤ 140737488355328 := by omega
      have hb2 : O.length + 1 ≤ 9223372036854775807 := by omega
      have hb3 : c.names.length * 16 ≤ 140737488355328 := by omega
      have hb4 : c.names.length ≤ 9223372036854775807 := by omega
      have hyk : knY c O X = true → c.k = 9 ∧ isW wKn c.s = true := fun h => by
        simp only [knY, Bool.and_eq_true, decide_eq_true_eq] at h; exact h.1
      have u1 := l24Known_con c O X hB (by omega) (fun h hs => by obtain ⟨g1, g2⟩ := hyk h; rw [hA]; exact (w9 g1 g2).1 hs) (fun h hs => by obtain ⟨g1, g2⟩ := hyk h; rw [hA]; exact (w9 g1 g2).2 hs)
      have hdz : dzLL (List.take ks.length (X.map nC)) = X.map nC := by rw [← hA]; simp
      have ey : knY ⟨c.k, c.n, c.s, c.names, []⟩ O X = knY c O X := rfl
      have ev : knV ⟨c.k, c.n, c.s, c.names, []⟩ O X = knV c O X := rfl
      cases hy : knY c O X with
      | true =>
        have hk9 := (hyk hy).1
        by_cases hcode : (knV c O X).2 = 0
        · have hR : knR c O X = .tup [(ndOf (knV c O X).1).nl, .sc (.bool true)] := by simp [knR, hy, hcode]
          have hS : spN ⟨c.k, c.n, c.s, c.names, []⟩ O X = (O ++ [ndOf (knV c O X).1], (O.length : Int)) := by simp [spN, ey, ev, hy, hcode]
          rw [hR] at u1
          rw [hS]
          simp only [Nd.av] at u1
          repeat' (first
            | (refine WPL.lenSc tok ?_; refine fun K hK => ?_; simp -implicitDefEqProofs +contextual [-Int.not_le, -Int.not_lt, -Nat.not_le, -Nat.not_lt, -List.all_eq_true, -List.all_eq_false, -List.any_eq_true, -List.any_eq_false, hb1, hb2, hA, hdz, Nd.nl]; (repeat1' (first | apply hK | apply And.intro | intro _)) <;> clear hK K)
            | (refine WPL.scAt 57 2 ?_ (by simp; exact ⟨rfl, rfl, rfl, rfl, rfl⟩) ?_; (focus (simp; done)); refine fun q_ c_ K hK => ?_; simp -implicitDefEqProofs +contextual [-Int.not_le, -Int.not_lt, -Nat.not_le, -Nat.not_lt, -List.all_eq_true, -List.all_eq_false, -List.any_eq_true, -List.any_eq_false, hb1, hb2, hA, hdz, Nd.nl]; (repeat1' (first | apply hK | apply And.intro | intro _)) <;> clear hK K)
            | (refine WPc.renR 900002 900009 fun K hK => ?_; simp -implicitDefEqProofs +contextual [-Int.not_le, -Int.not_lt, -Nat.not_le, -Nat.not_lt, -List.all_eq_true, -List.all_eq_false, -List.any_eq_true, -List.any_eq_false, hb1, hb2, hA, hdz, Nd.nl]; (repeat1' (first | apply hK | apply And.intro | intro _)) <;> clear hK K)
            | (refine WPL.adAt 56 55 3 900005 9 1 ?_ ?_; (focus (simp; done)); refine fun K hK => ?_; simp -implicitDefEqProofs +contextual [-Int.not_le, -Int.not_lt, -Nat.not_le, -Nat.not_lt, -List.all_eq_true, -List.all_eq_false, -List.any_eq_true, -List.any_eq_false, hb1, hb2, hA, hdz, Nd.nl]; (repeat1' (first | apply hK | apply And.intro | intro _)) <;> clear hK K)
            | (refine WPL.adAt 56 55 4 900006 3 1 ?_ ?_; (focus (simp; done)); refine fun K hK => ?_; simp -implicitDefEqProofs +contextual [-Int.not_le, -Int.not_lt, -Nat.not_le, -Nat.not_lt, -List.all_eq_true, -List.all_eq_false, -List.any_eq_true, -List.any_eq_false, hb1, hb2, hA, hdz, Nd.nl]; (repeat1' (first | apply hK | apply And.intro | intro _)) <;> clear hK K)
            | ((first | refine WPL.rnTo tok 56 _ (by simp [isFn]; rfl) fun K hK => ?_ | refine WPL.rnTo tok 57 _ (by simp [isFn]; rfl) fun K hK => ?_ | refine WPL.rnTo tok 59 _ (by simp [isFn]; rfl) fun K hK => ?_ | refine WPc.rq tok rfl fun K hK => ?_ | refine WPL.rn tok _ (by simp [ahead, isFn]; rfl) fun K hK => ?_); simp -implicitDefEqProofs +contextual [-Int.not_le, -Int.not_lt, -Nat.not_le, -Nat.not_lt, -List.all_eq_true, -List.all_eq_false, -List.any_eq_true, -List.any_eq_false, hb1, hb2, hA, hdz, Nd.nl]; (repeat1' (first | apply hK | apply And.intro | intro _)) <;> clear hK K <;> (try dsimp only [List.drop]))
            | apply WPc.sq
            | (apply WPc.ret; apply endP.sel (is := [900009]) (he := .inr rfl); (case hs => rfl); (case hg => rfl); (case h => (simp; rfl)); (case hO => (simp; rfl)); (case hk => (simp; done)))
            | apply WPc.exit
            | refine WPL.nil ?_
            | (apply WPL.cL u1; (case q => (repeat' (first | refine And.intro ?_ ?_ | intro _ | exact cleanOut_nil | (refine Eqv.mk ?_; first | rfl | (simp -implicitDefEqProofs [hb1, hb2, hA, hdz, Nd.nl]; done)) | (simp -implicitDefEqProofs [hb1, hb2, hA, hdz, Nd.nl]; done) | (simp -implicitDefEqProofs [hb1, hb2, hA, hdz, Nd.nl]; rfl) | (simp; done) | (simp; rfl) | rfl))))
            | (refine WPc.region ?_; simp only [List.toList_toArray])
            | (refine WPc.condT ?_ ?_; (focus (simp; done)))
            | (refine WPc.cond (by simp [-Bool.not_eq_eq_eq_not]; rfl) (fun hq => ?_) (fun hq => ?_) <;> simp only [hq] <;> (try (exfalso; (simp only [decide_eq_true_eq, decide_eq_false_iff_not] at hq); omega))))
          simp [Nd.ow, (ndOf_nil (knV c O X).1).1, (ndOf_nil (knV c O X).1).2]
        · have hR : knR c O X = .tup [(ndOf (knV c O X).1).nl, .sc (.bool false)] := by simp [knR, hy, hcode]
          have hS : spN ⟨c.k, c.n, c.s, c.names, []⟩ O X = (O ++ [{ c with args := X }], (O.length : Int)) := by unfold spN; rw [ey, ev, if_neg (by simp [hcode]), if_neg (by simp [hk9]), if_neg (by simp [hk9])]
          rw [hR] at u1
          rw [hS]
          simp only [Nd.av, hk9] at u1
          repeat' (first
            | (refine WPc.renR 900002 900009 fun K hK => ?_; simp -implicitDefEqProofs +contextual [-Int.not_le, -Int.not_lt, -Nat.not_le, -Nat.not_lt, -List.all_eq_true, -List.all_eq_false, -List.any_eq_true, -List.any_eq_false, hk9, hb1, hb2, hb3, hb4, hA, hdz, Nd.nl]; (repeat1' (first | apply hK | apply And.intro | intro _)) <;> clear hK K)
            | apply WPc.sq
            | (apply WPc.ret; apply endP.sel (is := [900009]) (he := .inr rfl); (case hs => rfl); (case hg => rfl); (case h => (simp; rfl)); (case hO => (simp; rfl)); (case hk => (simp; done)))
            | apply WPc.skip
            | apply WPc.exit
            | refine WPL.nil ?_
            | (apply WPL.cL u1; (case q => (repeat' (first | refine And.intro ?_ ?_ | intro _ | exact cleanOut_nil | (refine Eqv.mk ?_; first | rfl | (simp -implicitDefEqProofs [hk9, hb1, hb2, hb3, hb4, hA, hdz, Nd.nl]; done)) | (simp -implicitDefEqProofs [hk9, hb1, hb2, hb3, hb4, hA, hdz, Nd.nl]; done) | (simp -implicitDefEqProofs [hk9, hb1, hb2, hb3, hb4, hA, hdz, Nd.nl]; rfl) | (simp; done) | (simp; rfl) | rfl))))
            | (refine WPL.call0f ?_ ?_ ?_; (focus (simp; done)); (focus (simp; done)))
            | ((first | refine WPc.rq tok rfl fun K hK => ?_ | refine WPL.rn tok _ (by simp [ahead, isFn]; rfl) fun K hK => ?_ | refine WPS.rn tok _ (by simp [aheadS]; rfl) fun K hK => ?_); simp -implicitDefEqProofs +contextual [-Int.not_le, -Int.not_lt, -Nat.not_le, -Nat.not_lt, -List.all_eq_true, -List.all_eq_false, -List.any_eq_true, -List.any_eq_false, hk9, hb1, hb2, hb3, hb4, hA, hdz, Nd.nl]; (repeat1' (first | apply hK | apply And.intro | intro _)) <;> clear hK K <;> (try dsimp only [List.drop]))
            | (refine WPc.sched (id := 26) tok [(7, [136]), (10, [136, 139]), (13, [136, 139, 142, 900003]), (14, [136, 139, 142, 143, 900002, 900003])] [(0, [136, 139, 142, 900003]), (1, [136, 139]), (2, [136, 139]), (3, [136, 139]), (4, [136, 139]), (5, [136, 139]), (6, [136, 139]), (8, [136]), (9, [136]), (11, [136, 139]), (15, [136, 139, 142, 143, 900002, 900003]), (16, [136, 139, 142, 143, 900002, 900003]), (7, [136]), (10, [136, 139]), (12, []), (13, [136, 139, 142, 900003]), (14, [136, 139, 142, 143, 900002, 900003]), (17, []), (18, [])] (by kernel_rfl) ?_)
            | (refine WPS.nil ?_)
            | (refine WPS.eff tok fun K hK => ?_; simp -implicitDefEqProofs +contextual [-Int.not_le, -Int.not_lt, -Nat.not_le, -Nat.not_lt, -List.all_eq_true, -List.all_eq_false, -List.any_eq_true, -List.any_eq_false, hk9, hb1, hb2, hb3, hb4, hA, hdz, Nd.nl]; (repeat1' (first | apply hK | apply And.intro | intro _)) <;> clear hK K)
            | (refine WPc.region ?_; simp only [List.toList_toArray])
            | (refine WPc.condF ?_ ?_; (focus (simp; done)))
            | (refine WPc.cond (by simp [-Bool.not_eq_eq_eq_not]; rfl) (fun hq => ?_) (fun hq => ?_) <;> simp only [hq] <;> (try (exfalso; (simp only [decide_eq_true_eq, decide_eq_false_iff_not] at hq); omega))))
          simp [Nd.ow, hk9]
      | false =>
        clear u1
        have hyn : ¬ (knY c O X = true ∧ (knV c O X).2 = 0) := by simp [hy]
        have u1 := l24Known_no c O X hB (by omega) hy
        by_cases k6 : c.k = 6
        · have k6' : (c.k = 6) = True := by simp [k6]
          have hX : X.length = 3 := by rw [hA]; exact w6 k6
          have j0 : 0 < X.length := by omega
          have j1 : 1 < X.length := by omega
          have j2 : 2 < X.length := by omega
          have i0 : (0 : Int) < (X.length : Int) := by omega
          have i1 : (1 : Int) < (X.length : Int) := by omega
          have i2 : (2 : Int) < (X.length : Int) := by omega
          obtain ⟨a0, a1⟩ := hB _ (List.getElem_mem j0)
          have a2 : X[0].toNat < O.length := by omega
          have f0 : X.getD 0 0 = X[0] := by rw [List.getD_eq_getElem?_getD, List.getElem?_eq_getElem j0]; rfl
          have f1 : X.getD 1 0 = X[1] := by rw [List.getD_eq_getElem?_getD, List.getElem?_eq_getElem j1]; rfl
          have f2 : X.getD 2 0 = X[2] := by rw [List.getD_eq_getElem?_getD, List.getElem?_eq_getElem j2]; rfl
          have ee : ndAt O (X.getD 0 0) = O[X[0].toNat] := by rw [f0]; exact ndAt_eq a2
          have m0 : 0 < ks.length := by omega
          have m1 : 1 < ks.length := by omega
          have m2 : 2 < ks.length := by omega
          have n1 : (1 : Int) < (ks.length : Int) := by omega
          have n2 : (2 : Int) < (ks.length : Int) := by omega
          have et : valOf ⟨O[X[0].toNat].k, O[X[0].toNat].n, O[X[0].toNat].s, O[X[0].toNat].names, O[X[0].toNat].args⟩ = valOf O[X[0].toNat] := rfl
          have ek : isConst ⟨O[X[0].toNat].k, O[X[0].toNat].n, O[X[0].toNat].s, O[X[0].toNat].names, O[X[0].toNat].args⟩ = isConst O[X[0].toNat] := rfl
          have ev2 : V.mk (valOf O[X[0].toNat]).k (valOf O[X[0].toNat]).n (valOf O[X[0].toNat]).s = valOf O[X[0].toNat] := rfl
          simp only [Nd.av, k6] at u1
          repeat' (first
            | (refine WPc.renR 900002 900009 fun K hK => ?_; simp -implicitDefEqProofs +contextual [-Int.not_le, -Int.not_lt, -Nat.not_le, -Nat.not_lt, -List.all_eq_true, -List.all_eq_false, -List.any_eq_true, -List.any_eq_false, k6, k6', hb1, hb2, hb3, hb4, hA, hdz, nC, Nd.ow, V.av, et, ek, ev2, m0, m1, m2, n1, n2, a0, a1, a2]; (repeat1' (first | apply hK | apply And.intro | intro _)) <;> clear hK K)
            | apply WPc.sq
            | (apply WPc.ret; apply endP.sel (is := [900009]) (he := .inr rfl); (case hs => rfl); (case hg => rfl); (case h => (simp; rfl)); (case hO => (simp; rfl)); (case hk => (simp; done)))
            | apply WPc.skip
            | apply WPc.exit
            | refine WPL.nil ?_
            | (apply WPL.cR u1; (case q => (repeat' (first | refine And.intro ?_ ?_ | intro _ | exact cleanOut_nil | (refine Eqv.mk ?_; first | rfl | (simp -implicitDefEqProofs [k6, k6', hb1, hb2, hb3, hb4, hA, hdz, nC, Nd.ow, V.av, et, ek, ev2, m0, m1, m2, n1, n2, a0, a1, a2]; done)) | (simp -implicitDefEqProofs [k6, k6', hb1, hb2, hb3, hb4, hA, hdz, nC, Nd.ow, V.av, et, ek, ev2, m0, m1, m2, n1, n2, a0, a1, a2]; done) | (simp -implicitDefEqProofs [k6, k6', hb1, hb2, hb3, hb4, hA, hdz, nC, Nd.ow, V.av, et, ek, ev2, m0, m1, m2, n1, n2, a0, a1, a2]; rfl) | (simp; done) | (simp; rfl) | rfl))); (intro y hy s hs; simp at hs; subst hs))
            | (apply WPL.cL (c_spec_l24Const ⟨_, _, _, _, _⟩); (case q => (repeat' (first | refine And.intro ?_ ?_ | intro _ | exact cleanOut_nil | (refine Eqv.mk ?_; first | rfl | (simp -implicitDefEqProofs [k6, k6', hb1, hb2, hb3, hb4, hA, hdz, nC, Nd.ow, V.av, et, ek, ev2, m0, m1, m2, n1, n2, a0, a1, a2]; done)) | (simp -implicitDefEqProofs [k6, k6', hb1, hb2, hb3, hb4, hA, hdz, nC, Nd.ow, V.av, et, ek, ev2, m0, m1, m2, n1, n2, a0, a1, a2]; done) | (simp -implicitDefEqProofs [k6, k6', hb1, hb2, hb3, hb4, hA, hdz, nC, Nd.ow, V.av, et, ek, ev2, m0, m1, m2, n1, n2, a0, a1, a2]; rfl) | (simp; done) | (simp; rfl) | rfl))))
            | (apply WPL.cL (c_spec_l24Value ⟨_, _, _, _, _⟩); (case q => (repeat' (first | refine And.intro ?_ ?_ | intro _ | exact cleanOut_nil | (refine Eqv.mk ?_; first | rfl | (simp -implicitDefEqProofs [k6, k6', hb1, hb2, hb3, hb4, hA, hdz, nC, Nd.ow, V.av, et, ek, ev2, m0, m1, m2, n1, n2, a0, a1, a2]; done)) | (simp -implicitDefEqProofs [k6, k6', hb1, hb2, hb3, hb4, hA, hdz, nC, Nd.ow, V.av, et, ek, ev2, m0, m1, m2, n1, n2, a0, a1, a2]; done) | (simp -implicitDefEqProofs [k6, k6', hb1, hb2, hb3, hb4, hA, hdz, nC, Nd.ow, V.av, et, ek, ev2, m0, m1, m2, n1, n2, a0, a1, a2]; rfl) | (simp; done) | (simp; rfl) | rfl))))
            | (apply WPL.cL (c_spec_Truth ⟨_, _, _⟩); (case q => (repeat' (first | refine And.intro ?_ ?_ | intro _ | exact cleanOut_nil | (refine Eqv.mk ?_; first | rfl | (simp -implicitDefEqProofs [k6, k6', hb1, hb2, hb3, hb4, hA, hdz, nC, Nd.ow, V.av, et, ek, ev2, m0, m1, m2, n1, n2, a0, a1, a2]; done)) | (simp -implicitDefEqProofs [k6, k6', hb1, hb2, hb3, hb4, hA, hdz, nC, Nd.ow, V.av, et, ek, ev2, m0, m1, m2, n1, n2, a0, a1, a2]; done) | (simp -implicitDefEqProofs [k6, k6', hb1, hb2, hb3, hb4, hA, hdz, nC, Nd.ow, V.av, et, ek, ev2, m0, m1, m2, n1, n2, a0, a1, a2]; rfl) | (simp; done) | (simp; rfl) | rfl))))
            | ((first | refine WPc.rq tok rfl fun K hK => ?_ | refine WPL.rn tok _ (by simp [ahead, isFn]; rfl) fun K hK => ?_ | refine WPS.rn tok _ (by simp [aheadS]; rfl) fun K hK => ?_); simp -implicitDefEqProofs +contextual [-Int.not_le, -Int.not_lt, -Nat.not_le, -Nat.not_lt, -List.all_eq_true, -List.all_eq_false, -List.any_eq_true, -List.any_eq_false, k6, k6', hb1, hb2, hb3, hb4, hA, hdz, nC, Nd.ow, V.av, et, ek, ev2, m0, m1, m2, n1, n2, a0, a1, a2]; (repeat1' (first | apply hK | apply And.intro | intro _)) <;> clear hK K <;> (try dsimp only [List.drop]))
            | (refine WPc.sched (id := 14) tok [] [(0, []), (1, []), (2, []), (3, []), (4, []), (5, [])] (by kernel_rfl) ?_)
            | (refine WPc.sched (id := 15) tok [] [(0, []), (1, []), (2, []), (3, []), (4, []), (5, [])] (by kernel_rfl) ?_)
            | (refine WPc.sched (id := 26) tok [(7, [136]), (10, [136, 139]), (13, [136, 139, 142, 900003]), (14, [136, 139, 142, 143, 900002, 900003])] [(0, [136, 139, 142, 900003]), (1, [136, 139]), (2, [136, 139]), (3, [136, 139]), (4, [136, 139]), (5, [136, 139]), (6, [136, 139]), (8, [136]), (9, [136]), (11, [136, 139]), (15, [136, 139, 142, 143, 900002, 900003]), (16, [136, 139, 142, 143, 900002, 900003]), (7, [136]), (10, [136, 139]), (12, []), (13, [136, 139, 142, 900003]), (14, [136, 139, 142, 143, 900002, 900003]), (17, []), (18, [])] (by kernel_rfl) ?_)
            | (refine WPS.nil ?_)
            | (refine WPS.eff tok fun K hK => ?_; simp -implicitDefEqProofs +contextual [-Int.not_le, -Int.not_lt, -Nat.not_le, -Nat.not_lt, -List.all_eq_true, -List.all_eq_false, -List.any_eq_true, -List.any_eq_false, k6, k6', hb1, hb2, hb3, hb4, hA, hdz, nC, Nd.ow, V.av, et, ek, ev2, m0, m1, m2, n1, n2, a0, a1, a2]; (repeat1' (first | apply hK | apply And.intro | intro _)) <;> clear hK K)
            | (refine WPc.region ?_; simp only [List.toList_toArray])
            | (refine WPc.condF ?_ ?_; (focus (simp; done)))
            | (refine WPc.cond (by simp [-Bool.not_eq_eq_eq_not]; rfl) (fun hq => ?_) (fun hq => ?_) <;> simp only [hq] <;> (try (exfalso; (simp only [decide_eq_true_eq, decide_eq_false_iff_not] at hq); omega))))
          all_goals (unfold spN; rw [ey, ev, if_neg hyn, ee])
          · have n1 : (Nd.mk c.k c.n c.s c.names []).k = 6 ∧ isConst O[X[0].toNat] = true := ⟨k6, by assumption⟩
            have n3 : truth (valOf O[X[0].toNat]) = true := hq
            rw [if_pos n1]; simp only [n3, if_true]; rw [f1]; exact ⟨rfl, trivial⟩
          · have n1 : (Nd.mk c.k c.n c.s c.names []).k = 6 ∧ isConst O[X[0].toNat] = true := ⟨k6, by assumption⟩
            have n3 : ¬ truth (valOf O[X[0].toNat]) = true := by rw [← ev2, hq]; simp
            rw [if_pos n1]; simp only [if_neg n3]; rw [f2]; exact ⟨rfl, trivial⟩
          · have n1 : ¬ ((Nd.mk c.k c.n c.s c.names []).k = 6 ∧ isConst O[X[0].toNat] = true) := by simp [hq]
            have n2 : ¬ (Nd.mk c.k c.n c.s c.names []).k = 11 := by simp [k6]
            rw [if_neg n1, if_neg n2]; simp [Nd.ow, k6]
        · have k6' : (c.k = 6) = False := by simp [k6]
          by_cases k11 : c.k = 11
          · have k11' : (c.k = 11) = True := by simp [k11]
            have hX2 : 2 ≤ X.length := by rw [hA]; exact w11 k11
            obtain ⟨m', hm'⟩ : ∃ m', X.length = m' + 1 := ⟨X.length - 1, by omega⟩
            have hm2 : ks.length = m' + 1 := by omega
            have hw1 : IntKind.i64.wrap ((ks.length : Int) - 1) = m' := by rw [wrap64 (by omega) (by omega)]; omega
            have hS : spN ⟨c.k, c.n, c.s, c.names, []⟩ O X = if (seqTo O X X.length).length = 1 then (O, (seqTo O X X.length).getD 0 0) else (O ++ [{ c with args := seqTo O X X.length }], (O.length : Int)) := by unfold spN; rw [ey, ev, if_neg hyn, if_neg (by simp [k6]), if_pos k11]
            rw [hS]
            simp only [Nd.av, k11] at u1
            repeat' (first
              | apply WPc.sq
              | apply WPc.block
              | apply WPc.skip
              | apply WPc.exit
              | refine WPL.nil ?_
              | (apply WPL.cR u1; (case q => (repeat' (first | refine And.intro ?_ ?_ | intro _ | exact cleanOut_nil | (refine Eqv.mk ?_; first | rfl | (simp -implicitDefEqProofs [k6, k6', k11, k11', hb1, hb2, hb3, hb4, hA, hdz]; done)) | (simp -implicitDefEqProofs [k6, k6', k11, k11', hb1, hb2, hb3, hb4, hA, hdz]; done) | (simp -implicitDefEqProofs [k6, k6', k11, k11', hb1, hb2, hb3, hb4, hA, hdz]; rfl) | (simp; done) | (simp; rfl) | rfl))); (intro y hy s hs; simp at hs; subst hs))
              | (refine WPL.call0f ?_ ?_ ?_; (focus (simp; done)); (focus (simp; done)))
              | ((first | refine WPc.rq tok rfl fun K hK => ?_ | refine WPL.rn tok _ (by simp [ahead, isFn]; rfl) fun K hK => ?_); simp -implicitDefEqProofs +contextual [-Int.not_le, -Int.not_lt, -Nat.not_le, -Nat.not_lt, -List.all_eq_true, -List.all_eq_false, -List.any_eq_true, -List.any_eq_false, k6, k6', k11, k11', hb1, hb2, hb3, hb4, hA, hdz]; (repeat1' (first | apply hK | apply And.intro | intro _)) <;> clear hK K <;> (try dsimp only [List.drop]))
              | (refine WPc.region ?_; simp only [List.toList_toArray])
              | (refine WPc.condT ?_ ?_; (focus (simp; done)))
              | (refine WPc.condF ?_ ?_; (focus (simp; done)))
              | (refine WPc.cond (by simp [-Bool.not_eq_eq_eq_not]; rfl) (fun hq => ?_) (fun hq => ?_) <;> simp only [hq] <;> (try (exfalso; (simp only [decide_eq_true_eq, decide_eq_false_iff_not] at hq); omega))))
            refine WPc.renC 900003 900008 fun K hK => ?_
            simp -implicitDefEqProofs
            refine hK _ ?_; clear hK K
            refine WPc.renC 91 900003 fun K hK => ?_
            simp -implicitDefEqProofs
            refine hK _ ?_; clear hK K
            refine WPc.loopV (σ := Nat) (fun j => j ≤ X.length) (fun j => X.length - j) (fun j => [(16, .sc (.int .i64 j)), (15, .sl 900003 1 [] 0 (seqTo O X j).length)]) (fun j => [(900002, 97, 5, O.map Nd.ow), (900003, 3, 1, (seqTo O X j).map nC), (900008, 3, 1, X.map nC), (8, 97, 5, [[.sc (.int .i64 11), .sc (.int .i64 c.n), .sc (.string c.s), .fz (c.names.map sC), .fz (c.args.map nC)]])]) [2, 8, 9] 0 (by simp [seqTo_zero]) (by simp [seqTo_zero]) (Nat.zero_le _) ?_
            rintro j hj s hs
            simp at hs
            subst hs
            by_cases hjl : j < X.length
            · obtain ⟨a0, a1⟩ := hB _ (List.getElem_mem hjl)
              have a2 : X[j].toNat < O.length := by omega
              have hjk : j < ks.length := by omega
              have hjk' : (j : Int) < (ks.length : Int) := by omega
              have eg : X.getD j 0 = X[j] := by rw [List.getD_eq_getElem?_getD, List.getElem?_eq_getElem hjl]; rfl
              have ee : ndAt O (X.getD j 0) = O[X[j].toNat] := by rw [eg]; exact ndAt_eq a2
              have e1 : isConst ⟨O[X[j].toNat].k, O[X[j].toNat].n, O[X[j].toNat].s, O[X[j].toNat].names, O[X[j].toNat].args⟩ = isConst O[X[j].toNat] := rfl
              have hsl := seqTo_len O X j
              have hb5 : ((seqTo O X j).length + 1) * 8 ≤ 140737488355328 := by omega
              have hb6 : (seqTo O X j).length + 1 ≤ 9223372036854775807 := by omega
              have hnx := seqTo_next (ns := O) (xs := X) (j := j)
              by_cases hjm : j = m'
              · have hjm' : ((j : Int) = (m' : Int)) = True := by simp [hjm]
                have hk : keepAt O X j = true := by simp [keepAt, hm', hjm]
                rw [hk, if_pos rfl, eg] at hnx
                repeat' (first
                  | apply WPc.sq
                  | apply WPc.block
                  | apply WPc.skip
                  | refine WPL.nil ?_
                  | (refine WPL.call0f ?_ ?_ ?_; (focus (simp; done)); (focus (simp; done)))
                  | ((first | refine WPc.rq tok rfl fun K hK => ?_ | refine WPL.rn tok _ (by simp [ahead, isFn]; rfl) fun K hK => ?_); simp -implicitDefEqProofs +contextual [-Int.not_le, -Int.not_lt, -Nat.not_le, -Nat.not_lt, -List.all_eq_true, -List.all_eq_false, -List.any_eq_true, -List.any_eq_false, Nd.ow, nC, hjl, hjk, hjk', hw1, a0, a1, a2, e1, hjm', hb5, hb6]; (repeat1' (first | apply hK | apply And.intro | intro _)) <;> clear hK K <;> (try dsimp only [List.drop]))
                  | (refine WPc.region ?_; simp only [List.toList_toArray])
                  | (refine WPc.condT ?_ ?_; (focus (simp; done))))
                refine ⟨j + 1, ⟨hjl, by first | omega | (simp only; omega) | assumption⟩, rfl, rfl, ?_, ?_⟩ <;> simp (disch := omega) [wrap64, hnx, nC]
              · have hjm' : ((j : Int) = (m' : Int)) = False := by simp; omega
                cases hcc : isConst O[X[j].toNat] with
                | true =>
                  have hk : keepAt O X j = false := by rw [keepAt, ee, hcc]; simp; omega
                  rw [hk] at hnx
                  simp only [Bool.false_eq_true, if_false, List.append_nil] at hnx
                  repeat' (first
                    | apply WPc.sq
                    | apply WPc.block
                    | apply WPc.skip
                    | refine WPL.nil ?_
                    | (apply WPL.cL (c_spec_l24Const ⟨_, _, _, _, _⟩); (case q => (repeat' (first | refine And.intro ?_ ?_ | intro _ | exact cleanOut_nil | (refine Eqv.mk ?_; first | rfl | (simp -implicitDefEqProofs [Nd.ow, nC, hjl, hjk, hjk', hw1, a0, a1, a2, e1, hjm', hcc, hb5, hb6]; done)) | (simp -implicitDefEqProofs [Nd.ow, nC, hjl, hjk, hjk', hw1, a0, a1, a2, e1, hjm', hcc, hb5, hb6]; done) | (simp -implicitDefEqProofs [Nd.ow, nC, hjl, hjk, hjk', hw1, a0, a1, a2, e1, hjm', hcc, hb5, hb6]; rfl) | (simp; done) | (simp; rfl) | rfl))))
                    | ((first | refine WPc.rq tok rfl fun K hK => ?_ | refine WPL.rn tok _ (by simp [ahead, isFn]; rfl) fun K hK => ?_); simp -implicitDefEqProofs +contextual [-Int.not_le, -Int.not_lt, -Nat.not_le, -Nat.not_lt, -List.all_eq_true, -List.all_eq_false, -List.any_eq_true, -List.any_eq_false, Nd.ow, nC, hjl, hjk, hjk', hw1, a0, a1, a2, e1, hjm', hcc, hb5, hb6]; (repeat1' (first | apply hK | apply And.intro | intro _)) <;> clear hK K <;> (try dsimp only [List.drop]))
                    | (refine WPc.region ?_; simp only [List.toList_toArray])
                    | (refine WPc.condT ?_ ?_; (focus (simp; done)))
                    | (refine WPc.condF ?_ ?_; (focus (simp; done))))
                  refine ⟨j + 1, ⟨hjl, by first | omega | (simp only; omega) | assumption⟩, rfl, rfl, ?_, ?_⟩ <;> simp (disch := omega) [wrap64, hnx, nC]
                | false =>
                  have hk : keepAt O X j = true := by rw [keepAt, ee, hcc]; simp
                  rw [hk, if_pos rfl, eg] at hnx
                  repeat' (first
                    | apply WPc.sq
                    | apply WPc.block
                    | apply WPc.skip
                    | refine WPL.nil ?_
                    | (apply WPL.cL (c_spec_l24Const ⟨_, _, _, _, _⟩); (case q => (repeat' (first | refine And.intro ?_ ?_ | intro _ | exact cleanOut_nil | (refine Eqv.mk ?_; first | rfl | (simp -implicitDefEqProofs [Nd.ow, nC, hjl, hjk, hjk', hw1, a0, a1, a2, e1, hjm', hcc, hb5, hb6]; done)) | (simp -implicitDefEqProofs [Nd.ow, nC, hjl, hjk, hjk', hw1, a0, a1, a2, e1, hjm', hcc, hb5, hb6]; done) | (simp -implicitDefEqProofs [Nd.ow, nC, hjl, hjk, hjk', hw1, a0, a1, a2, e1, hjm', hcc, hb5, hb6]; rfl) | (simp; done) | (simp; rfl) | rfl))))
                    | ((first | refine WPc.rq tok rfl fun K hK => ?_ | refine WPL.rn tok _ (by simp [ahead, isFn]; rfl) fun K hK => ?_); simp -implicitDefEqProofs +contextual [-Int.not_le, -Int.not_lt, -Nat.not_le, -Nat.not_lt, -List.all_eq_true, -List.all_eq_false, -List.any_eq_true, -List.any_eq_false, Nd.ow, nC, hjl, hjk, hjk', hw1, a0, a1, a2, e1, hjm', hcc, hb5, hb6]; (repeat1' (first | apply hK | apply And.intro | intro _)) <;> clear hK K <;> (try dsimp only [List.drop]))
                    | (refine WPc.region ?_; simp only [List.toList_toArray])
                    | (refine WPc.condT ?_ ?_; (focus (simp; done))))
                  refine ⟨j + 1, ⟨hjl, by first | omega | (simp only; omega) | assumption⟩, rfl, rfl, ?_, ?_⟩ <;> simp (disch := omega) [wrap64, hnx, nC]
            · obtain rfl : j = X.length := by omega
              have hsl := seqTo_len O X X.length
              have hng : ¬ X.length < ks.length := by omega
              have hng' : ¬ (X.length : Int) < (ks.length : Int) := by omega
              by_cases h1 : (seqTo O X X.length).length = 1
              · have h1' : (((seqTo O X X.length).length : Int) = 1) = True := by simp [h1]
                have h0 : 0 < (seqTo O X X.length).length := by omega
                have h0' : (0 : Int) < ((seqTo O X X.length).length : Int) := by omega
                have hg : (seqTo O X X.length).getD 0 0 = (seqTo O X X.length)[0] := by rw [List.getD_eq_getElem?_getD, List.getElem?_eq_getElem h0]; rfl
                rw [if_pos h1, hg]
                repeat' (first
                  | (refine WPc.renR 900002 900009 fun K hK => ?_; simp -implicitDefEqProofs +contextual [-Int.not_le, -Int.not_lt, -Nat.not_le, -Nat.not_lt, -List.all_eq_true, -List.all_eq_false, -List.any_eq_true, -List.any_eq_false, Nd.ow, nC, hng, hng', h1', h0, h0']; (repeat1' (first | apply hK | apply And.intro | intro _)) <;> clear hK K)
                  | apply WPc.sq
                  | (apply WPc.ret; apply endP.sel (is := [900009]) (he := .inr rfl); (case hs => rfl); (case hg => rfl); (case h => (simp; rfl)); (case hO => (simp; rfl)); (case hk => (simp; done)))
                  | apply WPc.exit
                  | ((first | refine WPc.rq tok rfl fun K hK => ?_ | refine WPS.rn tok _ (by simp [aheadS]; rfl) fun K hK => ?_); simp -implicitDefEqProofs +contextual [-Int.not_le, -Int.not_lt, -Nat.not_le, -Nat.not_lt, -List.all_eq_true, -List.all_eq_false, -List.any_eq_true, -List.any_eq_false, Nd.ow, nC, hng, hng', h1', h0, h0']; (repeat1' (first | apply hK | apply And.intro | intro _)) <;> clear hK K <;> (try dsimp only [List.drop]))
                  | (refine WPc.sched (id := 24) tok [] [(0, []), (1, []), (2, []), (3, []), (4, []), (5, [])] (by kernel_rfl) ?_)
                  | (refine WPS.nil ?_)
                  | (refine WPc.condT ?_ ?_; (focus (simp; done)))
                  | (refine WPc.condF ?_ ?_; (focus (simp; done))))
                exact ⟨rfl, rfl⟩
              · have h1' : (((seqTo O X X.length).length : Int) = 1) = False := by simp; omega
                have hdq : dzLL (List.take (seqTo O X X.length).length ((seqTo O X X.length).map nC)) = (seqTo O X X.length).map nC := by simp
                rw [if_neg h1]
                repeat' (first
                  | (refine WPc.renR 900002 900009 fun K hK => ?_; simp -implicitDefEqProofs +contextual [-Int.not_le, -Int.not_lt, -Nat.not_le, -Nat.not_lt, -List.all_eq_true, -List.all_eq_false, -List.any_eq_true, -List.any_eq_false, Nd.ow, nC, hng, hng', h1', hb1, hb2, hb3, hb4, hdq]; (repeat1' (first | apply hK | apply And.intro | intro _)) <;> clear hK K)
                  | apply WPc.sq
                  | (apply WPc.ret; apply endP.sel (is := [900009]) (he := .inr rfl); (case hs => rfl); (case hg => rfl); (case h => (simp; rfl)); (case hO => (simp; rfl)); (case hk => (simp; done)))
                  | apply WPc.skip
                  | apply WPc.exit
                  | ((first | refine WPc.rq tok rfl fun K hK => ?_ | refine WPS.rn tok _ (by simp [aheadS]; rfl) fun K hK => ?_); simp -implicitDefEqProofs +contextual [-Int.not_le, -Int.not_lt, -Nat.not_le, -Nat.not_lt, -List.all_eq_true, -List.all_eq_false, -List.any_eq_true, -List.any_eq_false, Nd.ow, nC, hng, hng', h1', hb1, hb2, hb3, hb4, hdq]; (repeat1' (first | apply hK | apply And.intro | intro _)) <;> clear hK K <;> (try dsimp only [List.drop]))
                  | (refine WPc.sched (id := 26) tok [(7, [136]), (10, [136, 139]), (13, [136, 139, 142, 900003]), (14, [136, 139, 142, 143, 900002, 900003])] [(0, [136, 139, 142, 900003]), (1, [136, 139]), (2, [136, 139]), (3, [136, 139]), (4, [136, 139]), (5, [136, 139]), (6, [136, 139]), (8, [136]), (9, [136]), (11, [136, 139]), (15, [136, 139, 142, 143, 900002, 900003]), (16, [136, 139, 142, 143, 900002, 900003]), (7, [136]), (10, [136, 139]), (12, []), (13, [136, 139, 142, 900003]), (14, [136, 139, 142, 143, 900002, 900003]), (17, []), (18, [])] (by kernel_rfl) ?_)
                  | (refine WPS.nil ?_)
                  | (refine WPS.eff tok fun K hK => ?_; simp -implicitDefEqProofs +contextual [-Int.not_le, -Int.not_lt, -Nat.not_le, -Nat.not_lt, -List.all_eq_true, -List.all_eq_false, -List.any_eq_true, -List.any_eq_false, Nd.ow, nC, hng, hng', h1', hb1, hb2, hb3, hb4, hdq]; (repeat1' (first | apply hK | apply And.intro | intro _)) <;> clear hK K)
                  | (refine WPc.condF ?_ ?_; (focus (simp; done))))
                simp [Nd.ow, k11]
          · have k11' : (c.k = 11) = False := by simp [k11]
            have hS : spN ⟨c.k, c.n, c.s, c.names, []⟩ O X = (O ++ [{ c with args := X }], (O.length : Int)) := by unfold spN; rw [ey, ev, if_neg (by simp [hy]), if_neg (by simp [k6]), if_neg (by simp [k11])]
            rw [hS]
            simp only [Nd.av] at u1
            repeat' (first
              | (refine WPc.renR 900002 900009 fun K hK => ?_; simp -implicitDefEqProofs +contextual [-Int.not_le, -Int.not_lt, -Nat.not_le, -Nat.not_lt, -List.all_eq_true, -List.all_eq_false, -List.any_eq_true, -List.any_eq_false, k6', k11', hb1, hb2, hb3, hb4, hA, hdz]; (repeat1' (first | apply hK | apply And.intro | intro _)) <;> clear hK K)
              | apply WPc.sq
              | (apply WPc.ret; apply endP.sel (is := [900009]) (he := .inr rfl); (case hs => rfl); (case hg => rfl); (case h => (simp; rfl)); (case hO => (simp; rfl)); (case hk => (simp; done)))
              | apply WPc.skip
              | apply WPc.exit
              | refine WPL.nil ?_
              | (apply WPL.cR u1; (case q => (repeat' (first | refine And.intro ?_ ?_ | intro _ | exact cleanOut_nil | (refine Eqv.mk ?_; first | rfl | (simp -implicitDefEqProofs [k6', k11', hb1, hb2, hb3, hb4, hA, hdz]; done)) | (simp -implicitDefEqProofs [k6', k11', hb1, hb2, hb3, hb4, hA, hdz]; done) | (simp -implicitDefEqProofs [k6', k11', hb1, hb2, hb3, hb4, hA, hdz]; rfl) | (simp; done) | (simp; rfl) | rfl))); (intro y hy s hs; simp at hs; subst hs))
              | (refine WPL.call0f ?_ ?_ ?_; (focus (simp; done)); (focus (simp; done)))
              | ((first | refine WPc.rq tok rfl fun K hK => ?_ | refine WPL.rn tok _ (by simp [ahead, isFn]; rfl) fun K hK => ?_ | refine WPS.rn tok _ (by simp [aheadS]; rfl) fun K hK => ?_); simp -implicitDefEqProofs +contextual [-Int.not_le, -Int.not_lt, -Nat.not_le, -Nat.not_lt, -List.all_eq_true, -List.all_eq_false, -List.any_eq_true, -List.any_eq_false, k6', k11', hb1, hb2, hb3, hb4, hA, hdz]; (repeat1' (first | apply hK | apply And.intro | intro _)) <;> clear hK K <;> (try dsimp only [List.drop]))
              | (refine WPc.sched (id := 26) tok [(7, [136]), (10, [136, 139]), (13, [136, 139, 142, 900003]), (14, [136, 139, 142, 143, 900002, 900003])] [(0, [136, 139, 142, 900003]), (1, [136, 139]), (2, [136, 139]), (3, [136, 139]), (4, [136, 139]), (5, [136, 139]), (6, [136, 139]), (8, [136]), (9, [136]), (11, [136, 139]), (15, [136, 139, 142, 143, 900002, 900003]), (16, [136, 139, 142, 143, 900002, 900003]), (7, [136]), (10, [136, 139]), (12, []), (13, [136, 139, 142, 900003]), (14, [136, 139, 142, 143, 900002, 900003]), (17, []), (18, [])] (by kernel_rfl) ?_)
              | (refine WPS.nil ?_)
              | (refine WPS.eff tok fun K hK => ?_; simp -implicitDefEqProofs +contextual [-Int.not_le, -Int.not_lt, -Nat.not_le, -Nat.not_lt, -List.all_eq_true, -List.all_eq_false, -List.any_eq_true, -List.any_eq_false, k6', k11', hb1, hb2, hb3, hb4, hA, hdz]; (repeat1' (first | apply hK | apply And.intro | intro _)) <;> clear hK K)
              | (refine WPc.region ?_; simp only [List.toList_toArray])
              | (refine WPc.condF ?_ ?_; (focus (simp; done)))
              | (refine WPc.cond (by simp [-Bool.not_eq_eq_eq_not]; rfl) (fun hq => ?_) (fun hq => ?_) <;> simp only [hq] <;> (try (exfalso; (simp only [decide_eq_true_eq, decide_eq_false_iff_not] at hq); omega))))
            all_goals (simp [Nd.ow])
end Go.Own
set_option maxRecDepth 1000000
set_option maxHeartbeats 4000000
namespace Go.Own
attribute [local irreducible] WPc WPL WPS WPS1 WPS2 HAny endP valOf
variable [Laid]
open Go.Lib Go.RowKit
theorem foldL_map {f : Int → T} : ∀ (xs : List Int), foldL (xs.map f) = xs.map fun a => foldT (f a)
  | [] => rfl
  | a :: xs => by simp only [List.map_cons, foldL, foldL_map xs]
theorem repL_by {ns : List Nd} {g : Int → Int} {f : Int → T} : ∀ {xs : List Int}, (∀ a, a ∈ xs → Rep ns (g a) (f a)) → RepL ns (xs.map g) (xs.map f)
  | [], _ => rfl
  | a :: xs, h => ⟨g a, xs.map g, rfl, h a (by simp), repL_by fun b hb => h b (by simp [hb])⟩
structure FInv (ns a : List Nd) (w : List Int) (i : Nat) : Prop where
  la : a.length = ns.length
  lw : w.length = i
  rep : ∀ j, j < i → Rep a (whAt w j) (foldT (kAt (trs ns ns.length) j)) ∧ whAt w j ≤ j
  old : ∀ j, i ≤ j → a[j]? = ns[j]?
  ok : okT a
theorem okT_set {a : List Nd} {i : Nat} {c : Nd} (h : okT a) (hc : c.names.length ≤ 1000000000 ∧ c.args.length ≤ 1000000000) : okT (a.set i c) := fun d hd => by
  rcases List.mem_or_eq_of_mem_set hd with hd | rfl
  · exact h d hd
  · exact hc
theorem okT_node {a : List Nd} {w : List Int} {i : Nat} {c : Nd} (h : okT a) (hc : c.names.length ≤ 1000000000 ∧ c.args.length ≤ 1000000000) : okT (nodeM a w i c).1 := by
  have h1 := okT_set (i := i) h hc
  unfold nodeM
  split
  · unfold primM
    split
    · split
      · rename_i v _
        refine okT_set h1 ?_
        have := ndOf_nil v
        rw [this.1, this.2]; simp
      · exact h1
    · exact h1
  · split
    · refine okT_set h1 ⟨hc.1, ?_⟩
      have := seqTo_len (a.set i c) c.args c.args.length
      simp only [seqN]; omega
    · split <;> exact h1
theorem finv_step {ns a : List Nd} {w : List Int} {i : Nat} (hw : PW ns) (h : FInv ns a w i) (hi : i < ns.length) : RdOk a (w ++ [(i : Int)]) i ∧ FInv ns (nodeM a (w ++ [(i : Int)]) i (mapA (w ++ [(i : Int)]) (ndAt a i))).1 (nodeM a (w ++ [(i : Int)]) i (mapA (w ++ [(i : Int)]) (ndAt a i))).2 (i + 1) := by
  obtain ⟨la, lw, hrep, hold, hok⟩ := h
  have ec : ndAt a i = ndAt ns i := by simp only [ndAt, Int.toNat_natCast]; rw [hold i (Nat.le_refl _)]
  have hb := hw.bd i hi
  have ha := hw.ar i hi
  have hla : i < a.length := by omega
  have hwl : (w ++ [(i : Int)]).length = i + 1 := by simp [lw]
  have w1 : ∀ j : Nat, j < i → whAt (w ++ [(i : Int)]) j = whAt w j := fun j hj => by
    simp only [whAt, Int.toNat_natCast, List.getD_eq_getElem?_getD]
    rw [List.getElem?_append_left (by omega)]
  have w2 : whAt (w ++ [(i : Int)]) i = i := by simp [whAt, List.getElem?_append_right (show w.length ≤ i by omega), lw]
  have hmem : ∀ c, c ∈ a → c.names.length ≤ 1000000000 ∧ c.args.length ≤ 1000000000 := hok
  have hci : (ndAt ns i).names.length ≤ 1000000000 ∧ (ndAt ns i).args.length ≤ 1000000000 := by
    rw [← ec, ndAt_nat hla]; exact hmem _ (List.getElem_mem hla)
  have hk : ∀ x, x ∈ (ndAt ns i).args → Rep a (whAt (w ++ [(i : Int)]) x) (foldT (kAt (trs ns i) x.toNat)) ∧ whAt (w ++ [(i : Int)]) x < i := fun x hx => by
    have := hb x hx
    have e : x = ((x.toNat : Nat) : Int) := by omega
    have hr := hrep x.toNat (by omega)
    rw [trs_get (show x.toNat < ns.length by omega), ← trs_get (show x.toNat < i by omega)] at hr
    have h1 := w1 x.toNat (by omega)
    rw [← e] at h1 hr
    rw [h1]
    exact ⟨hr.1, by omega⟩
  have hst := nodeM_step (a := a) (w := w ++ [(i : Int)]) (i := i) (c := mapA (w ++ [(i : Int)]) (ndAt ns i)) (ks := (ndAt ns i).args.map fun x => foldT (kAt (trs ns i) x.toNat)) hla (by omega) w2
    (repL_by fun x hx => (hk x hx).1) (fun y hy => by
      obtain ⟨x, hx, rfl⟩ := List.mem_map.1 hy
      exact (hk x hx).2) (by
      have : arOk (mapA (w ++ [(i : Int)]) (ndAt ns i)) (ndAt ns i).args.length := ha
      simpa using this)
  rw [ec]
  refine ⟨⟨hla, by omega, fun x hx => ?_, fun x hx => ?_, ?_, ?_, ?_, ?_⟩, ⟨by rw [hst.la]; exact la, by rw [hst.lw]; exact hwl, fun j hj => ?_, fun j hj => ?_, okT_node hok ?_⟩⟩
  · rw [ec] at hx
    have := hb x hx
    omega
  · rcases List.mem_append.1 hx with hx | hx
    · obtain ⟨k, hk, rfl⟩ := List.mem_iff_getElem.1 hx
      have := (hrep k (by omega)).1.lt
      rw [whAt, Int.toNat_natCast, List.getD_eq_getElem?_getD, List.getElem?_eq_getElem hk] at this
      exact this
    · simp only [List.mem_cons, List.not_mem_nil, or_false] at hx
      subst hx
      omega
  · rw [ec]; exact hci.2
  · rw [ec]
    intro h9 hs
    have hW : isW wKn (ndAt ns i).s = true := by
      have : (ndAt ns i).s ∈ wKn := by
        simp only [wKn, List.mem_cons]
        rcases hs with hs | hs
        · simp only [isNum, Bool.or_eq_true, decide_eq_true_eq] at hs
          rcases hs with (((hs | hs) | hs) | hs) | hs <;> simp [hs]
        · rw [hs]; simp [sEq]
      unfold isW
      exact List.any_eq_true.2 ⟨_, this, by simp⟩
    refine (ha.1 h9 hW).2 ?_
    intro hu
    simp only [uns, List.mem_cons, List.not_mem_nil, or_false] at hu
    rcases hu with hu | hu | hu | hu | hu <;> rw [hu] at hs <;> simp [isNum, sCar, sCdr, sNull, sPair, sNot, sEq] at hs
  · rw [ec]; exact ha.2.1
  · rw [ec]; exact ha.2.2
  · by_cases e : j = i
    · subst e
      rw [trs_get hi, trs_last]
      have : foldT (trN (ndAt ns j) (trs ns j)) = foldN { mapA (w ++ [(j : Int)]) (ndAt ns j) with args := [] } ((ndAt ns j).args.map fun x => foldT (kAt (trs ns j) x.toNat)) := by
        rw [trN, foldT, foldL_map]; rfl
      rw [this]
      exact ⟨hst.rep, hst.le⟩
    · have hr := hrep j (by omega)
      have ew : whAt (nodeM a (w ++ [(i : Int)]) i (mapA (w ++ [(i : Int)]) (ndAt ns i))).2 j = whAt w j := by
        have := hst.ow j e
        rw [← w1 j (by omega)]
        simp only [whAt, Int.toNat_natCast, List.getD_eq_getElem?_getD, this]
      rw [ew]
      exact ⟨Rep.same (b := i) (fun k hk => hst.oa k (by omega)) (by omega) hr.1, hr.2⟩
  · rw [hst.oa j (by omega)]
    exact hold j (by omega)
  · simpa [mapA] using hci
theorem finv {ns : List Nd} (hw : PW ns) (hok : okT ns) : ∀ i, i ≤ ns.length → FInv ns (foldS ns i).1 (foldS ns i).2 i
  | 0, _ => ⟨rfl, rfl, fun j hj => absurd hj (by omega), fun j _ => rfl, hok⟩
  | i + 1, hi => (finv_step hw (finv hw hok i (by omega)) (by omega)).2
theorem sizeL_get {ks : List T} {k : Nat} (h : k < ks.length) : (kAt ks k).size ≤ sizeL ks := by
  have e : kAt ks k = ks[k] := by rw [kAt, List.getD_eq_getElem?_getD, List.getElem?_eq_getElem h]; rfl
  rw [e]; exact sizeL_mem (List.getElem_mem h)
theorem sizeL_pick (ks : List T) (P : Nat → Bool) : ∀ j, j ≤ ks.length → sizeL (((List.range j).filter P).map (kAt ks)) ≤ sizeL (ks.take j)
  | 0, _ => by simp [sizeL]
  | j + 1, h => by
    have ih := sizeL_pick ks P j (by omega)
    have hj : j < ks.length := by omega
    have e : kAt ks j = ks[j] := by rw [kAt, List.getD_eq_getElem?_getD, List.getElem?_eq_getElem hj]; rfl
    rw [List.range_succ, List.filter_append, List.map_append, sizeL_app, List.take_add_one, List.getElem?_eq_getElem hj, Option.toList_some, sizeL_app]
    by_cases hp : P j = true
    · simp [hp, sizeL, e]; omega
    · simp [hp, sizeL]; omega
theorem foldN_size {h : Nd} {ks : List T} (ha : arOk h ks.length) : (foldN h ks).size ≤ sizeL ks + 1 := by
  unfold foldN
  split
  · simp [lf, T.size, sizeL]
  · split
    · rename_i h6
      have := ha.2.1 h6.1
      split
      · have := sizeL_get (ks := ks) (k := 1) (by omega); omega
      · have := sizeL_get (ks := ks) (k := 2) (by omega); omega
    · split
      · have hs := sizeL_pick ks (keepK ks) ks.length (Nat.le_refl _)
        rw [List.take_length] at hs
        have hs : sizeL (seqK ks) ≤ sizeL ks := hs
        split
        · have := sizeL_get (ks := seqK ks) (k := 0) (by omega); omega
        · simp [T.size]; omega
      · simp [T.size]
theorem foldL_len : ∀ ks : List T, (foldL ks).length = ks.length
  | [] => rfl
  | t :: ks => by simp [foldL, foldL_len ks]
mutual
theorem foldT_size : ∀ t : T, t.wf → (foldT t).size ≤ t.size
  | .nd k n s names ks, h => by
    simp only [T.wf] at h
    have := foldL_size ks h.2.2.2
    have h2 := foldN_size (h := ⟨k, n, s, names, []⟩) (ks := foldL ks) ⟨by simpa [foldL_len] using h.1, by simpa [foldL_len] using h.2.1, by simpa [foldL_len] using h.2.2.1⟩
    rw [foldT, T.size]
    omega
theorem foldL_size : ∀ ks : List T, wfL ks → sizeL (foldL ks) ≤ sizeL ks
  | [], _ => by simp [foldL]
  | t :: ks, h => by
    simp only [wfL] at h
    have h1 := foldT_size t h.1
    have h2 := foldL_size ks h.2
    simp only [foldL, sizeL]; omega
end
def Pg.fold (p : Pg) : List Nd := serT (foldT p.tree) []
theorem fold_len {p : Pg} (h : progOk p = true) : 0 < p.fold.length ∧ p.fold.length ≤ 400 := by
  have h1 := foldT_size p.tree (tree_rep h).2
  have h2 := tree_size h
  have h3 := progOk_pos h
  have h4 := (foldT p.tree).size_pos
  rw [Pg.fold, serT_len]
  simp only [List.length_nil]; omega
theorem c_impl_Fold1 [F : Facts.Of] (p : Pg) (hs : ∀ c, c ∈ p.nodes → c.sm) (h2 : ∀ c, c ∈ p.nodes → c.rm) (hok : progOk p = true) :
    Con PP 30 [p.av] [] [] (fun r o => r = .agg [.sl 2 5 [(0, 0)] 0 p.fold.length, .sc (.int .i64 ((p.fold.length : Int) - 1))] ∧ o = [(2, progB ⟨p.fold, (p.fold.length : Int) - 1⟩)]) := by
  obtain ⟨g1, g2, g3⟩ := progOk_pos hok
  have hw := pw_of hok
  have ho : okT p.nodes := fun c hc => ⟨(h2 c hc).names, (h2 c hc).args⟩
  have fi := fun i hi => finv hw ho i hi
  have fN := fi p.nodes.length (Nat.le_refl _)
  have hsz := foldT_size p.tree (tree_rep hok).2
  have hts := tree_size hok
  refine c_impl_Fold p hs h2 hok g1 (by omega) (by omega) (fun i hi => (finv_step hw (fi i (by omega)) hi).1) (fun i hi => (fi i hi).la) (fun i hi => (fi i hi).lw) (foldT p.tree) ?_ fN.ok (by omega)
  have := (fN.rep (p.nodes.length - 1) (by omega)).1
  rw [g3]
  rw [show (p.nodes.length : Int) - 1 = ((p.nodes.length - 1 : Nat) : Int) by omega]
  exact this
theorem c_impl_Fold0 [F : Facts.Of] (p : Pg) (hs : ∀ c, c ∈ p.nodes → c.sm) (h2 : ∀ c, c ∈ p.nodes → c.rm) (hok : progOk p = false) :
    Con PP 30 [p.av] [] [] (fun r o => r = .agg [.sc (.slice none 0 0), .sc (.int .i64 0)]) := by
  have hr1 : ∀ c, c ∈ p.nodes → c.args.length ≤ 1000000000 := fun c hc => (h2 c hc).args
  have ep : progOk ⟨p.nodes, p.root⟩ = false := hok
  have u1 := c_impl_ProgOk p hs hr1
  rw [hok] at u1
  simp only [Pg.av] at u1
  refine Con.of tok (nt := 38) Go.Proofs.Tryz.func30 (by kernel_rfl) rfl rfl rfl (Nat.le_of_ble_eq_true rfl) fun G => ?_
  simp only [entSt, tmOf, List.append_nil, List.cons_append, List.nil_append, Pg.av]
  repeat' (first
    | apply WPc.sq
    | (refine WPc.ret (endP.val (.inr rfl) rfl rfl (by simp; rfl) ?_))
    | refine WPL.nil ?_
    | (apply WPL.cL (c_impl_ProgOk ⟨_, _⟩ ?g1 ?g2); (case q => (repeat' (first | refine And.intro ?_ ?_ | intro _ | exact cleanOut_nil | (refine Eqv.mk ?_; first | rfl | (simp -implicitDefEqProofs [ep]; done)) | (simp -implicitDefEqProofs [ep]; done) | (simp -implicitDefEqProofs [ep]; rfl) | (simp; done) | (simp; rfl) | rfl))); (case g1 => (first | assumption | omega)); (case g2 => (first | assumption | omega)))
    | ((first | refine WPc.rq tok rfl fun K hK => ?_ | refine WPL.rn tok _ (by simp [ahead, isFn]; rfl) fun K hK => ?_); simp -implicitDefEqProofs +contextual [-Int.not_le, -Int.not_lt, -Nat.not_le, -Nat.not_lt, -List.all_eq_true, -List.all_eq_false, -List.any_eq_true, -List.any_eq_false, ep]; (repeat1' (first | apply hK | apply And.intro | intro _)) <;> clear hK K <;> (try dsimp only [List.drop]))
    | (refine WPc.region ?_; simp only [List.toList_toArray])
    | (refine WPc.condT ?_ ?_; (focus (simp; done))))
  rfl
theorem c_spec_Fold0 (p : Pg) (hs : ∀ c, c ∈ p.nodes → c.sm) (h2 : ∀ c, c ∈ p.nodes → c.rm) (hok : progOk p = false) :
    Con PP 29 [p.av] [] [] (fun r o => r = .agg [.sc (.slice none 0 0), .sc (.int .i64 0)]) := by
  have hr1 : ∀ c, c ∈ p.nodes → c.args.length ≤ 1000000000 := fun c hc => (h2 c hc).args
  have ep : progOk ⟨p.nodes, p.root⟩ = false := hok
  have u1 := c_spec_ProgOk p hs hr1
  rw [hok] at u1
  simp only [Pg.av] at u1
  refine Con.of tok (nt := 29) Go.Proofs.Tryz.func29 (by kernel_rfl) rfl rfl rfl (Nat.le_of_ble_eq_true rfl) fun G => ?_
  simp only [entSt, tmOf, List.append_nil, List.cons_append, List.nil_append, Pg.av]
  repeat' (first
    | apply WPc.sq
    | (refine WPc.ret (endP.val (.inr rfl) rfl rfl (by simp; rfl) ?_))
    | refine WPL.nil ?_
    | (apply WPL.cL (c_spec_ProgOk ⟨_, _⟩ ?g1 ?g2); (case q => (repeat' (first | refine And.intro ?_ ?_ | intro _ | exact cleanOut_nil | (refine Eqv.mk ?_; first | rfl | (simp -implicitDefEqProofs [ep]; done)) | (simp -implicitDefEqProofs [ep]; done) | (simp -implicitDefEqProofs [ep]; rfl) | (simp; done) | (simp; rfl) | rfl))); (case g1 => (first | assumption | omega)); (case g2 => (first | assumption | omega)))
    | ((first | refine WPc.rq tok rfl fun K hK => ?_ | refine WPL.rn tok _ (by simp [ahead, isFn]; rfl) fun K hK => ?_); simp -implicitDefEqProofs +contextual [-Int.not_le, -Int.not_lt, -Nat.not_le, -Nat.not_lt, -List.all_eq_true, -List.all_eq_false, -List.any_eq_true, -List.any_eq_false, ep]; (repeat1' (first | apply hK | apply And.intro | intro _)) <;> clear hK K <;> (try dsimp only [List.drop]))
    | (refine WPc.region ?_; simp only [List.toList_toArray])
    | (refine WPc.condT ?_ ?_; (focus (simp; done))))
  rfl
mutual
def T.ok : T → Prop
  | .nd _ _ _ names ks => names.length ≤ 1000000000 ∧ ks.length ≤ 1000000000 ∧ okL ks
def okL : List T → Prop
  | [] => True
  | t :: ts => t.ok ∧ okL ts
end
theorem okT_put {out : List Nd} {c : Nd} (h : okT out) (hc : c.names.length ≤ 1000000000 ∧ c.args.length ≤ 1000000000) : okT (out ++ [c]) := fun d hd => by
  rcases List.mem_append.1 hd with hd | hd
  · exact h d hd
  · simp only [List.mem_cons, List.not_mem_nil, or_false] at hd
    subst hd; exact hc
theorem okT_spN {c : Nd} {out : List Nd} {xs : List Int} (h : okT out) (h1 : c.names.length ≤ 1000000000) (h2 : xs.length ≤ 1000000000) : okT (spN c out xs).1 := by
  unfold spN
  have hq := seqTo_len out xs xs.length
  split
  · have := ndOf_nil (knV c out xs).1
    refine okT_put h ?_
    rw [this.1, this.2]; simp
  · split
    · exact h
    · split
      · split
        · exact h
        · exact okT_put h ⟨h1, by dsimp only; omega⟩
      · exact okT_put h ⟨h1, h2⟩
mutual
theorem okT_spT : ∀ (t : T) (out : List Nd), t.ok → okT out → okT (spT t out).1
  | .nd k n s names ks, out, h, ho => by
    simp only [T.ok] at h
    rw [spT]
    exact okT_spN (okT_spL ks out h.2.2 ho) h.1 (by rw [spL_len]; exact h.2.1)
theorem okT_spL : ∀ (ts : List T) (out : List Nd), okL ts → okT out → okT (spL ts out).1
  | [], out, h, ho => ho
  | t :: ts, out, h, ho => by
    simp only [okL] at h
    rw [spL]
    exact okT_spL ts _ h.2 (okT_spT t out h.1 ho)
end
theorem okL_map {f : Int → T} : ∀ {xs : List Int}, (∀ a, a ∈ xs → (f a).ok) → okL (xs.map f)
  | [], _ => trivial
  | a :: xs, h => ⟨h a (by simp), okL_map fun b hb => h b (by simp [hb])⟩
theorem trs_ok {ns : List Nd} (hw : PW ns) (ho : okT ns) : ∀ (i : Nat), i ≤ ns.length → ∀ j, j < i → (kAt (trs ns i) j).ok
  | 0, _, j, h => by omega
  | i + 1, hi, j, h => by
    rw [trs_get h]
    by_cases e : j = i
    · subst e
      rw [trs_last]
      have hb := hw.bd j (by omega)
      have hc := ho (ndAt ns j) (by rw [ndAt_nat (by omega)]; exact List.getElem_mem _)
      simp only [trN, T.ok]
      refine ⟨hc.1, by simpa using hc.2, okL_map fun a h => ?_⟩
      have := hb a h
      exact trs_ok hw ho j (by omega) a.toNat (by omega)
    · have := trs_ok hw ho i (by omega) j (by omega)
      rwa [trs_get (show j < i by omega)] at this
theorem c_spec_Fold1 (p : Pg) (hs : ∀ c, c ∈ p.nodes → c.sm) (h2 : ∀ c, c ∈ p.nodes → c.rm) (hok : progOk p = true) :
    Con PP 29 [p.av] [] [] (fun r o => r = .agg [.sl 2 5 [(0, 0)] 0 p.fold.length, .sc (.int .i64 ((p.fold.length : Int) - 1))] ∧ o = [(2, progB ⟨p.fold, (p.fold.length : Int) - 1⟩)]) := by
  have hr1 : ∀ c, c ∈ p.nodes → c.args.length ≤ 1000000000 := fun c hc => (h2 c hc).args
  have ep : progOk ⟨p.nodes, p.root⟩ = true := hok
  obtain ⟨g1, g2, g3⟩ := progOk_pos hok
  have hw := pw_of hok
  have ho : okT p.nodes := fun c hc => ⟨(h2 c hc).names, (h2 c hc).args⟩
  obtain ⟨t1, t2⟩ := tree_rep hok
  have hts := tree_size hok
  have hsz := foldT_size p.tree t2
  have hfl := fold_len hok
  have u1 := c_spec_ProgOk p hs hr1
  rw [hok] at u1
  have u2 := foldP_rec _ p p.tree p.root [] (Nat.le_refl _) t1 t2 ho (by simp; omega)
  have hrep := spT_rep p.tree [] t2
  have hoo := okT_spT p.tree [] (trs_ok hw ho _ (Nat.le_refl _) _ (by omega)) (fun c hc => by cases hc)
  have hll := spT_len p.tree []
  have hl2 := spT_lt p.tree [] t2
  have u3 := tidyS_rec _ ⟨(spT p.tree []).1, (spT p.tree []).2⟩ (foldT p.tree) (spT p.tree []).2 [] (Nat.le_refl _) hrep hoo (by simp; omega)
  have hfe : serT (foldT p.tree) [] = p.fold := rfl
  rw [hfe] at u3
  generalize spT p.tree [] = y at u2 u3 hll hl2
  obtain ⟨O, x⟩ := y
  simp only [Pg.av, nodesR, List.map_nil, List.length_nil] at u1 u2 u3
  have hb5 : (p.fold.length : Int) ≤ 9223372036854775807 := by omega
  have hw1 : IntKind.i64.wrap ((p.fold.length : Int) - 1) = (p.fold.length : Int) - 1 := wrap64 (by omega) (by omega)
  refine Con.of tok (nt := 29) Go.Proofs.Tryz.func29 (by kernel_rfl) rfl rfl rfl (Nat.le_of_ble_eq_true rfl) fun G => ?_
  simp only [entSt, tmOf, List.append_nil, List.cons_append, List.nil_append, Pg.av]
  repeat' (first
    | apply WPc.sq
    | (apply WPc.ret; apply endP.sel (is := [2]) (he := .inr rfl); (case hs => rfl); (case hg => rfl); (case h => (simp; rfl)); (case hO => (simp; rfl)); (case hk => (simp; done)))
    | apply WPc.skip
    | refine WPL.nil ?_
    | (apply WPL.cL (c_spec_ProgOk ⟨_, _⟩ ?g1 ?g2); (case q => (repeat' (first | refine And.intro ?_ ?_ | intro _ | exact cleanOut_nil | (refine Eqv.mk ?_; first | rfl | (simp -implicitDefEqProofs [ep, hb5, hw1]; done)) | (simp -implicitDefEqProofs [ep, hb5, hw1]; done) | (simp -implicitDefEqProofs [ep, hb5, hw1]; rfl) | (simp; done) | (simp; rfl) | rfl))); (case g1 => (first | assumption | omega)); (case g2 => (first | assumption | omega)))
    | (apply WPL.cU u2; (case q => (repeat' (first | refine And.intro ?_ ?_ | intro _ | exact cleanOut_nil | (refine Eqv.mk ?_; first | rfl | (simp -implicitDefEqProofs [ep, hb5, hw1]; done)) | (simp -implicitDefEqProofs [ep, hb5, hw1]; done) | (simp -implicitDefEqProofs [ep, hb5, hw1]; rfl) | (simp; done) | (simp; rfl) | rfl))))
    | (apply WPL.cU u3; (case q => (repeat' (first | refine And.intro ?_ ?_ | intro _ | exact cleanOut_nil | (refine Eqv.mk ?_; first | rfl | (simp -implicitDefEqProofs [ep, hb5, hw1]; done)) | (simp -implicitDefEqProofs [ep, hb5, hw1]; done) | (simp -implicitDefEqProofs [ep, hb5, hw1]; rfl) | (simp; done) | (simp; rfl) | rfl))))
    | ((first | refine WPc.rq tok rfl fun K hK => ?_ | refine WPL.rn tok _ (by simp [ahead, isFn]; rfl) fun K hK => ?_); simp -implicitDefEqProofs +contextual [-Int.not_le, -Int.not_lt, -Nat.not_le, -Nat.not_lt, -List.all_eq_true, -List.all_eq_false, -List.any_eq_true, -List.any_eq_false, ep, hb5, hw1]; (repeat1' (first | apply hK | apply And.intro | intro _)) <;> clear hK K <;> (try dsimp only [List.drop]))
    | (refine WPc.region ?_; simp only [List.toList_toArray])
    | (refine WPc.condF ?_ ?_; (focus (simp; done))))
  all_goals exact ⟨rfl, rfl⟩
end Go.Own
set_option maxRecDepth 1000000
set_option maxHeartbeats 4000000
namespace Go.Own
attribute [local irreducible] WPc WPL WPS WPS1 WPS2 HAny endP
variable [Laid]
open Go.Lib Go.RowKit
def mkN (c : Nd) : Nat := 3 + c.names.length + c.args.length
def sumN (h : List Nd) : Nat := (h.map mkN).sum
end Go.Own
namespace Go.Own
variable {P : Program} {tt : Nat → Option TI} {st : St} {o : Oper} [Laid]
theorem run_eqBool {t : Nat} {w : World} (hu : P.underlying t = some .bool) (d : Nat) (p q : Bool) : (Op.equalIn (d + 1) t (.bool p) (.bool q)).run P w = .ok (p == q) w := by
  simp only [Op.equalIn, Sem.run_bind, run_underlying hu, Result.andThen_ok, Sem.run_pure]
theorem Stp.boolEq (tok : TOk P tt) {t t2 : Nat} {x y : Operand} {p q : Bool} {op : BinOp} (hop : op = .eql ∨ op = .neq) (ho : o.op = .binOp op t x y t2) (hk : kd tt t = some .bool) (hx : ev st x = .sc (.bool p)) (hy : ev st y = .sc (.bool q)) (hd : dstOk st o = true) :
    Stp P o st [] (fun s => s = putSt st o.dst (.sc (.bool (if op = .eql then decide (p = q) else decide (p ≠ q))))) := by
  intro w0 β0 β a w hr Q
  obtain ⟨d, g1, rfl⟩ := tok.kd hk
  have hv := hr.rel.ev x
  have hv2 := hr.rel.ev y
  rw [hx] at hv
  rw [hy] at hv2
  have h1 := hv.sc_inv
  have h2 := hv2.sc_inv
  have e1 : (Op.equal t (.bool p) (.bool q)).run P w = .ok (p == q) w := run_eqBool g1 9999 p q
  have hrun : (execOp a.eval o).run P w = .ok (.value (.bool (if op = .eql then decide (p = q) else decide (p ≠ q)))) w := by
    rcases hop with rfl | rfl
    · simp [execOp, ho, h1, h2, eqGuard, binOp, e1]; cases p <;> cases q <;> rfl
    · simp [execOp, ho, h1, h2, eqGuard, binOp, e1]; cases p <;> cases q <;> rfl
  unfold Oper.wp
  rw [hrun]
  exact ⟨_, β, rfl, hr.put (dst_lt hd) (.sc _), .refl, Nat.le_refl _⟩
def boolS (tt : Nat → Option TI) (st : St) (d : Nat) (op : BinOp) (t : Nat) (x y : Operand) : Option St :=
  match kd tt t, ev st x, ev st y with
  | some .bool, .sc (.bool p), .sc (.bool q) => if d < st.nt then
      match op with
      | .eql => some (putSt st (some d) (.sc (.bool (decide (p = q)))))
      | .neq => some (putSt st (some d) (.sc (.bool (decide (p ≠ q)))))
      | _ => none
    else none
  | _, _, _ => none
theorem WPL.boolC (tok : TOk P tt) {ops : Array Oper} {l : List Oper} {Ψ : St → Prop} {op : BinOp} {d t t2 tid : Nat} {x y : Operand} {pos : String} {af : Array Edge}
    (h : ∀ K : St → Prop, (∀ s, WPL P ops l s Ψ → K s) → ∃ s, boolS tt st d op t x y = some s ∧ K s) :
    WPL P ops ({ dst := some d, op := .binOp op t x y t2, type := tid, pos := pos, after := af, guard := none } :: l) st Ψ := by
  obtain ⟨s, h1, h2⟩ := h (fun s => WPL P ops l s Ψ) fun _ h => h
  unfold boolS at h1
  split at h1
  · rename_i p q hk hx hy
    split at h1
    · rename_i hd
      have hdk : dstOk st { dst := some d, op := .binOp op t x y t2, type := tid, pos := pos, after := af, guard := none } = true := by simpa [dstOk] using hd
      split at h1
      · injection h1 with h1
        subst h1
        exact WPL.stp rfl (Stp.boolEq tok (.inl rfl) rfl hk hx hy hdk) fun s hs => by rw [hs]; exact h2
      · injection h1 with h1
        subst h1
        exact WPL.stp rfl (Stp.boolEq tok (.inr rfl) rfl hk hx hy hdk) fun s hs => by rw [hs]; exact h2
      · cases h1
    · cases h1
  · cases h1
attribute [simp] boolS
end Go.Own
set_option maxRecDepth 1000000
set_option maxHeartbeats 8000000
namespace Go.Own
attribute [local irreducible] WPc WPL WPS WPS1 WPS2 HAny endP
variable [Laid]
open Go.Lib Go.RowKit
def constP (p : Pg) : Bool := progOk p && (decide (p.fold.length = 1) && isConst (ndAt p.fold 0))
theorem c_impl_Constant [F : Facts.Of] (p : Pg) (hs : ∀ c, c ∈ p.nodes → c.sm) (h2 : ∀ c, c ∈ p.nodes → c.rm) : Con PP 27 [p.av] [] [] (fun r o => r = .sc (.bool (constP p))) := by
  cases hok : progOk p with
  | false =>
    have u1 := c_impl_Fold0 p hs h2 hok
    have e : constP p = false := by simp [constP, hok]
    rw [e]
    simp only [Pg.av] at u1
    refine Con.of tok (nt := 17) Go.Proofs.Tryz.func27 (by kernel_rfl) rfl rfl rfl (Nat.le_of_ble_eq_true rfl) fun G => ?_
    simp only [entSt, tmOf, List.append_nil, List.cons_append, List.nil_append, Pg.av]
    repeat' (first
      | apply WPc.sq
      | (refine WPc.ret (endP.val (.inr rfl) rfl rfl (by simp; rfl) ?_))
      | refine WPL.nil ?_
      | (apply WPL.cL u1; (case q => (repeat' (first | refine And.intro ?_ ?_ | intro _ | exact cleanOut_nil | (refine Eqv.mk ?_; first | rfl | (simp -implicitDefEqProofs; done)) | (simp -implicitDefEqProofs; done) | (simp -implicitDefEqProofs; rfl) | rfl))))
      | (refine WPL.call0f ?_ ?_ ?_; (focus (simp; done)); (focus (simp; done)))
      | ((first | refine WPc.rq tok rfl fun K hK => ?_ | refine WPL.rn tok _ (by simp [ahead, isFn]; rfl) fun K hK => ?_); simp -implicitDefEqProofs +contextual [-Int.not_le, -Int.not_lt, -Nat.not_le, -Nat.not_lt, -List.all_eq_true, -List.all_eq_false, -List.any_eq_true, -List.any_eq_false]; (repeat1' (first | apply hK | apply And.intro | intro _)) <;> clear hK K <;> (try dsimp only [List.drop]))
      | (refine WPc.region ?_; simp only [List.toList_toArray]))
    rfl
  | true =>
    have u1 := c_impl_Fold1 p hs h2 hok
    obtain ⟨f1, f2⟩ := fold_len hok
    have f1' : (0 : Int) < (p.fold.length : Int) := by omega
    have ee : ndAt p.fold 0 = p.fold[0] := ndAt_eq (a := 0) (by simpa using f1)
    have e1 : isConst ⟨p.fold[0].k, p.fold[0].n, p.fold[0].s, p.fold[0].names, p.fold[0].args⟩ = isConst p.fold[0] := rfl
    simp only [Pg.av] at u1
    refine Con.of tok (nt := 17) Go.Proofs.Tryz.func27 (by kernel_rfl) rfl rfl rfl (Nat.le_of_ble_eq_true rfl) fun G => ?_
    simp only [entSt, tmOf, List.append_nil, List.cons_append, List.nil_append, Pg.av]
    repeat' (first
      | (refine WPL.detSt 5 5 900005 [] 0 0 ?_ ?_; (focus (simp; done)); refine fun K hK => ?_; simp -implicitDefEqProofs +contextual [-Int.not_le, -Int.not_lt, -Nat.not_le, -Nat.not_lt, -List.all_eq_true, -List.all_eq_false, -List.any_eq_true, -List.any_eq_false, progB, Nd.ow, f1, f1', e1]; (repeat1' (first | apply hK | apply And.intro | intro _)) <;> clear hK K)
      | (refine WPL.rnToSt tok 5 _ (by simp [isFn]; rfl) fun K hK => ?_; simp -implicitDefEqProofs +contextual [-Int.not_le, -Int.not_lt, -Nat.not_le, -Nat.not_lt, -List.all_eq_true, -List.all_eq_false, -List.any_eq_true, -List.any_eq_false, progB, Nd.ow, f1, f1', e1]; (repeat1' (first | apply hK | apply And.intro | intro _)) <;> clear hK K <;> (try dsimp only [List.drop]))
      | apply WPc.sq
      | (refine WPc.ret (endP.val (.inr rfl) rfl rfl (by simp; rfl) ?_))
      | refine WPL.nil ?_
      | (apply WPL.cU u1; (case q => (repeat' (first | refine And.intro ?_ ?_ | intro _ | exact cleanOut_nil | (refine Eqv.mk ?_; first | rfl | (simp -implicitDefEqProofs [progB, Nd.ow, f1, f1', e1]; done)) | (simp -implicitDefEqProofs [progB, Nd.ow, f1, f1', e1]; done) | (simp -implicitDefEqProofs [progB, Nd.ow, f1, f1', e1]; rfl) | (simp; done) | (simp; rfl) | rfl))))
      | (apply WPL.cL (c_impl_isConstant ⟨_, _, _, _, _⟩); (case q => (repeat' (first | refine And.intro ?_ ?_ | intro _ | exact cleanOut_nil | (refine Eqv.mk ?_; first | rfl | (simp -implicitDefEqProofs [progB, Nd.ow, f1, f1', e1]; done)) | (simp -implicitDefEqProofs [progB, Nd.ow, f1, f1', e1]; done) | (simp -implicitDefEqProofs [progB, Nd.ow, f1, f1', e1]; rfl) | (simp; done) | (simp; rfl) | rfl))))
      | (refine WPL.call0f ?_ ?_ ?_; (focus (simp; done)); (focus (simp; done)))
      | ((first | refine WPc.rq tok rfl fun K hK => ?_ | refine WPL.rn tok _ (by simp [ahead, isFn]; rfl) fun K hK => ?_); simp -implicitDefEqProofs +contextual [-Int.not_le, -Int.not_lt, -Nat.not_le, -Nat.not_lt, -List.all_eq_true, -List.all_eq_false, -List.any_eq_true, -List.any_eq_false, progB, Nd.ow, f1, f1', e1]; (repeat1' (first | apply hK | apply And.intro | intro _)) <;> clear hK K <;> (try dsimp only [List.drop]))
      | (refine WPc.region ?_; simp only [List.toList_toArray]))
    all_goals (rw [constP, hok, ee]; simp; intros; omega)
theorem c_spec_Constant (p : Pg) (hs : ∀ c, c ∈ p.nodes → c.sm) (h2 : ∀ c, c ∈ p.nodes → c.rm) : Con PP 25 [p.av] [] [] (fun r o => r = .sc (.bool (constP p))) := by
  cases hok : progOk p with
  | false =>
    have u1 := c_spec_Fold0 p hs h2 hok
    have e : constP p = false := by simp [constP, hok]
    rw [e]
    simp only [Pg.av] at u1
    refine Con.of tok (nt := 17) Go.Proofs.Tryz.func25 (by kernel_rfl) rfl rfl rfl (Nat.le_of_ble_eq_true rfl) fun G => ?_
    simp only [entSt, tmOf, List.append_nil, List.cons_append, List.nil_append, Pg.av]
    repeat' (first
      | apply WPc.sq
      | (refine WPc.ret (endP.val (.inr rfl) rfl rfl (by simp; rfl) ?_))
      | refine WPL.nil ?_
      | (apply WPL.cL u1; (case q => (repeat' (first | refine And.intro ?_ ?_ | intro _ | exact cleanOut_nil | (refine Eqv.mk ?_; first | rfl | (simp -implicitDefEqProofs; done)) | (simp -implicitDefEqProofs; done) | (simp -implicitDefEqProofs; rfl) | rfl))))
      | (refine WPL.call0f ?_ ?_ ?_; (focus (simp; done)); (focus (simp; done)))
      | ((first | refine WPc.rq tok rfl fun K hK => ?_ | refine WPL.rn tok _ (by simp [ahead, isFn]; rfl) fun K hK => ?_); simp -implicitDefEqProofs +contextual [-Int.not_le, -Int.not_lt, -Nat.not_le, -Nat.not_lt, -List.all_eq_true, -List.all_eq_false, -List.any_eq_true, -List.any_eq_false]; (repeat1' (first | apply hK | apply And.intro | intro _)) <;> clear hK K <;> (try dsimp only [List.drop]))
      | (refine WPc.region ?_; simp only [List.toList_toArray]))
    rfl
  | true =>
    have u1 := c_spec_Fold1 p hs h2 hok
    obtain ⟨f1, f2⟩ := fold_len hok
    have f1' : (0 : Int) < (p.fold.length : Int) := by omega
    have ee : ndAt p.fold 0 = p.fold[0] := ndAt_eq (a := 0) (by simpa using f1)
    have e1 : isConst ⟨p.fold[0].k, p.fold[0].n, p.fold[0].s, p.fold[0].names, p.fold[0].args⟩ = isConst p.fold[0] := rfl
    simp only [Pg.av] at u1
    refine Con.of tok (nt := 17) Go.Proofs.Tryz.func25 (by kernel_rfl) rfl rfl rfl (Nat.le_of_ble_eq_true rfl) fun G => ?_
    simp only [entSt, tmOf, List.append_nil, List.cons_append, List.nil_append, Pg.av]
    repeat' (first
      | (refine WPL.detSt 5 5 900005 [] 0 0 ?_ ?_; (focus (simp; done)); refine fun K hK => ?_; simp -implicitDefEqProofs +contextual [-Int.not_le, -Int.not_lt, -Nat.not_le, -Nat.not_lt, -List.all_eq_true, -List.all_eq_false, -List.any_eq_true, -List.any_eq_false, progB, Nd.ow, f1, f1', e1]; (repeat1' (first | apply hK | apply And.intro | intro _)) <;> clear hK K)
      | (refine WPL.rnToSt tok 5 _ (by simp [isFn]; rfl) fun K hK => ?_; simp -implicitDefEqProofs +contextual [-Int.not_le, -Int.not_lt, -Nat.not_le, -Nat.not_lt, -List.all_eq_true, -List.all_eq_false, -List.any_eq_true, -List.any_eq_false, progB, Nd.ow, f1, f1', e1]; (repeat1' (first | apply hK | apply And.intro | intro _)) <;> clear hK K <;> (try dsimp only [List.drop]))
      | apply WPc.sq
      | (refine WPc.ret (endP.val (.inr rfl) rfl rfl (by simp; rfl) ?_))
      | refine WPL.nil ?_
      | (apply WPL.cU u1; (case q => (repeat' (first | refine And.intro ?_ ?_ | intro _ | exact cleanOut_nil | (refine Eqv.mk ?_; first | rfl | (simp -implicitDefEqProofs [progB, Nd.ow, f1, f1', e1]; done)) | (simp -implicitDefEqProofs [progB, Nd.ow, f1, f1', e1]; done) | (simp -implicitDefEqProofs [progB, Nd.ow, f1, f1', e1]; rfl) | (simp; done) | (simp; rfl) | rfl))))
      | (apply WPL.cL (c_spec_l24Const ⟨_, _, _, _, _⟩); (case q => (repeat' (first | refine And.intro ?_ ?_ | intro _ | exact cleanOut_nil | (refine Eqv.mk ?_; first | rfl | (simp -implicitDefEqProofs [progB, Nd.ow, f1, f1', e1]; done)) | (simp -implicitDefEqProofs [progB, Nd.ow, f1, f1', e1]; done) | (simp -implicitDefEqProofs [progB, Nd.ow, f1, f1', e1]; rfl) | (simp; done) | (simp; rfl) | rfl))))
      | (refine WPL.call0f ?_ ?_ ?_; (focus (simp; done)); (focus (simp; done)))
      | ((first | refine WPc.rq tok rfl fun K hK => ?_ | refine WPL.rn tok _ (by simp [ahead, isFn]; rfl) fun K hK => ?_); simp -implicitDefEqProofs +contextual [-Int.not_le, -Int.not_lt, -Nat.not_le, -Nat.not_lt, -List.all_eq_true, -List.all_eq_false, -List.any_eq_true, -List.any_eq_false, progB, Nd.ow, f1, f1', e1]; (repeat1' (first | apply hK | apply And.intro | intro _)) <;> clear hK K <;> (try dsimp only [List.drop]))
      | (refine WPc.region ?_; simp only [List.toList_toArray]))
    all_goals (rw [constP, hok, ee]; simp; intros; omega)
theorem smallP {h : List Nd} (hc : costP h ≤ 1048576) : (∀ c, c ∈ h → c.sm) ∧ (∀ c, c ∈ h → c.rm) ∧ h.length ≤ 1048576 ∧ sumN h ≤ 4 * 1048576 := by
  have hl : h.length ≤ costP h := by unfold costP; omega
  have hm : ∀ c, c ∈ h → costN c ≤ 1048576 := fun c hcm => by
    have := mem_sum (f := costN) hcm
    unfold costP at hc
    omega
  refine ⟨fun c hcm => ?_, fun c hcm => ?_, by omega, ?_⟩
  · have := hm c hcm
    unfold costN costS at this
    refine ⟨by omega, fun x hx => ?_⟩
    have := mem_sum (f := ByteArray.size) hx; omega
  · have := hm c hcm
    unfold costN costS at this
    exact ⟨by omega, by omega⟩
  · have : sumN h ≤ 3 * costP h := by
      unfold sumN costP
      clear hc hl hm
      induction h with
      | nil => simp
      | cons c h ih =>
        simp only [List.map_cons, List.sum_cons, List.length_cons] at ih ⊢
        have : mkN c ≤ 3 + costN c := by unfold mkN costN costS; omega
        omega
    omega
theorem c_laws_FnExactConstant [F : Facts.Of] (p : Pg) (ht : ∀ c, c ∈ p.nodes → c.tx) : Con PP 5 [p.av] [] [] (fun r o => r = .sc (.bool true)) := by
  by_cases g1 : (costP p.nodes : Int) ≤ 1048576
  · have e1 : szR 1048576 (costP p.nodes) = 1048576 - costP p.nodes := szR_ok g1
    obtain ⟨s1, s2, s3, s4⟩ := smallP (h := p.nodes) (by omega)
    have s5 : p.nodes.length ≤ 1000000000 := by omega
    have u1 := c_laws_szProg p 1048576 (by omega) (by omega) ht
    have u2 := c_laws_toProg p s5 s2
    have u3 := c_spec_Constant p s1 s2
    have u4 := c_impl_Constant p s1 s2
    have u5 := c_laws_eqProg p
    rw [e1] at u1
    simp only [Pg.av] at u1 u2 u3 u4 u5
    generalize constP p = b at u3 u4
    refine Con.of tok (nt := 27) Go.Proofs.Tryz.func5 (by kernel_rfl) rfl rfl rfl (Nat.le_of_ble_eq_true rfl) fun G => ?_
    simp only [entSt, tmOf, List.append_nil, List.cons_append, List.nil_append, Pg.av]
    repeat' (first
      | (refine WPL.boolC tok fun K hK => ?_; simp -implicitDefEqProofs +contextual [-Int.not_le, -Int.not_lt, -Nat.not_le, -Nat.not_lt, -List.all_eq_true, -List.all_eq_false, -List.any_eq_true, -List.any_eq_false, progB]; (repeat1' (first | apply hK | apply And.intro | intro _)) <;> clear hK K)
      | ((first | refine WPL.rnTo tok 21 _ (by simp [isFn]; rfl) fun K hK => ?_ | refine WPc.rq tok rfl fun K hK => ?_ | refine WPL.rn tok _ (by simp [ahead, isFn]; rfl) fun K hK => ?_ | refine WPS.rn tok _ (by simp [aheadS]; rfl) fun K hK => ?_); simp -implicitDefEqProofs +contextual [-Int.not_le, -Int.not_lt, -Nat.not_le, -Nat.not_lt, -List.all_eq_true, -List.all_eq_false, -List.any_eq_true, -List.any_eq_false, progB]; (repeat1' (first | apply hK | apply And.intro | intro _)) <;> clear hK K <;> (try dsimp only [List.drop]))
      | (refine WPL.detSt 16 16 900016 [] 0 0 ?_ ?_; (focus (simp; done)); refine fun K hK => ?_; simp -implicitDefEqProofs +contextual [-Int.not_le, -Int.not_lt, -Nat.not_le, -Nat.not_lt, -List.all_eq_true, -List.all_eq_false, -List.any_eq_true, -List.any_eq_false, progB]; (repeat1' (first | apply hK | apply And.intro | intro _)) <;> clear hK K)
      | (refine WPL.rnToSt tok 16 _ (by simp [isFn]; rfl) fun K hK => ?_; simp -implicitDefEqProofs +contextual [-Int.not_le, -Int.not_lt, -Nat.not_le, -Nat.not_lt, -List.all_eq_true, -List.all_eq_false, -List.any_eq_true, -List.any_eq_false, progB]; (repeat1' (first | apply hK | apply And.intro | intro _)) <;> clear hK K <;> (try dsimp only [List.drop]))
      | apply WPc.sq
      | (refine WPc.ret (endP.val (.inr rfl) rfl rfl (by simp; rfl) ?_))
      | apply WPc.skip
      | refine WPL.nil ?_
      | (apply WPL.cL u1; (case q => (repeat' (first | refine And.intro ?_ ?_ | intro _ | exact cleanOut_nil | (refine Eqv.mk ?_; first | rfl | (simp -implicitDefEqProofs [progB]; done)) | (simp -implicitDefEqProofs [progB]; done) | (simp -implicitDefEqProofs [progB]; rfl) | (simp; done) | (simp; rfl) | rfl))))
      | (apply WPL.cU u2; (case q => (repeat' (first | refine And.intro ?_ ?_ | intro _ | exact cleanOut_nil | (refine Eqv.mk ?_; first | rfl | (simp -implicitDefEqProofs [progB]; done)) | (simp -implicitDefEqProofs [progB]; done) | (simp -implicitDefEqProofs [progB]; rfl) | (simp; done) | (simp; rfl) | rfl))))
      | (apply WPL.cL u3; (case q => (repeat' (first | refine And.intro ?_ ?_ | intro _ | exact cleanOut_nil | (refine Eqv.mk ?_; first | rfl | (simp -implicitDefEqProofs [progB]; done)) | (simp -implicitDefEqProofs [progB]; done) | (simp -implicitDefEqProofs [progB]; rfl) | (simp; done) | (simp; rfl) | rfl))))
      | (apply WPL.cL u4; (case q => (repeat' (first | refine And.intro ?_ ?_ | intro _ | exact cleanOut_nil | (refine Eqv.mk ?_; first | rfl | (simp -implicitDefEqProofs [progB]; done)) | (simp -implicitDefEqProofs [progB]; done) | (simp -implicitDefEqProofs [progB]; rfl) | (simp; done) | (simp; rfl) | rfl))))
      | (apply WPS.cU (hc := u2); (case ho => exact rfl); (case q => (repeat' (first | refine And.intro ?_ ?_ | intro _ | exact cleanOut_nil | (refine Eqv.mk ?_; first | rfl | (simp -implicitDefEqProofs [progB]; done)) | (simp -implicitDefEqProofs [progB]; done) | (simp -implicitDefEqProofs [progB]; rfl) | (simp; done) | (simp; rfl) | rfl))))
      | (apply WPS.cL (hc := u5); (case ho => exact rfl); (case q => (repeat' (first | refine And.intro ?_ ?_ | intro _ | exact cleanOut_nil | (refine Eqv.mk ?_; first | rfl | (simp -implicitDefEqProofs [progB]; done)) | (simp -implicitDefEqProofs [progB]; done) | (simp -implicitDefEqProofs [progB]; rfl) | (simp; done) | (simp; rfl) | rfl))))
      | (refine WPc.sched (id := 10) tok [(2, [24, 1024, 2024])] [(0, [24, 1024, 2024]), (1, []), (2, [24, 1024, 2024]), (3, []), (4, [])] (by kernel_rfl) ?_)
      | (refine WPS.nil ?_)
      | (refine WPc.region ?_; simp only [List.toList_toArray])
      | (refine WPc.condF ?_ ?_; (focus (simp; done)))
      | (refine WPc.cond (by simp [-Bool.not_eq_eq_eq_not]; rfl) (fun hq => ?_) (fun hq => ?_) <;> simp only [hq] <;> (try (exfalso; (simp only [decide_eq_true_eq, decide_eq_false_iff_not] at hq); omega))))
    all_goals first | rfl | (exfalso; omega) | (simp_all; done)
  · have e1 : szR 1048576 (costP p.nodes) = -1 := szR_no (by omega)
    have u1 := c_laws_szProg p 1048576 (by omega) (by omega) ht
    rw [e1] at u1
    simp only [Pg.av] at u1
    refine Con.of tok (nt := 27) Go.Proofs.Tryz.func5 (by kernel_rfl) rfl rfl rfl (Nat.le_of_ble_eq_true rfl) fun G => ?_
    simp only [entSt, tmOf, List.append_nil, List.cons_append, List.nil_append, Pg.av]
    repeat' (first
      | apply WPc.sq
      | (refine WPc.ret (endP.val (.inr rfl) rfl rfl (by simp; rfl) ?_))
      | refine WPL.nil ?_
      | (apply WPL.cL u1; (case q => (repeat' (first | refine And.intro ?_ ?_ | intro _ | exact cleanOut_nil | (refine Eqv.mk ?_; first | rfl | (simp -implicitDefEqProofs; done)) | (simp -implicitDefEqProofs; done) | (simp -implicitDefEqProofs; rfl) | rfl))))
      | ((first | refine WPc.rq tok rfl fun K hK => ?_ | refine WPL.rn tok _ (by simp [ahead, isFn]; rfl) fun K hK => ?_); simp -implicitDefEqProofs +contextual [-Int.not_le, -Int.not_lt, -Nat.not_le, -Nat.not_lt, -List.all_eq_true, -List.all_eq_false, -List.any_eq_true, -List.any_eq_false]; (repeat1' (first | apply hK | apply And.intro | intro _)) <;> clear hK K <;> (try dsimp only [List.drop]))
      | (refine WPc.region ?_; simp only [List.toList_toArray])
      | (refine WPc.condT ?_ ?_; (focus (simp; done))))
    all_goals rfl
def okM (M : Nat) (ns : List Nd) : Prop := ∀ c, c ∈ ns → c.names.length ≤ M ∧ c.args.length ≤ M
mutual
def T.lim (M : Nat) : T → Prop
  | .nd _ _ _ names ks => names.length ≤ M ∧ ks.length ≤ M ∧ limL M ks
def limL (M : Nat) : List T → Prop
  | [] => True
  | t :: ts => t.lim M ∧ limL M ts
end
theorem limL_iff {M : Nat} : ∀ {ks : List T}, limL M ks ↔ ∀ t, t ∈ ks → t.lim M
  | [] => by simp [limL]
  | t :: ks => by simp [limL, limL_iff (ks := ks)]
theorem kAt_mem {ks : List T} {k : Nat} (h : k < ks.length) : kAt ks k ∈ ks := by
  have e : kAt ks k = ks[k] := by rw [kAt, List.getD_eq_getElem?_getD, List.getElem?_eq_getElem h]; rfl
  rw [e]; exact List.getElem_mem h
theorem seqK_mem {ks : List T} {t : T} (h : t ∈ seqK ks) : t ∈ ks := by
  unfold seqK at h
  obtain ⟨k, hk, rfl⟩ := List.mem_map.1 h
  exact kAt_mem (List.mem_range.1 (List.mem_filter.1 hk).1)
theorem seqK_len (ks : List T) : (seqK ks).length ≤ ks.length := by
  unfold seqK
  rw [List.length_map]; exact Nat.le_trans (List.length_filter_le _ _) (by simp)
theorem foldN_lim {M : Nat} {h : Nd} {ks : List T} (ha : arOk h ks.length) (hn : h.names.length ≤ M) (hk : ks.length ≤ M) (hl : limL M ks) : (foldN h ks).lim M := by
  have hm := limL_iff.1 hl
  unfold foldN
  split
  · rename_i v _
    have := ndOf_nil v
    simp [lf, T.lim, limL, this.1]
  · split
    · rename_i h6
      have := ha.2.1 h6.1
      split
      · exact hm _ (kAt_mem (by omega))
      · exact hm _ (kAt_mem (by omega))
    · split
      · have := seqK_len ks
        split
        · exact hm _ (seqK_mem (kAt_mem (by omega)))
        · exact ⟨hn, by omega, limL_iff.2 fun t ht => hm t (seqK_mem ht)⟩
      · exact ⟨hn, hk, hl⟩
mutual
theorem foldT_lim {M : Nat} : ∀ t : T, t.wf → t.lim M → (foldT t).lim M
  | .nd k n s names ks, h, hl => by
    simp only [T.wf] at h
    simp only [T.lim] at hl
    rw [foldT]
    exact foldN_lim ⟨by simpa [foldL_len] using h.1, by simpa [foldL_len] using h.2.1, by simpa [foldL_len] using h.2.2.1⟩ hl.1 (by rw [foldL_len]; exact hl.2.1) (foldL_lim ks h.2.2.2 hl.2.2)
theorem foldL_lim {M : Nat} : ∀ ks : List T, wfL ks → limL M ks → limL M (foldL ks)
  | [], _, _ => trivial
  | t :: ks, h, hl => by
    simp only [wfL] at h
    simp only [limL] at hl
    exact ⟨foldT_lim t h.1 hl.1, foldL_lim ks h.2 hl.2⟩
end
mutual
theorem serT_lim {M : Nat} : ∀ (t : T) (out : List Nd), t.lim M → okM M out → okM M (serT t out)
  | .nd k n s names ks, out, h, ho => by
    simp only [T.lim] at h
    rw [serT]
    intro c hc
    rcases List.mem_append.1 hc with hc | hc
    · exact serL_lim ks out h.2.2 ho c hc
    · simp only [List.mem_cons, List.not_mem_nil, or_false] at hc
      subst hc
      exact ⟨h.1, by dsimp only; rw [serL_args]; exact h.2.1⟩
theorem serL_lim {M : Nat} : ∀ (ts : List T) (out : List Nd), limL M ts → okM M out → okM M (serL ts out).2
  | [], out, _, ho => ho
  | t :: ts, out, h, ho => by
    simp only [limL] at h
    rw [serL]
    exact serL_lim ts _ h.2 (serT_lim t out h.1 ho)
end
end Go.Own
namespace Go.Own
open Go.ChangeShapes Go.WideShapes Go.Deep
variable {H : Type} {enc : TypeId × Value → H} {P : Program} {w : World} {base : Nat} {spare : Nat → Bool} {held : Bool} {av : Nat → Prop}
theorem add_zero_eq (a : Addr) : a.add 0 = a := by simp [Addr.add]
theorem fr_slice {α : Type} (g : α → List C) (good : α → Prop) {k : Nat} (hk : ∀ a, (g a).length = k) (h0 : 0 < k) (hav : ∀ b, av b) {t e fuel : Nat} {v : Value} {x : DataW H × List MemPlace}
    (ht : P.underlying t = some (.slice e)) (hc : P.cellsOf e = k)
    (hel : ∀ n cs D, cs.length = k → DataW.trod enc P w base spare held n e cs = some D → ∃ a : α, good a ∧ ∀ (j : Nat) (y : C), (g a)[j]? = some y → ∃ u, cs[j]? = some u ∧ FR av w y u)
    (h : DataW.trod enc P w base spare held fuel t [v] = some x) : ∃ l : List α, (∀ a, a ∈ l → good a) ∧ FR av w (.fz (l.map g)) v := by
  rcases open_slice ht h with ⟨h1, _⟩ | ⟨ad, len, cap, m, n, D, Pl, h1, hb, hl, hm, hmm, _, hx⟩
  · obtain rfl : v = .slice none 0 0 := by simpa using h1
    exact ⟨[], by simp, .fzE none 0⟩
  · obtain rfl : v = .slice (some ad) len cap := by simpa using h1
    have hlm : len ≤ m := by rw [hmm]; split <;> omega
    by_cases hz : len = 0
    · subst hz
      exact ⟨[], by simp, .fzE (some ad) cap⟩
    rw [hc] at hx
    have hel2 : ∀ i : Fin len, ∃ a : α, good a ∧ ∀ (j : Nat) (y : C), (g a)[j]? = some y → ∃ u, w.cell? ((ad.add (i * k)).add j) = some u ∧ FR av w y u := fun i => by
      obtain ⟨cs, g1, g2⟩ := hx i (by omega)
      obtain ⟨_, g3, g4⟩ := World.cells?_some g1
      obtain ⟨a, ha, hr⟩ := hel n cs _ g3 g2
      refine ⟨a, ha, fun j y hj => ?_⟩
      obtain ⟨u, hu, hf⟩ := hr j y hj
      have hjk : j < k := by rw [← hk a]; exact (List.getElem?_eq_some_iff.1 hj).1
      exact ⟨u, by rw [g4 j hjk, hu], hf⟩
    have hsp : ad.spot = none := by
      obtain ⟨cs, g1, g2⟩ := hx 0 (by omega)
      obtain ⟨_, g3, g4⟩ := World.cells?_some g1
      have := g4 0 h0
      rw [Nat.zero_mul, add_zero_eq, add_zero_eq, List.getElem?_eq_getElem (by omega)] at this
      unfold World.cell? at this
      split at this
      · split at this
        · simp at this
        · rename_i hs; simpa using hs
      · simp at this
    obtain ⟨b, o, sp⟩ := ad
    dsimp only at hsp
    subst hsp
    refine ⟨List.ofFn fun i => Classical.choose (hel2 i), fun a ha => ?_, ?_⟩
    · obtain ⟨i, rfl⟩ := List.mem_ofFn.1 ha
      exact (Classical.choose_spec (hel2 i)).1
    · have key : ∀ (i j : Nat) (r : List C) (y : C), ((List.ofFn fun i => Classical.choose (hel2 i)).map g)[i]? = some r → r[j]? = some y → ∃ u, w.cell? ⟨b, o + i * k + j, none⟩ = some u ∧ FR av w y u := fun i j r y hi hj => by
        rw [List.getElem?_map, Option.map_eq_some_iff] at hi
        obtain ⟨a, ha, rfl⟩ := hi
        obtain ⟨hlt, he⟩ := List.getElem?_eq_some_iff.1 ha
        rw [List.getElem_ofFn] at he
        have hi2 : i < len := by simpa using hlt
        obtain ⟨u, hu, hf⟩ := (Classical.choose_spec (hel2 ⟨i, hi2⟩)).2 j y (by rw [he]; exact hj)
        refine ⟨u, ?_, hf⟩
        rw [add_plain, add_plain] at hu
        exact hu
      have hlen : ((List.ofFn fun i => Classical.choose (hel2 i)).map g).length = len := by simp
      have := FR.fzN (av := av) (w := w) ((List.ofFn fun i => Classical.choose (hel2 i)).map g) b o k cap (fun i j => (w.cell? ⟨b, o + i * k + j, none⟩).getD undef) (fun h => by rw [h] at hlen; simp at hlen; omega) h0 (hav b)
        (fun r hr => by obtain ⟨a, _, rfl⟩ := List.mem_map.1 hr; exact hk a) ⟨by rw [hlen]; exact hl, hm⟩
        (fun i j r y hi hj => by obtain ⟨u, hu, _⟩ := key i j r y hi hj; rw [hu]; rfl)
        (fun i j r y hi hj => by obtain ⟨u, hu, hf⟩ := key i j r y hi hj; rw [hu]; exact hf)
      rw [hlen] at this
      exact this
end Go.Own
set_option maxRecDepth 1000000
namespace Go.Own
open Go.ChangeShapes Go.WideShapes Go.Deep
theorem undV : ∃ f0 f1 f2, PP.underlying 86 = some (.struct #[f0, f1, f2]) ∧ f0.type = 3 ∧ f0.offset = 0 ∧ f1.type = 3 ∧ f1.offset = 1 ∧ f2.type = 9 ∧ f2.offset = 2 := ⟨_, _, _, rfl, rfl, rfl, rfl, rfl, rfl, rfl⟩
theorem undC : ∃ f0 f1 f2 f3 f4 f5, PP.underlying 84 = some (.struct #[f0, f1, f2, f3, f4, f5]) ∧ (f0.type = 3 ∧ f0.offset = 0) ∧ (f1.type = 9 ∧ f1.offset = 1) ∧ (f2.type = 3 ∧ f2.offset = 2) ∧ (f3.type = 3 ∧ f3.offset = 3) ∧ (f4.type = 65 ∧ f4.offset = 4) ∧ (f5.type = 36 ∧ f5.offset = 5) := ⟨_, _, _, _, _, _, rfl, ⟨rfl, rfl⟩, ⟨rfl, rfl⟩, ⟨rfl, rfl⟩, ⟨rfl, rfl⟩, ⟨rfl, rfl⟩, ⟨rfl, rfl⟩⟩
theorem undCS : PP.underlying 35 = some (.slice 84) := by kernel_rfl
theorem undVS : PP.underlying 36 = some (.slice 86) := by kernel_rfl
theorem undSS : PP.underlying 65 = some (.slice 9) := by kernel_rfl
theorem undS : PP.underlying 9 = some .string := by kernel_rfl
theorem undI : PP.underlying 3 = some (.int .i64) := by kernel_rfl
theorem clC : PP.cellsOf 84 = 6 := by kernel_rfl
theorem clV : PP.cellsOf 86 = 3 := by kernel_rfl
theorem clS : PP.cellsOf 9 = 1 := by kernel_rfl
theorem clI : PP.cellsOf 3 = 1 := by kernel_rfl
theorem clSS : PP.cellsOf 65 = 1 := by kernel_rfl
theorem clVS : PP.cellsOf 36 = 1 := by kernel_rfl
variable {H : Type} {enc : TypeId × Value → H} {w : World} {base : Nat} {spare : Nat → Bool} {held : Bool} {av : Nat → Prop} {n : Nat} {cs : List Value} {D : DataW H × List MemPlace}
theorem rd_str {v : Value} (h : DataW.trod enc PP w base spare held n 9 [v] = some D) : ∃ s, v = .string s ∧ s.size ≤ maxLen := by
  obtain ⟨s, h1, _, h2⟩ := DataW.trod_string undS h
  exact ⟨s, by simpa using h1, h2⟩
theorem rd_int {v : Value} (h : DataW.trod enc PP w base spare held n 3 [v] = some D) : ∃ k, v = .int .i64 k := by
  obtain ⟨k, h1, _⟩ := DataW.trod_int undI h
  exact ⟨k, by simpa using h1⟩
theorem rd_V (hl : cs.length = 3) (h : DataW.trod enc PP w base spare held n 86 cs = some D) :
    ∃ v : V, v.s.size ≤ maxLen ∧ ∀ (j : Nat) (y : C), (V.cs v)[j]? = some y → ∃ u, cs[j]? = some u ∧ FR av w y u := by
  obtain ⟨f0, f1, f2, hu, t0, o0, t1, o1, t2, o2⟩ := undV
  obtain ⟨xs, m, _, _, _, hx, hf⟩ := DataW.trod_struct hu h
  match cs, hl with
  | [a, b, c], _ =>
    have g0 := hf 0 f0 rfl
    have g1 := hf 1 f1 rfl
    have g2 := hf 2 f2 rfl
    have hx3 : xs.length = 3 := hx
    rw [t0, o0, clI, List.getElem?_eq_getElem (by omega)] at g0
    rw [t1, o1, clI, List.getElem?_eq_getElem (by omega)] at g1
    rw [t2, o2, clS, List.getElem?_eq_getElem (by omega)] at g2
    simp only [List.drop_zero, List.take_succ_cons, List.take_zero, List.drop_succ_cons] at g0 g1 g2
    obtain ⟨k, rfl⟩ := rd_int g0
    obtain ⟨m, rfl⟩ := rd_int g1
    obtain ⟨s, rfl, hs⟩ := rd_str g2
    refine ⟨⟨k, m, s⟩, hs, fun j y hj => ?_⟩
    match j, hj with
    | 0, hj => simp [V.cs] at hj; subst hj; exact ⟨_, rfl, .sc _ rfl⟩
    | 1, hj => simp [V.cs] at hj; subst hj; exact ⟨_, rfl, .sc _ rfl⟩
    | 2, hj => simp [V.cs] at hj; subst hj; exact ⟨_, rfl, .sc _ rfl⟩
    | j + 3, hj => simp [V.cs] at hj
theorem rd_strs (hav : ∀ b, av b) {v : Value} (h : DataW.trod enc PP w base spare held n 65 [v] = some D) : ∃ l : List ByteArray, (∀ s, s ∈ l → s.size ≤ maxLen) ∧ FR av w (.fz (l.map sC)) v :=
  fr_slice sC (fun s => s.size ≤ maxLen) (fun _ => rfl) (by decide) hav undSS clS (fun n cs D hl h => by
    match cs, hl with
    | [a], _ =>
      obtain ⟨s, rfl, hs⟩ := rd_str h
      refine ⟨s, hs, fun j y hj => ?_⟩
      match j, hj with
      | 0, hj => simp [sC] at hj; subst hj; exact ⟨_, rfl, .sc _ rfl⟩
      | j + 1, hj => simp [sC] at hj) h
theorem rd_vals (hav : ∀ b, av b) {v : Value} (h : DataW.trod enc PP w base spare held n 36 [v] = some D) : ∃ l : List V, (∀ v, v ∈ l → v.s.size ≤ maxLen) ∧ FR av w (.fz (l.map V.cs)) v :=
  fr_slice V.cs (fun v => v.s.size ≤ maxLen) (fun _ => rfl) (by decide) hav undVS clV (fun n cs D hl h => rd_V hl h) h
theorem rd_C (hav : ∀ b, av b) (hl : cs.length = 6) (h : DataW.trod enc PP w base spare held n 84 cs = some D) :
    ∃ c : Cl, c.tx ∧ ∀ (j : Nat) (y : C), (Cl.cs c)[j]? = some y → ∃ u, cs[j]? = some u ∧ FR av w y u := by
  obtain ⟨f0, f1, f2, f3, f4, f5, hu, ⟨t0, o0⟩, ⟨t1, o1⟩, ⟨t2, o2⟩, ⟨t3, o3⟩, ⟨t4, o4⟩, ⟨t5, o5⟩⟩ := undC
  obtain ⟨xs, m, _, _, _, hx, hf⟩ := DataW.trod_struct hu h
  have hx6 : xs.length = 6 := hx
  match cs, hl with
  | [a, b, c, d, e, f], _ =>
    have g0 := hf 0 f0 rfl
    have g1 := hf 1 f1 rfl
    have g2 := hf 2 f2 rfl
    have g3 := hf 3 f3 rfl
    have g4 := hf 4 f4 rfl
    have g5 := hf 5 f5 rfl
    rw [t0, o0, clI, List.getElem?_eq_getElem (by omega)] at g0
    rw [t1, o1, clS, List.getElem?_eq_getElem (by omega)] at g1
    rw [t2, o2, clI, List.getElem?_eq_getElem (by omega)] at g2
    rw [t3, o3, clI, List.getElem?_eq_getElem (by omega)] at g3
    rw [t4, o4, clSS, List.getElem?_eq_getElem (by omega)] at g4
    rw [t5, o5, clVS, List.getElem?_eq_getElem (by omega)] at g5
    simp only [List.drop_zero, List.take_succ_cons, List.take_zero, List.drop_succ_cons] at g0 g1 g2 g3 g4 g5
    obtain ⟨k, rfl⟩ := rd_int g0
    obtain ⟨s, rfl, hs⟩ := rd_str g1
    obtain ⟨x, rfl⟩ := rd_int g2
    obtain ⟨y, rfl⟩ := rd_int g3
    obtain ⟨ns, hn1, hn2⟩ := rd_strs (av := av) hav g4
    obtain ⟨vs, hv1, hv2⟩ := rd_vals (av := av) hav g5
    refine ⟨⟨k, s, x, y, ns, vs⟩, ⟨hs, hn1, hv1⟩, fun j z hj => ?_⟩
    match j, hj with
    | 0, hj => simp [Cl.cs] at hj; subst hj; exact ⟨_, rfl, .sc _ rfl⟩
    | 1, hj => simp [Cl.cs] at hj; subst hj; exact ⟨_, rfl, .sc _ rfl⟩
    | 2, hj => simp [Cl.cs] at hj; subst hj; exact ⟨_, rfl, .sc _ rfl⟩
    | 3, hj => simp [Cl.cs] at hj; subst hj; exact ⟨_, rfl, .sc _ rfl⟩
    | 4, hj => simp [Cl.cs] at hj; subst hj; exact ⟨_, rfl, hn2⟩
    | 5, hj => simp [Cl.cs] at hj; subst hj; exact ⟨_, rfl, hv2⟩
    | j + 6, hj => simp [Cl.cs] at hj
theorem rd_heap (hav : ∀ b, av b) {v : Value} (h : DataW.trod enc PP w base spare held n 35 [v] = some D) : ∃ l : List Cl, (∀ c, c ∈ l → c.tx) ∧ FR av w (.fz (l.map Cl.cs)) v :=
  fr_slice Cl.cs Cl.tx (fun _ => rfl) (by decide) hav undCS clC (fun n cs D hl h => rd_C hav hl h) h
end Go.Own
set_option maxRecDepth 1000000
namespace Go.Own
open Go.ChangeShapes Go.WideShapes Go.Deep Go.RowKit
def Reads1 (w : World) (n : String) (d : DataW Unit) : Prop :=
  ∃ g t cs fuel p, PP.globalNamed n = some g ∧ (PP.globals[g]?).map (·.type) = some t ∧ w.var? PP n = some cs ∧ DataW.trod (fun _ => ()) PP w 0 (fun _ => true) false fuel t cs.toList = some (d, p)
theorem reads_laid {w : World} : ∀ {l : List (String × DataW Unit)} {ps : List MemPlace}, DataW.LaidVars PP w l ps → ∀ n d, (n, d) ∈ l → Reads1 w n d
  | [], _, _, _, _, hm => by cases hm
  | (n', d') :: r, ps, h, n, d, hm => by
    obtain ⟨g, t, cs, fuel, p, q, h1, h2, h3, h4, h5, _⟩ := h
    rcases List.mem_cons.1 hm with e | e
    · cases e; exact ⟨g, t, cs, fuel, p, h1, h2, h3, h4⟩
    · exact reads_laid h5 n d e
theorem gSyn : PP.globalNamed "strconv.ErrSyntax" = some 1 := by kernel_rfl
theorem gRng : PP.globalNamed "strconv.ErrRange" = some 2 := by kernel_rfl
theorem tSyn : (PP.globals[1]?).map (·.type) = some 152 := by kernel_rfl
theorem tRng : (PP.globals[2]?).map (·.type) = some 152 := by kernel_rfl
theorem undE : ∃ ms, PP.underlying 152 = some (.interface ms) := ⟨_, rfl⟩
theorem err_cell {w : World} {n : String} {g : Nat} {s : List UInt8} (hg : PP.globalNamed n = some g) (ht : (PP.globals[g]?).map (·.type) = some 152) (h : Reads1 w n (.iface "*errors.errorString" (.ptr (.agg [.lit (.string s)])))) :
    ∃ ev, w.cell? ⟨g, 0, none⟩ = some ev ∧ (ev = .nilIface ∨ ∃ te pe, ev = .iface te pe) := by
  obtain ⟨g', t, cs, fuel, p, h1, h2, h3, h4⟩ := h
  obtain rfl := Option.some.inj (hg.symm.trans h1)
  obtain rfl := Option.some.inj (ht.symm.trans h2)
  obtain ⟨ms, hu⟩ := undE
  have key : ∃ u v, cs.toList = [.iface u v] := by
    cases fuel with
    | zero => simp [DataW.trod] at h4
    | succ m =>
      unfold DataW.trod at h4
      rw [hu] at h4
      split at h4 <;> simp_all
  obtain ⟨u, v, hcs⟩ := key
  have := World.var?_cell hg h3 0
  refine ⟨.iface u v, ?_, .inr ⟨u, v, rfl⟩⟩
  rw [this]
  have : cs = #[.iface u v] := by apply Array.toList_inj.1; simpa using hcs
  rw [this]; rfl
open Go.Proofs.YtfanjfmgacfpjaaGreatDoor
theorem facts_of {W : World} (hL : laidMetH PP Rows.fnExactPrimRow.laid W) (hsh : W.ShapedOpen PP) : Facts W := by
  have hL : laidMet PP Rows.fnExactPrimRow.laid W := hL
  obtain ⟨ps, hv, _⟩ := hL
  have rd := fun n d hm => reads_laid hv n d hm
  refine ⟨?_, ?_, ?_, ?_⟩
  · exact Go.Proofs.cell_of_shapedOpen_int (zero := #[.int .i64 0]) (t := 3) hsh (of_decide_eq_true (by kernel_rfl)) (by kernel_rfl) rfl (by kernel_rfl) (by kernel_rfl) undI
  · exact err_cell gSyn tSyn (rd "strconv.ErrSyntax" _ (by simp [Rows.fnExactPrimRow, Rows.laid_strconv_ErrSyntax]; rfl))
  · exact err_cell gRng tRng (rd "strconv.ErrRange" _ (by simp [Rows.fnExactPrimRow, Rows.laid_strconv_ErrRange]; rfl))
  · obtain ⟨g, t, cs, fuel, p, h1, h2, h3, h4⟩ := rd "internal/strconv.uint64pow10" Rows.laid_internal_strconv_uint64pow10 (by simp [Rows.fnExactPrimRow])
    have ht : t = 184 := by
      have : (PP.globalNamed "internal/strconv.uint64pow10").bind (fun g => (PP.globals[g]?).map (·.type)) = some 184 := by kernel_rfl
      rw [h1] at this
      exact Option.some.inj (h2.symm.trans this)
    subst ht
    unfold Lib.TabIs
    rw [h3, ← Lib.cells_of_tab (e := 165) (n := 20) (k := .u64) (zs := Lib.pow10Tab) (by kernel_rfl) (by kernel_rfl) (by kernel_rfl) (by kernel_rfl) h4]
end Go.Own
set_option maxRecDepth 1000000
namespace Go.Own
open Go.ChangeShapes Go.WideShapes Go.Deep Go.RowKit Go.ChangeAt Go.Proofs.YtfanjfmgacfpjaaGreatDoor
theorem post_of_below {H : Type} {enc : TypeId × Value → H} {P : Program} {f : Func} {s : ChangeSpec} {apart fresh handsOn again : Bool} {W W' : World} {args : Array Value} {v : Value} {ds gs : List (DataW H)} {before pa pv : List MemPlace}
    (hW : DataW.Whole enc P f.params.toList s.vars apart W args.toList ds gs before)
    (hres : ∀ (b : Nat) (sp : Nat → Bool) (hd : Bool), DataW.TrodAll enc P W' b sp hd f.resultTypes.toList (v.resultList f.resultTypes.size) (s.fn H (ds ++ gs)).results [])
    (hargs : ∀ sp : Nat → Bool, (∀ p ∈ before, sp p.block = true) → DataW.TrodAll enc P W' 0 sp true f.params.toList args.toList (s.fn H (ds ++ gs)).args pa)
    (hvars : ∀ sp : Nat → Bool, (∀ p ∈ before, sp p.block = true) → DataW.TrodVars enc P W' sp s.vars (s.fn H (ds ++ gs)).vars pv)
    (hps : before = pa ++ pv) (hk : W.keptBut W' (· ∈ before)) (hfz : ∀ b off, b < W.heap.size → W'.frozen? ⟨b, off, none⟩ = W.frozen? ⟨b, off, none⟩)
    (hok : ∀ (j : Nat) (t : TypeId) (r : Value), f.resultTypes[j]? = some t → (v.resultList f.resultTypes.size)[j]? = some r → Value.okWide P W' .any 0 t r) :
    s.post enc P f apart fresh handsOn again W args v W' := by
  have hold : ∀ p ∈ before, (fun b => decide (b < W.heap.size)) p.block = true := fun p hp => by simpa using hW.lt p hp
  have hlt := hW.lt
  refine ⟨ds, gs, before, [], pa, pv, hW, hres _ _ _, hargs _ hold, hvars _ hold, World.keptBut_mono (fun p hp => ⟨hp, ?_⟩) hk, fun _ => ?_⟩
  · rw [hps, List.mem_append] at hp
    exact Or.inr hp
  · obtain ⟨_, _, _, _, _, hz, hn⟩ := hW
    refine ⟨hok, _, _, ([] ++ pa) ++ pv, ⟨[] ++ pa, pv, trodAll_append (hargs _ (fun _ _ => rfl)) (hres _ _ _), hvars _ (fun _ _ => rfl), rfl, ?_, ?_⟩, ?_⟩
    · intro b off hp
      have hp' : MemPlace.cell b off ∈ before := by rw [hps]; simpa using hp
      rw [hfz b off (hlt _ hp')]
      exact hz b off hp'
    · intro ha
      have := hn ha
      rw [hps] at this
      simpa using this
    · intro p hp _
      rw [hps]
      simpa using hp
@[reducible] def LI : Laid where
  n := 4
  ok := Facts
  mono := fun w w' h hf => by
    have hc : ∀ b, b < 4 → w'.cell? ⟨b, 0, none⟩ = w.cell? ⟨b, 0, none⟩ := fun b hb => World.cell?_of_block (w := w) (h b hb)
    refine ⟨by rw [hc 0 (by omega)]; exact hf.maxLen, by rw [hc 1 (by omega)]; exact hf.syn, by rw [hc 2 (by omega)]; exact hf.rng, ?_⟩
    have hp := hf.pow
    unfold Lib.TabIs World.var? at hp ⊢
    have hg : PP.globalNamed "internal/strconv.uint64pow10" = some 3 := by kernel_rfl
    rw [hg] at hp ⊢
    simp only [Option.bind_some] at hp ⊢
    rw [h 3 (by omega)]
    exact hp
theorem slice_cells {W : World} {base : Nat} {t e : TypeId} {v : Value} (ht : PP.underlying t = some (.slice e)) (h : Value.okWide PP W .any base t v) : v.cells.toList = [v] := by
  simp only [Value.okWide, ht, Cell.okWide, Cell.ok] at h
  cases v <;> simp_all [Value.cells]
theorem string_cells {W : World} {base : Nat} {t : TypeId} {v : Value} (ht : PP.underlying t = some .string) (h : Value.okWide PP W .any base t v) : v.cells.toList = [v] := by
  simp only [Value.okWide, ht, Cell.okWide, Cell.ok] at h
  cases v <;> simp_all [Value.cells]
theorem par4 : Go.Proofs.Tryz.f4.params = #[35, 9, 36] := by kernel_rfl
theorem undB : PP.underlying 4 = some .bool := by kernel_rfl
theorem laidOut : laidOutB PP = true := by kernel_rfl
theorem contract (H : Type) (enc : TypeId × Value → H) (W : World) (base : Nat) (args : Array Value) (ds gs : List (DataW H)) (before : List MemPlace)
    (hval : ∀ (j : Nat) t v, Go.Proofs.Tryz.f4.params[j]? = some t → args[j]? = some v → Value.okWide PP W .any base t v)
    (hW : DataW.Whole enc PP Go.Proofs.Tryz.f4.params.toList Rows.fnExactPrimSpec.vars false W args.toList ds gs before) (hL : laidMetH PP Rows.fnExactPrimRow.laid W) (hsh : W.ShapedOpen PP) :
    Calls PP 4 args W fun e W' => ∃ v, e = .returned v ∧ Rows.fnExactPrimSpec.post enc PP Go.Proofs.Tryz.f4 false true false false W args v W' := by
  have hW' := hW
  obtain ⟨p, q, hA0, hV, rfl, hfz, hnd⟩ := hW
  have hA : DataW.TrodAll enc PP W 0 (fun _ => true) true Go.Proofs.Tryz.f4.params.toList args.toList ds p := hA0
  rw [par4] at hA hval
  obtain ⟨v0, vs0, d0, ds0, p0, q0, hargs, rfl, rfl, h0, r0⟩ := trodAll_cons hA
  obtain ⟨v1, vs1, d1, ds1, p1, q1, rfl, rfl, rfl, h1, r1⟩ := trodAll_cons r0
  obtain ⟨v2, vs2, d2, ds2, p2, q2, rfl, rfl, rfl, h2, r2⟩ := trodAll_cons r1
  obtain ⟨rfl, rfl, rfl⟩ := trodAll_nil r2
  obtain rfl : args = #[v0, v1, v2] := by cases args; simp_all
  obtain ⟨rfl, rfl⟩ := trodVars_none hV
  have o0 := slice_cells undCS (hval 0 _ v0 rfl rfl)
  have o1 := string_cells undS (hval 1 _ v1 rfl rfl)
  have o2 := slice_cells undVS (hval 2 _ v2 rfl rfl)
  obtain ⟨n0, t0⟩ := h0
  obtain ⟨n1, t1⟩ := h1
  obtain ⟨n2, t2⟩ := h2
  have t0' := t0
  have t2' := t2
  rw [o0] at t0'
  rw [o1] at t1
  rw [o2] at t2'
  obtain ⟨h, hh1, hh2⟩ := rd_heap (av := fun b => (fun _ : Nat => (none : Option (Nat × Pth))) b = none) (fun _ => rfl) t0'
  obtain ⟨s, rfl, hs⟩ := rd_str t1
  obtain ⟨a, ha1, ha2⟩ := rd_vals (av := fun b => (fun _ : Nat => (none : Option (Nat × Pth))) b = none) (fun _ => rfl) t2'
  have hf := facts_of hL hsh
  letI := LI
  haveI : Facts.Of := ⟨fun w h => h⟩
  have hsz : 4 ≤ W.heap.size := by
    have := (hf.pow)
    unfold Lib.TabIs World.var? at this
    have hg : PP.globalNamed "internal/strconv.uint64pow10" = some 3 := by kernel_rfl
    rw [hg] at this
    simp only [Option.bind_some] at this
    split at this
    · rename_i hx; exact (Array.getElem?_eq_some_iff.1 hx).1
    · simp at this
  refine ((c_laws_FnExactPrim h s a hs hh1 ha1).run (fun _ => none) W #[v0, .string s, v2] ⟨hf, hsz, fun _ _ => rfl⟩ rfl (fun i v hi => ?_) (fun _ _ _ _ h => by simp [lo] at h) (fun _ _ _ h => by simp at h) (fun _ _ h => by simp at h)).mono ?_
  · match i, hi with
    | 0, hi => simp at hi; subst hi; exact .fz _ _ hh2
    | 1, hi => simp at hi; subst hi; exact .sc _
    | 2, hi => simp at hi; subst hi; exact .fz _ _ ha2
    | i + 3, hi => simp at hi
  rintro e W' ⟨u, res, ob', β', rfl, hp⟩
  have hb : Below W.heap.size W W' := ⟨hp.os, hp.tape, hp.output, hp.hs, fun b hb => hp.fr b hb rfl⟩
  have hu : u = .bool true := by
    have := hp.res
    rw [hp.ok] at this
    exact this.sc_inv
  subst hu
  have hlt := hW'.lt
  simp only [List.append_nil, List.append_assoc] at hlt
  refine ⟨_, rfl, post_of_below (pa := p0 ++ (p1 ++ (p2 ++ []))) (pv := []) hW' (fun _ _ _ => trodAll_cons_mk (shut_bool undB _) trodAll_mk0) (fun sp hsp => ?_) (fun _ _ => rfl) (by simp) (hb.frame _) (fun b off hlt => hb.frozen hlt) (ok_one (by kernel_rfl) rfl (okWide_bool_mk undB _))⟩
  rw [par4]
  have hsp' : ∀ x, x ∈ p0 ∨ x ∈ p1 ∨ x ∈ p2 → sp x.block = true ∧ x.block < W.heap.size := fun x hx => by
    have hm : x ∈ p0 ++ (p1 ++ p2) := by simpa using hx
    exact ⟨hsp x (by simpa using hm), hlt x (by simpa using hm)⟩
  refine trodAll_cons_mk (WideElems.Trod_stays laidOut (by kernel_rfl) (of_decide_eq_true (by kernel_rfl)) ⟨n0, t0⟩ (fun x hx => hb.same (hsp' x (.inl hx)).2) (fun x hx => (hsp' x (.inl hx)).1)) ?_
  refine trodAll_cons_mk (WideElems.Trod_stays laidOut (by kernel_rfl) (of_decide_eq_true (by kernel_rfl)) ⟨n1, by rw [o1]; exact t1⟩ (fun x hx => hb.same (hsp' x (.inr (.inl hx))).2) (fun x hx => (hsp' x (.inr (.inl hx))).1)) ?_
  exact trodAll_cons_mk (WideElems.Trod_stays laidOut (by kernel_rfl) (of_decide_eq_true (by kernel_rfl)) ⟨n2, t2⟩ (fun x hx => hb.same (hsp' x (.inr (.inr hx))).2) (fun x hx => (hsp' x (.inr (.inr hx))).1)) trodAll_mk0
end Go.Own
set_option maxRecDepth 1000000
namespace Go.Own
open Go.ChangeShapes Go.WideShapes Go.Deep
def Pg.cs (p : Pg) : List C := [.fz (p.nodes.map Nd.cs), .sc (.int .i64 p.root)]
def Pg.tx (p : Pg) : Prop := ∀ c, c ∈ p.nodes → c.tx
variable {H : Type} {enc : TypeId × Value → H} {w : World} {base : Nat} {spare : Nat → Bool} {held : Bool} {av : Nat → Prop} {n : Nat} {cs : List Value} {D : DataW H × List MemPlace}
theorem und_ints : PP.underlying 72 = some (.slice 3) := by kernel_rfl
theorem cl_ints : PP.cellsOf 72 = 1 := by kernel_rfl
theorem rd_ints (hav : ∀ b, av b) {v : Value} (h : DataW.trod enc PP w base spare held n 72 [v] = some D) : ∃ l : List Int, (∀ x, x ∈ l → True) ∧ FR av w (.fz (l.map nC)) v :=
  fr_slice nC (fun _ => True) (fun _ => rfl) (by decide) hav und_ints clI (fun n cs D hl h => by
    match cs, hl with
    | [a], _ =>
      obtain ⟨s, rfl⟩ := rd_int h
      refine ⟨s, trivial, fun j y hj => ?_⟩
      match j, hj with
      | 0, hj => simp [nC] at hj; subst hj; exact ⟨_, rfl, .sc _ rfl⟩
      | j + 1, hj => simp [nC] at hj) h
theorem und_Node : ∃ f0 f1 f2 f3 f4, PP.underlying 127 = some (.struct #[f0, f1, f2, f3, f4]) ∧ (f0.type = 3 ∧ f0.offset = 0) ∧ (f1.type = 3 ∧ f1.offset = 1) ∧ (f2.type = 9 ∧ f2.offset = 2) ∧ (f3.type = 65 ∧ f3.offset = 3) ∧ (f4.type = 72 ∧ f4.offset = 4) := ⟨_, _, _, _, _, rfl, ⟨rfl, rfl⟩, ⟨rfl, rfl⟩, ⟨rfl, rfl⟩, ⟨rfl, rfl⟩, ⟨rfl, rfl⟩⟩
theorem cl_Node : PP.cellsOf 127 = 5 := by kernel_rfl
theorem rd_Node (hav : ∀ b, av b) (hl : cs.length = 5) (h : DataW.trod enc PP w base spare held n 127 cs = some D) :
    ∃ c : Nd, c.tx ∧ ∀ (j : Nat) (y : C), (Nd.cs c)[j]? = some y → ∃ u, cs[j]? = some u ∧ FR av w y u := by
  obtain ⟨f0, f1, f2, f3, f4, hu, ⟨t0, o0⟩, ⟨t1, o1⟩, ⟨t2, o2⟩, ⟨t3, o3⟩, ⟨t4, o4⟩⟩ := und_Node
  obtain ⟨xs, m, _, _, _, hx, hf⟩ := DataW.trod_struct hu h
  have hxl : xs.length = 5 := hx
  match cs, hl with
  | [a0, a1, a2, a3, a4], _ =>
    have g0 := hf 0 f0 rfl
    rw [t0, o0, clI, List.getElem?_eq_getElem (by omega)] at g0
    have g1 := hf 1 f1 rfl
    rw [t1, o1, clI, List.getElem?_eq_getElem (by omega)] at g1
    have g2 := hf 2 f2 rfl
    rw [t2, o2, clS, List.getElem?_eq_getElem (by omega)] at g2
    have g3 := hf 3 f3 rfl
    rw [t3, o3, clSS, List.getElem?_eq_getElem (by omega)] at g3
    have g4 := hf 4 f4 rfl
    rw [t4, o4, cl_ints, List.getElem?_eq_getElem (by omega)] at g4
    simp only [List.drop_zero, List.take_succ_cons, List.take_zero, List.drop_succ_cons] at g0 g1 g2 g3 g4
    obtain ⟨x0, rfl⟩ := rd_int g0
    obtain ⟨x1, rfl⟩ := rd_int g1
    obtain ⟨x2, rfl, p2⟩ := rd_str g2
    obtain ⟨x3, p3, q3⟩ := rd_strs (av := av) hav g3
    obtain ⟨x4, p4, q4⟩ := rd_ints (av := av) hav g4
    refine ⟨⟨x0, x1, x2, x3, x4⟩, ⟨p2, p3⟩, fun j y hj => ?_⟩
    match j, hj with
    | 0, hj => obtain rfl := Option.some.inj hj; exact ⟨_, rfl, .sc _ rfl⟩
    | 1, hj => obtain rfl := Option.some.inj hj; exact ⟨_, rfl, .sc _ rfl⟩
    | 2, hj => obtain rfl := Option.some.inj hj; exact ⟨_, rfl, .sc _ rfl⟩
    | 3, hj => obtain rfl := Option.some.inj hj; exact ⟨_, rfl, q3⟩
    | 4, hj => obtain rfl := Option.some.inj hj; exact ⟨_, rfl, q4⟩
    | j + 5, hj => cases hj
theorem und_NodeS : PP.underlying 47 = some (.slice 127) := by kernel_rfl
theorem cl_NodeS : PP.cellsOf 47 = 1 := by kernel_rfl
theorem rd_NodeS (hav : ∀ b, av b) {v : Value} (h : DataW.trod enc PP w base spare held n 47 [v] = some D) : ∃ l : List Nd, (∀ x, x ∈ l → x.tx) ∧ FR av w (.fz (l.map Nd.cs)) v :=
  fr_slice Nd.cs Nd.tx (fun _ => rfl) (by decide) hav und_NodeS cl_Node (fun n cs D hl h => rd_Node hav hl h) h
theorem und_Prog : ∃ f0 f1, PP.underlying 49 = some (.struct #[f0, f1]) ∧ (f0.type = 47 ∧ f0.offset = 0) ∧ (f1.type = 3 ∧ f1.offset = 1) := ⟨_, _, rfl, ⟨rfl, rfl⟩, ⟨rfl, rfl⟩⟩
theorem cl_Prog : PP.cellsOf 49 = 2 := by kernel_rfl
theorem rd_Prog (hav : ∀ b, av b) (hl : cs.length = 2) (h : DataW.trod enc PP w base spare held n 49 cs = some D) :
    ∃ c : Pg, c.tx ∧ ∀ (j : Nat) (y : C), (Pg.cs c)[j]? = some y → ∃ u, cs[j]? = some u ∧ FR av w y u := by
  obtain ⟨f0, f1, hu, ⟨t0, o0⟩, ⟨t1, o1⟩⟩ := und_Prog
  obtain ⟨xs, m, _, _, _, hx, hf⟩ := DataW.trod_struct hu h
  have hxl : xs.length = 2 := hx
  match cs, hl with
  | [a0, a1], _ =>
    have g0 := hf 0 f0 rfl
    rw [t0, o0, cl_NodeS, List.getElem?_eq_getElem (by omega)] at g0
    have g1 := hf 1 f1 rfl
    rw [t1, o1, clI, List.getElem?_eq_getElem (by omega)] at g1
    simp only [List.drop_zero, List.take_succ_cons, List.take_zero, List.drop_succ_cons] at g0 g1
    obtain ⟨x0, p0, q0⟩ := rd_NodeS (av := av) hav g0
    obtain ⟨x1, rfl⟩ := rd_int g1
    refine ⟨⟨x0, x1⟩, p0, fun j y hj => ?_⟩
    match j, hj with
    | 0, hj => obtain rfl := Option.some.inj hj; exact ⟨_, rfl, q0⟩
    | 1, hj => obtain rfl := Option.some.inj hj; exact ⟨_, rfl, .sc _ rfl⟩
    | j + 2, hj => cases hj
def avC : C → AV
  | .sc v => .sc v
  | .fz xs => .fz xs
  | _ => .un
theorem VR.ofFR {β : Blk} {w : World} {cs : List C} {us : Array Value} (hl : cs.length = us.size) (h : ∀ (j : Nat) (y : C), cs[j]? = some y → ∃ u, us.toList[j]? = some u ∧ FR (fun b => β b = none) w y u) : VR β w (.agg (cs.map avC)) (.agg us) := by
  have hf : ∃ f : Nat → Value, ∀ (j : Nat) (y : C), cs[j]? = some y → us.toList[j]? = some (f j) ∧ FR (fun b => β b = none) w y (f j) := by
    refine ⟨fun j => if hj : j < us.size then us[j] else .bool true, fun j y hj => ?_⟩
    obtain ⟨u, h1, h2⟩ := h j y hj
    have hlt : j < us.size := by rw [← hl]; exact (List.getElem?_eq_some_iff.1 hj).1
    have : us[j] = u := by simpa [hlt] using h1
    simp only [dif_pos hlt, this]
    exact ⟨h1, h2⟩
  obtain ⟨f, hf⟩ := hf
  have key : ∀ (i : Nat) (x : AV), (cs.map avC)[i]? = some x → ∃ y, cs[i]? = some y ∧ x = avC y := fun i x hx => by
    rw [List.getElem?_map, Option.map_eq_some_iff] at hx
    obtain ⟨y, h1, h2⟩ := hx
    exact ⟨y, h1, h2.symm⟩
  refine .agg _ _ f (by simpa using hl) (fun i x hx => ?_) (fun i x hx => ?_) fun i x hx => ?_
  · obtain ⟨y, h1, _⟩ := key i x hx
    simpa using (hf i y h1).1
  · obtain ⟨y, h1, _⟩ := key i x hx
    exact (hf i y h1).2.one
  · obtain ⟨y, h1, rfl⟩ := key i x hx
    have h2 := (hf i y h1).2
    cases y with
    | sc v => cases h2 with | sc _ _ => exact .sc _
    | fz xs => exact .fz _ _ h2
    | sl e k xs => exact .un _
    | no => exact .un _
theorem struct_cells {W : World} {base : Nat} {t : TypeId} {v : Value} {fs : Array Field} (ht : PP.underlying t = some (.struct fs)) (h : Value.okWide PP W .any base t v) : ∃ us, v = .agg us ∧ us.size = PP.cellsOf t ∧ v.cells.toList = us.toList := by
  simp only [Value.okWide, ht] at h
  obtain ⟨us, rfl, h1, _⟩ := h
  exact ⟨us, rfl, h1, rfl⟩
end Go.Own
set_option maxRecDepth 1000000
namespace Go.Own
open Go.ChangeShapes Go.WideShapes Go.Deep Go.RowKit Go.ChangeAt Go.Proofs.YtfanjfmgacfpjaaGreatDoor
namespace FnExactConstant
theorem facts_of {W : World} (hL : laidMetH PP Rows.fnExactConstantRow.laid W) (hsh : W.ShapedOpen PP) : Facts W := by
  have hL : laidMet PP Rows.fnExactConstantRow.laid W := hL
  obtain ⟨ps, hv, _⟩ := hL
  have rd := fun n d hm => reads_laid hv n d hm
  refine ⟨?_, ?_, ?_, ?_⟩
  · exact Go.Proofs.cell_of_shapedOpen_int (zero := #[.int .i64 0]) (t := 3) hsh (of_decide_eq_true (by kernel_rfl)) (by kernel_rfl) rfl (by kernel_rfl) (by kernel_rfl) undI
  · exact err_cell gSyn tSyn (rd "strconv.ErrSyntax" _ (by simp [Rows.fnExactConstantRow, Rows.laid_strconv_ErrSyntax]; rfl))
  · exact err_cell gRng tRng (rd "strconv.ErrRange" _ (by simp [Rows.fnExactConstantRow, Rows.laid_strconv_ErrRange]; rfl))
  · obtain ⟨g, t, cs, fuel, p, h1, h2, h3, h4⟩ := rd "internal/strconv.uint64pow10" Rows.laid_internal_strconv_uint64pow10 (by simp [Rows.fnExactConstantRow])
    have ht : t = 184 := by
      have : (PP.globalNamed "internal/strconv.uint64pow10").bind (fun g => (PP.globals[g]?).map (·.type)) = some 184 := by kernel_rfl
      rw [h1] at this
      exact Option.some.inj (h2.symm.trans this)
    subst ht
    unfold Lib.TabIs
    rw [h3, ← Lib.cells_of_tab (e := 165) (n := 20) (k := .u64) (zs := Lib.pow10Tab) (by kernel_rfl) (by kernel_rfl) (by kernel_rfl) (by kernel_rfl) h4]
theorem par : Go.Proofs.Tryz.f5.params = #[49] := by kernel_rfl
theorem contract (H : Type) (enc : TypeId × Value → H) (W : World) (base : Nat) (args : Array Value) (ds gs : List (DataW H)) (before : List MemPlace)
    (hval : ∀ (j : Nat) t v, Go.Proofs.Tryz.f5.params[j]? = some t → args[j]? = some v → Value.okWide PP W .any base t v)
    (hW : DataW.Whole enc PP Go.Proofs.Tryz.f5.params.toList Rows.fnExactConstantSpec.vars false W args.toList ds gs before) (hL : laidMetH PP Rows.fnExactConstantRow.laid W) (hsh : W.ShapedOpen PP) :
    Calls PP 5 args W fun e W' => ∃ v, e = .returned v ∧ Rows.fnExactConstantSpec.post enc PP Go.Proofs.Tryz.f5 false true false false W args v W' := by
  have hW' := hW
  obtain ⟨p, q, hA0, hV, rfl, hfz, hnd⟩ := hW
  have hA : DataW.TrodAll enc PP W 0 (fun _ => true) true Go.Proofs.Tryz.f5.params.toList args.toList ds p := hA0
  rw [par] at hA hval
  obtain ⟨v0, vs0, d0, ds0, p0, q0, hargs, rfl, rfl, h0, r0⟩ := trodAll_cons hA
  obtain ⟨rfl, rfl, rfl⟩ := trodAll_nil r0
  obtain rfl : args = #[v0] := by cases args; simp_all
  obtain ⟨rfl, rfl⟩ := trodVars_none hV
  obtain ⟨n0, t0⟩ := h0
  have t0' := t0
  obtain ⟨_f0, _f1, hu0, _⟩ := und_Prog
  obtain ⟨us0, rfl, hs0, o0⟩ := struct_cells hu0 (hval 0 _ v0 rfl rfl)
  rw [cl_Prog] at hs0
  rw [o0] at t0'
  obtain ⟨x0, hx0, hf0⟩ := rd_Prog (av := fun b => (fun _ : Nat => (none : Option (Nat × Pth))) b = none) (fun _ => rfl) (by simpa using hs0) t0'
  have hf := facts_of hL hsh
  letI := LI
  haveI : Facts.Of := ⟨fun w h => h⟩
  have hsz : 4 ≤ W.heap.size := by
    have := (hf.pow)
    unfold Lib.TabIs World.var? at this
    have hg : PP.globalNamed "internal/strconv.uint64pow10" = some 3 := by kernel_rfl
    rw [hg] at this
    simp only [Option.bind_some] at this
    split at this
    · rename_i hx; exact (Array.getElem?_eq_some_iff.1 hx).1
    · simp at this
  refine ((c_laws_FnExactConstant x0 hx0).run (fun _ => none) W #[(.agg us0)] ⟨hf, hsz, fun _ _ => rfl⟩ rfl (fun i v hi => ?_) (fun _ _ _ _ h => by simp [lo] at h) (fun _ _ _ h => by simp at h) (fun _ _ h => by simp at h)).mono ?_
  · match i, hi with
    | 0, hi => simp at hi; subst hi; exact VR.ofFR (cs := Pg.cs x0) (by rw [hs0]; rfl) hf0
    | i + 1, hi => simp at hi
  rintro e W' ⟨u, res, ob', β', rfl, hp⟩
  have hb : Below W.heap.size W W' := ⟨hp.os, hp.tape, hp.output, hp.hs, fun b hb => hp.fr b hb rfl⟩
  have hu : u = .bool true := by
    have := hp.res
    rw [hp.ok] at this
    exact this.sc_inv
  subst hu
  have hlt := hW'.lt
  simp only [List.append_nil, List.append_assoc] at hlt
  refine ⟨_, rfl, post_of_below (pa := p0 ++ []) (pv := []) hW' (fun _ _ _ => trodAll_cons_mk (shut_bool undB _) trodAll_mk0) (fun sp hsp => ?_) (fun _ _ => rfl) (by simp) (hb.frame _) (fun b off hlt => hb.frozen hlt) (ok_one (by kernel_rfl) rfl (okWide_bool_mk undB _))⟩
  rw [par]
  have hsp' : ∀ x, x ∈ p0 → sp x.block = true ∧ x.block < W.heap.size := fun x hx => by
    refine ⟨hsp x ?_, hlt x ?_⟩ <;> (try simp only [List.append_nil, List.append_assoc, List.mem_append]) <;> exact hx
  exact trodAll_cons_mk (WideElems.Trod_stays laidOut (by kernel_rfl) (of_decide_eq_true (by kernel_rfl)) ⟨n0, t0⟩ (fun x hx => hb.same (hsp' x hx).2) (fun x hx => (hsp' x hx).1)) trodAll_mk0
theorem ownN : ownKnob PP.godebug = none := by kernel_rfl
def wargs : Array Value := #[.agg #[.slice none 0 0, .int .i64 0]]
noncomputable def wW (os : Os) : World := World.laidAll PP os Rows.fnExactConstantRow.laid
theorem laid_met (os : Os) : laidMetH PP Rows.fnExactConstantRow.laid ((wW os).forCall (fun _ _ => 0) ⟨#[], wargs, []⟩).memory :=
  show laidMet PP Rows.fnExactConstantRow.laid _ from laidMet_laidAll wargs (by kernel_rfl) (by kernel_rfl)
theorem wreads (os : Os) {H : Type} (enc : TypeId × Value → H) : ∃ places, DataW.whole enc PP ((wW os).forCall (fun _ _ => 0) ⟨#[], wargs, []⟩).memory Go.Proofs.Tryz.f5.params.toList Rows.fnExactConstantSpec.vars false wargs.toList 8 = some ([.agg [.nil, .lit (.int .i64 0)]], [], places) :=
  ⟨[], by kernel_rfl⟩
theorem lifted (os : Os) (started : os.Started) (H : Type) (enc : TypeId × Value → H) (F : Stop.Interp) :
    ReturnsInHanded {} Go.Proofs.Tryz.checked os 5 .any ((OpenSpec.ofChange Rows.fnExactConstantSpec).preRow enc PP Go.Proofs.Tryz.f5 Rows.fnExactConstantRow.domain false Rows.fnExactConstantRow.laid) (((OpenSpec.ofChange Rows.fnExactConstantSpec).at F).post enc PP Go.Proofs.Tryz.f5 false true false false) := by
  obtain ⟨places, hx⟩ := wreads os enc
  refine returnsInHanded_of_row (C := Go.Proofs.Tryz.checked) (s := OpenSpec.ofChange Rows.fnExactConstantSpec) ownN started (by kernel_rfl) Go.Proofs.Tryz.func5
    (witness_row_at (enc := enc) (C := Go.Proofs.Tryz.checked) false (wW os) wargs (World.laidAll_os _ _ _) (by kernel_rfl) (by kernel_rfl) (by kernel_rfl)
      (OpenSpec.preRow_of_cond 8 hx (by kernel_rfl) (fun k hk => by cases hk) (by kernel_rfl) (laid_met os))) ?_
  intro W base args ds gs before hval hW _ _ _ hL hsh _
  exact contract H enc W base args ds gs before hval hW hL hsh
theorem said : Rows.FnExactConstantSaid :=
  OpenClaim.holds_of_cond 5 Go.Proofs.Tryz.f5 rfl rfl rfl rfl rfl rfl rfl ⟨rfl, rfl, rfl, rfl, rfl⟩ rfl rfl rfl rfl rfl (by kernel_rfl) Go.Proofs.Tryz.func5 (by kernel_rfl)
    (of_decide_eq_true (by kernel_rfl)) (by unfold Func.isWrapper; first | (rw [if_pos (by decide +kernel)]; kernel_rfl) | (rw [if_neg (by decide +kernel)]; exact ⟨rfl, rfl⟩))
    (fun os started H enc _ F => by rw [OpenClaim.pre_eq_preRow]; exact lifted os started H enc F)
theorem plainN (f : FuncId) (fn : Func) (hf : Tryz.pinned.checked.prog.funcNamed "loop.example/g00765/laws.FnExactConstant" = some f) (hfn : Tryz.pinned.checked.prog.funcs[f]? = some fn) :
    true = Tryz.pinned.checked.prog.looks [] ∧ ∀ (j : Nat) t, fn.params[j]? = some t → Tryz.pinned.checked.prog.wantsStandIn t = false := by
  obtain rfl : f = 5 := Option.some.inj ((show PP.funcNamed "loop.example/g00765/laws.FnExactConstant" = some 5 by kernel_rfl).symm.trans hf) |>.symm
  obtain rfl : fn = Go.Proofs.Tryz.f5 := (Option.some.inj (Go.Proofs.Tryz.func5.symm.trans hfn)).symm
  refine ⟨by kernel_rfl, fun j t ht => ?_⟩
  rw [par] at ht
  match j, ht with
  | 0, ht => obtain rfl := Option.some.inj ht; exact (show PP.wantsStandIn 49 = false by kernel_rfl)
  | j + 1, ht => cases ht
theorem card : Rows.FnExactConstantCardSaid :=
  Claim7.holds_tied_plain_at .later [] _ _ _ _ said (fun _ h => by cases h) (by kernel_rfl) (fun _ h => by cases h) fnExactConstant_row_tie rfl ⟨rfl, rfl⟩ (by kernel_rfl) rfl plainN (by kernel_rfl)
end FnExactConstant
end Go.Own
namespace Go.Proofs.YtfanjfmgacfpjaaGreatDoor
theorem fnExactConstant_holds : Rows.FnExactConstantCardSaid := Go.Own.FnExactConstant.card
end Go.Proofs.YtfanjfmgacfpjaaGreatDoor
