import Derived.Test.YtfanjfmgacfpjaaGreatDoorTc
/- Lemmas for the proof in the last text of this claim. -/
set_option linter.unusedVariables false
set_option linter.unusedSimpArgs false
set_option linter.unusedSectionVars false
set_option maxRecDepth 1000000
set_option maxHeartbeats 4000000
namespace Go.Own
attribute [local irreducible] WPc WPL WPS WPS1 WPS2 HAny endP
variable [Laid]
open Go.Lib Go.RowKit
attribute [simp] dz_V dz_sC
@[simp] theorem dz_V1 (l : List V) : dzLL (List.take l.length (l.map V.cs)) = l.map V.cs := by
  rw [List.take_of_length_le (by simp), dz_V]
@[simp] theorem dz_sC1 (l : List ByteArray) : dzLL (List.take l.length (l.map sC)) = l.map sC := by
  rw [List.take_of_length_le (by simp), dz_sC]
theorem spec_Prim_bad (h : List Cl) (s : ByteArray) (a : List V) (h2 : ∀ c, c ∈ h → c.sm) (h3 : ∀ v, v ∈ a → v.sm) (h4 : h.length ≤ 1000000000) (h5 : ∀ c, c ∈ h → c.rm) (hg : good h s a = false) : Con PP 10 [.fz (h.map Cl.cs), .sc (.string s), .fz (a.map V.cs)] [] [] (fun r o => r = PrimR h s a ∧ o = [(900001, heapR (pH h s a))]) := by
  have e1 : pH h s a = h := by simp [pH, hg]
  have e2 : pV h s a = (noV, 2) := by simp [pV, hg]
  simp only [PrimR, e1, e2]
  cases hh : heapOk h with
  | false =>
    refine Con.of tok (nt := 61) Go.Proofs.Tryz.func10 (by kernel_rfl) rfl rfl rfl (Nat.le_of_ble_eq_true rfl) fun G => ?_
    simp only [entSt, tmOf, List.append_nil, List.cons_append, List.nil_append]
    repeat' (first
      | (refine WPc.renR 15 900001 fun K hK => ?_; simp -implicitDefEqProofs +contextual [-Int.not_le, -Int.not_lt, -Nat.not_le, -Nat.not_lt, -List.all_eq_true, -List.all_eq_false, -List.any_eq_true, -List.any_eq_false, hh, noV, V.av, heapR]; (repeat1' (first | apply hK | apply And.intro | intro _)) <;> clear hK K)
      | apply WPc.sq
      | (refine WPc.ret (endP.own [(900001, heapR h)] (.inr rfl) rfl rfl (by simp; rfl) ?_ ?_ (by simp)))
      | refine WPL.nil ?_
      | (apply WPL.cU (c_spec_l8CopyCells _ ?g1 ?g2); (case q => (repeat' (first | refine And.intro ?_ ?_ | intro _ | exact cleanOut_nil | (refine Eqv.mk ?_; first | rfl | (simp -implicitDefEqProofs [hh, noV, V.av, heapR]; done)) | (simp -implicitDefEqProofs [hh, noV, V.av, heapR]; done) | (simp -implicitDefEqProofs [hh, noV, V.av, heapR]; rfl) | (simp; done) | (simp; rfl) | rfl))); (case g1 => (first | assumption | omega)); (case g2 => (first | assumption | omega)))
      | (apply WPL.cL (c_spec_HeapOk _ ?g1); (case q => (repeat' (first | refine And.intro ?_ ?_ | intro _ | exact cleanOut_nil | (refine Eqv.mk ?_; first | rfl | (simp -implicitDefEqProofs [hh, noV, V.av, heapR]; done)) | (simp -implicitDefEqProofs [hh, noV, V.av, heapR]; done) | (simp -implicitDefEqProofs [hh, noV, V.av, heapR]; rfl) | (simp; done) | (simp; rfl) | rfl))); (case g1 => (first | assumption | omega)))
      | (refine WPL.call0f ?_ ?_ ?_; (focus (simp; done)); (focus (simp; done)))
      | ((first | refine WPc.rq tok rfl fun K hK => ?_ | refine WPL.rn tok _ (by simp [ahead, isFn]; rfl) fun K hK => ?_); simp -implicitDefEqProofs +contextual [-Int.not_le, -Int.not_lt, -Nat.not_le, -Nat.not_lt, -List.all_eq_true, -List.all_eq_false, -List.any_eq_true, -List.any_eq_false, hh, noV, V.av, heapR]; (repeat1' (first | apply hK | apply And.intro | intro _)) <;> clear hK K <;> (try dsimp only [List.drop]))
      | (refine WPc.region ?_; simp only [List.toList_toArray])
      | (refine WPc.condT ?_ ?_; (focus (simp; done))))
    all_goals (simp [heapR, noV, V.av]; try rfl)
  | true =>
    cases hp : plainP s with
    | false =>
      refine Con.of tok (nt := 61) Go.Proofs.Tryz.func10 (by kernel_rfl) rfl rfl rfl (Nat.le_of_ble_eq_true rfl) fun G => ?_
      simp only [entSt, tmOf, List.append_nil, List.cons_append, List.nil_append]
      repeat' (first
        | (refine WPc.renR 15 900001 fun K hK => ?_; simp -implicitDefEqProofs +contextual [-Int.not_le, -Int.not_lt, -Nat.not_le, -Nat.not_lt, -List.all_eq_true, -List.all_eq_false, -List.any_eq_true, -List.any_eq_false, hp, hh, noV, V.av, heapR]; (repeat1' (first | apply hK | apply And.intro | intro _)) <;> clear hK K)
        | apply WPc.sq
        | (refine WPc.ret (endP.own [(900001, heapR h)] (.inr rfl) rfl rfl (by simp; rfl) ?_ ?_ (by simp)))
        | refine WPL.nil ?_
        | (apply WPL.cU (c_spec_l8CopyCells _ ?g1 ?g2); (case q => (repeat' (first | refine And.intro ?_ ?_ | intro _ | exact cleanOut_nil | (refine Eqv.mk ?_; first | rfl | (simp -implicitDefEqProofs [hp, hh, noV, V.av, heapR]; done)) | (simp -implicitDefEqProofs [hp, hh, noV, V.av, heapR]; done) | (simp -implicitDefEqProofs [hp, hh, noV, V.av, heapR]; rfl) | (simp; done) | (simp; rfl) | rfl))); (case g1 => (first | assumption | omega)); (case g2 => (first | assumption | omega)))
        | (apply WPL.cL (c_spec_HeapOk _ ?g1); (case q => (repeat' (first | refine And.intro ?_ ?_ | intro _ | exact cleanOut_nil | (refine Eqv.mk ?_; first | rfl | (simp -implicitDefEqProofs [hp, hh, noV, V.av, heapR]; done)) | (simp -implicitDefEqProofs [hp, hh, noV, V.av, heapR]; done) | (simp -implicitDefEqProofs [hp, hh, noV, V.av, heapR]; rfl) | (simp; done) | (simp; rfl) | rfl))); (case g1 => (first | assumption | omega)))
        | (apply WPL.cL (c_spec_l7Plain _); (case q => (repeat' (first | refine And.intro ?_ ?_ | intro _ | exact cleanOut_nil | (refine Eqv.mk ?_; first | rfl | (simp -implicitDefEqProofs [hp, hh, noV, V.av, heapR]; done)) | (simp -implicitDefEqProofs [hp, hh, noV, V.av, heapR]; done) | (simp -implicitDefEqProofs [hp, hh, noV, V.av, heapR]; rfl) | (simp; done) | (simp; rfl) | rfl))))
        | (refine WPL.call0f ?_ ?_ ?_; (focus (simp; done)); (focus (simp; done)))
        | ((first | refine WPc.rq tok rfl fun K hK => ?_ | refine WPL.rn tok _ (by simp [ahead, isFn]; rfl) fun K hK => ?_); simp -implicitDefEqProofs +contextual [-Int.not_le, -Int.not_lt, -Nat.not_le, -Nat.not_lt, -List.all_eq_true, -List.all_eq_false, -List.any_eq_true, -List.any_eq_false, hp, hh, noV, V.av, heapR]; (repeat1' (first | apply hK | apply And.intro | intro _)) <;> clear hK K <;> (try dsimp only [List.drop]))
        | (refine WPc.region ?_; simp only [List.toList_toArray])
        | (refine WPc.condT ?_ ?_; (focus (simp; done))))
      all_goals (simp [heapR, noV, V.av]; try rfl)
    | true =>
      by_cases hl : (a.length : Int) = arity s
      · have hv : a.all (valueOk h) = false := by
          cases hx : a.all (valueOk h) with
          | false => rfl
          | true => rw [good, hp, hh, hx, decide_eq_true hl] at hg; simp at hg
        have hl' : ((a.length : Int) = arity s) = True := by simp [hl]
        refine Con.lenOf 2 Go.Proofs.Tryz.func10 (by kernel_rfl) (by kernel_rfl) rfl fun hlen => ?_
        simp at hlen
        refine Con.of tok (nt := 61) Go.Proofs.Tryz.func10 (by kernel_rfl) rfl rfl rfl (Nat.le_of_ble_eq_true rfl) fun G => ?_
        simp only [entSt, tmOf, List.append_nil, List.cons_append, List.nil_append]
        repeat' (first
          | apply WPc.sq
          | apply WPc.block
          | apply WPc.skip
          | refine WPL.nil ?_
          | (apply WPL.cU (c_spec_l8CopyCells _ ?g1 ?g2); (case q => (repeat' (first | refine And.intro ?_ ?_ | intro _ | exact cleanOut_nil | (refine Eqv.mk ?_; first | rfl | (simp -implicitDefEqProofs [hp, hl', hh, noV, V.av, heapR]; done)) | (simp -implicitDefEqProofs [hp, hl', hh, noV, V.av, heapR]; done) | (simp -implicitDefEqProofs [hp, hl', hh, noV, V.av, heapR]; rfl) | (simp; done) | (simp; rfl) | rfl))); (case g1 => (first | assumption | omega)); (case g2 => (first | assumption | omega)))
          | (apply WPL.cL (c_spec_HeapOk _ ?g1); (case q => (repeat' (first | refine And.intro ?_ ?_ | intro _ | exact cleanOut_nil | (refine Eqv.mk ?_; first | rfl | (simp -implicitDefEqProofs [hp, hl', hh, noV, V.av, heapR]; done)) | (simp -implicitDefEqProofs [hp, hl', hh, noV, V.av, heapR]; done) | (simp -implicitDefEqProofs [hp, hl', hh, noV, V.av, heapR]; rfl) | (simp; done) | (simp; rfl) | rfl))); (case g1 => (first | assumption | omega)))
          | (apply WPL.cL (c_spec_l7Plain _); (case q => (repeat' (first | refine And.intro ?_ ?_ | intro _ | exact cleanOut_nil | (refine Eqv.mk ?_; first | rfl | (simp -implicitDefEqProofs [hp, hl', hh, noV, V.av, heapR]; done)) | (simp -implicitDefEqProofs [hp, hl', hh, noV, V.av, heapR]; done) | (simp -implicitDefEqProofs [hp, hl', hh, noV, V.av, heapR]; rfl) | (simp; done) | (simp; rfl) | rfl))))
          | (apply WPL.cL (c_spec_Arity _); (case q => (repeat' (first | refine And.intro ?_ ?_ | intro _ | exact cleanOut_nil | (refine Eqv.mk ?_; first | rfl | (simp -implicitDefEqProofs [hp, hl', hh, noV, V.av, heapR]; done)) | (simp -implicitDefEqProofs [hp, hl', hh, noV, V.av, heapR]; done) | (simp -implicitDefEqProofs [hp, hl', hh, noV, V.av, heapR]; rfl) | (simp; done) | (simp; rfl) | rfl))))
          | ((first | refine WPc.rq tok rfl fun K hK => ?_ | refine WPL.rn tok _ (by simp [ahead, isFn]; rfl) fun K hK => ?_); simp -implicitDefEqProofs +contextual [-Int.not_le, -Int.not_lt, -Nat.not_le, -Nat.not_lt, -List.all_eq_true, -List.all_eq_false, -List.any_eq_true, -List.any_eq_false, hp, hl', hh, noV, V.av, heapR]; (repeat1' (first | apply hK | apply And.intro | intro _)) <;> clear hK K <;> (try dsimp only [List.drop]))
          | (refine WPc.region ?_; simp only [List.toList_toArray])
          | (refine WPc.condF ?_ ?_; (focus (simp; done))))
        refine WPc.loopV (σ := Nat) (fun i => i ≤ a.length ∧ (a.take i).all (valueOk h) = true) (fun i => a.length - i) (fun i => [(10, .sc (.int .i64 i))]) (fun i => [(15, 88, 6, h.map Cl.ow), (7, 29, 3, [[.sc (.int .i64 0), .sc (.int .i64 0), .sc (.string zs)]])]) [0, 1, 2, 7, 9] 0 (by simp) (by simp) (by simp) ?_
        rintro i ⟨hi, hall⟩ s hs
        simp at hs
        subst hs
        by_cases hlt : i < a.length
        · have hva := List.getElem?_eq_getElem hlt
          have hs1 := h3 _ (List.getElem_mem hlt)
          repeat' (first
            | (refine WPc.renR 15 900001 fun K hK => ?_; simp -implicitDefEqProofs +contextual [-Int.not_le, -Int.not_lt, -Nat.not_le, -Nat.not_lt, -List.all_eq_true, -List.all_eq_false, -List.any_eq_true, -List.any_eq_false, V.cs, hlt, noV, V.av, heapR]; (repeat1' (first | apply hK | apply And.intro | intro _)) <;> clear hK K)
            | apply WPc.sq
            | apply WPc.block
            | (refine WPc.ret (endP.own [(900001, heapR h)] (.inr rfl) rfl rfl (by simp; rfl) ?_ ?_ (by simp)))
            | apply WPc.skip
            | refine WPL.nil ?_
            | (apply WPL.cL (c_spec_ValueOk _ ⟨_, _, _⟩ ?g1); (case q => (repeat' (first | refine And.intro ?_ ?_ | intro _ | exact cleanOut_nil | (refine Eqv.mk ?_; first | rfl | (simp -implicitDefEqProofs [V.cs, hlt, noV, V.av, heapR]; done)) | (simp -implicitDefEqProofs [V.cs, hlt, noV, V.av, heapR]; done) | (simp -implicitDefEqProofs [V.cs, hlt, noV, V.av, heapR]; rfl) | (simp; done) | (simp; rfl) | rfl))); (case g1 => (first | assumption | (exact hs1))))
            | ((first | refine WPc.rq tok rfl fun K hK => ?_ | refine WPL.rn tok _ (by simp [ahead, isFn]; rfl) fun K hK => ?_); simp -implicitDefEqProofs +contextual [-Int.not_le, -Int.not_lt, -Nat.not_le, -Nat.not_lt, -List.all_eq_true, -List.all_eq_false, -List.any_eq_true, -List.any_eq_false, V.cs, hlt, noV, V.av, heapR]; (repeat1' (first | apply hK | apply And.intro | intro _)) <;> clear hK K <;> (try dsimp only [List.drop]))
            | (refine WPc.region ?_; simp only [List.toList_toArray])
            | (refine WPc.condT ?_ ?_; (focus (simp; done)))
            | (refine WPc.cond (by simp [-Bool.not_eq_eq_eq_not]; rfl) (fun hq => ?_) (fun hq => ?_) <;> simp only [hq] <;> (try (exfalso; (simp only [decide_eq_true_eq, decide_eq_false_iff_not] at hq); omega))))
          · simp [heapR]
          · exact ⟨rfl, rfl⟩
          refine ⟨i + 1, ⟨⟨by omega, all_next hva (by simpa using hq) hall⟩, by first | omega | (simp only; omega) | assumption⟩, rfl, rfl, ?_, ?_⟩ <;> simp (disch := omega) [wrap64, heapR]
        · exfalso
          rw [List.take_of_length_le (by omega)] at hall
          rw [hv] at hall
          cases hall
      · have hl' : ((a.length : Int) = arity s) = False := by simp [hl]
        refine Con.of tok (nt := 61) Go.Proofs.Tryz.func10 (by kernel_rfl) rfl rfl rfl (Nat.le_of_ble_eq_true rfl) fun G => ?_
        simp only [entSt, tmOf, List.append_nil, List.cons_append, List.nil_append]
        repeat' (first
          | (refine WPc.renR 15 900001 fun K hK => ?_; simp -implicitDefEqProofs +contextual [-Int.not_le, -Int.not_lt, -Nat.not_le, -Nat.not_lt, -List.all_eq_true, -List.all_eq_false, -List.any_eq_true, -List.any_eq_false, hp, hl', hh, noV, V.av, heapR]; (repeat1' (first | apply hK | apply And.intro | intro _)) <;> clear hK K)
          | apply WPc.sq
          | (refine WPc.ret (endP.own [(900001, heapR h)] (.inr rfl) rfl rfl (by simp; rfl) ?_ ?_ (by simp)))
          | refine WPL.nil ?_
          | (apply WPL.cU (c_spec_l8CopyCells _ ?g1 ?g2); (case q => (repeat' (first | refine And.intro ?_ ?_ | intro _ | exact cleanOut_nil | (refine Eqv.mk ?_; first | rfl | (simp -implicitDefEqProofs [hp, hl', hh, noV, V.av, heapR]; done)) | (simp -implicitDefEqProofs [hp, hl', hh, noV, V.av, heapR]; done) | (simp -implicitDefEqProofs [hp, hl', hh, noV, V.av, heapR]; rfl) | (simp; done) | (simp; rfl) | rfl))); (case g1 => (first | assumption | omega)); (case g2 => (first | assumption | omega)))
          | (apply WPL.cL (c_spec_HeapOk _ ?g1); (case q => (repeat' (first | refine And.intro ?_ ?_ | intro _ | exact cleanOut_nil | (refine Eqv.mk ?_; first | rfl | (simp -implicitDefEqProofs [hp, hl', hh, noV, V.av, heapR]; done)) | (simp -implicitDefEqProofs [hp, hl', hh, noV, V.av, heapR]; done) | (simp -implicitDefEqProofs [hp, hl', hh, noV, V.av, heapR]; rfl) | (simp; done) | (simp; rfl) | rfl))); (case g1 => (first | assumption | omega)))
          | (apply WPL.cL (c_spec_l7Plain _); (case q => (repeat' (first | refine And.intro ?_ ?_ | intro _ | exact cleanOut_nil | (refine Eqv.mk ?_; first | rfl | (simp -implicitDefEqProofs [hp, hl', hh, noV, V.av, heapR]; done)) | (simp -implicitDefEqProofs [hp, hl', hh, noV, V.av, heapR]; done) | (simp -implicitDefEqProofs [hp, hl', hh, noV, V.av, heapR]; rfl) | (simp; done) | (simp; rfl) | rfl))))
          | (apply WPL.cL (c_spec_Arity _); (case q => (repeat' (first | refine And.intro ?_ ?_ | intro _ | exact cleanOut_nil | (refine Eqv.mk ?_; first | rfl | (simp -implicitDefEqProofs [hp, hl', hh, noV, V.av, heapR]; done)) | (simp -implicitDefEqProofs [hp, hl', hh, noV, V.av, heapR]; done) | (simp -implicitDefEqProofs [hp, hl', hh, noV, V.av, heapR]; rfl) | (simp; done) | (simp; rfl) | rfl))))
          | ((first | refine WPc.rq tok rfl fun K hK => ?_ | refine WPL.rn tok _ (by simp [ahead, isFn]; rfl) fun K hK => ?_); simp -implicitDefEqProofs +contextual [-Int.not_le, -Int.not_lt, -Nat.not_le, -Nat.not_lt, -List.all_eq_true, -List.all_eq_false, -List.any_eq_true, -List.any_eq_false, hp, hl', hh, noV, V.av, heapR]; (repeat1' (first | apply hK | apply And.intro | intro _)) <;> clear hK K <;> (try dsimp only [List.drop]))
          | (refine WPc.region ?_; simp only [List.toList_toArray])
          | (refine WPc.condT ?_ ?_; (focus (simp; done))))
        all_goals (simp [heapR, noV, V.av]; try rfl)
@[simp] theorem sc_sC (l : List ByteArray) : scLL (l.map sC) = true := by
  induction l with
  | nil => rfl
  | cons x l ih => simp only [List.map_cons, scLL, ih]; rfl
@[simp] theorem sc_V (l : List V) : scLL (l.map V.cs) = true := by
  induction l with
  | nil => rfl
  | cons x l ih => simp only [List.map_cons, scLL, ih]; rfl
@[simp] theorem sc_ow (l : List Cl) : scLL (l.map Cl.ow) = true := by
  induction l with
  | nil => rfl
  | cons x l ih => simp only [List.map_cons, scLL, ih, Cl.ow, scL, scC, sc_sC, sc_V]; rfl
theorem spec_Prim_good (h : List Cl) (s : ByteArray) (a : List V) (h2 : ∀ c, c ∈ h → c.sm) (h3 : ∀ v, v ∈ a → v.sm) (h4 : h.length ≤ 1000000000) (h5 : ∀ c, c ∈ h → c.rm) (hg : good h s a = true) : Con PP 10 [.fz (h.map Cl.cs), .sc (.string s), .fz (a.map V.cs)] [] [] (fun r o => r = PrimR h s a ∧ o = [(900001, heapR (pH h s a))]) := by
  have e1 : pH h s a = primH h s a := by simp [pH, hg]
  have e2 : pV h s a = primV h s (arg a 0) (arg a 1) := by simp [pV, hg]
  have hP := l7_good hg
  have ha : a.length ≤ 2 := by
    obtain ⟨_, _, ⟨_, x, y, rfl⟩ | ⟨_, x, rfl⟩⟩ := good_cases hg <;> simp
  have hb1 : a.length * 32 ≤ 140737488355328 := by omega
  have hb2 : a.length ≤ 9223372036854775807 := by omega
  simp only [PrimR, e1, e2]
  have hg' := hg
  simp only [good, Bool.and_eq_true, decide_eq_true_eq] at hg'
  obtain ⟨⟨⟨hp, hl⟩, hh⟩, hv⟩ := hg'
  have hl' : ((a.length : Int) = arity s) = True := by simp [hl]
  refine Con.of tok (nt := 61) Go.Proofs.Tryz.func10 (by kernel_rfl) rfl rfl rfl (Nat.le_of_ble_eq_true rfl) fun G => ?_
  simp only [entSt, tmOf, List.append_nil, List.cons_append, List.nil_append]
  repeat' (first
    | apply WPc.sq
    | apply WPc.block
    | apply WPc.skip
    | refine WPL.nil ?_
    | (apply WPL.cU (c_spec_l8CopyCells _ ?g1 ?g2); (case q => (repeat' (first | refine And.intro ?_ ?_ | intro _ | exact cleanOut_nil | (refine Eqv.mk ?_; first | rfl | (simp -implicitDefEqProofs [hp, hl', hh, noV, V.av, heapR]; done)) | (simp -implicitDefEqProofs [hp, hl', hh, noV, V.av, heapR]; done) | (simp -implicitDefEqProofs [hp, hl', hh, noV, V.av, heapR]; rfl) | (simp; done) | (simp; rfl) | rfl))); (case g1 => (first | assumption | omega)); (case g2 => (first | assumption | omega)))
    | (apply WPL.cL (c_spec_HeapOk _ ?g1); (case q => (repeat' (first | refine And.intro ?_ ?_ | intro _ | exact cleanOut_nil | (refine Eqv.mk ?_; first | rfl | (simp -implicitDefEqProofs [hp, hl', hh, noV, V.av, heapR]; done)) | (simp -implicitDefEqProofs [hp, hl', hh, noV, V.av, heapR]; done) | (simp -implicitDefEqProofs [hp, hl', hh, noV, V.av, heapR]; rfl) | (simp; done) | (simp; rfl) | rfl))); (case g1 => (first | assumption | omega)))
    | (apply WPL.cL (c_spec_l7Plain _); (case q => (repeat' (first | refine And.intro ?_ ?_ | intro _ | exact cleanOut_nil | (refine Eqv.mk ?_; first | rfl | (simp -implicitDefEqProofs [hp, hl', hh, noV, V.av, heapR]; done)) | (simp -implicitDefEqProofs [hp, hl', hh, noV, V.av, heapR]; done) | (simp -implicitDefEqProofs [hp, hl', hh, noV, V.av, heapR]; rfl) | (simp; done) | (simp; rfl) | rfl))))
    | (apply WPL.cL (c_spec_Arity _); (case q => (repeat' (first | refine And.intro ?_ ?_ | intro _ | exact cleanOut_nil | (refine Eqv.mk ?_; first | rfl | (simp -implicitDefEqProofs [hp, hl', hh, noV, V.av, heapR]; done)) | (simp -implicitDefEqProofs [hp, hl', hh, noV, V.av, heapR]; done) | (simp -implicitDefEqProofs [hp, hl', hh, noV, V.av, heapR]; rfl) | (simp; done) | (simp; rfl) | rfl))))
    | ((first | refine WPc.rq tok rfl fun K hK => ?_ | refine WPL.rn tok _ (by simp [ahead, isFn]; rfl) fun K hK => ?_); simp -implicitDefEqProofs +contextual [-Int.not_le, -Int.not_lt, -Nat.not_le, -Nat.not_lt, -List.all_eq_true, -List.all_eq_false, -List.any_eq_true, -List.any_eq_false, hp, hl', hh, noV, V.av, heapR]; (repeat1' (first | apply hK | apply And.intro | intro _)) <;> clear hK K <;> (try dsimp only [List.drop]))
    | (refine WPc.region ?_; simp only [List.toList_toArray])
    | (refine WPc.condF ?_ ?_; (focus (simp; done))))
  refine WPc.loopV (σ := Nat) (fun i => i ≤ a.length) (fun i => a.length - i) (fun i => [(10, .sc (.int .i64 i))]) (fun i => [(15, 88, 6, h.map Cl.ow), (7, 29, 3, [[.sc (.int .i64 0), .sc (.int .i64 0), .sc (.string zs)]])]) [0, 1, 2, 7, 9] 0 (by simp) (by simp) (by simp) ?_
  rintro i hi s hs
  simp at hs
  subst hs
  by_cases hlt : i < a.length
  · have hva := List.getElem?_eq_getElem hlt
    have hs1 := h3 _ (List.getElem_mem hlt)
    have hok : valueOk h a[i] = true := List.all_eq_true.1 hv _ (List.getElem_mem hlt)
    repeat' (first
      | apply WPc.sq
      | apply WPc.block
      | apply WPc.skip
      | refine WPL.nil ?_
      | (apply WPL.cL (c_spec_ValueOk _ ⟨_, _, _⟩ ?g1); (case q => (repeat' (first | refine And.intro ?_ ?_ | intro _ | exact cleanOut_nil | (refine Eqv.mk ?_; first | rfl | (simp -implicitDefEqProofs [V.cs, hlt, noV, V.av, heapR, hok]; done)) | (simp -implicitDefEqProofs [V.cs, hlt, noV, V.av, heapR, hok]; done) | (simp -implicitDefEqProofs [V.cs, hlt, noV, V.av, heapR, hok]; rfl) | (simp; done) | (simp; rfl) | rfl))); (case g1 => (first | assumption | (exact hs1))))
      | ((first | refine WPc.rq tok rfl fun K hK => ?_ | refine WPL.rn tok _ (by simp [ahead, isFn]; rfl) fun K hK => ?_); simp -implicitDefEqProofs +contextual [-Int.not_le, -Int.not_lt, -Nat.not_le, -Nat.not_lt, -List.all_eq_true, -List.all_eq_false, -List.any_eq_true, -List.any_eq_false, V.cs, hlt, noV, V.av, heapR, hok]; (repeat1' (first | apply hK | apply And.intro | intro _)) <;> clear hK K <;> (try dsimp only [List.drop]))
      | (refine WPc.region ?_; simp only [List.toList_toArray])
      | (refine WPc.condT ?_ ?_; (focus (simp; done)))
      | (refine WPc.condF ?_ ?_; (focus (simp; done))))
    all_goals
      refine ⟨i + 1, ⟨hlt, by first | omega | (simp only; omega) | assumption⟩, rfl, rfl, ?_, ?_⟩ <;> simp (disch := omega) [wrap64, heapR]
  · obtain rfl : i = a.length := by omega
    repeat' (first
      | (refine WPc.renR 15 900001 fun K hK => ?_; simp -implicitDefEqProofs +contextual [-Int.not_le, -Int.not_lt, -Nat.not_le, -Nat.not_lt, -List.all_eq_true, -List.all_eq_false, -List.any_eq_true, -List.any_eq_false, V.av, heapR, hb1, hb2]; (repeat1' (first | apply hK | apply And.intro | intro _)) <;> clear hK K)
      | apply WPc.sq
      | (refine WPc.ret (endP.own [(900001, heapR (primH h s a))] (.inr rfl) rfl rfl (by simp; rfl) ?_ ?_ (by simp)))
      | apply WPc.exit
      | refine WPL.nil ?_
      | (apply WPL.cU hP; (case q => (repeat' (first | refine And.intro ?_ ?_ | intro _ | exact cleanOut_nil | (refine Eqv.mk ?_; first | rfl | (simp -implicitDefEqProofs [V.av, heapR, hb1, hb2]; done)) | (simp -implicitDefEqProofs [V.av, heapR, hb1, hb2]; done) | (simp -implicitDefEqProofs [V.av, heapR, hb1, hb2]; rfl) | (simp; done) | (simp; rfl) | rfl))))
      | ((first | refine WPc.rq tok rfl fun K hK => ?_ | refine WPL.rn tok _ (by simp [ahead, isFn]; rfl) fun K hK => ?_ | refine WPS.rn tok _ (by simp [aheadS]; rfl) fun K hK => ?_); simp -implicitDefEqProofs +contextual [-Int.not_le, -Int.not_lt, -Nat.not_le, -Nat.not_lt, -List.all_eq_true, -List.all_eq_false, -List.any_eq_true, -List.any_eq_false, V.av, heapR, hb1, hb2]; (repeat1' (first | apply hK | apply And.intro | intro _)) <;> clear hK K <;> (try dsimp only [List.drop]))
      | (refine WPc.sched (id := 10) tok [(4, [7, 12])] [(0, []), (1, []), (2, [7, 12]), (3, []), (4, [7, 12]), (5, [])] (by kernel_rfl) ?_)
      | (refine WPS.nil ?_)
      | (refine WPS.eff tok fun K hK => ?_; simp -implicitDefEqProofs +contextual [-Int.not_le, -Int.not_lt, -Nat.not_le, -Nat.not_lt, -List.all_eq_true, -List.all_eq_false, -List.any_eq_true, -List.any_eq_false, V.av, heapR, hb1, hb2]; (repeat1' (first | apply hK | apply And.intro | intro _)) <;> clear hK K)
      | (refine WPc.region ?_; simp only [List.toList_toArray])
      | (refine WPc.condF ?_ ?_; (focus (simp; done))))
    all_goals (simp [heapR, noV, V.av]; try rfl)
theorem c_spec_Prim (h : List Cl) (s : ByteArray) (a : List V) (h2 : ∀ c, c ∈ h → c.sm) (h3 : ∀ v, v ∈ a → v.sm) (h4 : h.length ≤ 1000000000) (h5 : ∀ c, c ∈ h → c.rm) : Con PP 10 [.fz (h.map Cl.cs), .sc (.string s), .fz (a.map V.cs)] [] [] (fun r o => r = PrimR h s a ∧ o = [(900001, heapR (pH h s a))]) := by
  cases hg : good h s a with
  | false => exact spec_Prim_bad h s a h2 h3 h4 h5 hg
  | true => exact spec_Prim_good h s a h2 h3 h4 h5 hg
end Go.Own
set_option maxRecDepth 1000000
set_option maxHeartbeats 4000000
namespace Go.Own
attribute [local irreducible] WPc WPL WPS WPS1 WPS2 HAny endP
variable [Laid]
open Go.Lib Go.RowKit
def szR (left : Int) (c : Nat) : Int := if (c : Int) ≤ left then left - c else -1
def costS (l : List ByteArray) : Nat := l.length + (l.map ByteArray.size).sum
def costV (l : List V) : Nat := l.length + (l.map fun v => v.s.size).sum
def costC (c : Cl) : Nat := c.s.size + costS c.names + costV c.vals
def costH (h : List Cl) : Nat := h.length + (h.map costC).sum
theorem fit_int {a b : Int} (h : a = b) : Fit (.sc (.int .i64 a)) (.sc (.int .i64 b)) := by subst h; simp
def sumTo {α : Type} (f : α → Nat) (l : List α) (i : Nat) : Nat := ((l.take i).map f).sum
theorem sumTo_zero {α : Type} (f : α → Nat) (l : List α) : sumTo f l 0 = 0 := by simp [sumTo]
theorem sumTo_all {α : Type} (f : α → Nat) (l : List α) : sumTo f l l.length = (l.map f).sum := by simp [sumTo]
theorem sumTo_next {α : Type} {f : α → Nat} {l : List α} {i : Nat} (hi : i < l.length) : sumTo f l (i + 1) = sumTo f l i + f l[i] := by
  unfold sumTo
  rw [List.take_add_one, List.getElem?_eq_getElem hi, List.map_append, List.sum_append]
  simp
theorem sumTo_le {α : Type} (f : α → Nat) (l : List α) (i : Nat) : sumTo f l i ≤ (l.map f).sum := by
  unfold sumTo
  conv => rhs; rw [← List.take_append_drop i l, List.map_append, List.sum_append]
  omega
theorem szR_no {left : Int} {c : Nat} (h : left < c) : szR left c = -1 := by unfold szR; rw [if_neg (by omega)]
theorem szR_ok {left : Int} {c : Nat} (h : (c : Int) ≤ left) : szR left c = left - c := by unfold szR; rw [if_pos h]
theorem c_laws_szStringS (l : List ByteArray) (left : Int) (h0 : 0 ≤ left) (h1 : left ≤ 1073741824) (hs : ∀ s, s ∈ l → s.size ≤ 9223372036854775807) : Con PP 101 [.fz (l.map sC), .sc (.int .i64 left)] [] [] (fun r o => r = .sc (.int .i64 (szR left (costS l)))) := by
  refine Con.lenOf 0 Go.Proofs.Tryz.func101 (by kernel_rfl) (by kernel_rfl) rfl fun hlen => ?_
  simp at hlen
  refine Con.of tok (nt := 28) Go.Proofs.Tryz.func101 (by kernel_rfl) rfl rfl rfl (Nat.le_of_ble_eq_true rfl) fun G => ?_
  simp only [entSt, tmOf, List.append_nil, List.cons_append, List.nil_append]
  have e1 : IntKind.i64.wrap (left - l.length) = left - l.length := wrap64 (by omega) (by omega)
  repeat' (first
    | apply WPc.sq
    | apply WPc.block
    | (refine WPc.ret (endP.val (.inr rfl) rfl rfl (by simp; rfl) ?_))
    | apply WPc.skip
    | (refine WPc.rq tok rfl fun K hK => ?_; simp -implicitDefEqProofs +contextual [-Int.not_le, -Int.not_lt, -Nat.not_le, -Nat.not_lt, -List.all_eq_true, -List.all_eq_false, -List.any_eq_true, -List.any_eq_false, e1]; (repeat1' (first | apply hK | apply And.intro | intro _)) <;> clear hK K <;> (try dsimp only [List.drop]))
    | (refine WPc.cond (by simp [-Bool.not_eq_eq_eq_not]; rfl) (fun hq => ?_) (fun hq => ?_) <;> simp only [hq] <;> (try (exfalso; (simp only [decide_eq_true_eq, decide_eq_false_iff_not] at hq); omega))))
  · rw [szR_no (by unfold costS; simp at hq; omega)]
  simp only [decide_eq_false_iff_not] at hq
  refine WPc.loopK (σ := Nat) (fun i => i ≤ l.length ∧ l.length + sumTo ByteArray.size l i ≤ left) (fun i => l.length - i) (fun i => [(5, .sc (.int .i64 i)), (1, .sc (.int .i64 (left - l.length - sumTo ByteArray.size l i)))])  [0] 0 (by simp [sumTo_zero]) (by simp [sumTo_zero]) (⟨by omega, by rw [sumTo_zero]; omega⟩) ?_
  rintro i ⟨hi, hle⟩ s hs
  simp at hs
  subst hs
  by_cases hlt : i < l.length
  · have hz := hs _ (List.getElem_mem hlt)
    have e2 : IntKind.i64.wrap (left - l.length - sumTo ByteArray.size l i - l[i].size) = left - l.length - sumTo ByteArray.size l i - l[i].size := wrap64 (by omega) (by omega)
    have e3 := sumTo_next (f := ByteArray.size) hlt
    have e4 := sumTo_le ByteArray.size l (i + 1)
    repeat' (first
      | apply WPc.sq
      | apply WPc.block
      | (refine WPc.ret (endP.val (.inr rfl) rfl rfl (by simp; rfl) ?_))
      | apply WPc.skip
      | (refine WPc.rq tok rfl fun K hK => ?_; simp -implicitDefEqProofs +contextual [-Int.not_le, -Int.not_lt, -Nat.not_le, -Nat.not_lt, -List.all_eq_true, -List.all_eq_false, -List.any_eq_true, -List.any_eq_false, sC, hlt, e2]; (repeat1' (first | apply hK | apply And.intro | intro _)) <;> clear hK K <;> (try dsimp only [List.drop]))
      | (refine WPc.condT ?_ ?_; (focus (simp; done)))
      | (refine WPc.cond (by simp [-Bool.not_eq_eq_eq_not]; rfl) (fun hq => ?_) (fun hq => ?_) <;> simp only [hq] <;> (try (exfalso; (simp only [decide_eq_true_eq, decide_eq_false_iff_not] at hq); omega))))
    · rw [szR_no (by unfold costS; simp at hq; omega)]
    all_goals
      simp at hq
      refine ⟨i + 1, ⟨⟨by omega, by omega⟩, by first | omega | (simp only; omega) | assumption⟩, rfl, rfl, ?_, ?_⟩ <;> simp (disch := omega) [wrap64, e3]
    all_goals (try rw [e2])
    all_goals (refine fit_int ?_; omega)
  · obtain rfl : i = l.length := by omega
    repeat' (first
      | apply WPc.sq
      | (refine WPc.ret (endP.val (.inr rfl) rfl rfl (by simp; rfl) ?_))
      | apply WPc.exit
      | (refine WPc.rq tok rfl fun K hK => ?_; simp -implicitDefEqProofs +contextual [-Int.not_le, -Int.not_lt, -Nat.not_le, -Nat.not_lt, -List.all_eq_true, -List.all_eq_false, -List.any_eq_true, -List.any_eq_false]; (repeat1' (first | apply hK | apply And.intro | intro _)) <;> clear hK K <;> (try dsimp only [List.drop]))
      | (refine WPc.condF ?_ ?_; (focus (simp; done))))
    rw [sumTo_all] at hle
    rw [szR_ok (by unfold costS; omega), sumTo_all]
    simp only [costS, AV.sc.injEq, Value.int.injEq, true_and]
    omega
theorem c_laws_szValue (v : V) (left : Int) (h0 : 0 ≤ left) (h1 : left ≤ 1073741824) (hs : v.s.size ≤ 9223372036854775807) : Con PP 57 [v.av, .sc (.int .i64 left)] [] [] (fun r o => r = .sc (.int .i64 (szR left v.s.size))) := by
  have e1 : IntKind.i64.wrap (left - v.s.size) = left - v.s.size := wrap64 (by omega) (by omega)
  refine Con.of tok (nt := 13) Go.Proofs.Tryz.func57 (by kernel_rfl) rfl rfl rfl (Nat.le_of_ble_eq_true rfl) fun G => ?_
  simp only [entSt, tmOf, List.append_nil, List.cons_append, List.nil_append, V.av]
  repeat' (first
    | apply WPc.sq
    | (refine WPc.ret (endP.val (.inr rfl) rfl rfl (by simp; rfl) ?_))
    | apply WPc.skip
    | (refine WPc.rq tok rfl fun K hK => ?_; simp -implicitDefEqProofs +contextual [-Int.not_le, -Int.not_lt, -Nat.not_le, -Nat.not_lt, -List.all_eq_true, -List.all_eq_false, -List.any_eq_true, -List.any_eq_false, e1]; (repeat1' (first | apply hK | apply And.intro | intro _)) <;> clear hK K <;> (try dsimp only [List.drop]))
    | (refine WPc.cond (by simp [-Bool.not_eq_eq_eq_not]; rfl) (fun hq => ?_) (fun hq => ?_) <;> simp only [hq] <;> (try (exfalso; (simp only [decide_eq_true_eq, decide_eq_false_iff_not] at hq); omega))))
  · rw [szR_no (by simp at hq; omega)]
  · rw [szR_ok (by simp at hq; omega)]
theorem c_laws_szValueS (l : List V) (left : Int) (h0 : 0 ≤ left) (h1 : left ≤ 1073741824) (hs : ∀ v, v ∈ l → v.s.size ≤ 9223372036854775807) : Con PP 15 [.fz (l.map V.cs), .sc (.int .i64 left)] [] [] (fun r o => r = .sc (.int .i64 (szR left (costV l)))) := by
  refine Con.lenOf 0 Go.Proofs.Tryz.func15 (by kernel_rfl) (by kernel_rfl) rfl fun hlen => ?_
  simp at hlen
  refine Con.of tok (nt := 27) Go.Proofs.Tryz.func15 (by kernel_rfl) rfl rfl rfl (Nat.le_of_ble_eq_true rfl) fun G => ?_
  simp only [entSt, tmOf, List.append_nil, List.cons_append, List.nil_append]
  have e1 : IntKind.i64.wrap (left - l.length) = left - l.length := wrap64 (by omega) (by omega)
  repeat' (first
    | apply WPc.sq
    | apply WPc.block
    | (refine WPc.ret (endP.val (.inr rfl) rfl rfl (by simp; rfl) ?_))
    | apply WPc.skip
    | (refine WPc.rq tok rfl fun K hK => ?_; simp -implicitDefEqProofs +contextual [-Int.not_le, -Int.not_lt, -Nat.not_le, -Nat.not_lt, -List.all_eq_true, -List.all_eq_false, -List.any_eq_true, -List.any_eq_false, e1]; (repeat1' (first | apply hK | apply And.intro | intro _)) <;> clear hK K <;> (try dsimp only [List.drop]))
    | (refine WPc.cond (by simp [-Bool.not_eq_eq_eq_not]; rfl) (fun hq => ?_) (fun hq => ?_) <;> simp only [hq] <;> (try (exfalso; (simp only [decide_eq_true_eq, decide_eq_false_iff_not] at hq); omega))))
  · rw [szR_no (by unfold costV; simp at hq; omega)]
  simp only [decide_eq_false_iff_not] at hq
  refine WPc.loopK (σ := Nat) (fun i => i ≤ l.length ∧ l.length + sumTo (fun v => v.s.size) l i ≤ left) (fun i => l.length - i) (fun i => [(5, .sc (.int .i64 i)), (1, .sc (.int .i64 (left - l.length - sumTo (fun v => v.s.size) l i)))])  [0] 0 (by simp [sumTo_zero]) (by simp [sumTo_zero]) (⟨by omega, by rw [sumTo_zero]; omega⟩) ?_
  rintro i ⟨hi, hle⟩ s hs
  simp at hs
  subst hs
  by_cases hlt : i < l.length
  · have hz := hs _ (List.getElem_mem hlt)
    have e3 := sumTo_next (f := fun v : V => v.s.size) hlt
    have e4 := sumTo_le (fun v : V => v.s.size) l (i + 1)
    repeat' (first
      | apply WPc.sq
      | apply WPc.block
      | (refine WPc.ret (endP.val (.inr rfl) rfl rfl (by simp; rfl) ?_))
      | apply WPc.skip
      | refine WPL.nil ?_
      | (apply WPL.cL (c_laws_szValue ⟨_, _, _⟩ _ ?g1 ?g2 ?g3); (case q => (repeat' (first | refine And.intro ?_ ?_ | intro _ | exact cleanOut_nil | (refine Eqv.mk ?_; first | rfl | (simp -implicitDefEqProofs [V.cs, hlt]; done)) | (simp -implicitDefEqProofs [V.cs, hlt]; done) | (simp -implicitDefEqProofs [V.cs, hlt]; rfl) | (simp; done) | (simp; rfl) | rfl))); (case g1 => (first | assumption | omega | decide | (simp; done) | (simp_all; done) | (intros; omega))); (case g2 => (first | assumption | omega | decide | (simp; done) | (simp_all; done) | (intros; omega))); (case g3 => (first | assumption | omega | decide | (simp; done) | (simp_all; done) | (intros; omega))))
      | ((first | refine WPc.rq tok rfl fun K hK => ?_ | refine WPL.rn tok _ (by simp [ahead, isFn]; rfl) fun K hK => ?_); simp -implicitDefEqProofs +contextual [-Int.not_le, -Int.not_lt, -Nat.not_le, -Nat.not_lt, -List.all_eq_true, -List.all_eq_false, -List.any_eq_true, -List.any_eq_false, V.cs, hlt]; (repeat1' (first | apply hK | apply And.intro | intro _)) <;> clear hK K <;> (try dsimp only [List.drop]))
      | (refine WPc.region ?_; simp only [List.toList_toArray])
      | (refine WPc.condT ?_ ?_; (focus (simp; done)))
      | (refine WPc.cond (by simp [-Bool.not_eq_eq_eq_not]; rfl) (fun hq => ?_) (fun hq => ?_) <;> simp only [hq] <;> (try (exfalso; (simp only [decide_eq_true_eq, decide_eq_false_iff_not] at hq); omega))))
    · simp only [decide_eq_true_eq] at hq
      have : ¬ ((l[i].s.size : Int) ≤ left - l.length - sumTo (fun v => v.s.size) l i) := fun h => by rw [szR_ok h] at hq; omega
      rw [szR_no (by unfold costV; omega)]
    all_goals
      simp only [decide_eq_false_iff_not] at hq
      have hle2 : (l[i].s.size : Int) ≤ left - l.length - sumTo (fun v => v.s.size) l i := by
        by_cases h : (l[i].s.size : Int) ≤ left - l.length - sumTo (fun v => v.s.size) l i
        · exact h
        · rw [szR_no (by omega)] at hq; omega
      refine ⟨i + 1, ⟨⟨by omega, by omega⟩, by first | omega | (simp only; omega) | assumption⟩, rfl, rfl, ?_, ?_⟩ <;> simp (disch := omega) [wrap64, e3, szR_ok hle2]
    all_goals (refine fit_int ?_; omega)
  · obtain rfl : i = l.length := by omega
    repeat' (first
      | apply WPc.sq
      | (refine WPc.ret (endP.val (.inr rfl) rfl rfl (by simp; rfl) ?_))
      | apply WPc.exit
      | (refine WPc.rq tok rfl fun K hK => ?_; simp -implicitDefEqProofs +contextual [-Int.not_le, -Int.not_lt, -Nat.not_le, -Nat.not_lt, -List.all_eq_true, -List.all_eq_false, -List.any_eq_true, -List.any_eq_false]; (repeat1' (first | apply hK | apply And.intro | intro _)) <;> clear hK K <;> (try dsimp only [List.drop]))
      | (refine WPc.condF ?_ ?_; (focus (simp; done))))
    rw [sumTo_all] at hle
    rw [szR_ok (by unfold costV; omega), sumTo_all]
    simp only [costV, AV.sc.injEq, Value.int.injEq, true_and]
    omega
end Go.Own
set_option maxRecDepth 1000000
set_option maxHeartbeats 4000000
namespace Go.Own
attribute [local irreducible] WPc WPL WPS WPS1 WPS2 HAny endP
variable [Laid]
open Go.Lib Go.RowKit
def V.tx (v : V) : Prop := v.s.size ≤ 9223372036854775807
structure Cl.tx (c : Cl) : Prop where
  s : c.s.size ≤ 9223372036854775807
  names : ∀ x, x ∈ c.names → x.size ≤ 9223372036854775807
  vals : ∀ v, v ∈ c.vals → v.s.size ≤ 9223372036854775807
theorem szR_neg {left : Int} {c : Nat} (h0 : 0 ≤ left) (hq : szR left c < 0) : left < c := by
  by_cases h : (c : Int) ≤ left
  · rw [szR_ok h] at hq; omega
  · omega
theorem szR_pos {left : Int} {c : Nat} (hq : ¬ szR left c < 0) : (c : Int) ≤ left := by
  by_cases h : (c : Int) ≤ left
  · exact h
  · rw [szR_no (by omega)] at hq; omega
theorem c_laws_szCell (c : Cl) (left : Int) (h0 : 0 ≤ left) (h1 : left ≤ 1073741824) (hs : c.tx) : Con PP 56 [c.av, .sc (.int .i64 left)] [] [] (fun r o => r = .sc (.int .i64 (szR left (costC c)))) := by
  have t1 := hs.s
  have t2 := hs.names
  have t3 := hs.vals
  have e1 : IntKind.i64.wrap (left - c.s.size) = left - c.s.size := wrap64 (by omega) (by omega)
  refine Con.of tok (nt := 25) Go.Proofs.Tryz.func56 (by kernel_rfl) rfl rfl rfl (Nat.le_of_ble_eq_true rfl) fun G => ?_
  simp only [entSt, tmOf, List.append_nil, List.cons_append, List.nil_append, Cl.av]
  by_cases g1 : (c.s.size : Int) ≤ left
  · by_cases g2 : (costS c.names : Int) ≤ left - c.s.size
    · have e2 := szR_ok g2
      by_cases g3 : (costV c.vals : Int) ≤ left - c.s.size - costS c.names
      · have e3 := szR_ok g3
        repeat' (first
          | apply WPc.sq
          | (refine WPc.ret (endP.val (.inr rfl) rfl rfl (by simp; rfl) ?_))
          | apply WPc.skip
          | refine WPL.nil ?_
          | (apply WPL.cL (c_laws_szStringS _ _ ?g1 ?g2 ?g3); (case q => (repeat' (first | refine And.intro ?_ ?_ | intro _ | exact cleanOut_nil | (refine Eqv.mk ?_; first | rfl | (simp -implicitDefEqProofs [e1, e2, e3]; done)) | (simp -implicitDefEqProofs [e1, e2, e3]; done) | (simp -implicitDefEqProofs [e1, e2, e3]; rfl) | (simp; done) | (simp; rfl) | rfl))); (case g1 => (first | assumption | omega)); (case g2 => (first | assumption | omega)); (case g3 => (first | assumption | omega)))
          | (apply WPL.cL (c_laws_szValueS _ _ ?g1 ?g2 ?g3); (case q => (repeat' (first | refine And.intro ?_ ?_ | intro _ | exact cleanOut_nil | (refine Eqv.mk ?_; first | rfl | (simp -implicitDefEqProofs [e1, e2, e3]; done)) | (simp -implicitDefEqProofs [e1, e2, e3]; done) | (simp -implicitDefEqProofs [e1, e2, e3]; rfl) | (simp; done) | (simp; rfl) | rfl))); (case g1 => (first | assumption | omega)); (case g2 => (first | assumption | omega)); (case g3 => (first | assumption | omega)))
          | ((first | refine WPc.rq tok rfl fun K hK => ?_ | refine WPL.rn tok _ (by simp [ahead, isFn]; rfl) fun K hK => ?_); simp -implicitDefEqProofs +contextual [-Int.not_le, -Int.not_lt, -Nat.not_le, -Nat.not_lt, -List.all_eq_true, -List.all_eq_false, -List.any_eq_true, -List.any_eq_false, e1, e2, e3]; (repeat1' (first | apply hK | apply And.intro | intro _)) <;> clear hK K <;> (try dsimp only [List.drop]))
          | (refine WPc.region ?_; simp only [List.toList_toArray])
          | (refine WPc.cond (by simp [-Bool.not_eq_eq_eq_not]; rfl) (fun hq => ?_) (fun hq => ?_) <;> simp only [hq] <;> (try (exfalso; (simp only [decide_eq_true_eq, decide_eq_false_iff_not] at hq); omega))))
        all_goals (simp only [decide_eq_true_eq, decide_eq_false_iff_not] at *)
        all_goals first
          | (exfalso; omega)
          | (rw [szR_ok (by unfold costC; omega)]; simp only [costC, AV.sc.injEq, Value.int.injEq, true_and]; omega)
      · have e3 : szR (left - c.s.size - costS c.names) (costV c.vals) = -1 := szR_no (by omega)
        repeat' (first
          | apply WPc.sq
          | (refine WPc.ret (endP.val (.inr rfl) rfl rfl (by simp; rfl) ?_))
          | apply WPc.skip
          | refine WPL.nil ?_
          | (apply WPL.cL (c_laws_szStringS _ _ ?g1 ?g2 ?g3); (case q => (repeat' (first | refine And.intro ?_ ?_ | intro _ | exact cleanOut_nil | (refine Eqv.mk ?_; first | rfl | (simp -implicitDefEqProofs [e1, e2, e3]; done)) | (simp -implicitDefEqProofs [e1, e2, e3]; done) | (simp -implicitDefEqProofs [e1, e2, e3]; rfl) | (simp; done) | (simp; rfl) | rfl))); (case g1 => (first | assumption | omega)); (case g2 => (first | assumption | omega)); (case g3 => (first | assumption | omega)))
          | (apply WPL.cL (c_laws_szValueS _ _ ?g1 ?g2 ?g3); (case q => (repeat' (first | refine And.intro ?_ ?_ | intro _ | exact cleanOut_nil | (refine Eqv.mk ?_; first | rfl | (simp -implicitDefEqProofs [e1, e2, e3]; done)) | (simp -implicitDefEqProofs [e1, e2, e3]; done) | (simp -implicitDefEqProofs [e1, e2, e3]; rfl) | (simp; done) | (simp; rfl) | rfl))); (case g1 => (first | assumption | omega)); (case g2 => (first | assumption | omega)); (case g3 => (first | assumption | omega)))
          | ((first | refine WPc.rq tok rfl fun K hK => ?_ | refine WPL.rn tok _ (by simp [ahead, isFn]; rfl) fun K hK => ?_); simp -implicitDefEqProofs +contextual [-Int.not_le, -Int.not_lt, -Nat.not_le, -Nat.not_lt, -List.all_eq_true, -List.all_eq_false, -List.any_eq_true, -List.any_eq_false, e1, e2, e3]; (repeat1' (first | apply hK | apply And.intro | intro _)) <;> clear hK K <;> (try dsimp only [List.drop]))
          | (refine WPc.region ?_; simp only [List.toList_toArray])
          | (refine WPc.condT ?_ ?_; (focus (simp; done)))
          | (refine WPc.cond (by simp [-Bool.not_eq_eq_eq_not]; rfl) (fun hq => ?_) (fun hq => ?_) <;> simp only [hq] <;> (try (exfalso; (simp only [decide_eq_true_eq, decide_eq_false_iff_not] at hq); omega))))
        all_goals (simp only [decide_eq_true_eq, decide_eq_false_iff_not] at *)
        all_goals first
          | (exfalso; omega)
          | (rw [szR_no (by unfold costC; omega)])
    · have e2 : szR (left - c.s.size) (costS c.names) = -1 := szR_no (by omega)
      repeat' (first
        | apply WPc.sq
        | (refine WPc.ret (endP.val (.inr rfl) rfl rfl (by simp; rfl) ?_))
        | apply WPc.skip
        | refine WPL.nil ?_
        | (apply WPL.cL (c_laws_szStringS _ _ ?g1 ?g2 ?g3); (case q => (repeat' (first | refine And.intro ?_ ?_ | intro _ | exact cleanOut_nil | (refine Eqv.mk ?_; first | rfl | (simp -implicitDefEqProofs [e1, e2]; done)) | (simp -implicitDefEqProofs [e1, e2]; done) | (simp -implicitDefEqProofs [e1, e2]; rfl) | (simp; done) | (simp; rfl) | rfl))); (case g1 => (first | assumption | omega)); (case g2 => (first | assumption | omega)); (case g3 => (first | assumption | omega)))
        | ((first | refine WPc.rq tok rfl fun K hK => ?_ | refine WPL.rn tok _ (by simp [ahead, isFn]; rfl) fun K hK => ?_); simp -implicitDefEqProofs +contextual [-Int.not_le, -Int.not_lt, -Nat.not_le, -Nat.not_lt, -List.all_eq_true, -List.all_eq_false, -List.any_eq_true, -List.any_eq_false, e1, e2]; (repeat1' (first | apply hK | apply And.intro | intro _)) <;> clear hK K <;> (try dsimp only [List.drop]))
        | (refine WPc.region ?_; simp only [List.toList_toArray])
        | (refine WPc.condT ?_ ?_; (focus (simp; done)))
        | (refine WPc.cond (by simp [-Bool.not_eq_eq_eq_not]; rfl) (fun hq => ?_) (fun hq => ?_) <;> simp only [hq] <;> (try (exfalso; (simp only [decide_eq_true_eq, decide_eq_false_iff_not] at hq); omega))))
      all_goals (simp only [decide_eq_true_eq, decide_eq_false_iff_not] at *)
      all_goals first
        | (exfalso; omega)
        | (rw [szR_no (by unfold costC; omega)])
  · repeat' (first
      | apply WPc.sq
      | (refine WPc.ret (endP.val (.inr rfl) rfl rfl (by simp; rfl) ?_))
      | (refine WPc.rq tok rfl fun K hK => ?_; simp -implicitDefEqProofs +contextual [-Int.not_le, -Int.not_lt, -Nat.not_le, -Nat.not_lt, -List.all_eq_true, -List.all_eq_false, -List.any_eq_true, -List.any_eq_false, e1]; (repeat1' (first | apply hK | apply And.intro | intro _)) <;> clear hK K <;> (try dsimp only [List.drop]))
      | (refine WPc.cond (by simp [-Bool.not_eq_eq_eq_not]; rfl) (fun hq => ?_) (fun hq => ?_) <;> simp only [hq] <;> (try (exfalso; (simp only [decide_eq_true_eq, decide_eq_false_iff_not] at hq); omega))))
    all_goals (simp only [decide_eq_true_eq, decide_eq_false_iff_not] at *)
    all_goals first
      | (exfalso; omega)
      | (rw [szR_no (by unfold costC; omega)])
theorem c_laws_szCellS (l : List Cl) (left : Int) (h0 : 0 ≤ left) (h1 : left ≤ 1073741824) (hs : ∀ c, c ∈ l → c.tx) : Con PP 14 [.fz (l.map Cl.cs), .sc (.int .i64 left)] [] [] (fun r o => r = .sc (.int .i64 (szR left (costH l)))) := by
  refine Con.lenOf 0 Go.Proofs.Tryz.func14 (by kernel_rfl) (by kernel_rfl) rfl fun hlen => ?_
  simp at hlen
  refine Con.of tok (nt := 27) Go.Proofs.Tryz.func14 (by kernel_rfl) rfl rfl rfl (Nat.le_of_ble_eq_true rfl) fun G => ?_
  simp only [entSt, tmOf, List.append_nil, List.cons_append, List.nil_append]
  have e1 : IntKind.i64.wrap (left - l.length) = left - l.length := wrap64 (by omega) (by omega)
  repeat' (first
    | apply WPc.sq
    | apply WPc.block
    | (refine WPc.ret (endP.val (.inr rfl) rfl rfl (by simp; rfl) ?_))
    | apply WPc.skip
    | (refine WPc.rq tok rfl fun K hK => ?_; simp -implicitDefEqProofs +contextual [-Int.not_le, -Int.not_lt, -Nat.not_le, -Nat.not_lt, -List.all_eq_true, -List.all_eq_false, -List.any_eq_true, -List.any_eq_false, e1]; (repeat1' (first | apply hK | apply And.intro | intro _)) <;> clear hK K <;> (try dsimp only [List.drop]))
    | (refine WPc.cond (by simp [-Bool.not_eq_eq_eq_not]; rfl) (fun hq => ?_) (fun hq => ?_) <;> simp only [hq] <;> (try (exfalso; (simp only [decide_eq_true_eq, decide_eq_false_iff_not] at hq); omega))))
  · rw [szR_no (by unfold costH; simp at hq; omega)]
  simp only [decide_eq_false_iff_not] at hq
  refine WPc.loopK (σ := Nat) (fun i => i ≤ l.length ∧ l.length + sumTo costC l i ≤ left) (fun i => l.length - i) (fun i => [(5, .sc (.int .i64 i)), (1, .sc (.int .i64 (left - l.length - sumTo costC l i)))])  [0] 0 (by simp [sumTo_zero]) (by simp [sumTo_zero]) (⟨by omega, by rw [sumTo_zero]; omega⟩) ?_
  rintro i ⟨hi, hle⟩ s hs
  simp at hs
  subst hs
  by_cases hlt : i < l.length
  · have hz := hs _ (List.getElem_mem hlt)
    have e3 := sumTo_next (f := costC) hlt
    have e4 := sumTo_le costC l (i + 1)
    have ee : costC ⟨l[i].k, l[i].s, l[i].a, l[i].b, l[i].names, l[i].vals⟩ = costC l[i] := rfl
    repeat' (first
      | apply WPc.sq
      | apply WPc.block
      | (refine WPc.ret (endP.val (.inr rfl) rfl rfl (by simp; rfl) ?_))
      | apply WPc.skip
      | refine WPL.nil ?_
      | (apply WPL.cL (c_laws_szCell ⟨_, _, _, _, _, _⟩ _ ?g1 ?g2 ?g3); (case q => (repeat' (first | refine And.intro ?_ ?_ | intro _ | exact cleanOut_nil | (refine Eqv.mk ?_; first | rfl | (simp -implicitDefEqProofs [Cl.cs, hlt, ee]; done)) | (simp -implicitDefEqProofs [Cl.cs, hlt, ee]; done) | (simp -implicitDefEqProofs [Cl.cs, hlt, ee]; rfl) | (simp; done) | (simp; rfl) | rfl))); (case g1 => (first | assumption | (exact hz) | omega)); (case g2 => (first | assumption | (exact hz) | omega)); (case g3 => (first | assumption | (exact hz) | omega)))
      | ((first | refine WPc.rq tok rfl fun K hK => ?_ | refine WPL.rn tok _ (by simp [ahead, isFn]; rfl) fun K hK => ?_); simp -implicitDefEqProofs +contextual [-Int.not_le, -Int.not_lt, -Nat.not_le, -Nat.not_lt, -List.all_eq_true, -List.all_eq_false, -List.any_eq_true, -List.any_eq_false, Cl.cs, hlt, ee]; (repeat1' (first | apply hK | apply And.intro | intro _)) <;> clear hK K <;> (try dsimp only [List.drop]))
      | (refine WPc.region ?_; simp only [List.toList_toArray])
      | (refine WPc.condT ?_ ?_; (focus (simp; done)))
      | (refine WPc.cond (by simp [-Bool.not_eq_eq_eq_not]; rfl) (fun hq => ?_) (fun hq => ?_) <;> simp only [hq] <;> (try (exfalso; (simp only [decide_eq_true_eq, decide_eq_false_iff_not] at hq); omega))))
    all_goals try rw [ee] at hq
    · simp only [decide_eq_true_eq] at hq
      have := szR_neg (by omega) hq
      rw [szR_no (by unfold costH; omega)]
    all_goals
      try simp only [decide_eq_false_iff_not] at hq
      have hle2 := szR_pos hq
      refine ⟨i + 1, ⟨⟨by omega, by omega⟩, by first | omega | (simp only; omega) | assumption⟩, rfl, rfl, ?_, ?_⟩ <;> simp (disch := omega) [wrap64, e3, ee, szR_ok hle2]
    all_goals (refine fit_int ?_; omega)
  · obtain rfl : i = l.length := by omega
    repeat' (first
      | apply WPc.sq
      | (refine WPc.ret (endP.val (.inr rfl) rfl rfl (by simp; rfl) ?_))
      | apply WPc.exit
      | (refine WPc.rq tok rfl fun K hK => ?_; simp -implicitDefEqProofs +contextual [-Int.not_le, -Int.not_lt, -Nat.not_le, -Nat.not_lt, -List.all_eq_true, -List.all_eq_false, -List.any_eq_true, -List.any_eq_false]; (repeat1' (first | apply hK | apply And.intro | intro _)) <;> clear hK K <;> (try dsimp only [List.drop]))
      | (refine WPc.condF ?_ ?_; (focus (simp; done))))
    rw [sumTo_all] at hle
    rw [szR_ok (by unfold costH; omega), sumTo_all]
    simp only [costH, AV.sc.injEq, Value.int.injEq, true_and]
    omega
end Go.Own
set_option maxRecDepth 1000000
set_option maxHeartbeats 4000000
namespace Go.Own
attribute [local irreducible] WPc WPL WPS WPS1 WPS2 HAny endP
variable [Laid]
open Go.Lib Go.RowKit
def part {α : Type} (z : List C) (f : α → List C) (l : List α) (i : Nat) : List (List C) := (l.take i).map f ++ List.replicate (l.length - i) z
section
variable {α : Type} {z : List C} {f : α → List C} {l : List α} {i : Nat}
theorem part_len (hi : i ≤ l.length) : (part z f l i).length = l.length := by simp [part]; omega
theorem part_zero : part z f l 0 = List.replicate l.length z := by simp [part]
theorem part_all : part z f l l.length = l.map f := by simp [part]
theorem part_get (hi : i < l.length) : (part z f l i)[i]? = some z := by
  unfold part
  rw [List.getElem?_append_right (by simp; omega), List.getElem?_replicate]
  simp [Nat.min_eq_left (Nat.le_of_lt hi)]
  omega
theorem part_ge (hi : i < l.length) (p : i < (part z f l i).length) : (part z f l i)[i] = z := by
  have := part_get (z := z) (f := f) hi
  rw [List.getElem?_eq_getElem p] at this
  exact Option.some.inj this
theorem part_next {g : List C → List C} (hi : i < l.length) (hg : g z = f l[i]) : (part z f l i).modify i g = part z f l (i + 1) := by
  apply List.ext_getElem?
  intro j
  rw [List.getElem?_modify]
  by_cases hj : i = j
  · subst hj
    rw [part_get hi]
    unfold part
    rw [List.getElem?_append_left (by simp; omega)]
    simp [hi, hg]
  · simp only [hj, if_false]
    unfold part
    by_cases h1 : j < i
    · rw [List.getElem?_append_left (by simp; omega), List.getElem?_append_left (by simp; omega)]
      simp [h1, show j < i + 1 by omega]
    · rw [List.getElem?_append_right (by simp; omega), List.getElem?_append_right (by simp; omega), List.getElem?_replicate, List.getElem?_replicate]
      simp [Nat.min_eq_left (Nat.le_of_lt hi), Nat.min_eq_left (Nat.succ_le_of_lt hi)]
      split <;> split <;> first | rfl | omega
end
theorem c_laws_toStringS (l : List ByteArray) (h1 : l.length ≤ 1000000000) : Con PP 102 [.fz (l.map sC)] [] [] (fun r o => r = .sl 7 1 [] 0 l.length ∧ o = [(7, 9, 1, l.map sC)]) := by
  have hb1 : (16 : Int) * (l.length : Int) ≤ 281474976710656 := by omega
  have hb2 : (l.length : Int) ≤ 9223372036854775807 := by omega
  refine Con.of tok (nt := 22) Go.Proofs.Tryz.func102 (by kernel_rfl) rfl rfl rfl (Nat.le_of_ble_eq_true rfl) fun G => ?_
  simp only [entSt, tmOf, List.append_nil, List.cons_append, List.nil_append]
  repeat' (first
    | apply WPc.sq
    | apply WPc.block
    | (refine WPc.rq tok rfl fun K hK => ?_; simp -implicitDefEqProofs +contextual [-Int.not_le, -Int.not_lt, -Nat.not_le, -Nat.not_lt, -List.all_eq_true, -List.all_eq_false, -List.any_eq_true, -List.any_eq_false, hb1, hb2]; (repeat1' (first | apply hK | apply And.intro | intro _)) <;> clear hK K <;> (try dsimp only [List.drop])))
  refine WPc.loopV (σ := Nat) (fun i => i ≤ l.length) (fun i => l.length - i) (fun i => [(4, .sc (.int .i64 i))]) (fun i => [(7, 9, 1, part [.sc (.string zs)] sC l i)]) [0, 3] 0 (by simp [part_zero]) (by simp [part_zero]) (by simp) ?_
  rintro i hi s hs
  simp at hs
  subst hs
  by_cases hlt : i < l.length
  · have hl := part_len (z := [.sc (.string zs)]) (f := sC) hi
    have hn := part_next (z := [.sc (.string zs)]) (f := sC) (g := fun r => r.set 0 (.sc (.string l[i]))) hlt rfl
    have hge := part_ge (z := [.sc (.string zs)]) (f := sC) hlt
    repeat' (first
      | apply WPc.sq
      | apply WPc.block
      | apply WPc.skip
      | (refine WPc.rq tok rfl fun K hK => ?_; simp -implicitDefEqProofs +contextual [-Int.not_le, -Int.not_lt, -Nat.not_le, -Nat.not_lt, -List.all_eq_true, -List.all_eq_false, -List.any_eq_true, -List.any_eq_false, sC, hlt, hl, hge]; (repeat1' (first | apply hK | apply And.intro | intro _)) <;> clear hK K <;> (try dsimp only [List.drop]))
      | (refine WPc.condT ?_ ?_; (focus (simp; done))))
    refine ⟨i + 1, ⟨hlt, by first | omega | (simp only; omega) | assumption⟩, rfl, rfl, ?_, ?_⟩ <;> simp (disch := omega) [wrap64, hn]
  · obtain rfl : i = l.length := by omega
    repeat' (first
      | apply WPc.sq
      | (refine WPc.ret (endP.own [(7, 9, 1, l.map sC)] (.inr rfl) rfl rfl (by simp; rfl) ?_ ?_ (by simp)))
      | apply WPc.exit
      | (refine WPc.rq tok rfl fun K hK => ?_; simp -implicitDefEqProofs +contextual [-Int.not_le, -Int.not_lt, -Nat.not_le, -Nat.not_lt, -List.all_eq_true, -List.all_eq_false, -List.any_eq_true, -List.any_eq_false]; (repeat1' (first | apply hK | apply And.intro | intro _)) <;> clear hK K <;> (try dsimp only [List.drop]))
      | (refine WPc.condF ?_ ?_; (focus (simp; done))))
    · simp [part_all]
    · exact ⟨rfl, rfl⟩
theorem c_laws_toValue (v : V) : Con PP 59 [v.av] [] [] (fun r o => r = v.av) := by
  refine Con.of tok (nt := 14) Go.Proofs.Tryz.func59 (by kernel_rfl) rfl rfl rfl (Nat.le_of_ble_eq_true rfl) fun G => ?_
  simp only [entSt, tmOf, List.append_nil, List.cons_append, List.nil_append, V.av]
  repeat' (first
    | apply WPc.sq
    | (refine WPc.ret (endP.val (.inr rfl) rfl rfl (by simp; rfl) ?_))
    | (refine WPc.rq tok rfl fun K hK => ?_; simp -implicitDefEqProofs +contextual [-Int.not_le, -Int.not_lt, -Nat.not_le, -Nat.not_lt, -List.all_eq_true, -List.all_eq_false, -List.any_eq_true, -List.any_eq_false]; (repeat1' (first | apply hK | apply And.intro | intro _)) <;> clear hK K <;> (try dsimp only [List.drop])))
  all_goals rfl
end Go.Own
set_option maxRecDepth 1000000
set_option maxHeartbeats 4000000
namespace Go.Own
attribute [local irreducible] WPc WPL WPS WPS1 WPS2 HAny endP
variable [Laid]
open Go.Lib Go.RowKit
theorem c_laws_toValueS (l : List V) (h1 : l.length ≤ 1000000000) : Con PP 17 [.fz (l.map V.cs)] [] [] (fun r o => r = .sl 7 3 [] 0 l.length ∧ o = [(7, 29, 3, l.map V.cs)]) := by
  have hb1 : (32 : Int) * (l.length : Int) ≤ 281474976710656 := by omega
  have hb2 : (l.length : Int) ≤ 9223372036854775807 := by omega
  refine Con.of tok (nt := 23) Go.Proofs.Tryz.func17 (by kernel_rfl) rfl rfl rfl (Nat.le_of_ble_eq_true rfl) fun G => ?_
  simp only [entSt, tmOf, List.append_nil, List.cons_append, List.nil_append]
  repeat' (first
    | apply WPc.sq
    | apply WPc.block
    | (refine WPc.rq tok rfl fun K hK => ?_; simp -implicitDefEqProofs +contextual [-Int.not_le, -Int.not_lt, -Nat.not_le, -Nat.not_lt, -List.all_eq_true, -List.all_eq_false, -List.any_eq_true, -List.any_eq_false, hb1, hb2]; (repeat1' (first | apply hK | apply And.intro | intro _)) <;> clear hK K <;> (try dsimp only [List.drop])))
  refine WPc.loopV (σ := Nat) (fun i => i ≤ l.length) (fun i => l.length - i) (fun i => [(4, .sc (.int .i64 i))]) (fun i => [(7, 29, 3, part [.sc (.int .i64 0), .sc (.int .i64 0), .sc (.string zs)] V.cs l i)]) [0, 3] 0 (by simp [part_zero]) (by simp [part_zero]) (by simp) ?_
  rintro i hi s hs
  simp at hs
  subst hs
  by_cases hlt : i < l.length
  · have hl := part_len (z := [.sc (.int .i64 0), .sc (.int .i64 0), .sc (.string zs)]) (f := V.cs) hi
    have hge := part_ge (z := [.sc (.int .i64 0), .sc (.int .i64 0), .sc (.string zs)]) (f := V.cs) hlt
    have hn : (((part [.sc (.int .i64 0), .sc (.int .i64 0), .sc (.string zs)] V.cs l i).modify i fun r => r.set 0 (.sc (.int .i64 l[i].k))).modify i fun r => r.set 1 (.sc (.int .i64 l[i].n))).modify i (fun r => r.set 2 (.sc (.string l[i].s))) = part [.sc (.int .i64 0), .sc (.int .i64 0), .sc (.string zs)] V.cs l (i + 1) := by
      rw [List.modify_modify_eq, List.modify_modify_eq]
      exact part_next hlt rfl
    repeat' (first
      | apply WPc.sq
      | apply WPc.block
      | apply WPc.skip
      | refine WPL.nil ?_
      | (apply WPL.cL (c_laws_toValue ⟨_, _, _⟩); (case q => (repeat' (first | refine And.intro ?_ ?_ | intro _ | exact cleanOut_nil | (refine Eqv.mk ?_; first | rfl | (simp -implicitDefEqProofs [V.cs, V.av, hlt, hl, hge]; done)) | (simp -implicitDefEqProofs [V.cs, V.av, hlt, hl, hge]; done) | (simp -implicitDefEqProofs [V.cs, V.av, hlt, hl, hge]; rfl) | (simp; done) | (simp; rfl) | rfl))))
      | ((first | refine WPc.rq tok rfl fun K hK => ?_ | refine WPL.rn tok _ (by simp [ahead, isFn]; rfl) fun K hK => ?_); simp -implicitDefEqProofs +contextual [-Int.not_le, -Int.not_lt, -Nat.not_le, -Nat.not_lt, -List.all_eq_true, -List.all_eq_false, -List.any_eq_true, -List.any_eq_false, V.cs, V.av, hlt, hl, hge]; (repeat1' (first | apply hK | apply And.intro | intro _)) <;> clear hK K <;> (try dsimp only [List.drop]))
      | (refine WPc.region ?_; simp only [List.toList_toArray])
      | (refine WPc.condT ?_ ?_; (focus (simp; done))))
    refine ⟨i + 1, ⟨hlt, by first | omega | (simp only; omega) | assumption⟩, rfl, rfl, ?_, ?_⟩ <;> simp (disch := omega) [wrap64, hn]
  · obtain rfl : i = l.length := by omega
    repeat' (first
      | apply WPc.sq
      | (refine WPc.ret (endP.own [(7, 29, 3, l.map V.cs)] (.inr rfl) rfl rfl (by simp; rfl) ?_ ?_ (by simp)))
      | apply WPc.exit
      | (refine WPc.rq tok rfl fun K hK => ?_; simp -implicitDefEqProofs +contextual [-Int.not_le, -Int.not_lt, -Nat.not_le, -Nat.not_lt, -List.all_eq_true, -List.all_eq_false, -List.any_eq_true, -List.any_eq_false]; (repeat1' (first | apply hK | apply And.intro | intro _)) <;> clear hK K <;> (try dsimp only [List.drop]))
      | (refine WPc.condF ?_ ?_; (focus (simp; done))))
    · simp [part_all]
    · exact ⟨rfl, rfl⟩
theorem c_laws_toCell (c : Cl) (h1 : c.names.length ≤ 1000000000) (h2 : c.vals.length ≤ 1000000000) : Con PP 58 [c.av] [] [] (fun r o => r = .agg [.sc (.int .i64 c.k), .sc (.string c.s), .sc (.int .i64 c.a), .sc (.int .i64 c.b), .sl 2 1 [(0, 4)] 0 c.names.length, .sl 2 3 [(0, 5)] 0 c.vals.length] ∧ o = [(2, 88, 6, [c.ow])]) := by
  refine Con.of tok (nt := 25) Go.Proofs.Tryz.func58 (by kernel_rfl) rfl rfl rfl (Nat.le_of_ble_eq_true rfl) fun G => ?_
  simp only [entSt, tmOf, List.append_nil, List.cons_append, List.nil_append, Cl.av]
  repeat' (first
    | (refine WPL.detSt 24 3 900001 [] 0 4 ?_ ?_; (focus (simp; done)); refine fun K hK => ?_; simp -implicitDefEqProofs +contextual [-Int.not_le, -Int.not_lt, -Nat.not_le, -Nat.not_lt, -List.all_eq_true, -List.all_eq_false, -List.any_eq_true, -List.any_eq_false]; (repeat1' (first | apply hK | apply And.intro | intro _)) <;> clear hK K)
    | (refine WPL.rnToSt tok 24 _ (by simp [isFn]; rfl) fun K hK => ?_; simp -implicitDefEqProofs +contextual [-Int.not_le, -Int.not_lt, -Nat.not_le, -Nat.not_lt, -List.all_eq_true, -List.all_eq_false, -List.any_eq_true, -List.any_eq_false]; (repeat1' (first | apply hK | apply And.intro | intro _)) <;> clear hK K <;> (try dsimp only [List.drop]))
    | (refine WPL.detSt 24 3 900002 [] 0 5 ?_ ?_; (focus (simp; done)); refine fun K hK => ?_; simp -implicitDefEqProofs +contextual [-Int.not_le, -Int.not_lt, -Nat.not_le, -Nat.not_lt, -List.all_eq_true, -List.all_eq_false, -List.any_eq_true, -List.any_eq_false]; (repeat1' (first | apply hK | apply And.intro | intro _)) <;> clear hK K)
    | apply WPc.sq
    | (refine WPc.ret (endP.own [(2, 88, 6, [c.ow])] (.inr rfl) rfl rfl (by simp; rfl) ?_ ?_ (by simp)))
    | refine WPL.nil ?_
    | (apply WPL.cU (c_laws_toStringS _ ?g1); (case q => (repeat' (first | refine And.intro ?_ ?_ | intro _ | exact cleanOut_nil | (refine Eqv.mk ?_; first | rfl | (simp -implicitDefEqProofs; done)) | (simp -implicitDefEqProofs; done) | (simp -implicitDefEqProofs; rfl) | rfl))); (case g1 => (first | assumption | omega)))
    | (apply WPL.cU (c_laws_toValueS _ ?g1); (case q => (repeat' (first | refine And.intro ?_ ?_ | intro _ | exact cleanOut_nil | (refine Eqv.mk ?_; first | rfl | (simp -implicitDefEqProofs; done)) | (simp -implicitDefEqProofs; done) | (simp -implicitDefEqProofs; rfl) | rfl))); (case g1 => (first | assumption | omega)))
    | ((first | refine WPc.rq tok rfl fun K hK => ?_ | refine WPL.rn tok _ (by simp [ahead, isFn]; rfl) fun K hK => ?_); simp -implicitDefEqProofs +contextual [-Int.not_le, -Int.not_lt, -Nat.not_le, -Nat.not_lt, -List.all_eq_true, -List.all_eq_false, -List.any_eq_true, -List.any_eq_false]; (repeat1' (first | apply hK | apply And.intro | intro _)) <;> clear hK K <;> (try dsimp only [List.drop]))
    | (refine WPc.region ?_; simp only [List.toList_toArray]))
  · simp [Cl.ow]
  · exact ⟨rfl, rfl⟩
theorem c_laws_toCellS (l : List Cl) (h1 : l.length ≤ 1000000000) (h2 : ∀ c, c ∈ l → c.rm) : Con PP 16 [.fz (l.map Cl.cs)] [] [] (fun r o => r = .sl 7 6 [] 0 l.length ∧ o = [(7, heapR l)]) := by
  have hb1 : (88 : Int) * (l.length : Int) ≤ 281474976710656 := by omega
  have hb2 : (l.length : Int) ≤ 9223372036854775807 := by omega
  refine Con.of tok (nt := 23) Go.Proofs.Tryz.func16 (by kernel_rfl) rfl rfl rfl (Nat.le_of_ble_eq_true rfl) fun G => ?_
  simp only [entSt, tmOf, List.append_nil, List.cons_append, List.nil_append]
  repeat' (first
    | apply WPc.sq
    | apply WPc.block
    | (refine WPc.rq tok rfl fun K hK => ?_; simp -implicitDefEqProofs +contextual [-Int.not_le, -Int.not_lt, -Nat.not_le, -Nat.not_lt, -List.all_eq_true, -List.all_eq_false, -List.any_eq_true, -List.any_eq_false, hb1, hb2]; (repeat1' (first | apply hK | apply And.intro | intro _)) <;> clear hK K <;> (try dsimp only [List.drop])))
  refine WPc.loopV (σ := Nat) (fun i => i ≤ l.length) (fun i => l.length - i) (fun i => [(4, .sc (.int .i64 i))]) (fun i => [(7, 88, 6, part [.sc (.int .i64 0), .sc (.string zs), .sc (.int .i64 0), .sc (.int .i64 0), .sc (.slice none 0 0), .sc (.slice none 0 0)] Cl.ow l i)]) [0, 3] 0 (by simp [part_zero]) (by simp [part_zero]) (by simp) ?_
  rintro i hi s hs
  simp at hs
  subst hs
  by_cases hlt : i < l.length
  · have hr := h2 _ (List.getElem_mem hlt)
    have hr1 := hr.names
    have hr2 := hr.vals
    have hl := part_len (z := [.sc (.int .i64 0), .sc (.string zs), .sc (.int .i64 0), .sc (.int .i64 0), .sc (.slice none 0 0), .sc (.slice none 0 0)]) (f := Cl.ow) hi
    have hge := part_ge (z := [.sc (.int .i64 0), .sc (.string zs), .sc (.int .i64 0), .sc (.int .i64 0), .sc (.slice none 0 0), .sc (.slice none 0 0)]) (f := Cl.ow) hlt
    have hn : ((((((part [.sc (.int .i64 0), .sc (.string zs), .sc (.int .i64 0), .sc (.int .i64 0), .sc (.slice none 0 0), .sc (.slice none 0 0)] Cl.ow l i).modify i fun r => r.set 0 (.sc (.int .i64 l[i].k))).modify i fun r => r.set 1 (.sc (.string l[i].s))).modify i fun r => r.set 2 (.sc (.int .i64 l[i].a))).modify i fun r => r.set 3 (.sc (.int .i64 l[i].b))).modify i fun r => r.set 4 (.sl 9 1 (l[i].names.map sC))).modify i (fun r => r.set 5 (.sl 29 3 (l[i].vals.map V.cs))) = part [.sc (.int .i64 0), .sc (.string zs), .sc (.int .i64 0), .sc (.int .i64 0), .sc (.slice none 0 0), .sc (.slice none 0 0)] Cl.ow l (i + 1) := by
      rw [List.modify_modify_eq, List.modify_modify_eq, List.modify_modify_eq, List.modify_modify_eq, List.modify_modify_eq]
      exact part_next hlt rfl
    repeat' (first
      | (refine WPL.detSt 20 20 900001 [] 0 4 ?_ ?_; (focus (simp; done)); refine fun K hK => ?_; simp -implicitDefEqProofs +contextual [-Int.not_le, -Int.not_lt, -Nat.not_le, -Nat.not_lt, -List.all_eq_true, -List.all_eq_false, -List.any_eq_true, -List.any_eq_false, Cl.cs, Cl.av, hlt, hl, hge, Cl.ow]; (repeat1' (first | apply hK | apply And.intro | intro _)) <;> clear hK K)
      | (refine WPL.rnToSt tok 20 _ (by simp [isFn]; rfl) fun K hK => ?_; simp -implicitDefEqProofs +contextual [-Int.not_le, -Int.not_lt, -Nat.not_le, -Nat.not_lt, -List.all_eq_true, -List.all_eq_false, -List.any_eq_true, -List.any_eq_false, Cl.cs, Cl.av, hlt, hl, hge, Cl.ow]; (repeat1' (first | apply hK | apply And.intro | intro _)) <;> clear hK K <;> (try dsimp only [List.drop]))
      | (refine WPL.detSt 20 20 900002 [] 0 5 ?_ ?_; (focus (simp; done)); refine fun K hK => ?_; simp -implicitDefEqProofs +contextual [-Int.not_le, -Int.not_lt, -Nat.not_le, -Nat.not_lt, -List.all_eq_true, -List.all_eq_false, -List.any_eq_true, -List.any_eq_false, Cl.cs, Cl.av, hlt, hl, hge, Cl.ow]; (repeat1' (first | apply hK | apply And.intro | intro _)) <;> clear hK K)
      | apply WPc.sq
      | apply WPc.block
      | apply WPc.skip
      | refine WPL.nil ?_
      | (apply WPL.cU (c_laws_toCell ⟨_, _, _, _, _, _⟩ ?g1 ?g2); (case q => (repeat' (first | refine And.intro ?_ ?_ | intro _ | exact cleanOut_nil | (refine Eqv.mk ?_; first | rfl | (simp -implicitDefEqProofs [Cl.cs, Cl.av, hlt, hl, hge, Cl.ow]; done)) | (simp -implicitDefEqProofs [Cl.cs, Cl.av, hlt, hl, hge, Cl.ow]; done) | (simp -implicitDefEqProofs [Cl.cs, Cl.av, hlt, hl, hge, Cl.ow]; rfl) | (simp; done) | (simp; rfl) | rfl))); (case g1 => (first | assumption | (exact hr1) | (exact hr2) | omega)); (case g2 => (first | assumption | (exact hr1) | (exact hr2) | omega)))
      | ((first | refine WPc.rq tok rfl fun K hK => ?_ | refine WPL.rn tok _ (by simp [ahead, isFn]; rfl) fun K hK => ?_); simp -implicitDefEqProofs +contextual [-Int.not_le, -Int.not_lt, -Nat.not_le, -Nat.not_lt, -List.all_eq_true, -List.all_eq_false, -List.any_eq_true, -List.any_eq_false, Cl.cs, Cl.av, hlt, hl, hge, Cl.ow]; (repeat1' (first | apply hK | apply And.intro | intro _)) <;> clear hK K <;> (try dsimp only [List.drop]))
      | (refine WPc.region ?_; simp only [List.toList_toArray])
      | (refine WPc.condT ?_ ?_; (focus (simp; done))))
    refine ⟨i + 1, ⟨hlt, by first | omega | (simp only; omega) | assumption⟩, rfl, rfl, ?_, ?_⟩ <;> simp (disch := omega) [wrap64, hn]
  · obtain rfl : i = l.length := by omega
    repeat' (first
      | apply WPc.sq
      | (refine WPc.ret (endP.own [(7, heapR l)] (.inr rfl) rfl rfl (by simp; rfl) ?_ ?_ (by simp)))
      | apply WPc.exit
      | (refine WPc.rq tok rfl fun K hK => ?_; simp -implicitDefEqProofs +contextual [-Int.not_le, -Int.not_lt, -Nat.not_le, -Nat.not_lt, -List.all_eq_true, -List.all_eq_false, -List.any_eq_true, -List.any_eq_false]; (repeat1' (first | apply hK | apply And.intro | intro _)) <;> clear hK K <;> (try dsimp only [List.drop]))
      | (refine WPc.condF ?_ ?_; (focus (simp; done))))
    · simp [part_all, heapR]
    · exact ⟨rfl, rfl⟩
end Go.Own
set_option maxRecDepth 1000000
set_option maxHeartbeats 4000000
namespace Go.Own
attribute [local irreducible] WPc WPL WPS WPS1 WPS2 HAny endP
variable [Laid]
open Go.Lib Go.RowKit
theorem c_laws_eqStringS (l : List ByteArray) : Con PP 103 [.fz (l.map sC), .fz (l.map sC)] [] [] (fun r o => r = .sc (.bool true)) := by
  refine Con.lenOf 0 Go.Proofs.Tryz.func103 (by kernel_rfl) (by kernel_rfl) rfl fun hlen => ?_
  simp at hlen
  refine Con.of tok (nt := 26) Go.Proofs.Tryz.func103 (by kernel_rfl) rfl rfl rfl (Nat.le_of_ble_eq_true rfl) fun G => ?_
  simp only [entSt, tmOf, List.append_nil, List.cons_append, List.nil_append]
  repeat' (first
    | apply WPc.sq
    | apply WPc.block
    | apply WPc.skip
    | (refine WPc.rq tok rfl fun K hK => ?_; simp -implicitDefEqProofs +contextual [-Int.not_le, -Int.not_lt, -Nat.not_le, -Nat.not_lt, -List.all_eq_true, -List.all_eq_false, -List.any_eq_true, -List.any_eq_false]; (repeat1' (first | apply hK | apply And.intro | intro _)) <;> clear hK K <;> (try dsimp only [List.drop]))
    | (refine WPc.condF ?_ ?_; (focus (simp; done))))
  refine WPc.loopK (σ := Nat) (fun i => i ≤ l.length) (fun i => l.length - i) (fun i => [(5, .sc (.int .i64 i))])  [0, 1] 0 (by simp) (by simp) (by simp) ?_
  rintro i hi s hs
  simp at hs
  subst hs
  by_cases hlt : i < l.length
  · repeat' (first
      | apply WPc.sq
      | apply WPc.block
      | apply WPc.skip
      | ((first | refine WPc.rq tok rfl fun K hK => ?_ | refine WPS.rn tok _ (by simp [aheadS]; rfl) fun K hK => ?_); simp -implicitDefEqProofs +contextual [-Int.not_le, -Int.not_lt, -Nat.not_le, -Nat.not_lt, -List.all_eq_true, -List.all_eq_false, -List.any_eq_true, -List.any_eq_false, sC, hlt]; (repeat1' (first | apply hK | apply And.intro | intro _)) <;> clear hK K <;> (try dsimp only [List.drop]))
      | (refine WPc.sched (id := 6) tok [] [(0, []), (1, []), (2, []), (3, []), (4, []), (5, []), (6, []), (7, []), (8, [])] (by kernel_rfl) ?_)
      | (refine WPS.nil ?_)
      | (refine WPc.condT ?_ ?_; (focus (simp; done)))
      | (refine WPc.condF ?_ ?_; (focus (simp; done))))
    all_goals
      refine ⟨i + 1, ⟨hlt, by first | omega | (simp only; omega) | assumption⟩, rfl, rfl, ?_, ?_⟩ <;> simp (disch := omega) [wrap64]
  · repeat' (first
      | apply WPc.sq
      | (refine WPc.ret (endP.val (.inr rfl) rfl rfl (by simp; rfl) ?_))
      | apply WPc.exit
      | (refine WPc.rq tok rfl fun K hK => ?_; simp -implicitDefEqProofs +contextual [-Int.not_le, -Int.not_lt, -Nat.not_le, -Nat.not_lt, -List.all_eq_true, -List.all_eq_false, -List.any_eq_true, -List.any_eq_false, hlt]; (repeat1' (first | apply hK | apply And.intro | intro _)) <;> clear hK K <;> (try dsimp only [List.drop]))
      | (refine WPc.condF ?_ ?_; (focus (simp; done))))
    all_goals rfl
theorem c_laws_eqValue (v : V) : Con PP 19 [v.av, v.av] [] [] (fun r o => r = .sc (.bool true)) := by
  refine Con.of tok (nt := 20) Go.Proofs.Tryz.func19 (by kernel_rfl) rfl rfl rfl (Nat.le_of_ble_eq_true rfl) fun G => ?_
  simp only [entSt, tmOf, List.append_nil, List.cons_append, List.nil_append, V.av]
  repeat' (first
    | apply WPc.sq
    | (refine WPc.ret (endP.val (.inr rfl) rfl rfl (by simp; rfl) ?_))
    | apply WPc.skip
    | (refine WPc.rq tok rfl fun K hK => ?_; simp -implicitDefEqProofs +contextual [-Int.not_le, -Int.not_lt, -Nat.not_le, -Nat.not_lt, -List.all_eq_true, -List.all_eq_false, -List.any_eq_true, -List.any_eq_false]; (repeat1' (first | apply hK | apply And.intro | intro _)) <;> clear hK K <;> (try dsimp only [List.drop]))
    | (refine WPc.condF ?_ ?_; (focus (simp; done))))
  all_goals rfl
theorem c_laws_eqValueS (l : List V) : Con PP 20 [.fz (l.map V.cs), .fz (l.map V.cs)] [] [] (fun r o => r = .sc (.bool true)) := by
  refine Con.lenOf 0 Go.Proofs.Tryz.func20 (by kernel_rfl) (by kernel_rfl) rfl fun hlen => ?_
  simp at hlen
  refine Con.of tok (nt := 27) Go.Proofs.Tryz.func20 (by kernel_rfl) rfl rfl rfl (Nat.le_of_ble_eq_true rfl) fun G => ?_
  simp only [entSt, tmOf, List.append_nil, List.cons_append, List.nil_append]
  repeat' (first
    | apply WPc.sq
    | apply WPc.block
    | apply WPc.skip
    | (refine WPc.rq tok rfl fun K hK => ?_; simp -implicitDefEqProofs +contextual [-Int.not_le, -Int.not_lt, -Nat.not_le, -Nat.not_lt, -List.all_eq_true, -List.all_eq_false, -List.any_eq_true, -List.any_eq_false]; (repeat1' (first | apply hK | apply And.intro | intro _)) <;> clear hK K <;> (try dsimp only [List.drop]))
    | (refine WPc.condF ?_ ?_; (focus (simp; done))))
  refine WPc.loopK (σ := Nat) (fun i => i ≤ l.length) (fun i => l.length - i) (fun i => [(5, .sc (.int .i64 i))])  [0, 1] 0 (by simp) (by simp) (by simp) ?_
  rintro i hi s hs
  simp at hs
  subst hs
  by_cases hlt : i < l.length
  · repeat' (first
      | apply WPc.sq
      | apply WPc.block
      | apply WPc.skip
      | (apply WPS.cL (hc := (c_laws_eqValue ⟨_, _, _⟩)); (case ho => exact rfl); (case q => (repeat' (first | refine And.intro ?_ ?_ | intro _ | exact cleanOut_nil | (refine Eqv.mk ?_; first | rfl | (simp -implicitDefEqProofs [V.cs, V.av, hlt]; done)) | (simp -implicitDefEqProofs [V.cs, V.av, hlt]; done) | (simp -implicitDefEqProofs [V.cs, V.av, hlt]; rfl) | (simp; done) | (simp; rfl) | rfl))))
      | ((first | refine WPc.rq tok rfl fun K hK => ?_ | refine WPS.rn tok _ (by simp [aheadS]; rfl) fun K hK => ?_); simp -implicitDefEqProofs +contextual [-Int.not_le, -Int.not_lt, -Nat.not_le, -Nat.not_lt, -List.all_eq_true, -List.all_eq_false, -List.any_eq_true, -List.any_eq_false, V.cs, V.av, hlt]; (repeat1' (first | apply hK | apply And.intro | intro _)) <;> clear hK K <;> (try dsimp only [List.drop]))
      | (refine WPc.sched (id := 6) tok [] [(0, []), (1, []), (2, []), (3, []), (4, []), (5, []), (6, []), (7, []), (8, []), (9, [])] (by kernel_rfl) ?_)
      | (refine WPS.nil ?_)
      | (refine WPc.condT ?_ ?_; (focus (simp; done)))
      | (refine WPc.condF ?_ ?_; (focus (simp; done))))
    all_goals
      refine ⟨i + 1, ⟨hlt, by first | omega | (simp only; omega) | assumption⟩, rfl, rfl, ?_, ?_⟩ <;> simp (disch := omega) [wrap64]
  · repeat' (first
      | apply WPc.sq
      | (refine WPc.ret (endP.val (.inr rfl) rfl rfl (by simp; rfl) ?_))
      | apply WPc.exit
      | (refine WPc.rq tok rfl fun K hK => ?_; simp -implicitDefEqProofs +contextual [-Int.not_le, -Int.not_lt, -Nat.not_le, -Nat.not_lt, -List.all_eq_true, -List.all_eq_false, -List.any_eq_true, -List.any_eq_false, hlt]; (repeat1' (first | apply hK | apply And.intro | intro _)) <;> clear hK K <;> (try dsimp only [List.drop]))
      | (refine WPc.condF ?_ ?_; (focus (simp; done))))
    all_goals rfl
theorem c_laws_eqCell (c : Cl) : Con PP 60 [c.av, c.av] [] [] (fun r o => r = .sc (.bool true)) := by
  refine Con.of tok (nt := 37) Go.Proofs.Tryz.func60 (by kernel_rfl) rfl rfl rfl (Nat.le_of_ble_eq_true rfl) fun G => ?_
  simp only [entSt, tmOf, List.append_nil, List.cons_append, List.nil_append, Cl.av]
  repeat' (first
    | apply WPc.sq
    | (refine WPc.ret (endP.val (.inr rfl) rfl rfl (by simp; rfl) ?_))
    | apply WPc.skip
    | refine WPL.nil ?_
    | (apply WPL.cL (c_laws_eqStringS _); (case q => (repeat' (first | refine And.intro ?_ ?_ | intro _ | exact cleanOut_nil | (refine Eqv.mk ?_; first | rfl | (simp -implicitDefEqProofs; done)) | (simp -implicitDefEqProofs; done) | (simp -implicitDefEqProofs; rfl) | rfl))))
    | (apply WPL.cL (c_laws_eqValueS _); (case q => (repeat' (first | refine And.intro ?_ ?_ | intro _ | exact cleanOut_nil | (refine Eqv.mk ?_; first | rfl | (simp -implicitDefEqProofs; done)) | (simp -implicitDefEqProofs; done) | (simp -implicitDefEqProofs; rfl) | rfl))))
    | ((first | refine WPc.rq tok rfl fun K hK => ?_ | refine WPL.rn tok _ (by simp [ahead, isFn]; rfl) fun K hK => ?_); simp -implicitDefEqProofs +contextual [-Int.not_le, -Int.not_lt, -Nat.not_le, -Nat.not_lt, -List.all_eq_true, -List.all_eq_false, -List.any_eq_true, -List.any_eq_false]; (repeat1' (first | apply hK | apply And.intro | intro _)) <;> clear hK K <;> (try dsimp only [List.drop]))
    | (refine WPc.region ?_; simp only [List.toList_toArray])
    | (refine WPc.condF ?_ ?_; (focus (simp; done))))
  all_goals rfl
theorem c_laws_eqCellS (l : List Cl) : Con PP 18 [.fz (l.map Cl.cs), .fz (l.map Cl.cs)] [] [] (fun r o => r = .sc (.bool true)) := by
  refine Con.lenOf 0 Go.Proofs.Tryz.func18 (by kernel_rfl) (by kernel_rfl) rfl fun hlen => ?_
  simp at hlen
  refine Con.of tok (nt := 27) Go.Proofs.Tryz.func18 (by kernel_rfl) rfl rfl rfl (Nat.le_of_ble_eq_true rfl) fun G => ?_
  simp only [entSt, tmOf, List.append_nil, List.cons_append, List.nil_append]
  repeat' (first
    | apply WPc.sq
    | apply WPc.block
    | apply WPc.skip
    | (refine WPc.rq tok rfl fun K hK => ?_; simp -implicitDefEqProofs +contextual [-Int.not_le, -Int.not_lt, -Nat.not_le, -Nat.not_lt, -List.all_eq_true, -List.all_eq_false, -List.any_eq_true, -List.any_eq_false]; (repeat1' (first | apply hK | apply And.intro | intro _)) <;> clear hK K <;> (try dsimp only [List.drop]))
    | (refine WPc.condF ?_ ?_; (focus (simp; done))))
  refine WPc.loopK (σ := Nat) (fun i => i ≤ l.length) (fun i => l.length - i) (fun i => [(5, .sc (.int .i64 i))])  [0, 1] 0 (by simp) (by simp) (by simp) ?_
  rintro i hi s hs
  simp at hs
  subst hs
  by_cases hlt : i < l.length
  · repeat' (first
      | apply WPc.sq
      | apply WPc.block
      | apply WPc.skip
      | (apply WPS.cL (hc := (c_laws_eqCell ⟨_, _, _, _, _, _⟩)); (case ho => exact rfl); (case q => (repeat' (first | refine And.intro ?_ ?_ | intro _ | exact cleanOut_nil | (refine Eqv.mk ?_; first | rfl | (simp -implicitDefEqProofs [Cl.cs, Cl.av, hlt]; done)) | (simp -implicitDefEqProofs [Cl.cs, Cl.av, hlt]; done) | (simp -implicitDefEqProofs [Cl.cs, Cl.av, hlt]; rfl) | (simp; done) | (simp; rfl) | rfl))))
      | ((first | refine WPc.rq tok rfl fun K hK => ?_ | refine WPS.rn tok _ (by simp [aheadS]; rfl) fun K hK => ?_); simp -implicitDefEqProofs +contextual [-Int.not_le, -Int.not_lt, -Nat.not_le, -Nat.not_lt, -List.all_eq_true, -List.all_eq_false, -List.any_eq_true, -List.any_eq_false, Cl.cs, Cl.av, hlt]; (repeat1' (first | apply hK | apply And.intro | intro _)) <;> clear hK K <;> (try dsimp only [List.drop]))
      | (refine WPc.sched (id := 6) tok [] [(0, []), (1, []), (2, []), (3, []), (4, []), (5, []), (6, []), (7, []), (8, []), (9, [])] (by kernel_rfl) ?_)
      | (refine WPS.nil ?_)
      | (refine WPc.condT ?_ ?_; (focus (simp; done)))
      | (refine WPc.condF ?_ ?_; (focus (simp; done))))
    all_goals
      refine ⟨i + 1, ⟨hlt, by first | omega | (simp only; omega) | assumption⟩, rfl, rfl, ?_, ?_⟩ <;> simp (disch := omega) [wrap64]
  · repeat' (first
      | apply WPc.sq
      | (refine WPc.ret (endP.val (.inr rfl) rfl rfl (by simp; rfl) ?_))
      | apply WPc.exit
      | (refine WPc.rq tok rfl fun K hK => ?_; simp -implicitDefEqProofs +contextual [-Int.not_le, -Int.not_lt, -Nat.not_le, -Nat.not_lt, -List.all_eq_true, -List.all_eq_false, -List.any_eq_true, -List.any_eq_false, hlt]; (repeat1' (first | apply hK | apply And.intro | intro _)) <;> clear hK K <;> (try dsimp only [List.drop]))
      | (refine WPc.condF ?_ ?_; (focus (simp; done))))
    all_goals rfl
end Go.Own
set_option maxRecDepth 1000000
set_option maxHeartbeats 4000000
namespace Go.Own
attribute [local irreducible] WPc WPL WPS WPS1 WPS2 HAny endP
variable [Laid]
open Go.Lib Go.RowKit
def mt (k : Int) : ByteArray := if k ≤ 0 then ⟨#[109, 48]⟩ else ⟨#[109]⟩ ++ dec k
theorem c_laws_markText (k : Int) (h1 : k ≤ 9223372036854775807) : Con PP 61 [.sc (.int .i64 k)] [] [] (fun r o => r = .sc (.string (mt k))) := by
  by_cases hk : k ≤ 0
  · refine Con.of tok (nt := 20) Go.Proofs.Tryz.func61 (by kernel_rfl) rfl rfl rfl (Nat.le_of_ble_eq_true rfl) fun G => ?_
    simp only [entSt, tmOf, List.append_nil, List.cons_append, List.nil_append]
    repeat' (first
      | apply WPc.sq
      | (refine WPc.ret (endP.val (.inr rfl) rfl rfl (by simp; rfl) ?_))
      | (refine WPc.rq tok rfl fun K hK => ?_; simp -implicitDefEqProofs +contextual [-Int.not_le, -Int.not_lt, -Nat.not_le, -Nat.not_lt, -List.all_eq_true, -List.all_eq_false, -List.any_eq_true, -List.any_eq_false, hk]; (repeat1' (first | apply hK | apply And.intro | intro _)) <;> clear hK K <;> (try dsimp only [List.drop]))
      | (refine WPc.condT ?_ ?_; (focus (simp; done))))
    all_goals (simp [mt, hk])
  have hdiv : ∀ m out, DecI k m out → IntKind.i64.wrap (m.tdiv 10) = m.tdiv 10 := fun m out hI => by
    have := hI.le
    have h2 : (m.tdiv 10).natAbs = m.natAbs / 10 := by rw [Int.natAbs_tdiv]; rfl
    have := hI.pos (by omega)
    have := Int.tdiv_nonneg this (show (0 : Int) ≤ 10 by omega)
    exact wrap64 (by omega) (by omega)
  refine Con.of tok (nt := 20) Go.Proofs.Tryz.func61 (by kernel_rfl) rfl rfl rfl (Nat.le_of_ble_eq_true rfl) fun G => ?_
  simp only [entSt, tmOf, List.append_nil, List.cons_append, List.nil_append]
  repeat' (first
    | apply WPc.sq
    | apply WPc.block
    | apply WPc.skip
    | (refine WPc.rq tok rfl fun K hK => ?_; simp -implicitDefEqProofs +contextual [-Int.not_le, -Int.not_lt, -Nat.not_le, -Nat.not_lt, -List.all_eq_true, -List.all_eq_false, -List.any_eq_true, -List.any_eq_false, hk]; (repeat1' (first | apply hK | apply And.intro | intro _)) <;> clear hK K <;> (try dsimp only [List.drop]))
    | (refine WPc.condF ?_ ?_; (focus (simp; done))))
  refine WPc.loopK (σ := Int × ByteArray) (fun x => DecI k x.1 x.2) (fun x => x.1.natAbs) (fun x => [(0, .sc (.int .i64 x.1)), (3, .sc (.string x.2))])  [] (k, ⟨#[]⟩) (by simp) (by simp) (⟨by simp [ddig]; omega, by simp, fun h => by dsimp only; omega, by simp, by simp [ByteArray.size]⟩) ?_
  rintro ⟨m, out⟩ hI s hs
  simp at hs
  subst hs
  have hs := hI.sz
  dsimp only at hs hI
  have hp := hI.pos (by omega)
  by_cases hm : m = 0
  · subst hm
    have s1 : SAdd ⟨#[109]⟩ out := by unfold SAdd; have : (⟨#[109]⟩ : ByteArray).size = 1 := rfl; omega
    have he := hI.eq
    simp only [ddig, if_true, List.nil_append] at he
    have hd : dec k = out := by
      unfold dec itoa
      rw [if_neg (by omega), show k.toNat = k.natAbs by omega, he]
    repeat' (first
      | apply WPc.sq
      | (refine WPc.ret (endP.val (.inr rfl) rfl rfl (by simp; rfl) ?_))
      | apply WPc.exit
      | (refine WPc.rq tok rfl fun K hK => ?_; simp -implicitDefEqProofs +contextual [-Int.not_le, -Int.not_lt, -Nat.not_le, -Nat.not_lt, -List.all_eq_true, -List.all_eq_false, -List.any_eq_true, -List.any_eq_false, s1]; (repeat1' (first | apply hK | apply And.intro | intro _)) <;> clear hK K <;> (try dsimp only [List.drop]))
      | (refine WPc.condF ?_ ?_; (focus (simp; done))))
    all_goals (simp only [mt, if_neg hk, hd])
  · have hm2 : 0 < m := by omega
    have s1 : ∀ c : Int, SAdd (strOfNums [c]) out := fun c => by unfold SAdd; rw [strOfNums_size]; simp; omega
    have hb := digit_byte m
    have hg : ¬ m.tmod 10 < 0 := by have := Int.tmod_nonneg 10 (show 0 ≤ m by omega); omega
    rw [if_neg hg] at hb
    have hn := hI.next (by omega) hm
    have hmm : (m.tdiv 10).natAbs < m.natAbs := by rw [Int.natAbs_tdiv]; show m.natAbs / 10 < _; omega
    repeat' (first
      | apply WPc.sq
      | apply WPc.block
      | apply WPc.skip
      | (refine WPc.rq tok rfl fun K hK => ?_; simp -implicitDefEqProofs +contextual [-Int.not_le, -Int.not_lt, -Nat.not_le, -Nat.not_lt, -List.all_eq_true, -List.all_eq_false, -List.any_eq_true, -List.any_eq_false, hm2, s1]; (repeat1' (first | apply hK | apply And.intro | intro _)) <;> clear hK K <;> (try dsimp only [List.drop]))
      | (refine WPc.condT ?_ ?_; (focus (simp; done))))
    all_goals
      refine ⟨(m.tdiv 10, nextD m out), ⟨hn, by first | omega | (simp only; omega) | assumption⟩, rfl, rfl, ?_, ?_⟩ <;> simp (disch := omega) [wrap64, nextD, hb, hdiv _ _ hI]
def over (new old : List (List C)) (i : Nat) : List (List C) := new.take i ++ old.drop i
section
variable {new old : List (List C)} {i : Nat}
theorem over_zero : over new old 0 = old := by simp [over]
theorem over_all (h : new.length = old.length) : over new old old.length = new := by simp [over, List.take_of_length_le (Nat.le_of_eq h)]
theorem over_len (h : new.length = old.length) : (over new old i).length = old.length := by simp [over]; omega
theorem over_get (h : new.length = old.length) (hi : i < old.length) : (over new old i)[i]? = some old[i] := by
  unfold over
  rw [List.getElem?_append_right (by simp; omega), List.getElem?_drop]
  simp only [List.length_take, Nat.min_eq_left (show i ≤ new.length by omega), Nat.sub_self, Nat.add_zero]
  exact List.getElem?_eq_getElem hi
theorem over_ge (h : new.length = old.length) (hi : i < old.length) (p : i < (over new old i).length) : (over new old i)[i] = old[i] := by
  have := over_get (new := new) h hi
  rw [List.getElem?_eq_getElem p] at this
  exact Option.some.inj this
theorem over_next {g : List C → List C} (h : new.length = old.length) (hi : i < old.length) (hg : new[i]? = some (g old[i])) : (over new old i).modify i g = over new old (i + 1) := by
  apply List.ext_getElem?
  intro j
  rw [List.getElem?_modify]
  by_cases hj : i = j
  · subst hj
    rw [over_get h hi]
    unfold over
    rw [List.getElem?_append_left (by simp; omega), List.getElem?_take_of_lt (by omega), hg]
    simp
  · simp only [hj, if_false]
    unfold over
    by_cases h1 : j < i
    · rw [List.getElem?_append_left (by simp; omega), List.getElem?_append_left (by simp; omega), List.getElem?_take_of_lt h1, List.getElem?_take_of_lt (by omega)]
      simp
    · rw [List.getElem?_append_right (by simp; omega), List.getElem?_append_right (by simp; omega), List.getElem?_drop, List.getElem?_drop]
      simp only [List.length_take, Nat.min_eq_left (show i ≤ new.length by omega), Nat.min_eq_left (show i + 1 ≤ new.length by omega), Option.map_eq_map, Option.map_id']
      rw [show i + (j - i) = j by omega, show i + 1 + (j - (i + 1)) = j by omega]
end
def marksS (k : Int) (n : Nat) : List ByteArray := (List.range n).map fun i => mt (k + (i : Nat))
theorem marksS_len (k : Int) (n : Nat) : (marksS k n).length = n := by simp [marksS]
theorem c_laws_markStringS (l : List ByteArray) (k : Int) (h1 : -1000000000000 ≤ k) (h2 : k ≤ 1000000000000) (h3 : l.length ≤ 1000000000) : Con PP 62 [.sl 0 1 [] 0 l.length, .sc (.int .i64 k)] [(0, 9, 1, l.map sC)] [0] (fun r o => r = .sc (.int .i64 (k + l.length)) ∧ o = [(0, 9, 1, (marksS k l.length).map sC)]) := by
  have hm : ((marksS k l.length).map sC).length = (l.map sC).length := by simp [marksS]
  refine Con.of tok (nt := 20) Go.Proofs.Tryz.func62 (by kernel_rfl) rfl rfl rfl (Nat.le_of_ble_eq_true rfl) fun G => ?_
  simp only [entSt, tmOf, List.append_nil, List.cons_append, List.nil_append]
  repeat' (first
    | apply WPc.sq
    | apply WPc.block
    | (refine WPc.rq tok rfl fun K hK => ?_; simp -implicitDefEqProofs +contextual [-Int.not_le, -Int.not_lt, -Nat.not_le, -Nat.not_lt, -List.all_eq_true, -List.all_eq_false, -List.any_eq_true, -List.any_eq_false]; (repeat1' (first | apply hK | apply And.intro | intro _)) <;> clear hK K <;> (try dsimp only [List.drop])))
  refine WPc.loopV (σ := Nat) (fun i => i ≤ l.length) (fun i => l.length - i) (fun i => [(5, .sc (.int .i64 i)), (1, .sc (.int .i64 (k + i)))]) (fun i => [(0, 9, 1, over ((marksS k l.length).map sC) (l.map sC) i)]) [0, 20] 0 (by simp [over_zero]) (by simp [over_zero]) (by simp) ?_
  rintro i hi s hs
  simp at hs
  subst hs
  by_cases hlt : i < l.length
  · have hl := over_len (i := i) hm
    have hge := over_ge (i := i) hm (by simpa using hlt)
    have hn := over_next (i := i) (g := fun r => r.set 0 (.sc (.string (mt (k + i))))) hm (by simpa using hlt) (by simp [marksS, sC, hlt])
    simp only [List.length_map, List.getElem_map] at hl hge
    repeat' (first
      | apply WPc.sq
      | apply WPc.block
      | apply WPc.skip
      | refine WPL.nil ?_
      | (apply WPL.cL (c_laws_markText _ ?g1); (case q => (repeat' (first | refine And.intro ?_ ?_ | intro _ | exact cleanOut_nil | (refine Eqv.mk ?_; first | rfl | (simp -implicitDefEqProofs [sC, hlt, hl, hge]; done)) | (simp -implicitDefEqProofs [sC, hlt, hl, hge]; done) | (simp -implicitDefEqProofs [sC, hlt, hl, hge]; rfl) | (simp; done) | (simp; rfl) | rfl))); (case g1 => (first | assumption | omega)))
      | ((first | refine WPc.rq tok rfl fun K hK => ?_ | refine WPL.rn tok _ (by simp [ahead, isFn]; rfl) fun K hK => ?_); simp -implicitDefEqProofs +contextual [-Int.not_le, -Int.not_lt, -Nat.not_le, -Nat.not_lt, -List.all_eq_true, -List.all_eq_false, -List.any_eq_true, -List.any_eq_false, sC, hlt, hl, hge]; (repeat1' (first | apply hK | apply And.intro | intro _)) <;> clear hK K <;> (try dsimp only [List.drop]))
      | (refine WPc.region ?_; simp only [List.toList_toArray])
      | (refine WPc.condT ?_ ?_; (focus (simp; done))))
    refine ⟨i + 1, ⟨hlt, by first | omega | (simp only; omega) | assumption⟩, rfl, rfl, ?_, ?_⟩ <;> simp (disch := omega) [wrap64, hn]
    all_goals (refine fit_int ?_; omega)
  · obtain rfl : i = l.length := by omega
    have ha := over_all hm
    simp only [List.length_map] at ha
    repeat' (first
      | apply WPc.sq
      | (refine WPc.ret (endP.own [(0, 9, 1, (marksS k l.length).map sC)] (.inr rfl) rfl rfl (by simp; rfl) ?_ ?_ (by simp)))
      | apply WPc.exit
      | (refine WPc.rq tok rfl fun K hK => ?_; simp -implicitDefEqProofs +contextual [-Int.not_le, -Int.not_lt, -Nat.not_le, -Nat.not_lt, -List.all_eq_true, -List.all_eq_false, -List.any_eq_true, -List.any_eq_false]; (repeat1' (first | apply hK | apply And.intro | intro _)) <;> clear hK K <;> (try dsimp only [List.drop]))
      | (refine WPc.condF ?_ ?_; (focus (simp; done))))
    · simp [ha]
    · exact ⟨rfl, rfl⟩
def markV (k : Int) : V := ⟨k, k + 1, mt (k + 2)⟩
def marksV (k : Int) (n : Nat) : List V := (List.range n).map fun i => markV (k + 3 * (i : Nat))
theorem marksV_len (k : Int) (n : Nat) : (marksV k n).length = n := by simp [marksV]
theorem c_laws_markValueS (l : List V) (k : Int) (h1 : -1000000000000 ≤ k) (h2 : k ≤ 1000000000000) (h3 : l.length ≤ 1000000000) : Con PP 22 [.sl 0 3 [] 0 l.length, .sc (.int .i64 k)] [(0, 29, 3, l.map V.cs)] [0] (fun r o => r = .sc (.int .i64 (k + 3 * l.length)) ∧ o = [(0, 29, 3, (marksV k l.length).map V.cs)]) := by
  have hm : ((marksV k l.length).map V.cs).length = (l.map V.cs).length := by simp [marksV]
  refine Con.of tok (nt := 35) Go.Proofs.Tryz.func22 (by kernel_rfl) rfl rfl rfl (Nat.le_of_ble_eq_true rfl) fun G => ?_
  simp only [entSt, tmOf, List.append_nil, List.cons_append, List.nil_append]
  repeat' (first
    | apply WPc.sq
    | apply WPc.block
    | (refine WPc.rq tok rfl fun K hK => ?_; simp -implicitDefEqProofs +contextual [-Int.not_le, -Int.not_lt, -Nat.not_le, -Nat.not_lt, -List.all_eq_true, -List.all_eq_false, -List.any_eq_true, -List.any_eq_false]; (repeat1' (first | apply hK | apply And.intro | intro _)) <;> clear hK K <;> (try dsimp only [List.drop])))
  refine WPc.loopV (σ := Nat) (fun i => i ≤ l.length) (fun i => l.length - i) (fun i => [(5, .sc (.int .i64 i)), (1, .sc (.int .i64 (k + 3 * (i : Nat))))]) (fun i => [(0, 29, 3, over ((marksV k l.length).map V.cs) (l.map V.cs) i)]) [0, 35] 0 (by simp [over_zero]) (by simp [over_zero]) (by simp) ?_
  rintro i hi s hs
  simp at hs
  subst hs
  by_cases hlt : i < l.length
  · have hl := over_len (i := i) hm
    have hge := over_ge (i := i) hm (by simpa using hlt)
    have hn : (((over ((marksV k l.length).map V.cs) (l.map V.cs) i).modify i fun r => r.set 0 (.sc (.int .i64 (k + 3 * (i : Nat))))).modify i fun r => r.set 1 (.sc (.int .i64 (k + 3 * (i : Nat) + 1)))).modify i (fun r => r.set 2 (.sc (.string (mt (k + 3 * (i : Nat) + 2))))) = over ((marksV k l.length).map V.cs) (l.map V.cs) (i + 1) := by
      rw [List.modify_modify_eq, List.modify_modify_eq]
      exact over_next hm (by simpa using hlt) (by simp [marksV, markV, V.cs, hlt])
    simp only [List.length_map, List.getElem_map] at hl hge
    have e1 : IntKind.i64.wrap (k + 3 * (i : Nat) + 1) = k + 3 * (i : Nat) + 1 := wrap64 (by omega) (by omega)
    have e2 : IntKind.i64.wrap (k + 3 * (i : Nat) + 1 + 1) = k + 3 * (i : Nat) + 2 := by rw [wrap64 (by omega) (by omega)]; omega
    have e3 : IntKind.i64.wrap (k + 3 * (i : Nat) + 2 + 1) = k + 3 * (i : Nat) + 3 := by rw [wrap64 (by omega) (by omega)]; omega
    repeat' (first
      | apply WPc.sq
      | apply WPc.block
      | apply WPc.skip
      | refine WPL.nil ?_
      | (apply WPL.cL (c_laws_markText _ ?g1); (case q => (repeat' (first | refine And.intro ?_ ?_ | intro _ | exact cleanOut_nil | (refine Eqv.mk ?_; first | rfl | (simp -implicitDefEqProofs [V.cs, hlt, hl, hge, e1, e2, e3]; done)) | (simp -implicitDefEqProofs [V.cs, hlt, hl, hge, e1, e2, e3]; done) | (simp -implicitDefEqProofs [V.cs, hlt, hl, hge, e1, e2, e3]; rfl) | (simp; done) | (simp; rfl) | rfl))); (case g1 => (first | assumption | omega)))
      | ((first | refine WPc.rq tok rfl fun K hK => ?_ | refine WPL.rn tok _ (by simp [ahead, isFn]; rfl) fun K hK => ?_); simp -implicitDefEqProofs +contextual [-Int.not_le, -Int.not_lt, -Nat.not_le, -Nat.not_lt, -List.all_eq_true, -List.all_eq_false, -List.any_eq_true, -List.any_eq_false, V.cs, hlt, hl, hge, e1, e2, e3]; (repeat1' (first | apply hK | apply And.intro | intro _)) <;> clear hK K <;> (try dsimp only [List.drop]))
      | (refine WPc.region ?_; simp only [List.toList_toArray])
      | (refine WPc.condT ?_ ?_; (focus (simp; done))))
    refine ⟨i + 1, ⟨hlt, by first | omega | (simp only; omega) | assumption⟩, rfl, rfl, ?_, ?_⟩ <;> simp (disch := omega) [wrap64, hn]
    all_goals (refine fit_int ?_; omega)
  · obtain rfl : i = l.length := by omega
    have ha := over_all hm
    simp only [List.length_map] at ha
    repeat' (first
      | apply WPc.sq
      | (refine WPc.ret (endP.own [(0, 29, 3, (marksV k l.length).map V.cs)] (.inr rfl) rfl rfl (by simp; rfl) ?_ ?_ (by simp)))
      | apply WPc.exit
      | (refine WPc.rq tok rfl fun K hK => ?_; simp -implicitDefEqProofs +contextual [-Int.not_le, -Int.not_lt, -Nat.not_le, -Nat.not_lt, -List.all_eq_true, -List.all_eq_false, -List.any_eq_true, -List.any_eq_false]; (repeat1' (first | apply hK | apply And.intro | intro _)) <;> clear hK K <;> (try dsimp only [List.drop]))
      | (refine WPc.condF ?_ ?_; (focus (simp; done))))
    · simp [ha]
    · exact ⟨rfl, rfl⟩
end Go.Own
set_option maxRecDepth 1000000
set_option maxHeartbeats 4000000
namespace Go.Own
attribute [local irreducible] WPc WPL WPS WPS1 WPS2 HAny endP
variable [Laid]
open Go.Lib Go.RowKit
def markC (k : Int) (c : Cl) : Cl := ⟨k, mt (k + 1), k + 2, k + 3, marksS (k + 4) c.names.length, marksV (k + 4 + c.names.length) c.vals.length⟩
def mk (c : Cl) : Nat := 4 + c.names.length + 3 * c.vals.length
def marksC (k : Int) (h : List Cl) : List Cl := h.mapIdx fun i c => markC (k + sumTo mk h i) c
def sumC (h : List Cl) : Nat := (h.map mk).sum
theorem c_laws_markCellS (h : List Cl) (k : Int) (h1 : -1000000000 ≤ k) (h2 : k ≤ 1000000000) (h3 : h.length ≤ 1000000000) (h4 : sumC h ≤ 1000000000) : Con PP 21 [.sl 0 6 [] 0 h.length, .sc (.int .i64 k)] [(0, 88, 6, h.map Cl.ow)] [0] (fun r o => r = .sc (.int .i64 (k + sumC h)) ∧ o = [(0, 88, 6, (marksC k h).map Cl.ow)]) := by
  have hm : ((marksC k h).map Cl.ow).length = (h.map Cl.ow).length := by simp [marksC]
  refine Con.of tok (nt := 56) Go.Proofs.Tryz.func21 (by kernel_rfl) rfl rfl rfl (Nat.le_of_ble_eq_true rfl) fun G => ?_
  simp only [entSt, tmOf, List.append_nil, List.cons_append, List.nil_append]
  repeat' (first
    | apply WPc.sq
    | apply WPc.block
    | (refine WPc.rq tok rfl fun K hK => ?_; simp -implicitDefEqProofs +contextual [-Int.not_le, -Int.not_lt, -Nat.not_le, -Nat.not_lt, -List.all_eq_true, -List.all_eq_false, -List.any_eq_true, -List.any_eq_false]; (repeat1' (first | apply hK | apply And.intro | intro _)) <;> clear hK K <;> (try dsimp only [List.drop])))
  refine WPc.loopV (σ := Nat) (fun i => i ≤ h.length) (fun i => h.length - i) (fun i => [(5, .sc (.int .i64 i)), (1, .sc (.int .i64 (k + sumTo mk h i)))]) (fun i => [(0, 88, 6, over ((marksC k h).map Cl.ow) (h.map Cl.ow) i)]) [0, 56] 0 (by simp [over_zero, sumTo_zero]) (by simp [over_zero, sumTo_zero]) (by simp) ?_
  rintro i hi s hs
  simp at hs
  subst hs
  by_cases hlt : i < h.length
  · have hl := over_len (i := i) hm
    have hge := over_ge (i := i) hm (by simpa using hlt)
    have hgo := over_get (i := i) hm (by simpa using hlt)
    simp only [List.length_map, List.getElem_map] at hl hge hgo
    have hs := sumTo_next (f := mk) hlt
    have hsl := sumTo_le mk h (i + 1)
    have hmk : mk h[i] = 4 + h[i].names.length + 3 * h[i].vals.length := rfl
    unfold sumC at h4
    have e1 : IntKind.i64.wrap (k + sumTo mk h i + 1) = k + sumTo mk h i + 1 := wrap64 (by omega) (by omega)
    have e2 : IntKind.i64.wrap (k + sumTo mk h i + 1 + 1) = k + sumTo mk h i + 2 := by rw [wrap64 (by omega) (by omega)]; omega
    have e3 : IntKind.i64.wrap (k + sumTo mk h i + 2 + 1) = k + sumTo mk h i + 3 := by rw [wrap64 (by omega) (by omega)]; omega
    have e4 : IntKind.i64.wrap (k + sumTo mk h i + 3 + 1) = k + sumTo mk h i + 4 := by rw [wrap64 (by omega) (by omega)]; omega
    have hn1 : h[i].names.length ≤ 1000000000 := by omega
    have hn2 : h[i].vals.length ≤ 1000000000 := by omega
    have hn : ∀ u v : C, ((((((((over ((marksC k h).map Cl.ow) (h.map Cl.ow) i).modify i fun r => r.set 0 (.sc (.int .i64 (k + sumTo mk h i)))).modify i fun r => r.set 1 (.sc (.string (mt (k + sumTo mk h i + 1))))).modify i fun r => r.set 2 (.sc (.int .i64 (k + sumTo mk h i + 2)))).modify i fun r => r.set 3 (.sc (.int .i64 (k + sumTo mk h i + 3)))).modify i fun r => r.set 4 u).modify i fun r => r.set 4 (.sl 9 1 ((marksS (k + sumTo mk h i + 4) h[i].names.length).map sC))).modify i fun r => r.set 5 v).modify i (fun r => r.set 5 (.sl 29 3 ((marksV (k + sumTo mk h i + 4 + h[i].names.length) h[i].vals.length).map V.cs))) = over ((marksC k h).map Cl.ow) (h.map Cl.ow) (i + 1) := fun u v => by
      rw [List.modify_modify_eq, List.modify_modify_eq, List.modify_modify_eq, List.modify_modify_eq, List.modify_modify_eq, List.modify_modify_eq, List.modify_modify_eq]
      exact over_next hm (by simpa using hlt) (by simp [marksC, markC, Cl.ow, hlt])
    repeat' (first
      | (refine WPL.focAt 47 0 900001 1056 [] i 4 ?_ ?_; (focus (simp; done)); refine fun u K hK => ?_; simp -implicitDefEqProofs +contextual [-Int.not_le, -Int.not_lt, -Nat.not_le, -Nat.not_lt, -List.all_eq_true, -List.all_eq_false, -List.any_eq_true, -List.any_eq_false, Cl.ow, hlt, hl, hge, hgo, e1, e2, e3, e4, marksS_len, marksV_len]; (repeat1' (first | apply hK | apply And.intro | intro _)) <;> clear hK K)
      | (refine WPL.attAt (some 1) 0 900001 1056 [] i 4 ?_ rfl ?_; (focus (simp; done)); refine fun K hK => ?_; simp -implicitDefEqProofs +contextual [-Int.not_le, -Int.not_lt, -Nat.not_le, -Nat.not_lt, -List.all_eq_true, -List.all_eq_false, -List.any_eq_true, -List.any_eq_false, Cl.ow, hlt, hl, hge, hgo, e1, e2, e3, e4, marksS_len, marksV_len]; (repeat1' (first | apply hK | apply And.intro | intro _)) <;> clear hK K)
      | (refine WPL.focAt 54 0 900002 1056 [] i 5 ?_ ?_; (focus (simp; done)); refine fun u K hK => ?_; simp -implicitDefEqProofs +contextual [-Int.not_le, -Int.not_lt, -Nat.not_le, -Nat.not_lt, -List.all_eq_true, -List.all_eq_false, -List.any_eq_true, -List.any_eq_false, Cl.ow, hlt, hl, hge, hgo, e1, e2, e3, e4, marksS_len, marksV_len]; (repeat1' (first | apply hK | apply And.intro | intro _)) <;> clear hK K)
      | (refine WPL.attAt (some 1) 0 900002 1056 [] i 5 ?_ rfl ?_; (focus (simp; done)); refine fun K hK => ?_; simp -implicitDefEqProofs +contextual [-Int.not_le, -Int.not_lt, -Nat.not_le, -Nat.not_lt, -List.all_eq_true, -List.all_eq_false, -List.any_eq_true, -List.any_eq_false, Cl.ow, hlt, hl, hge, hgo, e1, e2, e3, e4, marksS_len, marksV_len]; (repeat1' (first | apply hK | apply And.intro | intro _)) <;> clear hK K)
      | ((first | refine WPL.rnTo tok 47 _ (by simp [isFn]; rfl) fun K hK => ?_ | refine WPL.rnTo tok 54 _ (by simp [isFn]; rfl) fun K hK => ?_ | refine WPc.rq tok rfl fun K hK => ?_ | refine WPL.rn tok _ (by simp [ahead, isFn]; rfl) fun K hK => ?_); simp -implicitDefEqProofs +contextual [-Int.not_le, -Int.not_lt, -Nat.not_le, -Nat.not_lt, -List.all_eq_true, -List.all_eq_false, -List.any_eq_true, -List.any_eq_false, Cl.ow, hlt, hl, hge, hgo, e1, e2, e3, e4, marksS_len, marksV_len]; (repeat1' (first | apply hK | apply And.intro | intro _)) <;> clear hK K <;> (try dsimp only [List.drop]))
      | apply WPc.sq
      | apply WPc.block
      | apply WPc.skip
      | refine WPL.nil ?_
      | (apply WPL.cL (c_laws_markText _ ?g1); (case q => (repeat' (first | refine And.intro ?_ ?_ | intro _ | exact cleanOut_nil | (refine Eqv.mk ?_; first | rfl | (simp -implicitDefEqProofs [Cl.ow, hlt, hl, hge, hgo, e1, e2, e3, e4, marksS_len, marksV_len]; done)) | (simp -implicitDefEqProofs [Cl.ow, hlt, hl, hge, hgo, e1, e2, e3, e4, marksS_len, marksV_len]; done) | (simp -implicitDefEqProofs [Cl.ow, hlt, hl, hge, hgo, e1, e2, e3, e4, marksS_len, marksV_len]; rfl) | (simp; done) | (simp; rfl) | rfl))); (case g1 => (first | assumption | omega)))
      | (apply WPL.cU (c_laws_markStringS _ _ ?g1 ?g2 ?g3); (case q => (repeat' (first | refine And.intro ?_ ?_ | intro _ | exact cleanOut_nil | (refine Eqv.mk ?_; first | rfl | (simp -implicitDefEqProofs [Cl.ow, hlt, hl, hge, hgo, e1, e2, e3, e4, marksS_len, marksV_len]; done)) | (simp -implicitDefEqProofs [Cl.ow, hlt, hl, hge, hgo, e1, e2, e3, e4, marksS_len, marksV_len]; done) | (simp -implicitDefEqProofs [Cl.ow, hlt, hl, hge, hgo, e1, e2, e3, e4, marksS_len, marksV_len]; rfl) | (simp; done) | (simp; rfl) | rfl))); (case g1 => (first | assumption | omega)); (case g2 => (first | assumption | omega)); (case g3 => (first | assumption | omega)))
      | (apply WPL.cU (c_laws_markValueS _ _ ?g1 ?g2 ?g3); (case q => (repeat' (first | refine And.intro ?_ ?_ | intro _ | exact cleanOut_nil | (refine Eqv.mk ?_; first | rfl | (simp -implicitDefEqProofs [Cl.ow, hlt, hl, hge, hgo, e1, e2, e3, e4, marksS_len, marksV_len]; done)) | (simp -implicitDefEqProofs [Cl.ow, hlt, hl, hge, hgo, e1, e2, e3, e4, marksS_len, marksV_len]; done) | (simp -implicitDefEqProofs [Cl.ow, hlt, hl, hge, hgo, e1, e2, e3, e4, marksS_len, marksV_len]; rfl) | (simp; done) | (simp; rfl) | rfl))); (case g1 => (first | assumption | omega)); (case g2 => (first | assumption | omega)); (case g3 => (first | assumption | omega)))
      | (refine WPc.region ?_; simp only [List.toList_toArray])
      | (refine WPc.condT ?_ ?_; (focus (simp; done))))
    refine ⟨i + 1, ⟨hlt, by first | omega | (simp only; omega) | assumption⟩, rfl, rfl, ?_, ?_⟩ <;> simp (disch := omega) [wrap64, hn]
    all_goals (refine fit_int ?_; omega)
  · obtain rfl : i = h.length := by omega
    have ha := over_all hm
    simp only [List.length_map] at ha
    repeat' (first
      | apply WPc.sq
      | (refine WPc.ret (endP.own [(0, 88, 6, (marksC k h).map Cl.ow)] (.inr rfl) rfl rfl (by simp; rfl) ?_ ?_ (by simp)))
      | apply WPc.exit
      | (refine WPc.rq tok rfl fun K hK => ?_; simp -implicitDefEqProofs +contextual [-Int.not_le, -Int.not_lt, -Nat.not_le, -Nat.not_lt, -List.all_eq_true, -List.all_eq_false, -List.any_eq_true, -List.any_eq_false]; (repeat1' (first | apply hK | apply And.intro | intro _)) <;> clear hK K <;> (try dsimp only [List.drop]))
      | (refine WPc.condF ?_ ?_; (focus (simp; done))))
    · simp [ha]
    · refine ⟨?_, rfl⟩
      rw [sumTo_all]; rfl
end Go.Own
set_option maxRecDepth 1000000
set_option maxHeartbeats 4000000
namespace Go.Own
attribute [local irreducible] WPc WPL WPS WPS1 WPS2 HAny endP
variable [Laid]
open Go.Lib Go.RowKit
theorem marksS_get (k : Int) (n i : Nat) (hi : i < (marksS k n).length) : (marksS k n)[i] = mt (k + i) := by simp [marksS]
theorem marksV_get (k : Int) (n i : Nat) (hi : i < (marksV k n).length) : (marksV k n)[i] = markV (k + 3 * i) := by simp [marksV]
theorem marksC_get (k : Int) (h : List Cl) (i : Nat) (hi : i < h.length) (hi' : i < (marksC k h).length) : (marksC k h)[i] = markC (k + sumTo mk h i) h[i] := by simp [marksC]
theorem marksC_len (k : Int) (h : List Cl) : (marksC k h).length = h.length := by simp [marksC]
theorem c_laws_heldStringS (n : Nat) (k : Int) (h1 : -1000000000000 ≤ k) (h2 : k ≤ 1000000000000) (h3 : n ≤ 1000000000) : Con PP 63 [.fz ((marksS k n).map sC), .sc (.int .i64 k)] [] [] (fun r o => r = .sc (.int .i64 (k + n))) := by
  have hml := marksS_len k n
  refine Con.of tok (nt := 22) Go.Proofs.Tryz.func63 (by kernel_rfl) rfl rfl rfl (Nat.le_of_ble_eq_true rfl) fun G => ?_
  simp only [entSt, tmOf, List.append_nil, List.cons_append, List.nil_append]
  repeat' (first
    | apply WPc.sq
    | apply WPc.block
    | (refine WPc.rq tok rfl fun K hK => ?_; simp -implicitDefEqProofs +contextual [-Int.not_le, -Int.not_lt, -Nat.not_le, -Nat.not_lt, -List.all_eq_true, -List.all_eq_false, -List.any_eq_true, -List.any_eq_false]; (repeat1' (first | apply hK | apply And.intro | intro _)) <;> clear hK K <;> (try dsimp only [List.drop])))
  refine WPc.loopK (σ := Nat) (fun i => i ≤ n) (fun i => n - i) (fun i => [(5, .sc (.int .i64 i)), (1, .sc (.int .i64 (k + i)))])  [0] 0 (by simp) (by simp) (by simp) ?_
  rintro i hi s hs
  simp at hs
  subst hs
  by_cases hlt : i < n
  · have hg := marksS_get k n i
    repeat' (first
      | apply WPc.sq
      | apply WPc.block
      | apply WPc.skip
      | (apply WPS.cL (hc := (c_laws_markText _ ?g1)); (case ho => exact rfl); (case q => (repeat' (first | refine And.intro ?_ ?_ | intro _ | exact cleanOut_nil | (refine Eqv.mk ?_; first | rfl | (simp -implicitDefEqProofs [sC, hlt, hml, hg]; done)) | (simp -implicitDefEqProofs [sC, hlt, hml, hg]; done) | (simp -implicitDefEqProofs [sC, hlt, hml, hg]; rfl) | (simp; done) | (simp; rfl) | rfl))); (case g1 => (first | assumption | omega)))
      | ((first | refine WPc.rq tok rfl fun K hK => ?_ | refine WPS.rn tok _ (by simp [aheadS]; rfl) fun K hK => ?_); simp -implicitDefEqProofs +contextual [-Int.not_le, -Int.not_lt, -Nat.not_le, -Nat.not_lt, -List.all_eq_true, -List.all_eq_false, -List.any_eq_true, -List.any_eq_false, sC, hlt, hml, hg]; (repeat1' (first | apply hK | apply And.intro | intro _)) <;> clear hK K <;> (try dsimp only [List.drop]))
      | (refine WPc.sched (id := 4) tok [] [(0, []), (1, []), (2, []), (3, []), (4, []), (5, []), (6, [])] (by kernel_rfl) ?_)
      | (refine WPS.nil ?_)
      | (refine WPc.condT ?_ ?_; (focus (simp; done)))
      | (refine WPc.condF ?_ ?_; (focus (simp; done))))
    all_goals
      refine ⟨i + 1, ⟨hlt, by first | omega | (simp only; omega) | assumption⟩, rfl, rfl, ?_, ?_⟩ <;> simp (disch := omega) [wrap64]
    all_goals (refine fit_int ?_; omega)
  · obtain rfl : i = n := by omega
    repeat' (first
      | apply WPc.sq
      | (refine WPc.ret (endP.val (.inr rfl) rfl rfl (by simp; rfl) ?_))
      | apply WPc.exit
      | (refine WPc.rq tok rfl fun K hK => ?_; simp -implicitDefEqProofs +contextual [-Int.not_le, -Int.not_lt, -Nat.not_le, -Nat.not_lt, -List.all_eq_true, -List.all_eq_false, -List.any_eq_true, -List.any_eq_false, hml]; (repeat1' (first | apply hK | apply And.intro | intro _)) <;> clear hK K <;> (try dsimp only [List.drop]))
      | (refine WPc.condF ?_ ?_; (focus (simp; done))))
    all_goals rfl
theorem c_laws_heldValueS (n : Nat) (k : Int) (h1 : -1000000000000 ≤ k) (h2 : k ≤ 1000000000000) (h3 : n ≤ 1000000000) : Con PP 64 [.fz ((marksV k n).map V.cs), .sc (.int .i64 k)] [] [] (fun r o => r = .sc (.int .i64 (k + 3 * n))) := by
  have hml := marksV_len k n
  refine Con.of tok (nt := 41) Go.Proofs.Tryz.func64 (by kernel_rfl) rfl rfl rfl (Nat.le_of_ble_eq_true rfl) fun G => ?_
  simp only [entSt, tmOf, List.append_nil, List.cons_append, List.nil_append]
  repeat' (first
    | apply WPc.sq
    | apply WPc.block
    | (refine WPc.rq tok rfl fun K hK => ?_; simp -implicitDefEqProofs +contextual [-Int.not_le, -Int.not_lt, -Nat.not_le, -Nat.not_lt, -List.all_eq_true, -List.all_eq_false, -List.any_eq_true, -List.any_eq_false]; (repeat1' (first | apply hK | apply And.intro | intro _)) <;> clear hK K <;> (try dsimp only [List.drop])))
  refine WPc.loopK (σ := Nat) (fun i => i ≤ n) (fun i => n - i) (fun i => [(5, .sc (.int .i64 i)), (1, .sc (.int .i64 (k + 3 * (i : Nat))))])  [0] 0 (by simp) (by simp) (by simp) ?_
  rintro i hi s hs
  simp at hs
  subst hs
  by_cases hlt : i < n
  · have hg := marksV_get k n i
    have e1 : IntKind.i64.wrap (k + 3 * (i : Nat) + 1) = k + 3 * (i : Nat) + 1 := wrap64 (by omega) (by omega)
    have e2 : IntKind.i64.wrap (k + 3 * (i : Nat) + 1 + 1) = k + 3 * (i : Nat) + 2 := by rw [wrap64 (by omega) (by omega)]; omega
    repeat' (first
      | apply WPc.sq
      | apply WPc.block
      | apply WPc.skip
      | (apply WPS.cL (hc := (c_laws_markText _ ?g1)); (case ho => exact rfl); (case q => (repeat' (first | refine And.intro ?_ ?_ | intro _ | exact cleanOut_nil | (refine Eqv.mk ?_; first | rfl | (simp -implicitDefEqProofs [V.cs, markV, hlt, hml, hg, e1, e2]; done)) | (simp -implicitDefEqProofs [V.cs, markV, hlt, hml, hg, e1, e2]; done) | (simp -implicitDefEqProofs [V.cs, markV, hlt, hml, hg, e1, e2]; rfl) | (simp; done) | (simp; rfl) | rfl))); (case g1 => (first | assumption | omega)))
      | ((first | refine WPc.rq tok rfl fun K hK => ?_ | refine WPS.rn tok _ (by simp [aheadS]; rfl) fun K hK => ?_); simp -implicitDefEqProofs +contextual [-Int.not_le, -Int.not_lt, -Nat.not_le, -Nat.not_lt, -List.all_eq_true, -List.all_eq_false, -List.any_eq_true, -List.any_eq_false, V.cs, markV, hlt, hml, hg, e1, e2]; (repeat1' (first | apply hK | apply And.intro | intro _)) <;> clear hK K <;> (try dsimp only [List.drop]))
      | (refine WPc.sched (id := 10) tok [] [(0, []), (1, []), (2, []), (3, []), (4, []), (5, []), (6, []), (7, [])] (by kernel_rfl) ?_)
      | (refine WPS.nil ?_)
      | (refine WPc.condT ?_ ?_; (focus (simp; done)))
      | (refine WPc.condF ?_ ?_; (focus (simp; done))))
    all_goals
      refine ⟨i + 1, ⟨hlt, by first | omega | (simp only; omega) | assumption⟩, rfl, rfl, ?_, ?_⟩ <;> simp (disch := omega) [wrap64]
    all_goals (refine fit_int ?_; omega)
  · obtain rfl : i = n := by omega
    repeat' (first
      | apply WPc.sq
      | (refine WPc.ret (endP.val (.inr rfl) rfl rfl (by simp; rfl) ?_))
      | apply WPc.exit
      | (refine WPc.rq tok rfl fun K hK => ?_; simp -implicitDefEqProofs +contextual [-Int.not_le, -Int.not_lt, -Nat.not_le, -Nat.not_lt, -List.all_eq_true, -List.all_eq_false, -List.any_eq_true, -List.any_eq_false, hml]; (repeat1' (first | apply hK | apply And.intro | intro _)) <;> clear hK K <;> (try dsimp only [List.drop]))
      | (refine WPc.condF ?_ ?_; (focus (simp; done))))
    all_goals rfl
theorem c_laws_heldCellS (h : List Cl) (k : Int) (h1 : 0 ≤ k) (h2 : k ≤ 1000000000) (h3 : h.length ≤ 1000000000) (h4 : sumC h ≤ 1000000000) : Con PP 23 [.fz ((marksC k h).map Cl.cs), .sc (.int .i64 k)] [] [] (fun r o => r = .sc (.int .i64 (k + sumC h))) := by
  have hml := marksC_len k h
  refine Con.of tok (nt := 68) Go.Proofs.Tryz.func23 (by kernel_rfl) rfl rfl rfl (Nat.le_of_ble_eq_true rfl) fun G => ?_
  simp only [entSt, tmOf, List.append_nil, List.cons_append, List.nil_append]
  repeat' (first
    | apply WPc.sq
    | apply WPc.block
    | (refine WPc.rq tok rfl fun K hK => ?_; simp -implicitDefEqProofs +contextual [-Int.not_le, -Int.not_lt, -Nat.not_le, -Nat.not_lt, -List.all_eq_true, -List.all_eq_false, -List.any_eq_true, -List.any_eq_false]; (repeat1' (first | apply hK | apply And.intro | intro _)) <;> clear hK K <;> (try dsimp only [List.drop])))
  refine WPc.loopK (σ := Nat) (fun i => i ≤ h.length) (fun i => h.length - i) (fun i => [(5, .sc (.int .i64 i)), (1, .sc (.int .i64 (k + sumTo mk h i)))])  [0] 0 (by simp [sumTo_zero]) (by simp [sumTo_zero]) (by simp) ?_
  rintro i hi s hs
  simp at hs
  subst hs
  by_cases hlt : i < h.length
  · have hg := marksC_get k h i hlt
    have hs := sumTo_next (f := mk) hlt
    have hsl := sumTo_le mk h (i + 1)
    have hmk : mk h[i] = 4 + h[i].names.length + 3 * h[i].vals.length := rfl
    unfold sumC at h4
    have e1 : IntKind.i64.wrap (k + sumTo mk h i + 1) = k + sumTo mk h i + 1 := wrap64 (by omega) (by omega)
    have e2 : IntKind.i64.wrap (k + sumTo mk h i + 1 + 1) = k + sumTo mk h i + 2 := by rw [wrap64 (by omega) (by omega)]; omega
    have e3 : IntKind.i64.wrap (k + sumTo mk h i + 2 + 1) = k + sumTo mk h i + 3 := by rw [wrap64 (by omega) (by omega)]; omega
    have e4 : IntKind.i64.wrap (k + sumTo mk h i + 3 + 1) = k + sumTo mk h i + 4 := by rw [wrap64 (by omega) (by omega)]; omega
    repeat' (first
      | apply WPc.sq
      | apply WPc.block
      | apply WPc.skip
      | refine WPL.nil ?_
      | (apply WPL.cL (c_laws_heldStringS _ _ ?g1 ?g2 ?g3); (case q => (repeat' (first | refine And.intro ?_ ?_ | intro _ | exact cleanOut_nil | (refine Eqv.mk ?_; first | rfl | (simp -implicitDefEqProofs [Cl.cs, markC, hlt, hml, hg, e1, e2, e3, e4]; done)) | (simp -implicitDefEqProofs [Cl.cs, markC, hlt, hml, hg, e1, e2, e3, e4]; done) | (simp -implicitDefEqProofs [Cl.cs, markC, hlt, hml, hg, e1, e2, e3, e4]; rfl) | (simp; done) | (simp; rfl) | rfl))); (case g1 => (first | assumption | omega)); (case g2 => (first | assumption | omega)); (case g3 => (first | assumption | omega)))
      | (apply WPL.cL (c_laws_heldValueS _ _ ?g1 ?g2 ?g3); (case q => (repeat' (first | refine And.intro ?_ ?_ | intro _ | exact cleanOut_nil | (refine Eqv.mk ?_; first | rfl | (simp -implicitDefEqProofs [Cl.cs, markC, hlt, hml, hg, e1, e2, e3, e4]; done)) | (simp -implicitDefEqProofs [Cl.cs, markC, hlt, hml, hg, e1, e2, e3, e4]; done) | (simp -implicitDefEqProofs [Cl.cs, markC, hlt, hml, hg, e1, e2, e3, e4]; rfl) | (simp; done) | (simp; rfl) | rfl))); (case g1 => (first | assumption | omega)); (case g2 => (first | assumption | omega)); (case g3 => (first | assumption | omega)))
      | (apply WPS.cL (hc := (c_laws_markText _ ?g1)); (case ho => exact rfl); (case q => (repeat' (first | refine And.intro ?_ ?_ | intro _ | exact cleanOut_nil | (refine Eqv.mk ?_; first | rfl | (simp -implicitDefEqProofs [Cl.cs, markC, hlt, hml, hg, e1, e2, e3, e4]; done)) | (simp -implicitDefEqProofs [Cl.cs, markC, hlt, hml, hg, e1, e2, e3, e4]; done) | (simp -implicitDefEqProofs [Cl.cs, markC, hlt, hml, hg, e1, e2, e3, e4]; rfl) | (simp; done) | (simp; rfl) | rfl))); (case g1 => (first | assumption | omega)))
      | ((first | refine WPc.rq tok rfl fun K hK => ?_ | refine WPL.rn tok _ (by simp [ahead, isFn]; rfl) fun K hK => ?_ | refine WPS.rn tok _ (by simp [aheadS]; rfl) fun K hK => ?_); simp -implicitDefEqProofs +contextual [-Int.not_le, -Int.not_lt, -Nat.not_le, -Nat.not_lt, -List.all_eq_true, -List.all_eq_false, -List.any_eq_true, -List.any_eq_false, Cl.cs, markC, hlt, hml, hg, e1, e2, e3, e4]; (repeat1' (first | apply hK | apply And.intro | intro _)) <;> clear hK K <;> (try dsimp only [List.drop]))
      | (refine WPc.sched (id := 7) tok [] [(0, []), (1, []), (2, []), (3, []), (4, []), (5, []), (6, []), (7, [])] (by kernel_rfl) ?_)
      | (refine WPS.nil ?_)
      | (refine WPc.region ?_; simp only [List.toList_toArray])
      | (refine WPc.condT ?_ ?_; (focus (simp; done)))
      | (refine WPc.condF ?_ ?_; (focus (simp; done)))
      | (refine WPc.cond (by simp [-Bool.not_eq_eq_eq_not]; rfl) (fun hq => ?_) (fun hq => ?_) <;> simp only [hq] <;> (try (exfalso; (simp only [decide_eq_true_eq, decide_eq_false_iff_not] at hq); omega))))
    all_goals
      refine ⟨i + 1, ⟨hlt, by first | omega | (simp only; omega) | assumption⟩, rfl, rfl, ?_, ?_⟩ <;> simp (disch := omega) [wrap64]
    all_goals (refine fit_int ?_; omega)
  · obtain rfl : i = h.length := by omega
    repeat' (first
      | apply WPc.sq
      | (refine WPc.ret (endP.val (.inr rfl) rfl rfl (by simp; rfl) ?_))
      | apply WPc.exit
      | (refine WPc.rq tok rfl fun K hK => ?_; simp -implicitDefEqProofs +contextual [-Int.not_le, -Int.not_lt, -Nat.not_le, -Nat.not_lt, -List.all_eq_true, -List.all_eq_false, -List.any_eq_true, -List.any_eq_false, hml]; (repeat1' (first | apply hK | apply And.intro | intro _)) <;> clear hK K <;> (try dsimp only [List.drop]))
      | (refine WPc.condF ?_ ?_; (focus (simp; done))))
    rw [sumTo_all]; rfl
end Go.Own
set_option maxRecDepth 1000000
set_option maxHeartbeats 8000000
namespace Go.Own
attribute [local irreducible] WPc WPL WPS WPS1 WPS2 HAny endP
variable [Laid]
open Go.Lib Go.RowKit
theorem mem_sum {α : Type} {f : α → Nat} {l : List α} {x : α} (h : x ∈ l) : f x ≤ (l.map f).sum := by
  induction l with
  | nil => cases h
  | cons y l ih =>
    simp only [List.map_cons, List.sum_cons]
    rcases List.mem_cons.1 h with rfl | h
    · omega
    · have := ih h; omega
theorem sum_mk (h : List Cl) : sumC h ≤ 4 * costH h := by
  unfold sumC costH
  induction h with
  | nil => simp
  | cons c h ih =>
    simp only [List.map_cons, List.sum_cons, List.length_cons] at ih ⊢
    have : mk c ≤ 4 + 3 * costC c := by unfold mk costC costS costV; omega
    omega
theorem small {h : List Cl} (hc : costH h ≤ 1048576) : (∀ c, c ∈ h → c.sm) ∧ (∀ c, c ∈ h → c.rm) ∧ h.length ≤ 1048576 := by
  have hl : h.length ≤ costH h := by unfold costH; omega
  have hm : ∀ c, c ∈ h → costC c ≤ 1048576 := fun c hcm => by
    have := mem_sum (f := costC) hcm
    unfold costH at hc
    omega
  refine ⟨fun c hcm => ?_, fun c hcm => ?_, by omega⟩
  · have := hm c hcm
    unfold costC costS costV at this
    refine ⟨by omega, fun x hx => ?_, fun v hv => ?_⟩
    · have := mem_sum (f := ByteArray.size) hx; omega
    · have := mem_sum (f := fun v : V => v.s.size) hv
      unfold V.sm
      omega
  · have := hm c hcm
    unfold costC costS costV at this
    exact ⟨by omega, by omega⟩
theorem smallV {a : List V} (hc : costV a ≤ 1048576) : (∀ v, v ∈ a → v.sm) ∧ a.length ≤ 1048576 := by
  unfold costV at hc
  refine ⟨fun v hv => ?_, by omega⟩
  have := mem_sum (f := fun v : V => v.s.size) hv
  unfold V.sm
  omega
theorem pH_len (h : List Cl) (s : ByteArray) (a : List V) : (pH h s a).length ≤ h.length + 1 := by
  unfold pH primH allocH
  split
  · split
    · split
      · simp
      · omega
    · omega
  · omega
theorem pH_sum (h : List Cl) (s : ByteArray) (a : List V) : sumC (pH h s a) ≤ sumC h + 4 + 3 * a.length := by
  unfold pH primH allocH
  split
  · split
    · split
      · simp [sumC, consC, mk]; omega
      · omega
    · omega
  · omega
theorem c_laws_FnExactPrim [F : Facts.Of] (h : List Cl) (s : ByteArray) (a : List V) (h1 : s.size ≤ 9223372036854775807) (h2 : ∀ c, c ∈ h → c.tx) (h3 : ∀ v, v ∈ a → v.s.size ≤ 9223372036854775807) : Con PP 4 [.fz (h.map Cl.cs), .sc (.string s), .fz (a.map V.cs)] [] [] (fun r o => r = .sc (.bool true)) := by
  by_cases g1 : s.size ≤ 1048576
  · by_cases g2 : (costH h : Int) ≤ 1048576
    · have e2 : szR 1048576 (costH h) = 1048576 - costH h := szR_ok g2
      by_cases g3 : (costV a : Int) ≤ 1048576 - costH h
      · have e3 : szR (1048576 - costH h) (costV a) = 1048576 - costH h - costV a := szR_ok g3
        obtain ⟨s1, s2, s3⟩ := small (h := h) (by omega)
        obtain ⟨s4, s5⟩ := smallV (a := a) (by omega)
        have s6 := sum_mk h
        have s7 := pH_len h s a
        have s8 := pH_sum h s a
        have hdz : dzLL (List.take (pH h s a).length ((marksC 1 (pH h s a)).map Cl.ow)) = (marksC 1 (pH h s a)).map Cl.cs := by
          rw [List.take_of_length_le (by simp [marksC]), dz_ow]
        refine Con.of tok (nt := 151) Go.Proofs.Tryz.func4 (by kernel_rfl) rfl rfl rfl (Nat.le_of_ble_eq_true rfl) fun G => ?_
        simp only [entSt, tmOf, List.append_nil, List.cons_append, List.nil_append]
        repeat' (first
          | apply WPc.sq
          | (refine WPc.ret (endP.val (.inr rfl) rfl rfl (by simp; rfl) ?_))
          | apply WPc.skip
          | refine WPL.nil ?_
          | (apply WPL.cL (c_laws_szCellS _ _ ?g1 ?g2 ?g3); (case q => (repeat' (first | refine And.intro ?_ ?_ | intro _ | exact cleanOut_nil | (refine Eqv.mk ?_; first | rfl | (simp -implicitDefEqProofs [e2, e3, PrimR, heapR, V.av, marksC_len, marksV_len, marksS_len, hdz]; done)) | (simp -implicitDefEqProofs [e2, e3, PrimR, heapR, V.av, marksC_len, marksV_len, marksS_len, hdz]; done) | (simp -implicitDefEqProofs [e2, e3, PrimR, heapR, V.av, marksC_len, marksV_len, marksS_len, hdz]; rfl) | (simp; done) | (simp; rfl) | rfl))); (case g1 => (first | assumption | omega)); (case g2 => (first | assumption | omega)); (case g3 => (first | assumption | omega)))
          | (apply WPL.cL (c_laws_szValueS _ _ ?g1 ?g2 ?g3); (case q => (repeat' (first | refine And.intro ?_ ?_ | intro _ | exact cleanOut_nil | (refine Eqv.mk ?_; first | rfl | (simp -implicitDefEqProofs [e2, e3, PrimR, heapR, V.av, marksC_len, marksV_len, marksS_len, hdz]; done)) | (simp -implicitDefEqProofs [e2, e3, PrimR, heapR, V.av, marksC_len, marksV_len, marksS_len, hdz]; done) | (simp -implicitDefEqProofs [e2, e3, PrimR, heapR, V.av, marksC_len, marksV_len, marksS_len, hdz]; rfl) | (simp; done) | (simp; rfl) | rfl))); (case g1 => (first | assumption | omega)); (case g2 => (first | assumption | omega)); (case g3 => (first | assumption | omega)))
          | (apply WPL.cU (c_laws_toCellS _ ?g1 ?g2); (case q => (repeat' (first | refine And.intro ?_ ?_ | intro _ | exact cleanOut_nil | (refine Eqv.mk ?_; first | rfl | (simp -implicitDefEqProofs [e2, e3, PrimR, heapR, V.av, marksC_len, marksV_len, marksS_len, hdz]; done)) | (simp -implicitDefEqProofs [e2, e3, PrimR, heapR, V.av, marksC_len, marksV_len, marksS_len, hdz]; done) | (simp -implicitDefEqProofs [e2, e3, PrimR, heapR, V.av, marksC_len, marksV_len, marksS_len, hdz]; rfl) | (simp; done) | (simp; rfl) | rfl))); (case g1 => (first | assumption | omega)); (case g2 => (first | assumption | omega)))
          | (apply WPL.cU (c_laws_toValueS _ ?g1); (case q => (repeat' (first | refine And.intro ?_ ?_ | intro _ | exact cleanOut_nil | (refine Eqv.mk ?_; first | rfl | (simp -implicitDefEqProofs [e2, e3, PrimR, heapR, V.av, marksC_len, marksV_len, marksS_len, hdz]; done)) | (simp -implicitDefEqProofs [e2, e3, PrimR, heapR, V.av, marksC_len, marksV_len, marksS_len, hdz]; done) | (simp -implicitDefEqProofs [e2, e3, PrimR, heapR, V.av, marksC_len, marksV_len, marksS_len, hdz]; rfl) | (simp; done) | (simp; rfl) | rfl))); (case g1 => (first | assumption | omega)))
          | (apply WPL.cU (c_spec_Prim _ _ _ ?g1 ?g2 ?g3 ?g4); (case q => (repeat' (first | refine And.intro ?_ ?_ | intro _ | exact cleanOut_nil | (refine Eqv.mk ?_; first | rfl | (simp -implicitDefEqProofs [e2, e3, PrimR, heapR, V.av, marksC_len, marksV_len, marksS_len, hdz]; done)) | (simp -implicitDefEqProofs [e2, e3, PrimR, heapR, V.av, marksC_len, marksV_len, marksS_len, hdz]; done) | (simp -implicitDefEqProofs [e2, e3, PrimR, heapR, V.av, marksC_len, marksV_len, marksS_len, hdz]; rfl) | (simp; done) | (simp; rfl) | rfl))); (case g1 => (first | assumption | omega)); (case g2 => (first | assumption | omega)); (case g3 => (first | assumption | omega)); (case g4 => (first | assumption | omega)))
          | (apply WPL.cU (c_impl_Prim _ _ _ ?g1 ?g2 ?g3 ?g4 ?g5); (case q => (repeat' (first | refine And.intro ?_ ?_ | intro _ | exact cleanOut_nil | (refine Eqv.mk ?_; first | rfl | (simp -implicitDefEqProofs [e2, e3, PrimR, heapR, V.av, marksC_len, marksV_len, marksS_len, hdz]; done)) | (simp -implicitDefEqProofs [e2, e3, PrimR, heapR, V.av, marksC_len, marksV_len, marksS_len, hdz]; done) | (simp -implicitDefEqProofs [e2, e3, PrimR, heapR, V.av, marksC_len, marksV_len, marksS_len, hdz]; rfl) | (simp; done) | (simp; rfl) | rfl))); (case g1 => (first | assumption | omega)); (case g2 => (first | assumption | omega)); (case g3 => (first | assumption | omega)); (case g4 => (first | assumption | omega)); (case g5 => (first | assumption | omega)))
          | (apply WPL.cL (c_laws_eqCellS _); (case q => (repeat' (first | refine And.intro ?_ ?_ | intro _ | exact cleanOut_nil | (refine Eqv.mk ?_; first | rfl | (simp -implicitDefEqProofs [e2, e3, PrimR, heapR, V.av, marksC_len, marksV_len, marksS_len, hdz]; done)) | (simp -implicitDefEqProofs [e2, e3, PrimR, heapR, V.av, marksC_len, marksV_len, marksS_len, hdz]; done) | (simp -implicitDefEqProofs [e2, e3, PrimR, heapR, V.av, marksC_len, marksV_len, marksS_len, hdz]; rfl) | (simp; done) | (simp; rfl) | rfl))))
          | (apply WPL.cL (c_laws_eqValue ⟨_, _, _⟩); (case q => (repeat' (first | refine And.intro ?_ ?_ | intro _ | exact cleanOut_nil | (refine Eqv.mk ?_; first | rfl | (simp -implicitDefEqProofs [e2, e3, PrimR, heapR, V.av, marksC_len, marksV_len, marksS_len, hdz]; done)) | (simp -implicitDefEqProofs [e2, e3, PrimR, heapR, V.av, marksC_len, marksV_len, marksS_len, hdz]; done) | (simp -implicitDefEqProofs [e2, e3, PrimR, heapR, V.av, marksC_len, marksV_len, marksS_len, hdz]; rfl) | (simp; done) | (simp; rfl) | rfl))))
          | (apply WPL.cL (c_laws_eqValueS _); (case q => (repeat' (first | refine And.intro ?_ ?_ | intro _ | exact cleanOut_nil | (refine Eqv.mk ?_; first | rfl | (simp -implicitDefEqProofs [e2, e3, PrimR, heapR, V.av, marksC_len, marksV_len, marksS_len, hdz]; done)) | (simp -implicitDefEqProofs [e2, e3, PrimR, heapR, V.av, marksC_len, marksV_len, marksS_len, hdz]; done) | (simp -implicitDefEqProofs [e2, e3, PrimR, heapR, V.av, marksC_len, marksV_len, marksS_len, hdz]; rfl) | (simp; done) | (simp; rfl) | rfl))))
          | (apply WPL.cU (c_laws_markCellS _ _ ?g1 ?g2 ?g3 ?g4); (case q => (repeat' (first | refine And.intro ?_ ?_ | intro _ | exact cleanOut_nil | (refine Eqv.mk ?_; first | rfl | (simp -implicitDefEqProofs [e2, e3, PrimR, heapR, V.av, marksC_len, marksV_len, marksS_len, hdz]; done)) | (simp -implicitDefEqProofs [e2, e3, PrimR, heapR, V.av, marksC_len, marksV_len, marksS_len, hdz]; done) | (simp -implicitDefEqProofs [e2, e3, PrimR, heapR, V.av, marksC_len, marksV_len, marksS_len, hdz]; rfl) | (simp; done) | (simp; rfl) | rfl))); (case g1 => (first | assumption | omega)); (case g2 => (first | assumption | omega)); (case g3 => (first | assumption | omega)); (case g4 => (first | assumption | omega)))
          | (apply WPL.cU (c_laws_markValueS _ _ ?g1 ?g2 ?g3); (case q => (repeat' (first | refine And.intro ?_ ?_ | intro _ | exact cleanOut_nil | (refine Eqv.mk ?_; first | rfl | (simp -implicitDefEqProofs [e2, e3, PrimR, heapR, V.av, marksC_len, marksV_len, marksS_len, hdz]; done)) | (simp -implicitDefEqProofs [e2, e3, PrimR, heapR, V.av, marksC_len, marksV_len, marksS_len, hdz]; done) | (simp -implicitDefEqProofs [e2, e3, PrimR, heapR, V.av, marksC_len, marksV_len, marksS_len, hdz]; rfl) | (simp; done) | (simp; rfl) | rfl))); (case g1 => (first | assumption | omega)); (case g2 => (first | assumption | omega)); (case g3 => (first | assumption | omega)))
          | (apply WPL.cL (c_laws_heldCellS _ _ ?g1 ?g2 ?g3 ?g4); (case q => (repeat' (first | refine And.intro ?_ ?_ | intro _ | exact cleanOut_nil | (refine Eqv.mk ?_; first | rfl | (simp -implicitDefEqProofs [e2, e3, PrimR, heapR, V.av, marksC_len, marksV_len, marksS_len, hdz]; done)) | (simp -implicitDefEqProofs [e2, e3, PrimR, heapR, V.av, marksC_len, marksV_len, marksS_len, hdz]; done) | (simp -implicitDefEqProofs [e2, e3, PrimR, heapR, V.av, marksC_len, marksV_len, marksS_len, hdz]; rfl) | (simp; done) | (simp; rfl) | rfl))); (case g1 => (first | assumption | omega)); (case g2 => (first | assumption | omega)); (case g3 => (first | assumption | omega)); (case g4 => (first | assumption | omega)))
          | (refine WPL.call0f ?_ ?_ ?_; (focus (simp; done)); (focus (simp; done)))
          | ((first | refine WPc.rq tok rfl fun K hK => ?_ | refine WPL.rn tok _ (by simp [ahead, isFn]; rfl) fun K hK => ?_); simp -implicitDefEqProofs +contextual [-Int.not_le, -Int.not_lt, -Nat.not_le, -Nat.not_lt, -List.all_eq_true, -List.all_eq_false, -List.any_eq_true, -List.any_eq_false, e2, e3, PrimR, heapR, V.av, marksC_len, marksV_len, marksS_len, hdz]; (repeat1' (first | apply hK | apply And.intro | intro _)) <;> clear hK K <;> (try dsimp only [List.drop]))
          | (refine WPc.region ?_; simp only [List.toList_toArray])
          | (refine WPc.condT ?_ ?_; (focus (simp; done)))
          | (refine WPc.condF ?_ ?_; (focus (simp; done)))
          | (refine WPc.cond (by simp [-Bool.not_eq_eq_eq_not]; rfl) (fun hq => ?_) (fun hq => ?_) <;> simp only [hq] <;> (try (exfalso; (simp only [decide_eq_true_eq, decide_eq_false_iff_not] at hq); omega))))
        all_goals first
          | rfl
          | (exfalso; omega)
      · have e3 : szR (1048576 - costH h) (costV a) = -1 := szR_no (by omega)
        refine Con.of tok (nt := 151) Go.Proofs.Tryz.func4 (by kernel_rfl) rfl rfl rfl (Nat.le_of_ble_eq_true rfl) fun G => ?_
        simp only [entSt, tmOf, List.append_nil, List.cons_append, List.nil_append]
        repeat' (first
          | apply WPc.sq
          | (refine WPc.ret (endP.val (.inr rfl) rfl rfl (by simp; rfl) ?_))
          | apply WPc.skip
          | refine WPL.nil ?_
          | (apply WPL.cL (c_laws_szCellS _ _ ?g1 ?g2 ?g3); (case q => (repeat' (first | refine And.intro ?_ ?_ | intro _ | exact cleanOut_nil | (refine Eqv.mk ?_; first | rfl | (simp -implicitDefEqProofs [e2, e3]; done)) | (simp -implicitDefEqProofs [e2, e3]; done) | (simp -implicitDefEqProofs [e2, e3]; rfl) | (simp; done) | (simp; rfl) | rfl))); (case g1 => (first | assumption | omega)); (case g2 => (first | assumption | omega)); (case g3 => (first | assumption | omega)))
          | (apply WPL.cL (c_laws_szValueS _ _ ?g1 ?g2 ?g3); (case q => (repeat' (first | refine And.intro ?_ ?_ | intro _ | exact cleanOut_nil | (refine Eqv.mk ?_; first | rfl | (simp -implicitDefEqProofs [e2, e3]; done)) | (simp -implicitDefEqProofs [e2, e3]; done) | (simp -implicitDefEqProofs [e2, e3]; rfl) | (simp; done) | (simp; rfl) | rfl))); (case g1 => (first | assumption | omega)); (case g2 => (first | assumption | omega)); (case g3 => (first | assumption | omega)))
          | ((first | refine WPc.rq tok rfl fun K hK => ?_ | refine WPL.rn tok _ (by simp [ahead, isFn]; rfl) fun K hK => ?_); simp -implicitDefEqProofs +contextual [-Int.not_le, -Int.not_lt, -Nat.not_le, -Nat.not_lt, -List.all_eq_true, -List.all_eq_false, -List.any_eq_true, -List.any_eq_false, e2, e3]; (repeat1' (first | apply hK | apply And.intro | intro _)) <;> clear hK K <;> (try dsimp only [List.drop]))
          | (refine WPc.region ?_; simp only [List.toList_toArray])
          | (refine WPc.condT ?_ ?_; (focus (simp; done)))
          | (refine WPc.cond (by simp [-Bool.not_eq_eq_eq_not]; rfl) (fun hq => ?_) (fun hq => ?_) <;> simp only [hq] <;> (try (exfalso; (simp only [decide_eq_true_eq, decide_eq_false_iff_not] at hq); omega))))
        all_goals rfl
    · have e2 : szR 1048576 (costH h) = -1 := szR_no (by omega)
      refine Con.of tok (nt := 151) Go.Proofs.Tryz.func4 (by kernel_rfl) rfl rfl rfl (Nat.le_of_ble_eq_true rfl) fun G => ?_
      simp only [entSt, tmOf, List.append_nil, List.cons_append, List.nil_append]
      repeat' (first
        | apply WPc.sq
        | (refine WPc.ret (endP.val (.inr rfl) rfl rfl (by simp; rfl) ?_))
        | apply WPc.skip
        | refine WPL.nil ?_
        | (apply WPL.cL (c_laws_szCellS _ _ ?g1 ?g2 ?g3); (case q => (repeat' (first | refine And.intro ?_ ?_ | intro _ | exact cleanOut_nil | (refine Eqv.mk ?_; first | rfl | (simp -implicitDefEqProofs [e2]; done)) | (simp -implicitDefEqProofs [e2]; done) | (simp -implicitDefEqProofs [e2]; rfl) | (simp; done) | (simp; rfl) | rfl))); (case g1 => (first | assumption | omega)); (case g2 => (first | assumption | omega)); (case g3 => (first | assumption | omega)))
        | ((first | refine WPc.rq tok rfl fun K hK => ?_ | refine WPL.rn tok _ (by simp [ahead, isFn]; rfl) fun K hK => ?_); simp -implicitDefEqProofs +contextual [-Int.not_le, -Int.not_lt, -Nat.not_le, -Nat.not_lt, -List.all_eq_true, -List.all_eq_false, -List.any_eq_true, -List.any_eq_false, e2]; (repeat1' (first | apply hK | apply And.intro | intro _)) <;> clear hK K <;> (try dsimp only [List.drop]))
        | (refine WPc.region ?_; simp only [List.toList_toArray])
        | (refine WPc.condT ?_ ?_; (focus (simp; done)))
        | (refine WPc.cond (by simp [-Bool.not_eq_eq_eq_not]; rfl) (fun hq => ?_) (fun hq => ?_) <;> simp only [hq] <;> (try (exfalso; (simp only [decide_eq_true_eq, decide_eq_false_iff_not] at hq); omega))))
      all_goals rfl
  · refine Con.of tok (nt := 151) Go.Proofs.Tryz.func4 (by kernel_rfl) rfl rfl rfl (Nat.le_of_ble_eq_true rfl) fun G => ?_
    simp only [entSt, tmOf, List.append_nil, List.cons_append, List.nil_append]
    repeat' (first
      | apply WPc.sq
      | (refine WPc.ret (endP.val (.inr rfl) rfl rfl (by simp; rfl) ?_))
      | (refine WPc.rq tok rfl fun K hK => ?_; simp -implicitDefEqProofs +contextual [-Int.not_le, -Int.not_lt, -Nat.not_le, -Nat.not_lt, -List.all_eq_true, -List.all_eq_false, -List.any_eq_true, -List.any_eq_false]; (repeat1' (first | apply hK | apply And.intro | intro _)) <;> clear hK K <;> (try dsimp only [List.drop]))
      | (refine WPc.cond (by simp [-Bool.not_eq_eq_eq_not]; rfl) (fun hq => ?_) (fun hq => ?_) <;> simp only [hq] <;> (try (exfalso; (simp only [decide_eq_true_eq, decide_eq_false_iff_not] at hq); omega))))
    all_goals rfl
end Go.Own
namespace Go.Own
variable {P : Program} {tt : Nat → Option TI} {w0 : World} {β0 : Blk} {st st' : St} {β : Blk} {a : Act} {w w' : World} [Laid]
attribute [simp] frzSt frzT frz1 frz0
def bC (x : Int) : List C := [.sc (.int .u8 x)]
class Code where
  u : Value
  b : List Int
  rd : ∀ w, Laid.ok w → FR (fun k => k < Laid.n) w (.fz (b.map bC)) u
  one : u.oneCell' = true
attribute [simp] Code.one
def codeS [K : Code] (st : St) (t : Nat) : St := { st with tm := (t, .fz (K.b.map bC)) :: st.tm }
attribute [simp] codeS
theorem schedF_tied {te : List (Nat × List Nat)} {ops : Array Oper} : ∀ {l : List (Nat × List Nat)} {listed : Array Bool}, schedF te ops listed l = true → tiedB te = true
  | [], listed, h => by simp only [schedF, Bool.and_eq_true] at h; exact h.2
  | (k, T) :: r, listed, h => by simp only [schedF, Bool.and_eq_true] at h; exact schedF_tied h.2
theorem tied_at : ∀ {te : List (Nat × List Nat)} (_ : tiedB te = true) {n : Nat} (_ : 500000 ≤ n) (_ : n < 900000) (e : Nat), n ∈ teOf te e → (n - 500000) % 100000 ∈ teOf te e
  | [], _, n, _, _, e, hm => by simp [teOf] at hm
  | (k, T) :: r, h, n, h1, h2, e, hm => by
    simp only [tiedB, List.all_cons, Bool.and_eq_true] at h
    simp only [teOf] at hm ⊢
    split
    · rename_i hk
      rw [if_pos hk] at hm
      have := List.all_eq_true.1 h.1 n hm
      simpa [h1, h2] using this
    · rename_i hk
      rw [if_neg hk] at hm
      exact tied_at (by simpa [tiedB] using h.2) h1 h2 e hm
theorem Rel.detS2 (hr : Rel w0 β0 st β a w) {id nid i j : Nat} {path : Pth} (h : Own.detS st id nid path i j = some st') :
    ∃ p, Rel w0 β0 st' (parted id p nid β) a w ∧ id < DD ∧ nid < DD := by
  unfold Own.detS at h
  split at h
  · rename_i e k es hlo
    split at h
    · rename_i ep kp row hn
      split at h
      · rename_i e1 k1 xs hc
        split at h
        · rename_i hq
          obtain ⟨q1, q2, q3⟩ := hq
          injection h with h
          subst h
          obtain ⟨r, hi, hj⟩ := cellIn_get hc
          obtain ⟨g1, g2⟩ := hr.detach q1 hlo hn hi hj
          refine ⟨_, ⟨g1.nt, g1.df, fun t => ?_, g1.ob, g1.uq, g1.lt, g1.fr, g1.old, g1.hs, g1.os, g1.tape, g1.output⟩, q2, q3⟩
          dsimp only
          rw [lk_renT]
          exact (hr.tm t).parted q1
        · simp at h
      · simp at h
    · simp at h
  · simp at h
theorem WPS.detAt {ops : Array Oper} {l : List (Nat × List Nat)} {Ψ : St → Prop} (d id nid : Nat) (path : Pth) (i j : Nat) (hd : dstS ops l = some d) (hn : (nid - 500000) % 100000 = id ∧ 500000 ≤ nid ∧ nid < 900000)
    (h : ∀ K : St → Prop, (∀ s, WPS P ops l s Ψ → K s) → ∃ s, Own.detS st id nid path i j = some s ∧ K s) : WPS P ops l st Ψ := by
  obtain ⟨s, h1, h2⟩ := h (fun s => WPS P ops l s Ψ) fun _ h => h
  intro te listed e1 e2 w0 β0 β a w hr
  obtain ⟨p, g1, g3, g4⟩ := hr.rel.detS2 h1
  refine wpAnyF_anti _ _ a w ?_ (h2 te listed e1 e2 w0 β0 _ a w (hr.next g1 parted_fr (below2 g3 g4)))
  rintro e b ⟨q1, q2⟩
  refine ⟨q1, fun id' p hb hm => ?_⟩
  simp only [parted] at hb
  split at hb
  · simp at hb
  · rename_i i0 p0 hp
    split at hb
    · simp at hb
    · split at hb
      · rename_i hc
        injection hb with hb
        injection hb with hb hb2
        subst hb
        have := tied_at (schedF_tied e2) (n := nid) (by omega) (by omega) e hm
        rw [hn.1] at this
        exact q2 _ _ hp (hc.1 ▸ this)
      · injection hb with hb
        injection hb with hb hb2
        exact q2 _ _ hp (hb ▸ hm)
def selO (ob : List (Nat × Root)) : List Nat → Option (List (Nat × Root))
  | [] => some []
  | i :: is => match lo ob i, selO ob is with
    | some r, some l => some ((i, r) :: l)
    | _, _ => none
theorem fitO_sel : ∀ {is : List Nat} {l : List (Nat × Root)}, selO st.ob is = some l → FitO st l
  | [], l, h => by simp only [selO, Option.some.injEq] at h; subst h; trivial
  | i :: is, l, h => by
    simp only [selO] at h
    split at h
    · rename_i r l' h1 h2
      injection h with h
      subst h
      exact ⟨⟨_, h1, .inl rfl⟩, fitO_sel h2⟩
    · simp at h
theorem endP.sel {nt : Nat} {rs : List ResultVar} {G : Nat → Value} {ins : List AV} {keep : List Nat} {Φ : AV → List (Nat × Root) → Prop} {e : Exit} {s : St} {r : AV} {ob' : List (Nat × Root)} (is : List Nat) (he : e = .normal ∨ e = .ret) (hs : s.nt = nt) (hg : s.G = G)
    (h : resA tt s rs = some r) (hO : selO s.ob is = some ob') (hΦ : Φ r ob') (hk : ∀ i, i ∈ keep → ∀ v, ins[i]? = some v → lk s.tm (nt + i) = v) : endP tt nt rs G ins keep Φ e s := endP.own ob' he hs hg h (fitO_sel hO) hΦ hk
attribute [simp] selO
end Go.Own
set_option maxRecDepth 1000000
set_option maxHeartbeats 4000000
namespace Go.Own
attribute [local irreducible] WPc WPL WPS WPS1 WPS2 HAny endP
variable [Laid]
open Go.Lib Go.RowKit
def nC (x : Int) : List C := [.sc (.int .i64 x)]
@[simp] theorem nC.len (c : Int) : (nC c).length = 1 := rfl
@[simp] theorem nC.frz (c : Int) : (nC c).map Own.frz = nC c := rfl
@[simp] theorem nC.pln (c : Int) : (nC c).all plainC = true := rfl
@[simp] theorem nC.lenA (l : List Int) : lenAll 1 (l.map nC) = true := lenAll_map nC.len l
@[simp] theorem nC.frzA (l : List Int) : frzAll (l.map nC) = l.map nC := frzAll_map nC.frz l
@[simp] theorem nC.plnA (l : List Int) : plainAll (l.map nC) = true := plainAll_map nC.pln l
structure Nd where
  k : Int
  n : Int
  s : ByteArray
  names : List ByteArray
  args : List Int
  deriving DecidableEq
def Nd.cs (c : Nd) : List C := [.sc (.int .i64 c.k), .sc (.int .i64 c.n), .sc (.string c.s), .fz (c.names.map sC), .fz (c.args.map nC)]
def Nd.av (c : Nd) : AV := .agg [.sc (.int .i64 c.k), .sc (.int .i64 c.n), .sc (.string c.s), .fz (c.names.map sC), .fz (c.args.map nC)]
def Nd.ow (c : Nd) : List C := [.sc (.int .i64 c.k), .sc (.int .i64 c.n), .sc (.string c.s), .sl 9 1 (c.names.map sC), .sl 3 1 (c.args.map nC)]
@[simp] theorem Nd.len (c : Nd) : c.cs.length = 5 := rfl
@[simp] theorem Nd.frz (c : Nd) : c.cs.map Own.frz = c.cs := rfl
@[simp] theorem Nd.pln (c : Nd) : c.cs.all plainC = true := rfl
@[simp] theorem Nd.lenA (l : List Nd) : lenAll 5 (l.map Nd.cs) = true := lenAll_map Nd.len l
@[simp] theorem Nd.frzA (l : List Nd) : frzAll (l.map Nd.cs) = l.map Nd.cs := frzAll_map Nd.frz l
@[simp] theorem Nd.plnA (l : List Nd) : plainAll (l.map Nd.cs) = true := plainAll_map Nd.pln l
@[simp] theorem Nd.lenO (c : Nd) : c.ow.length = 5 := rfl
@[simp] theorem Nd.lenOA (l : List Nd) : lenAll 5 (l.map Nd.ow) = true := lenAll_map Nd.lenO l
theorem dz_nC (l : List Int) : dzLL (l.map nC) = l.map nC := by rw [dzLL_map, List.map_map]; rfl
attribute [simp] dz_nC
@[simp] theorem dz_nC1 (l : List Int) : dzLL (List.take l.length (l.map nC)) = l.map nC := by
  rw [List.take_of_length_le (by simp), dz_nC]
@[simp] theorem dz_nd (h : List Nd) : dzLL (h.map Nd.ow) = h.map Nd.cs := by
  rw [dzLL_map, List.map_map]
  refine List.map_congr_left fun c _ => ?_
  simp [Nd.ow, Nd.cs, dzL, deepFz, dz_sC]
@[simp] theorem dz_nd1 (h : List Nd) : dzLL (List.take h.length (h.map Nd.ow)) = h.map Nd.cs := by
  rw [List.take_of_length_le (by simp), dz_nd]
@[simp] theorem sc_nC (l : List Int) : scLL (l.map nC) = true := by
  induction l with
  | nil => rfl
  | cons x l ih => simp only [List.map_cons, scLL, ih]; rfl
@[simp] theorem sc_nd (l : List Nd) : scLL (l.map Nd.ow) = true := by
  induction l with
  | nil => rfl
  | cons x l ih => simp only [List.map_cons, scLL, ih, Nd.ow, scL, scC, sc_sC, sc_nC]; rfl
structure Pg where
  nodes : List Nd
  root : Int
  deriving DecidableEq
def Pg.av (p : Pg) : AV := .agg [.fz (p.nodes.map Nd.cs), .sc (.int .i64 p.root)]
def nodesR (h : List Nd) : Root := (97, 5, h.map Nd.ow)
structure Nd.tx (c : Nd) : Prop where
  s : c.s.size ≤ 9223372036854775807
  names : ∀ x, x ∈ c.names → x.size ≤ 9223372036854775807
def costN (c : Nd) : Nat := c.s.size + costS c.names + c.args.length
def costP (h : List Nd) : Nat := h.length + (h.map costN).sum
theorem c_laws_szIntS (l : List Int) (left : Int) (h0 : 0 ≤ left) (h1 : left ≤ 1073741824) : Con PP 125 [.fz (l.map nC), .sc (.int .i64 left)] [] [] (fun r o => r = .sc (.int .i64 (szR left l.length))) := by
  refine Con.lenOf 0 Go.Proofs.Tryz.func125 (by kernel_rfl) (by kernel_rfl) rfl fun hlen => ?_
  simp at hlen
  refine Con.of tok (nt := 12) Go.Proofs.Tryz.func125 (by kernel_rfl) rfl rfl rfl (Nat.le_of_ble_eq_true rfl) fun G => ?_
  simp only [entSt, tmOf, List.append_nil, List.cons_append, List.nil_append]
  have e1 : IntKind.i64.wrap (left - l.length) = left - l.length := wrap64 (by omega) (by omega)
  repeat' (first
    | apply WPc.sq
    | (refine WPc.ret (endP.val (.inr rfl) rfl rfl (by simp; rfl) ?_))
    | apply WPc.skip
    | (refine WPc.rq tok rfl fun K hK => ?_; simp -implicitDefEqProofs +contextual [-Int.not_le, -Int.not_lt, -Nat.not_le, -Nat.not_lt, -List.all_eq_true, -List.all_eq_false, -List.any_eq_true, -List.any_eq_false, e1]; (repeat1' (first | apply hK | apply And.intro | intro _)) <;> clear hK K <;> (try dsimp only [List.drop]))
    | (refine WPc.cond (by simp [-Bool.not_eq_eq_eq_not]; rfl) (fun hq => ?_) (fun hq => ?_) <;> simp only [hq] <;> (try (exfalso; (simp only [decide_eq_true_eq, decide_eq_false_iff_not] at hq); omega))))
  · rw [szR_no (by simp at hq; omega)]
  · rw [szR_ok (by simp at hq; omega)]
theorem c_laws_szNode (c : Nd) (left : Int) (h0 : 0 ≤ left) (h1 : left ≤ 1073741824) (hs : c.tx) : Con PP 104 [c.av, .sc (.int .i64 left)] [] [] (fun r o => r = .sc (.int .i64 (szR left (costN c)))) := by
  have t1 := hs.s
  have t2 := hs.names
  have e1 : IntKind.i64.wrap (left - c.s.size) = left - c.s.size := wrap64 (by omega) (by omega)
  refine Con.of tok (nt := 25) Go.Proofs.Tryz.func104 (by kernel_rfl) rfl rfl rfl (Nat.le_of_ble_eq_true rfl) fun G => ?_
  simp only [entSt, tmOf, List.append_nil, List.cons_append, List.nil_append, Nd.av]
  by_cases g1 : (c.s.size : Int) ≤ left
  · by_cases g2 : (costS c.names : Int) ≤ left - c.s.size
    · have e2 := szR_ok g2
      by_cases g3 : (c.args.length : Int) ≤ left - c.s.size - costS c.names
      · have e3 := szR_ok g3
        repeat' (first
          | apply WPc.sq
          | (refine WPc.ret (endP.val (.inr rfl) rfl rfl (by simp; rfl) ?_))
          | apply WPc.skip
          | refine WPL.nil ?_
          | (apply WPL.cL (c_laws_szStringS _ _ ?g1 ?g2 ?g3); (case q => (repeat' (first | refine And.intro ?_ ?_ | intro _ | exact cleanOut_nil | (refine Eqv.mk ?_; first | rfl | (simp -implicitDefEqProofs [e1, e2, e3]; done)) | (simp -implicitDefEqProofs [e1, e2, e3]; done) | (simp -implicitDefEqProofs [e1, e2, e3]; rfl) | (simp; done) | (simp; rfl) | rfl))); (case g1 => (first | assumption | omega)); (case g2 => (first | assumption | omega)); (case g3 => (first | assumption | omega)))
          | (apply WPL.cL (c_laws_szIntS _ _ ?g1 ?g2); (case q => (repeat' (first | refine And.intro ?_ ?_ | intro _ | exact cleanOut_nil | (refine Eqv.mk ?_; first | rfl | (simp -implicitDefEqProofs [e1, e2, e3]; done)) | (simp -implicitDefEqProofs [e1, e2, e3]; done) | (simp -implicitDefEqProofs [e1, e2, e3]; rfl) | (simp; done) | (simp; rfl) | rfl))); (case g1 => (first | assumption | omega)); (case g2 => (first | assumption | omega)))
          | ((first | refine WPc.rq tok rfl fun K hK => ?_ | refine WPL.rn tok _ (by simp [ahead, isFn]; rfl) fun K hK => ?_); simp -implicitDefEqProofs +contextual [-Int.not_le, -Int.not_lt, -Nat.not_le, -Nat.not_lt, -List.all_eq_true, -List.all_eq_false, -List.any_eq_true, -List.any_eq_false, e1, e2, e3]; (repeat1' (first | apply hK | apply And.intro | intro _)) <;> clear hK K <;> (try dsimp only [List.drop]))
          | (refine WPc.region ?_; simp only [List.toList_toArray])
          | (refine WPc.cond (by simp [-Bool.not_eq_eq_eq_not]; rfl) (fun hq => ?_) (fun hq => ?_) <;> simp only [hq] <;> (try (exfalso; (simp only [decide_eq_true_eq, decide_eq_false_iff_not] at hq); omega))))
        all_goals (simp only [decide_eq_true_eq, decide_eq_false_iff_not] at *)
        all_goals first
          | (exfalso; omega)
          | (rw [szR_ok (by unfold costN; omega)]; simp only [costN, AV.sc.injEq, Value.int.injEq, true_and]; omega)
      · have e3 : szR (left - c.s.size - costS c.names) c.args.length = -1 := szR_no (by omega)
        repeat' (first
          | apply WPc.sq
          | (refine WPc.ret (endP.val (.inr rfl) rfl rfl (by simp; rfl) ?_))
          | apply WPc.skip
          | refine WPL.nil ?_
          | (apply WPL.cL (c_laws_szStringS _ _ ?g1 ?g2 ?g3); (case q => (repeat' (first | refine And.intro ?_ ?_ | intro _ | exact cleanOut_nil | (refine Eqv.mk ?_; first | rfl | (simp -implicitDefEqProofs [e1, e2, e3]; done)) | (simp -implicitDefEqProofs [e1, e2, e3]; done) | (simp -implicitDefEqProofs [e1, e2, e3]; rfl) | (simp; done) | (simp; rfl) | rfl))); (case g1 => (first | assumption | omega)); (case g2 => (first | assumption | omega)); (case g3 => (first | assumption | omega)))
          | (apply WPL.cL (c_laws_szIntS _ _ ?g1 ?g2); (case q => (repeat' (first | refine And.intro ?_ ?_ | intro _ | exact cleanOut_nil | (refine Eqv.mk ?_; first | rfl | (simp -implicitDefEqProofs [e1, e2, e3]; done)) | (simp -implicitDefEqProofs [e1, e2, e3]; done) | (simp -implicitDefEqProofs [e1, e2, e3]; rfl) | (simp; done) | (simp; rfl) | rfl))); (case g1 => (first | assumption | omega)); (case g2 => (first | assumption | omega)))
          | ((first | refine WPc.rq tok rfl fun K hK => ?_ | refine WPL.rn tok _ (by simp [ahead, isFn]; rfl) fun K hK => ?_); simp -implicitDefEqProofs +contextual [-Int.not_le, -Int.not_lt, -Nat.not_le, -Nat.not_lt, -List.all_eq_true, -List.all_eq_false, -List.any_eq_true, -List.any_eq_false, e1, e2, e3]; (repeat1' (first | apply hK | apply And.intro | intro _)) <;> clear hK K <;> (try dsimp only [List.drop]))
          | (refine WPc.region ?_; simp only [List.toList_toArray])
          | (refine WPc.condT ?_ ?_; (focus (simp; done)))
          | (refine WPc.cond (by simp [-Bool.not_eq_eq_eq_not]; rfl) (fun hq => ?_) (fun hq => ?_) <;> simp only [hq] <;> (try (exfalso; (simp only [decide_eq_true_eq, decide_eq_false_iff_not] at hq); omega))))
        all_goals (simp only [decide_eq_true_eq, decide_eq_false_iff_not] at *)
        all_goals first
          | (exfalso; omega)
          | (rw [szR_no (by unfold costN; omega)])
    · have e2 : szR (left - c.s.size) (costS c.names) = -1 := szR_no (by omega)
      repeat' (first
        | apply WPc.sq
        | (refine WPc.ret (endP.val (.inr rfl) rfl rfl (by simp; rfl) ?_))
        | apply WPc.skip
        | refine WPL.nil ?_
        | (apply WPL.cL (c_laws_szStringS _ _ ?g1 ?g2 ?g3); (case q => (repeat' (first | refine And.intro ?_ ?_ | intro _ | exact cleanOut_nil | (refine Eqv.mk ?_; first | rfl | (simp -implicitDefEqProofs [e1, e2]; done)) | (simp -implicitDefEqProofs [e1, e2]; done) | (simp -implicitDefEqProofs [e1, e2]; rfl) | (simp; done) | (simp; rfl) | rfl))); (case g1 => (first | assumption | omega)); (case g2 => (first | assumption | omega)); (case g3 => (first | assumption | omega)))
        | ((first | refine WPc.rq tok rfl fun K hK => ?_ | refine WPL.rn tok _ (by simp [ahead, isFn]; rfl) fun K hK => ?_); simp -implicitDefEqProofs +contextual [-Int.not_le, -Int.not_lt, -Nat.not_le, -Nat.not_lt, -List.all_eq_true, -List.all_eq_false, -List.any_eq_true, -List.any_eq_false, e1, e2]; (repeat1' (first | apply hK | apply And.intro | intro _)) <;> clear hK K <;> (try dsimp only [List.drop]))
        | (refine WPc.region ?_; simp only [List.toList_toArray])
        | (refine WPc.condT ?_ ?_; (focus (simp; done)))
        | (refine WPc.cond (by simp [-Bool.not_eq_eq_eq_not]; rfl) (fun hq => ?_) (fun hq => ?_) <;> simp only [hq] <;> (try (exfalso; (simp only [decide_eq_true_eq, decide_eq_false_iff_not] at hq); omega))))
      all_goals (simp only [decide_eq_true_eq, decide_eq_false_iff_not] at *)
      all_goals first
        | (exfalso; omega)
        | (rw [szR_no (by unfold costN; omega)])
  · repeat' (first
      | apply WPc.sq
      | (refine WPc.ret (endP.val (.inr rfl) rfl rfl (by simp; rfl) ?_))
      | (refine WPc.rq tok rfl fun K hK => ?_; simp -implicitDefEqProofs +contextual [-Int.not_le, -Int.not_lt, -Nat.not_le, -Nat.not_lt, -List.all_eq_true, -List.all_eq_false, -List.any_eq_true, -List.any_eq_false, e1]; (repeat1' (first | apply hK | apply And.intro | intro _)) <;> clear hK K <;> (try dsimp only [List.drop]))
      | (refine WPc.cond (by simp [-Bool.not_eq_eq_eq_not]; rfl) (fun hq => ?_) (fun hq => ?_) <;> simp only [hq] <;> (try (exfalso; (simp only [decide_eq_true_eq, decide_eq_false_iff_not] at hq); omega))))
    all_goals (simp only [decide_eq_true_eq, decide_eq_false_iff_not] at *)
    all_goals first
      | (exfalso; omega)
      | (rw [szR_no (by unfold costN; omega)])
theorem c_laws_szNodeS (l : List Nd) (left : Int) (h0 : 0 ≤ left) (h1 : left ≤ 1073741824) (hs : ∀ c, c ∈ l → c.tx) : Con PP 65 [.fz (l.map Nd.cs), .sc (.int .i64 left)] [] [] (fun r o => r = .sc (.int .i64 (szR left (costP l)))) := by
  refine Con.lenOf 0 Go.Proofs.Tryz.func65 (by kernel_rfl) (by kernel_rfl) rfl fun hlen => ?_
  simp at hlen
  refine Con.of tok (nt := 27) Go.Proofs.Tryz.func65 (by kernel_rfl) rfl rfl rfl (Nat.le_of_ble_eq_true rfl) fun G => ?_
  simp only [entSt, tmOf, List.append_nil, List.cons_append, List.nil_append]
  have e1 : IntKind.i64.wrap (left - l.length) = left - l.length := wrap64 (by omega) (by omega)
  repeat' (first
    | apply WPc.sq
    | apply WPc.block
    | (refine WPc.ret (endP.val (.inr rfl) rfl rfl (by simp; rfl) ?_))
    | apply WPc.skip
    | (refine WPc.rq tok rfl fun K hK => ?_; simp -implicitDefEqProofs +contextual [-Int.not_le, -Int.not_lt, -Nat.not_le, -Nat.not_lt, -List.all_eq_true, -List.all_eq_false, -List.any_eq_true, -List.any_eq_false, e1]; (repeat1' (first | apply hK | apply And.intro | intro _)) <;> clear hK K <;> (try dsimp only [List.drop]))
    | (refine WPc.cond (by simp [-Bool.not_eq_eq_eq_not]; rfl) (fun hq => ?_) (fun hq => ?_) <;> simp only [hq] <;> (try (exfalso; (simp only [decide_eq_true_eq, decide_eq_false_iff_not] at hq); omega))))
  · rw [szR_no (by unfold costP; simp at hq; omega)]
  simp only [decide_eq_false_iff_not] at hq
  refine WPc.loopK (σ := Nat) (fun i => i ≤ l.length ∧ l.length + sumTo costN l i ≤ left) (fun i => l.length - i) (fun i => [(5, .sc (.int .i64 i)), (1, .sc (.int .i64 (left - l.length - sumTo costN l i)))])  [0] 0 (by simp [sumTo_zero]) (by simp [sumTo_zero]) (⟨by omega, by rw [sumTo_zero]; omega⟩) ?_
  rintro i ⟨hi, hle⟩ s hs
  simp at hs
  subst hs
  by_cases hlt : i < l.length
  · have hz := hs _ (List.getElem_mem hlt)
    have e3 := sumTo_next (f := costN) hlt
    have e4 := sumTo_le costN l (i + 1)
    have ee : costN ⟨l[i].k, l[i].n, l[i].s, l[i].names, l[i].args⟩ = costN l[i] := rfl
    repeat' (first
      | apply WPc.sq
      | apply WPc.block
      | (refine WPc.ret (endP.val (.inr rfl) rfl rfl (by simp; rfl) ?_))
      | apply WPc.skip
      | refine WPL.nil ?_
      | (apply WPL.cL (c_laws_szNode ⟨_, _, _, _, _⟩ _ ?g1 ?g2 ?g3); (case q => (repeat' (first | refine And.intro ?_ ?_ | intro _ | exact cleanOut_nil | (refine Eqv.mk ?_; first | rfl | (simp -implicitDefEqProofs [Nd.cs, hlt, ee]; done)) | (simp -implicitDefEqProofs [Nd.cs, hlt, ee]; done) | (simp -implicitDefEqProofs [Nd.cs, hlt, ee]; rfl) | (simp; done) | (simp; rfl) | rfl))); (case g1 => (first | assumption | (exact hz) | omega)); (case g2 => (first | assumption | (exact hz) | omega)); (case g3 => (first | assumption | (exact hz) | omega)))
      | ((first | refine WPc.rq tok rfl fun K hK => ?_ | refine WPL.rn tok _ (by simp [ahead, isFn]; rfl) fun K hK => ?_); simp -implicitDefEqProofs +contextual [-Int.not_le, -Int.not_lt, -Nat.not_le, -Nat.not_lt, -List.all_eq_true, -List.all_eq_false, -List.any_eq_true, -List.any_eq_false, Nd.cs, hlt, ee]; (repeat1' (first | apply hK | apply And.intro | intro _)) <;> clear hK K <;> (try dsimp only [List.drop]))
      | (refine WPc.region ?_; simp only [List.toList_toArray])
      | (refine WPc.condT ?_ ?_; (focus (simp; done)))
      | (refine WPc.cond (by simp [-Bool.not_eq_eq_eq_not]; rfl) (fun hq => ?_) (fun hq => ?_) <;> simp only [hq] <;> (try (exfalso; (simp only [decide_eq_true_eq, decide_eq_false_iff_not] at hq); omega))))
    all_goals try rw [ee] at hq
    · simp only [decide_eq_true_eq] at hq
      have := szR_neg (by omega) hq
      rw [szR_no (by unfold costP; omega)]
    all_goals
      try simp only [decide_eq_false_iff_not] at hq
      have hle2 := szR_pos hq
      refine ⟨i + 1, ⟨⟨by omega, by omega⟩, by first | omega | (simp only; omega) | assumption⟩, rfl, rfl, ?_, ?_⟩ <;> simp (disch := omega) [wrap64, e3, ee, szR_ok hle2]
    all_goals (refine fit_int ?_; omega)
  · obtain rfl : i = l.length := by omega
    repeat' (first
      | apply WPc.sq
      | (refine WPc.ret (endP.val (.inr rfl) rfl rfl (by simp; rfl) ?_))
      | apply WPc.exit
      | (refine WPc.rq tok rfl fun K hK => ?_; simp -implicitDefEqProofs +contextual [-Int.not_le, -Int.not_lt, -Nat.not_le, -Nat.not_lt, -List.all_eq_true, -List.all_eq_false, -List.any_eq_true, -List.any_eq_false]; (repeat1' (first | apply hK | apply And.intro | intro _)) <;> clear hK K <;> (try dsimp only [List.drop]))
      | (refine WPc.condF ?_ ?_; (focus (simp; done))))
    rw [sumTo_all] at hle
    rw [szR_ok (by unfold costP; omega), sumTo_all]
    simp only [costP, AV.sc.injEq, Value.int.injEq, true_and]
    omega
theorem c_laws_szProg (p : Pg) (left : Int) (h0 : 0 ≤ left) (h1 : left ≤ 1073741824) (hs : ∀ c, c ∈ p.nodes → c.tx) : Con PP 24 [p.av, .sc (.int .i64 left)] [] [] (fun r o => r = .sc (.int .i64 (szR left (costP p.nodes)))) := by
  refine Con.of tok (nt := 12) Go.Proofs.Tryz.func24 (by kernel_rfl) rfl rfl rfl (Nat.le_of_ble_eq_true rfl) fun G => ?_
  simp only [entSt, tmOf, List.append_nil, List.cons_append, List.nil_append, Pg.av]
  by_cases g1 : (costP p.nodes : Int) ≤ left
  · have e := szR_ok g1
    repeat' (first
      | apply WPc.sq
      | (refine WPc.ret (endP.val (.inr rfl) rfl rfl (by simp; rfl) ?_))
      | apply WPc.skip
      | refine WPL.nil ?_
      | (apply WPL.cL (c_laws_szNodeS _ _ ?g1 ?g2 ?g3); (case q => (repeat' (first | refine And.intro ?_ ?_ | intro _ | exact cleanOut_nil | (refine Eqv.mk ?_; first | rfl | (simp -implicitDefEqProofs [e]; done)) | (simp -implicitDefEqProofs [e]; done) | (simp -implicitDefEqProofs [e]; rfl) | (simp; done) | (simp; rfl) | rfl))); (case g1 => (first | assumption | omega)); (case g2 => (first | assumption | omega)); (case g3 => (first | assumption | omega)))
      | ((first | refine WPc.rq tok rfl fun K hK => ?_ | refine WPL.rn tok _ (by simp [ahead, isFn]; rfl) fun K hK => ?_); simp -implicitDefEqProofs +contextual [-Int.not_le, -Int.not_lt, -Nat.not_le, -Nat.not_lt, -List.all_eq_true, -List.all_eq_false, -List.any_eq_true, -List.any_eq_false, e]; (repeat1' (first | apply hK | apply And.intro | intro _)) <;> clear hK K <;> (try dsimp only [List.drop]))
      | (refine WPc.region ?_; simp only [List.toList_toArray])
      | (refine WPc.cond (by simp [-Bool.not_eq_eq_eq_not]; rfl) (fun hq => ?_) (fun hq => ?_) <;> simp only [hq] <;> (try (exfalso; (simp only [decide_eq_true_eq, decide_eq_false_iff_not] at hq); omega))))
    all_goals (try simp only [decide_eq_true_eq, decide_eq_false_iff_not] at *)
    all_goals first
      | (exfalso; omega)
      | (rw [e])
  · have e : szR left (costP p.nodes) = -1 := szR_no (by omega)
    repeat' (first
      | apply WPc.sq
      | (refine WPc.ret (endP.val (.inr rfl) rfl rfl (by simp; rfl) ?_))
      | refine WPL.nil ?_
      | (apply WPL.cL (c_laws_szNodeS _ _ ?g1 ?g2 ?g3); (case q => (repeat' (first | refine And.intro ?_ ?_ | intro _ | exact cleanOut_nil | (refine Eqv.mk ?_; first | rfl | (simp -implicitDefEqProofs [e]; done)) | (simp -implicitDefEqProofs [e]; done) | (simp -implicitDefEqProofs [e]; rfl) | (simp; done) | (simp; rfl) | rfl))); (case g1 => (first | assumption | omega)); (case g2 => (first | assumption | omega)); (case g3 => (first | assumption | omega)))
      | ((first | refine WPc.rq tok rfl fun K hK => ?_ | refine WPL.rn tok _ (by simp [ahead, isFn]; rfl) fun K hK => ?_); simp -implicitDefEqProofs +contextual [-Int.not_le, -Int.not_lt, -Nat.not_le, -Nat.not_lt, -List.all_eq_true, -List.all_eq_false, -List.any_eq_true, -List.any_eq_false, e]; (repeat1' (first | apply hK | apply And.intro | intro _)) <;> clear hK K <;> (try dsimp only [List.drop]))
      | (refine WPc.region ?_; simp only [List.toList_toArray])
      | (refine WPc.condT ?_ ?_; (focus (simp; done))))
    all_goals (try simp only [decide_eq_true_eq, decide_eq_false_iff_not] at *)
    all_goals first
      | (exfalso; omega)
      | (rw [e])
theorem c_laws_eqIntS (l : List Int) : Con PP 127 [.fz (l.map nC), .fz (l.map nC)] [] [] (fun r o => r = .sc (.bool true)) := by
  refine Con.lenOf 0 Go.Proofs.Tryz.func127 (by kernel_rfl) (by kernel_rfl) rfl fun hlen => ?_
  simp at hlen
  refine Con.of tok (nt := 26) Go.Proofs.Tryz.func127 (by kernel_rfl) rfl rfl rfl (Nat.le_of_ble_eq_true rfl) fun G => ?_
  simp only [entSt, tmOf, List.append_nil, List.cons_append, List.nil_append]
  repeat' (first
    | apply WPc.sq
    | apply WPc.block
    | apply WPc.skip
    | (refine WPc.rq tok rfl fun K hK => ?_; simp -implicitDefEqProofs +contextual [-Int.not_le, -Int.not_lt, -Nat.not_le, -Nat.not_lt, -List.all_eq_true, -List.all_eq_false, -List.any_eq_true, -List.any_eq_false]; (repeat1' (first | apply hK | apply And.intro | intro _)) <;> clear hK K <;> (try dsimp only [List.drop]))
    | (refine WPc.condF ?_ ?_; (focus (simp; done))))
  refine WPc.loopK (σ := Nat) (fun i => i ≤ l.length) (fun i => l.length - i) (fun i => [(5, .sc (.int .i64 i))])  [0, 1] 0 (by simp) (by simp) (by simp) ?_
  rintro i hi s hs
  simp at hs
  subst hs
  by_cases hlt : i < l.length
  · repeat' (first
      | apply WPc.sq
      | apply WPc.block
      | apply WPc.skip
      | ((first | refine WPc.rq tok rfl fun K hK => ?_ | refine WPS.rn tok _ (by simp [aheadS]; rfl) fun K hK => ?_); simp -implicitDefEqProofs +contextual [-Int.not_le, -Int.not_lt, -Nat.not_le, -Nat.not_lt, -List.all_eq_true, -List.all_eq_false, -List.any_eq_true, -List.any_eq_false, nC, hlt]; (repeat1' (first | apply hK | apply And.intro | intro _)) <;> clear hK K <;> (try dsimp only [List.drop]))
      | (refine WPc.sched (id := 6) tok [] [(0, []), (1, []), (2, []), (3, []), (4, []), (5, []), (6, []), (7, []), (8, [])] (by kernel_rfl) ?_)
      | (refine WPS.nil ?_)
      | (refine WPc.condT ?_ ?_; (focus (simp; done)))
      | (refine WPc.condF ?_ ?_; (focus (simp; done))))
    all_goals
      refine ⟨i + 1, ⟨hlt, by first | omega | (simp only; omega) | assumption⟩, rfl, rfl, ?_, ?_⟩ <;> simp (disch := omega) [wrap64]
  · repeat' (first
      | apply WPc.sq
      | (refine WPc.ret (endP.val (.inr rfl) rfl rfl (by simp; rfl) ?_))
      | apply WPc.exit
      | (refine WPc.rq tok rfl fun K hK => ?_; simp -implicitDefEqProofs +contextual [-Int.not_le, -Int.not_lt, -Nat.not_le, -Nat.not_lt, -List.all_eq_true, -List.all_eq_false, -List.any_eq_true, -List.any_eq_false, hlt]; (repeat1' (first | apply hK | apply And.intro | intro _)) <;> clear hK K <;> (try dsimp only [List.drop]))
      | (refine WPc.condF ?_ ?_; (focus (simp; done))))
    all_goals rfl
theorem c_laws_eqNode (c : Nd) : Con PP 107 [c.av, c.av] [] [] (fun r o => r = .sc (.bool true)) := by
  refine Con.of tok (nt := 32) Go.Proofs.Tryz.func107 (by kernel_rfl) rfl rfl rfl (Nat.le_of_ble_eq_true rfl) fun G => ?_
  simp only [entSt, tmOf, List.append_nil, List.cons_append, List.nil_append, Nd.av]
  repeat' (first
    | apply WPc.sq
    | (refine WPc.ret (endP.val (.inr rfl) rfl rfl (by simp; rfl) ?_))
    | apply WPc.skip
    | refine WPL.nil ?_
    | (apply WPL.cL (c_laws_eqStringS _); (case q => (repeat' (first | refine And.intro ?_ ?_ | intro _ | exact cleanOut_nil | (refine Eqv.mk ?_; first | rfl | (simp -implicitDefEqProofs; done)) | (simp -implicitDefEqProofs; done) | (simp -implicitDefEqProofs; rfl) | rfl))))
    | (apply WPL.cL (c_laws_eqIntS _); (case q => (repeat' (first | refine And.intro ?_ ?_ | intro _ | exact cleanOut_nil | (refine Eqv.mk ?_; first | rfl | (simp -implicitDefEqProofs; done)) | (simp -implicitDefEqProofs; done) | (simp -implicitDefEqProofs; rfl) | rfl))))
    | ((first | refine WPc.rq tok rfl fun K hK => ?_ | refine WPL.rn tok _ (by simp [ahead, isFn]; rfl) fun K hK => ?_); simp -implicitDefEqProofs +contextual [-Int.not_le, -Int.not_lt, -Nat.not_le, -Nat.not_lt, -List.all_eq_true, -List.all_eq_false, -List.any_eq_true, -List.any_eq_false]; (repeat1' (first | apply hK | apply And.intro | intro _)) <;> clear hK K <;> (try dsimp only [List.drop]))
    | (refine WPc.region ?_; simp only [List.toList_toArray])
    | (refine WPc.condF ?_ ?_; (focus (simp; done))))
  all_goals rfl
theorem c_laws_eqNodeS (l : List Nd) : Con PP 69 [.fz (l.map Nd.cs), .fz (l.map Nd.cs)] [] [] (fun r o => r = .sc (.bool true)) := by
  refine Con.lenOf 0 Go.Proofs.Tryz.func69 (by kernel_rfl) (by kernel_rfl) rfl fun hlen => ?_
  simp at hlen
  refine Con.of tok (nt := 27) Go.Proofs.Tryz.func69 (by kernel_rfl) rfl rfl rfl (Nat.le_of_ble_eq_true rfl) fun G => ?_
  simp only [entSt, tmOf, List.append_nil, List.cons_append, List.nil_append]
  repeat' (first
    | apply WPc.sq
    | apply WPc.block
    | apply WPc.skip
    | (refine WPc.rq tok rfl fun K hK => ?_; simp -implicitDefEqProofs +contextual [-Int.not_le, -Int.not_lt, -Nat.not_le, -Nat.not_lt, -List.all_eq_true, -List.all_eq_false, -List.any_eq_true, -List.any_eq_false]; (repeat1' (first | apply hK | apply And.intro | intro _)) <;> clear hK K <;> (try dsimp only [List.drop]))
    | (refine WPc.condF ?_ ?_; (focus (simp; done))))
  refine WPc.loopK (σ := Nat) (fun i => i ≤ l.length) (fun i => l.length - i) (fun i => [(5, .sc (.int .i64 i))])  [0, 1] 0 (by simp) (by simp) (by simp) ?_
  rintro i hi s hs
  simp at hs
  subst hs
  by_cases hlt : i < l.length
  · repeat' (first
      | apply WPc.sq
      | apply WPc.block
      | apply WPc.skip
      | (apply WPS.cL (hc := (c_laws_eqNode ⟨_, _, _, _, _⟩)); (case ho => exact rfl); (case q => (repeat' (first | refine And.intro ?_ ?_ | intro _ | exact cleanOut_nil | (refine Eqv.mk ?_; first | rfl | (simp -implicitDefEqProofs [Nd.cs, Nd.av, hlt]; done)) | (simp -implicitDefEqProofs [Nd.cs, Nd.av, hlt]; done) | (simp -implicitDefEqProofs [Nd.cs, Nd.av, hlt]; rfl) | (simp; done) | (simp; rfl) | rfl))))
      | ((first | refine WPc.rq tok rfl fun K hK => ?_ | refine WPS.rn tok _ (by simp [aheadS]; rfl) fun K hK => ?_); simp -implicitDefEqProofs +contextual [-Int.not_le, -Int.not_lt, -Nat.not_le, -Nat.not_lt, -List.all_eq_true, -List.all_eq_false, -List.any_eq_true, -List.any_eq_false, Nd.cs, Nd.av, hlt]; (repeat1' (first | apply hK | apply And.intro | intro _)) <;> clear hK K <;> (try dsimp only [List.drop]))
      | (refine WPc.sched (id := 6) tok [] [(0, []), (1, []), (2, []), (3, []), (4, []), (5, []), (6, []), (7, []), (8, []), (9, [])] (by kernel_rfl) ?_)
      | (refine WPS.nil ?_)
      | (refine WPc.condT ?_ ?_; (focus (simp; done)))
      | (refine WPc.condF ?_ ?_; (focus (simp; done))))
    all_goals
      refine ⟨i + 1, ⟨hlt, by first | omega | (simp only; omega) | assumption⟩, rfl, rfl, ?_, ?_⟩ <;> simp (disch := omega) [wrap64]
  · repeat' (first
      | apply WPc.sq
      | (refine WPc.ret (endP.val (.inr rfl) rfl rfl (by simp; rfl) ?_))
      | apply WPc.exit
      | (refine WPc.rq tok rfl fun K hK => ?_; simp -implicitDefEqProofs +contextual [-Int.not_le, -Int.not_lt, -Nat.not_le, -Nat.not_lt, -List.all_eq_true, -List.all_eq_false, -List.any_eq_true, -List.any_eq_false, hlt]; (repeat1' (first | apply hK | apply And.intro | intro _)) <;> clear hK K <;> (try dsimp only [List.drop]))
      | (refine WPc.condF ?_ ?_; (focus (simp; done))))
    all_goals rfl
theorem c_laws_eqProg (p : Pg) : Con PP 28 [p.av, p.av] [] [] (fun r o => r = .sc (.bool true)) := by
  refine Con.of tok (nt := 16) Go.Proofs.Tryz.func28 (by kernel_rfl) rfl rfl rfl (Nat.le_of_ble_eq_true rfl) fun G => ?_
  simp only [entSt, tmOf, List.append_nil, List.cons_append, List.nil_append, Pg.av]
  repeat' (first
    | apply WPc.sq
    | (refine WPc.ret (endP.val (.inr rfl) rfl rfl (by simp; rfl) ?_))
    | apply WPc.skip
    | refine WPL.nil ?_
    | (apply WPL.cL (c_laws_eqNodeS _); (case q => (repeat' (first | refine And.intro ?_ ?_ | intro _ | exact cleanOut_nil | (refine Eqv.mk ?_; first | rfl | (simp -implicitDefEqProofs; done)) | (simp -implicitDefEqProofs; done) | (simp -implicitDefEqProofs; rfl) | rfl))))
    | ((first | refine WPc.rq tok rfl fun K hK => ?_ | refine WPL.rn tok _ (by simp [ahead, isFn]; rfl) fun K hK => ?_); simp -implicitDefEqProofs +contextual [-Int.not_le, -Int.not_lt, -Nat.not_le, -Nat.not_lt, -List.all_eq_true, -List.all_eq_false, -List.any_eq_true, -List.any_eq_false]; (repeat1' (first | apply hK | apply And.intro | intro _)) <;> clear hK K <;> (try dsimp only [List.drop]))
    | (refine WPc.region ?_; simp only [List.toList_toArray])
    | (refine WPc.condF ?_ ?_; (focus (simp; done))))
  all_goals rfl
end Go.Own
set_option maxRecDepth 1000000
set_option maxHeartbeats 4000000
namespace Go.Own
attribute [local irreducible] WPc WPL WPS WPS1 WPS2 HAny endP
variable [Laid]
open Go.Lib Go.RowKit
structure Nd.rm (c : Nd) : Prop where
  names : c.names.length ≤ 1000000000
  args : c.args.length ≤ 1000000000
def progB (p : Pg) : Root := (54, 2, [[.sl 97 5 (p.nodes.map Nd.ow), .sc (.int .i64 p.root)]])
theorem c_laws_toIntS (l : List Int) (h1 : l.length ≤ 1000000000) : Con PP 126 [.fz (l.map nC)] [] [] (fun r o => r = .sl 7 1 [] 0 l.length ∧ o = [(7, 3, 1, l.map nC)]) := by
  have hb1 : (8 : Int) * (l.length : Int) ≤ 281474976710656 := by omega
  have hb2 : (l.length : Int) ≤ 9223372036854775807 := by omega
  refine Con.of tok (nt := 22) Go.Proofs.Tryz.func126 (by kernel_rfl) rfl rfl rfl (Nat.le_of_ble_eq_true rfl) fun G => ?_
  simp only [entSt, tmOf, List.append_nil, List.cons_append, List.nil_append]
  repeat' (first
    | apply WPc.sq
    | apply WPc.block
    | (refine WPc.rq tok rfl fun K hK => ?_; simp -implicitDefEqProofs +contextual [-Int.not_le, -Int.not_lt, -Nat.not_le, -Nat.not_lt, -List.all_eq_true, -List.all_eq_false, -List.any_eq_true, -List.any_eq_false, hb1, hb2]; (repeat1' (first | apply hK | apply And.intro | intro _)) <;> clear hK K <;> (try dsimp only [List.drop])))
  refine WPc.loopV (σ := Nat) (fun i => i ≤ l.length) (fun i => l.length - i) (fun i => [(4, .sc (.int .i64 i))]) (fun i => [(7, 3, 1, part [.sc (.int .i64 0)] nC l i)]) [0, 3] 0 (by simp [part_zero]) (by simp [part_zero]) (by simp) ?_
  rintro i hi s hs
  simp at hs
  subst hs
  by_cases hlt : i < l.length
  · have hl := part_len (z := [.sc (.int .i64 0)]) (f := nC) hi
    have hn := part_next (z := [.sc (.int .i64 0)]) (f := nC) (g := fun r => r.set 0 (.sc (.int .i64 l[i]))) hlt rfl
    have hge := part_ge (z := [.sc (.int .i64 0)]) (f := nC) hlt
    repeat' (first
      | apply WPc.sq
      | apply WPc.block
      | apply WPc.skip
      | (refine WPc.rq tok rfl fun K hK => ?_; simp -implicitDefEqProofs +contextual [-Int.not_le, -Int.not_lt, -Nat.not_le, -Nat.not_lt, -List.all_eq_true, -List.all_eq_false, -List.any_eq_true, -List.any_eq_false, nC, hlt, hl, hge]; (repeat1' (first | apply hK | apply And.intro | intro _)) <;> clear hK K <;> (try dsimp only [List.drop]))
      | (refine WPc.condT ?_ ?_; (focus (simp; done))))
    refine ⟨i + 1, ⟨hlt, by first | omega | (simp only; omega) | assumption⟩, rfl, rfl, ?_, ?_⟩ <;> simp (disch := omega) [wrap64, hn]
  · obtain rfl : i = l.length := by omega
    repeat' (first
      | apply WPc.sq
      | (refine WPc.ret (endP.own [(7, 3, 1, l.map nC)] (.inr rfl) rfl rfl (by simp; rfl) ?_ ?_ (by simp)))
      | apply WPc.exit
      | (refine WPc.rq tok rfl fun K hK => ?_; simp -implicitDefEqProofs +contextual [-Int.not_le, -Int.not_lt, -Nat.not_le, -Nat.not_lt, -List.all_eq_true, -List.all_eq_false, -List.any_eq_true, -List.any_eq_false]; (repeat1' (first | apply hK | apply And.intro | intro _)) <;> clear hK K <;> (try dsimp only [List.drop]))
      | (refine WPc.condF ?_ ?_; (focus (simp; done))))
    · simp [part_all]
    · exact ⟨rfl, rfl⟩
theorem c_laws_toNode (c : Nd) (h1 : c.names.length ≤ 1000000000) (h2 : c.args.length ≤ 1000000000) : Con PP 105 [c.av] [] [] (fun r o => r = .agg [.sc (.int .i64 c.k), .sc (.int .i64 c.n), .sc (.string c.s), .sl 2 1 [(0, 3)] 0 c.names.length, .sl 2 1 [(0, 4)] 0 c.args.length] ∧ o = [(2, 97, 5, [c.ow])]) := by
  refine Con.of tok (nt := 22) Go.Proofs.Tryz.func105 (by kernel_rfl) rfl rfl rfl (Nat.le_of_ble_eq_true rfl) fun G => ?_
  simp only [entSt, tmOf, List.append_nil, List.cons_append, List.nil_append, Nd.av]
  repeat' (first
    | (refine WPL.detSt 21 3 900001 [] 0 3 ?_ ?_; (focus (simp; done)); refine fun K hK => ?_; simp -implicitDefEqProofs +contextual [-Int.not_le, -Int.not_lt, -Nat.not_le, -Nat.not_lt, -List.all_eq_true, -List.all_eq_false, -List.any_eq_true, -List.any_eq_false]; (repeat1' (first | apply hK | apply And.intro | intro _)) <;> clear hK K)
    | (refine WPL.rnToSt tok 21 _ (by simp [isFn]; rfl) fun K hK => ?_; simp -implicitDefEqProofs +contextual [-Int.not_le, -Int.not_lt, -Nat.not_le, -Nat.not_lt, -List.all_eq_true, -List.all_eq_false, -List.any_eq_true, -List.any_eq_false]; (repeat1' (first | apply hK | apply And.intro | intro _)) <;> clear hK K <;> (try dsimp only [List.drop]))
    | (refine WPL.detSt 21 3 900002 [] 0 4 ?_ ?_; (focus (simp; done)); refine fun K hK => ?_; simp -implicitDefEqProofs +contextual [-Int.not_le, -Int.not_lt, -Nat.not_le, -Nat.not_lt, -List.all_eq_true, -List.all_eq_false, -List.any_eq_true, -List.any_eq_false]; (repeat1' (first | apply hK | apply And.intro | intro _)) <;> clear hK K)
    | apply WPc.sq
    | (refine WPc.ret (endP.own [(2, 97, 5, [c.ow])] (.inr rfl) rfl rfl (by simp; rfl) ?_ ?_ (by simp)))
    | refine WPL.nil ?_
    | (apply WPL.cU (c_laws_toStringS _ ?g1); (case q => (repeat' (first | refine And.intro ?_ ?_ | intro _ | exact cleanOut_nil | (refine Eqv.mk ?_; first | rfl | (simp -implicitDefEqProofs; done)) | (simp -implicitDefEqProofs; done) | (simp -implicitDefEqProofs; rfl) | rfl))); (case g1 => (first | assumption | omega)))
    | (apply WPL.cU (c_laws_toIntS _ ?g1); (case q => (repeat' (first | refine And.intro ?_ ?_ | intro _ | exact cleanOut_nil | (refine Eqv.mk ?_; first | rfl | (simp -implicitDefEqProofs; done)) | (simp -implicitDefEqProofs; done) | (simp -implicitDefEqProofs; rfl) | rfl))); (case g1 => (first | assumption | omega)))
    | ((first | refine WPc.rq tok rfl fun K hK => ?_ | refine WPL.rn tok _ (by simp [ahead, isFn]; rfl) fun K hK => ?_); simp -implicitDefEqProofs +contextual [-Int.not_le, -Int.not_lt, -Nat.not_le, -Nat.not_lt, -List.all_eq_true, -List.all_eq_false, -List.any_eq_true, -List.any_eq_false]; (repeat1' (first | apply hK | apply And.intro | intro _)) <;> clear hK K <;> (try dsimp only [List.drop]))
    | (refine WPc.region ?_; simp only [List.toList_toArray]))
  · simp [Nd.ow]
  · exact ⟨rfl, rfl⟩
theorem c_laws_toNodeS (l : List Nd) (h1 : l.length ≤ 1000000000) (h2 : ∀ c, c ∈ l → c.rm) : Con PP 67 [.fz (l.map Nd.cs)] [] [] (fun r o => r = .sl 7 5 [] 0 l.length ∧ o = [(7, nodesR l)]) := by
  have hb1 : (80 : Int) * (l.length : Int) ≤ 281474976710656 := by omega
  have hb2 : (l.length : Int) ≤ 9223372036854775807 := by omega
  refine Con.of tok (nt := 23) Go.Proofs.Tryz.func67 (by kernel_rfl) rfl rfl rfl (Nat.le_of_ble_eq_true rfl) fun G => ?_
  simp only [entSt, tmOf, List.append_nil, List.cons_append, List.nil_append]
  repeat' (first
    | apply WPc.sq
    | apply WPc.block
    | (refine WPc.rq tok rfl fun K hK => ?_; simp -implicitDefEqProofs +contextual [-Int.not_le, -Int.not_lt, -Nat.not_le, -Nat.not_lt, -List.all_eq_true, -List.all_eq_false, -List.any_eq_true, -List.any_eq_false, hb1, hb2]; (repeat1' (first | apply hK | apply And.intro | intro _)) <;> clear hK K <;> (try dsimp only [List.drop])))
  refine WPc.loopV (σ := Nat) (fun i => i ≤ l.length) (fun i => l.length - i) (fun i => [(4, .sc (.int .i64 i))]) (fun i => [(7, 97, 5, part [.sc (.int .i64 0), .sc (.int .i64 0), .sc (.string zs), .sc (.slice none 0 0), .sc (.slice none 0 0)] Nd.ow l i)]) [0, 3] 0 (by simp [part_zero]) (by simp [part_zero]) (by simp) ?_
  rintro i hi s hs
  simp at hs
  subst hs
  by_cases hlt : i < l.length
  · have hr := h2 _ (List.getElem_mem hlt)
    have hr1 := hr.names
    have hr2 := hr.args
    have hl := part_len (z := [.sc (.int .i64 0), .sc (.int .i64 0), .sc (.string zs), .sc (.slice none 0 0), .sc (.slice none 0 0)]) (f := Nd.ow) hi
    have hge := part_ge (z := [.sc (.int .i64 0), .sc (.int .i64 0), .sc (.string zs), .sc (.slice none 0 0), .sc (.slice none 0 0)]) (f := Nd.ow) hlt
    have hn : (((((part [.sc (.int .i64 0), .sc (.int .i64 0), .sc (.string zs), .sc (.slice none 0 0), .sc (.slice none 0 0)] Nd.ow l i).modify i fun r => r.set 0 (.sc (.int .i64 l[i].k))).modify i fun r => r.set 1 (.sc (.int .i64 l[i].n))).modify i fun r => r.set 2 (.sc (.string l[i].s))).modify i fun r => r.set 3 (.sl 9 1 (l[i].names.map sC))).modify i (fun r => r.set 4 (.sl 3 1 (l[i].args.map nC))) = part [.sc (.int .i64 0), .sc (.int .i64 0), .sc (.string zs), .sc (.slice none 0 0), .sc (.slice none 0 0)] Nd.ow l (i + 1) := by
      rw [List.modify_modify_eq, List.modify_modify_eq, List.modify_modify_eq, List.modify_modify_eq]
      exact part_next hlt rfl
    repeat' (first
      | (refine WPL.detSt 20 20 900001 [] 0 3 ?_ ?_; (focus (simp; done)); refine fun K hK => ?_; simp -implicitDefEqProofs +contextual [-Int.not_le, -Int.not_lt, -Nat.not_le, -Nat.not_lt, -List.all_eq_true, -List.all_eq_false, -List.any_eq_true, -List.any_eq_false, Nd.cs, Nd.av, hlt, hl, hge, Nd.ow]; (repeat1' (first | apply hK | apply And.intro | intro _)) <;> clear hK K)
      | (refine WPL.rnToSt tok 20 _ (by simp [isFn]; rfl) fun K hK => ?_; simp -implicitDefEqProofs +contextual [-Int.not_le, -Int.not_lt, -Nat.not_le, -Nat.not_lt, -List.all_eq_true, -List.all_eq_false, -List.any_eq_true, -List.any_eq_false, Nd.cs, Nd.av, hlt, hl, hge, Nd.ow]; (repeat1' (first | apply hK | apply And.intro | intro _)) <;> clear hK K <;> (try dsimp only [List.drop]))
      | (refine WPL.detSt 20 20 900002 [] 0 4 ?_ ?_; (focus (simp; done)); refine fun K hK => ?_; simp -implicitDefEqProofs +contextual [-Int.not_le, -Int.not_lt, -Nat.not_le, -Nat.not_lt, -List.all_eq_true, -List.all_eq_false, -List.any_eq_true, -List.any_eq_false, Nd.cs, Nd.av, hlt, hl, hge, Nd.ow]; (repeat1' (first | apply hK | apply And.intro | intro _)) <;> clear hK K)
      | apply WPc.sq
      | apply WPc.block
      | apply WPc.skip
      | refine WPL.nil ?_
      | (apply WPL.cU (c_laws_toNode ⟨_, _, _, _, _⟩ ?g1 ?g2); (case q => (repeat' (first | refine And.intro ?_ ?_ | intro _ | exact cleanOut_nil | (refine Eqv.mk ?_; first | rfl | (simp -implicitDefEqProofs [Nd.cs, Nd.av, hlt, hl, hge, Nd.ow]; done)) | (simp -implicitDefEqProofs [Nd.cs, Nd.av, hlt, hl, hge, Nd.ow]; done) | (simp -implicitDefEqProofs [Nd.cs, Nd.av, hlt, hl, hge, Nd.ow]; rfl) | (simp; done) | (simp; rfl) | rfl))); (case g1 => (first | assumption | (exact hr1) | (exact hr2) | omega)); (case g2 => (first | assumption | (exact hr1) | (exact hr2) | omega)))
      | ((first | refine WPc.rq tok rfl fun K hK => ?_ | refine WPL.rn tok _ (by simp [ahead, isFn]; rfl) fun K hK => ?_); simp -implicitDefEqProofs +contextual [-Int.not_le, -Int.not_lt, -Nat.not_le, -Nat.not_lt, -List.all_eq_true, -List.all_eq_false, -List.any_eq_true, -List.any_eq_false, Nd.cs, Nd.av, hlt, hl, hge, Nd.ow]; (repeat1' (first | apply hK | apply And.intro | intro _)) <;> clear hK K <;> (try dsimp only [List.drop]))
      | (refine WPc.region ?_; simp only [List.toList_toArray])
      | (refine WPc.condT ?_ ?_; (focus (simp; done))))
    refine ⟨i + 1, ⟨hlt, by first | omega | (simp only; omega) | assumption⟩, rfl, rfl, ?_, ?_⟩ <;> simp (disch := omega) [wrap64, hn]
  · obtain rfl : i = l.length := by omega
    repeat' (first
      | apply WPc.sq
      | (refine WPc.ret (endP.own [(7, nodesR l)] (.inr rfl) rfl rfl (by simp; rfl) ?_ ?_ (by simp)))
      | apply WPc.exit
      | (refine WPc.rq tok rfl fun K hK => ?_; simp -implicitDefEqProofs +contextual [-Int.not_le, -Int.not_lt, -Nat.not_le, -Nat.not_lt, -List.all_eq_true, -List.all_eq_false, -List.any_eq_true, -List.any_eq_false]; (repeat1' (first | apply hK | apply And.intro | intro _)) <;> clear hK K <;> (try dsimp only [List.drop]))
      | (refine WPc.condF ?_ ?_; (focus (simp; done))))
    · simp [part_all, nodesR]
    · exact ⟨rfl, rfl⟩
theorem c_laws_toProg (p : Pg) (h1 : p.nodes.length ≤ 1000000000) (h2 : ∀ c, c ∈ p.nodes → c.rm) : Con PP 26 [p.av] [] [] (fun r o => r = .agg [.sl 2 5 [(0, 0)] 0 p.nodes.length, .sc (.int .i64 p.root)] ∧ o = [(2, progB p)]) := by
  refine Con.of tok (nt := 12) Go.Proofs.Tryz.func26 (by kernel_rfl) rfl rfl rfl (Nat.le_of_ble_eq_true rfl) fun G => ?_
  simp only [entSt, tmOf, List.append_nil, List.cons_append, List.nil_append, Pg.av]
  repeat' (first
    | (refine WPL.detSt 11 3 900001 [] 0 0 ?_ ?_; (focus (simp; done)); refine fun K hK => ?_; simp -implicitDefEqProofs +contextual [-Int.not_le, -Int.not_lt, -Nat.not_le, -Nat.not_lt, -List.all_eq_true, -List.all_eq_false, -List.any_eq_true, -List.any_eq_false, nodesR]; (repeat1' (first | apply hK | apply And.intro | intro _)) <;> clear hK K)
    | (refine WPL.rnToSt tok 11 _ (by simp [isFn]; rfl) fun K hK => ?_; simp -implicitDefEqProofs +contextual [-Int.not_le, -Int.not_lt, -Nat.not_le, -Nat.not_lt, -List.all_eq_true, -List.all_eq_false, -List.any_eq_true, -List.any_eq_false, nodesR]; (repeat1' (first | apply hK | apply And.intro | intro _)) <;> clear hK K <;> (try dsimp only [List.drop]))
    | apply WPc.sq
    | (refine WPc.ret (endP.own [(2, progB p)] (.inr rfl) rfl rfl (by simp; rfl) ?_ ?_ (by simp)))
    | refine WPL.nil ?_
    | (apply WPL.cU (c_laws_toNodeS _ ?g1 ?g2); (case q => (repeat' (first | refine And.intro ?_ ?_ | intro _ | exact cleanOut_nil | (refine Eqv.mk ?_; first | rfl | (simp -implicitDefEqProofs [nodesR]; done)) | (simp -implicitDefEqProofs [nodesR]; done) | (simp -implicitDefEqProofs [nodesR]; rfl) | (simp; done) | (simp; rfl) | rfl))); (case g1 => (first | assumption | omega)); (case g2 => (first | assumption | omega)))
    | ((first | refine WPc.rq tok rfl fun K hK => ?_ | refine WPL.rn tok _ (by simp [ahead, isFn]; rfl) fun K hK => ?_); simp -implicitDefEqProofs +contextual [-Int.not_le, -Int.not_lt, -Nat.not_le, -Nat.not_lt, -List.all_eq_true, -List.all_eq_false, -List.any_eq_true, -List.any_eq_false, nodesR]; (repeat1' (first | apply hK | apply And.intro | intro _)) <;> clear hK K <;> (try dsimp only [List.drop]))
    | (refine WPc.region ?_; simp only [List.toList_toArray]))
  · simp [progB]
  · exact ⟨rfl, rfl⟩
end Go.Own
set_option maxRecDepth 1000000
set_option maxHeartbeats 4000000
namespace Go.Own
attribute [local irreducible] WPc WPL WPS WPS1 WPS2 HAny endP
variable [Laid]
open Go.Lib Go.RowKit
theorem isW_cons (x : ByteArray) (l : List ByteArray) (s : ByteArray) : isW (x :: l) s = (decide (s = x) || isW l s) := rfl
def fidx : List ByteArray → ByteArray → Nat → Int
  | [], _, _ => -1
  | x :: l, s, i => if s = x then i else fidx l s (i + 1)
theorem fidx_hit {s : ByteArray} : ∀ {l : List ByteArray} {i k : Nat} (hi : i < l.length), isW (l.take i) s = false → s = l[i] → fidx l s k = ((i + k : Nat) : Int)
  | x :: l, 0, k, _, _, he => by simp [fidx, show s = x from he]
  | x :: l, i + 1, k, hi, hn, he => by
    have hn' : ¬ s = x ∧ isW (l.take i) s = false := by
      rw [List.take_succ_cons, isW_cons, Bool.or_eq_false_iff, decide_eq_false_iff_not] at hn; exact hn
    simp only [fidx, if_neg hn'.1]
    rw [fidx_hit (l := l) (i := i) (k := k + 1) (by simpa using hi) hn'.2 he]
    omega
theorem fidx_none {s : ByteArray} : ∀ {l : List ByteArray} {k : Nat}, isW l s = false → fidx l s k = -1
  | [], _, _ => rfl
  | x :: l, k, h => by
    have hn' : ¬ s = x ∧ isW l s = false := by
      rw [isW_cons, Bool.or_eq_false_iff, decide_eq_false_iff_not] at h; exact h
    simp only [fidx, if_neg hn'.1]
    exact fidx_none hn'.2
theorem isW_next {l : List ByteArray} {s : ByteArray} {i : Nat} (hi : i < l.length) (h : isW (l.take i) s = false) (hn : ¬ s = l[i]) : isW (l.take (i + 1)) s = false := by
  unfold isW at h ⊢
  rw [List.take_add_one, List.getElem?_eq_getElem hi]
  simp only [Option.toList_some, List.any_append, h, List.any_cons, List.any_nil, Bool.or_false, Bool.false_or]
  simpa using hn
theorem c_slices_IndexS (l : List ByteArray) (s : ByteArray) : Con PP 141 [.fz (l.map sC), .sc (.string s)] [] [] (fun r o => r = .sc (.int .i64 (fidx l s 0))) := by
  refine Con.lenOf 0 Go.Proofs.Tryz.func141 (by kernel_rfl) (by kernel_rfl) rfl fun hlen => ?_
  simp at hlen
  refine Con.of tok (nt := 19) Go.Proofs.Tryz.func141 (by kernel_rfl) rfl rfl rfl (Nat.le_of_ble_eq_true rfl) fun G => ?_
  simp only [entSt, tmOf, List.append_nil, List.cons_append, List.nil_append]
  repeat' (first
    | apply WPc.sq
    | apply WPc.block
    | (refine WPc.rq tok rfl fun K hK => ?_; simp -implicitDefEqProofs +contextual [-Int.not_le, -Int.not_lt, -Nat.not_le, -Nat.not_lt, -List.all_eq_true, -List.all_eq_false, -List.any_eq_true, -List.any_eq_false]; (repeat1' (first | apply hK | apply And.intro | intro _)) <;> clear hK K <;> (try dsimp only [List.drop])))
  refine WPc.loopK (σ := Nat) (fun i => i ≤ l.length ∧ isW (l.take i) s = false) (fun i => l.length - i) (fun i => [(8, .sc (.int .i64 i))])  [0, 1, 7] 0 (by simp) (by simp) (⟨by omega, by simp [isW]⟩) ?_
  rintro i ⟨hi, hn⟩ s hs
  simp at hs
  subst hs
  by_cases hlt : i < l.length
  · by_cases he : s = l[i]
    · have := fidx_hit (k := 0) hlt hn he
      have he' : (s = l[i]) = True := by simp [he]
      rw [this]
      repeat' (first
        | apply WPc.sq
        | apply WPc.block
        | (refine WPc.ret (endP.val (.inr rfl) rfl rfl (by simp; rfl) ?_))
        | apply WPc.skip
        | (refine WPc.rq tok rfl fun K hK => ?_; simp -implicitDefEqProofs +contextual [-Int.not_le, -Int.not_lt, -Nat.not_le, -Nat.not_lt, -List.all_eq_true, -List.all_eq_false, -List.any_eq_true, -List.any_eq_false, sC, hlt, he']; (repeat1' (first | apply hK | apply And.intro | intro _)) <;> clear hK K <;> (try dsimp only [List.drop]))
        | (refine WPc.condT ?_ ?_; (focus (simp; done))))
      all_goals rfl
    · have he' : (s = l[i]) = False := by simp [he]
      repeat' (first
        | apply WPc.sq
        | apply WPc.block
        | apply WPc.skip
        | (refine WPc.rq tok rfl fun K hK => ?_; simp -implicitDefEqProofs +contextual [-Int.not_le, -Int.not_lt, -Nat.not_le, -Nat.not_lt, -List.all_eq_true, -List.all_eq_false, -List.any_eq_true, -List.any_eq_false, sC, hlt, he']; (repeat1' (first | apply hK | apply And.intro | intro _)) <;> clear hK K <;> (try dsimp only [List.drop]))
        | (refine WPc.condT ?_ ?_; (focus (simp; done)))
        | (refine WPc.condF ?_ ?_; (focus (simp; done))))
      all_goals
        refine ⟨i + 1, ⟨⟨hlt, isW_next hlt hn he⟩, by first | omega | (simp only; omega) | assumption⟩, rfl, rfl, ?_, ?_⟩ <;> simp (disch := omega) [wrap64]
  · obtain rfl : i = l.length := by omega
    rw [List.take_length] at hn
    rw [fidx_none hn]
    repeat' (first
      | apply WPc.sq
      | (refine WPc.ret (endP.val (.inr rfl) rfl rfl (by simp; rfl) ?_))
      | apply WPc.exit
      | (refine WPc.rq tok rfl fun K hK => ?_; simp -implicitDefEqProofs +contextual [-Int.not_le, -Int.not_lt, -Nat.not_le, -Nat.not_lt, -List.all_eq_true, -List.all_eq_false, -List.any_eq_true, -List.any_eq_false, hlt]; (repeat1' (first | apply hK | apply And.intro | intro _)) <;> clear hK K <;> (try dsimp only [List.drop]))
      | (refine WPc.condF ?_ ?_; (focus (simp; done))))
    all_goals rfl
def okName (l : List ByteArray) (i : Nat) : Bool := match l[i]? with
  | some s => isName s && !isW (l.take i) s
  | none => true
def namesOk (l : List ByteArray) (most : Int) : Bool := (List.range l.length).all (okName l) && decide ((l.length : Int) ≤ most)
theorem okName_eq {l : List ByteArray} {i : Nat} (hi : i < l.length) : okName l i = (isName l[i] && !isW (l.take i) l[i]) := by simp [okName, hi]
theorem fidx_self {l : List ByteArray} {i : Nat} (hi : i < l.length) : decide (fidx l l[i] 0 = (i : Int)) = !isW (l.take i) l[i] := by
  cases h : isW (l.take i) l[i] with
  | false => simp [fidx_hit (k := 0) hi h rfl]
  | true =>
    simp only [Bool.not_true, decide_eq_false_iff_not]
    intro he
    have key : ∀ (l : List ByteArray) (s : ByteArray) (i k : Nat), i ≤ l.length → isW (l.take i) s = true → fidx l s k < ((i + k : Nat) : Int) := by
      intro l s
      induction l with
      | nil => intro i k hi h; simp [isW] at h
      | cons x l ih =>
        intro i k hi h
        cases i with
        | zero => simp [isW] at h
        | succ i =>
          simp only [fidx]
          split
          · omega
          · rename_i hx
            have h' : isW (l.take i) s = true := by
              simp only [List.take_succ_cons, isW, List.any_cons, Bool.or_eq_true] at h
              rcases h with h | h
              · exact absurd (of_decide_eq_true h) (fun e => hx (by first | exact e | exact e.symm))
              · exact h
            have := ih i (k + 1) (by simpa using hi) h'
            omega
    have := key l l[i] i 0 (by omega) h
    omega
theorem namesOk_no {l : List ByteArray} {i : Nat} {most : Int} (hi : i < l.length) (ho : okName l i = false) : namesOk l most = false := by
  have hv : (List.range l.length)[i]? = some i := List.getElem?_range hi
  rw [namesOk, all_at hv ho, Bool.false_and]
theorem c_impl_namesOk [F : Facts.Of] (l : List ByteArray) (most : Int) (hs : ∀ v, v ∈ l → v.size < 4294967000) : Con PP 133 [.fz (l.map sC), .sc (.int .i64 most)] [] [] (fun r o => r = .sc (.bool (namesOk l most))) := by
  refine Con.lenOf 0 Go.Proofs.Tryz.func133 (by kernel_rfl) (by kernel_rfl) rfl fun hlen => ?_
  simp at hlen
  refine Con.of tok (nt := 29) Go.Proofs.Tryz.func133 (by kernel_rfl) rfl rfl rfl (Nat.le_of_ble_eq_true rfl) fun G => ?_
  simp only [entSt, tmOf, List.append_nil, List.cons_append, List.nil_append]
  repeat' (first
    | apply WPc.sq
    | apply WPc.block
    | (refine WPc.rq tok rfl fun K hK => ?_; simp -implicitDefEqProofs +contextual [-Int.not_le, -Int.not_lt, -Nat.not_le, -Nat.not_lt, -List.all_eq_true, -List.all_eq_false, -List.any_eq_true, -List.any_eq_false]; (repeat1' (first | apply hK | apply And.intro | intro _)) <;> clear hK K <;> (try dsimp only [List.drop])))
  refine WPc.loopK (σ := Nat) (fun i => i ≤ l.length ∧ ((List.range l.length).take i).all (okName l) = true) (fun i => l.length - i) (fun i => [(9, .sc (.int .i64 i))])  [0, 1, 7, 8] 0 (by simp) (by simp) (by simp) ?_
  rintro i ⟨hi, hall⟩ s hs
  simp at hs
  subst hs
  by_cases hlt : i < l.length
  · have hv : (List.range l.length)[i]? = some i := List.getElem?_range hlt
    have hz := hs _ (List.getElem_mem hlt)
    have hf := fidx_self hlt
    by_cases hn : isName l[i] = true
    · cases hw : isW (l.take i) l[i] with
      | false =>
        have hf' : (fidx l l[i] 0 = (i : Int)) = True := by rw [hw] at hf; simpa using hf
        repeat' (first
          | apply WPc.sq
          | apply WPc.block
          | apply WPc.skip
          | refine WPL.nil ?_
          | (apply WPL.cL (c_impl_IsName _ ?g1); (case q => (repeat' (first | refine And.intro ?_ ?_ | intro _ | exact cleanOut_nil | (refine Eqv.mk ?_; first | rfl | (simp -implicitDefEqProofs [sC, hlt, hn, hf']; done)) | (simp -implicitDefEqProofs [sC, hlt, hn, hf']; done) | (simp -implicitDefEqProofs [sC, hlt, hn, hf']; rfl) | (simp; done) | (simp; rfl) | rfl))); (case g1 => (first | assumption | (exact hz))))
          | (apply WPL.cL (c_slices_IndexS _ _); (case q => (repeat' (first | refine And.intro ?_ ?_ | intro _ | exact cleanOut_nil | (refine Eqv.mk ?_; first | rfl | (simp -implicitDefEqProofs [sC, hlt, hn, hf']; done)) | (simp -implicitDefEqProofs [sC, hlt, hn, hf']; done) | (simp -implicitDefEqProofs [sC, hlt, hn, hf']; rfl) | (simp; done) | (simp; rfl) | rfl))))
          | ((first | refine WPc.rq tok rfl fun K hK => ?_ | refine WPL.rn tok _ (by simp [ahead, isFn]; rfl) fun K hK => ?_); simp -implicitDefEqProofs +contextual [-Int.not_le, -Int.not_lt, -Nat.not_le, -Nat.not_lt, -List.all_eq_true, -List.all_eq_false, -List.any_eq_true, -List.any_eq_false, sC, hlt, hn, hf']; (repeat1' (first | apply hK | apply And.intro | intro _)) <;> clear hK K <;> (try dsimp only [List.drop]))
          | (refine WPc.region ?_; simp only [List.toList_toArray])
          | (refine WPc.condT ?_ ?_; (focus (simp; done)))
          | (refine WPc.condF ?_ ?_; (focus (simp; done))))
        all_goals
          refine ⟨i + 1, ⟨⟨hlt, all_next hv (by rw [okName_eq hlt, hn, hw]; rfl) hall⟩, by first | omega | (simp only; omega) | assumption⟩, rfl, rfl, ?_, ?_⟩ <;> simp (disch := omega) [wrap64]
      | true =>
        have hf' : (fidx l l[i] 0 = (i : Int)) = False := by rw [hw] at hf; simpa using hf
        rw [namesOk_no hlt (by rw [okName_eq hlt, hw]; simp)]
        repeat' (first
          | apply WPc.sq
          | apply WPc.block
          | (refine WPc.ret (endP.val (.inr rfl) rfl rfl (by simp; rfl) ?_))
          | apply WPc.skip
          | refine WPL.nil ?_
          | (apply WPL.cL (c_impl_IsName _ ?g1); (case q => (repeat' (first | refine And.intro ?_ ?_ | intro _ | exact cleanOut_nil | (refine Eqv.mk ?_; first | rfl | (simp -implicitDefEqProofs [sC, hlt, hn, hf']; done)) | (simp -implicitDefEqProofs [sC, hlt, hn, hf']; done) | (simp -implicitDefEqProofs [sC, hlt, hn, hf']; rfl) | (simp; done) | (simp; rfl) | rfl))); (case g1 => (first | assumption | (exact hz))))
          | (apply WPL.cL (c_slices_IndexS _ _); (case q => (repeat' (first | refine And.intro ?_ ?_ | intro _ | exact cleanOut_nil | (refine Eqv.mk ?_; first | rfl | (simp -implicitDefEqProofs [sC, hlt, hn, hf']; done)) | (simp -implicitDefEqProofs [sC, hlt, hn, hf']; done) | (simp -implicitDefEqProofs [sC, hlt, hn, hf']; rfl) | (simp; done) | (simp; rfl) | rfl))))
          | ((first | refine WPc.rq tok rfl fun K hK => ?_ | refine WPL.rn tok _ (by simp [ahead, isFn]; rfl) fun K hK => ?_); simp -implicitDefEqProofs +contextual [-Int.not_le, -Int.not_lt, -Nat.not_le, -Nat.not_lt, -List.all_eq_true, -List.all_eq_false, -List.any_eq_true, -List.any_eq_false, sC, hlt, hn, hf']; (repeat1' (first | apply hK | apply And.intro | intro _)) <;> clear hK K <;> (try dsimp only [List.drop]))
          | (refine WPc.region ?_; simp only [List.toList_toArray])
          | (refine WPc.condT ?_ ?_; (focus (simp; done))))
        all_goals rfl
    · rw [namesOk_no hlt (by rw [okName_eq hlt]; simp [hn])]
      repeat' (first
        | apply WPc.sq
        | apply WPc.block
        | (refine WPc.ret (endP.val (.inr rfl) rfl rfl (by simp; rfl) ?_))
        | apply WPc.skip
        | refine WPL.nil ?_
        | (apply WPL.cL (c_impl_IsName _ ?g1); (case q => (repeat' (first | refine And.intro ?_ ?_ | intro _ | exact cleanOut_nil | (refine Eqv.mk ?_; first | rfl | (simp -implicitDefEqProofs [sC, hlt, hn]; done)) | (simp -implicitDefEqProofs [sC, hlt, hn]; done) | (simp -implicitDefEqProofs [sC, hlt, hn]; rfl) | (simp; done) | (simp; rfl) | rfl))); (case g1 => (first | assumption | (exact hz))))
        | (refine WPL.call0f ?_ ?_ ?_; (focus (simp; done)); (focus (simp; done)))
        | ((first | refine WPc.rq tok rfl fun K hK => ?_ | refine WPL.rn tok _ (by simp [ahead, isFn]; rfl) fun K hK => ?_); simp -implicitDefEqProofs +contextual [-Int.not_le, -Int.not_lt, -Nat.not_le, -Nat.not_lt, -List.all_eq_true, -List.all_eq_false, -List.any_eq_true, -List.any_eq_false, sC, hlt, hn]; (repeat1' (first | apply hK | apply And.intro | intro _)) <;> clear hK K <;> (try dsimp only [List.drop]))
        | (refine WPc.region ?_; simp only [List.toList_toArray])
        | (refine WPc.condT ?_ ?_; (focus (simp; done))))
      all_goals rfl
  · obtain rfl : i = l.length := by omega
    repeat' (first
      | apply WPc.sq
      | (refine WPc.ret (endP.val (.inr rfl) rfl rfl (by simp; rfl) ?_))
      | apply WPc.exit
      | (refine WPc.rq tok rfl fun K hK => ?_; simp -implicitDefEqProofs +contextual [-Int.not_le, -Int.not_lt, -Nat.not_le, -Nat.not_lt, -List.all_eq_true, -List.all_eq_false, -List.any_eq_true, -List.any_eq_false, hlt]; (repeat1' (first | apply hK | apply And.intro | intro _)) <;> clear hK K <;> (try dsimp only [List.drop]))
      | (refine WPc.condF ?_ ?_; (focus (simp; done))))
    rw [List.take_of_length_le (by simp)] at hall
    simp [namesOk, hall]
theorem c_spec_l3In_tk (ws : List ByteArray) (i : Nat) (s : ByteArray) : Con PP 130 [.fz (List.take i (ws.map sC)), .sc (.string s)] [] [] (fun r o => r = .sc (.bool (isW (ws.take i) s))) := by
  rw [← List.map_take]; exact c_spec_l3In _ s
theorem c_spec_l3Names (l : List ByteArray) (most : Int) (hs : ∀ v, v ∈ l → v.size < 4294967000) : Con PP 128 [.fz (l.map sC), .sc (.int .i64 most)] [] [] (fun r o => r = .sc (.bool (namesOk l most))) := by
  refine Con.lenOf 0 Go.Proofs.Tryz.func128 (by kernel_rfl) (by kernel_rfl) rfl fun hlen => ?_
  simp at hlen
  by_cases hm : (l.length : Int) ≤ most
  · have hm' : ¬ most < (l.length : Int) := by omega
    refine Con.of tok (nt := 32) Go.Proofs.Tryz.func128 (by kernel_rfl) rfl rfl rfl (Nat.le_of_ble_eq_true rfl) fun G => ?_
    simp only [entSt, tmOf, List.append_nil, List.cons_append, List.nil_append]
    repeat' (first
      | apply WPc.sq
      | apply WPc.block
      | apply WPc.skip
      | (refine WPc.rq tok rfl fun K hK => ?_; simp -implicitDefEqProofs +contextual [-Int.not_le, -Int.not_lt, -Nat.not_le, -Nat.not_lt, -List.all_eq_true, -List.all_eq_false, -List.any_eq_true, -List.any_eq_false, hm']; (repeat1' (first | apply hK | apply And.intro | intro _)) <;> clear hK K <;> (try dsimp only [List.drop]))
      | (refine WPc.condF ?_ ?_; (focus (simp; done))))
    refine WPc.loopK (σ := Nat) (fun i => i ≤ l.length ∧ ((List.range l.length).take i).all (okName l) = true) (fun i => l.length - i) (fun i => [(5, .sc (.int .i64 i))])  [0] 0 (by simp) (by simp) (by simp) ?_
    rintro i ⟨hi, hall⟩ s hs
    simp at hs
    subst hs
    by_cases hlt : i < l.length
    · have hv : (List.range l.length)[i]? = some i := List.getElem?_range hlt
      have hz := hs _ (List.getElem_mem hlt)
      by_cases hn : isName l[i] = true
      · cases hw : isW (l.take i) l[i] with
        | false =>
          repeat' (first
            | apply WPc.sq
            | apply WPc.block
            | apply WPc.skip
            | (apply WPS.cL (hc := (c_spec_IsName _ ?g1)); (case ho => exact rfl); (case q => (repeat' (first | refine And.intro ?_ ?_ | intro _ | exact cleanOut_nil | (refine Eqv.mk ?_; first | rfl | (simp -implicitDefEqProofs [sC, hlt, hn, hw, hi]; done)) | (simp -implicitDefEqProofs [sC, hlt, hn, hw, hi]; done) | (simp -implicitDefEqProofs [sC, hlt, hn, hw, hi]; rfl) | (simp; done) | (simp; rfl) | rfl))); (case g1 => (first | assumption | (exact hz))))
            | (apply WPS.cL (hc := (c_spec_l3In_tk _ _ _)); (case ho => exact rfl); (case q => (repeat' (first | refine And.intro ?_ ?_ | intro _ | exact cleanOut_nil | (refine Eqv.mk ?_; first | rfl | (simp -implicitDefEqProofs [sC, hlt, hn, hw, hi]; done)) | (simp -implicitDefEqProofs [sC, hlt, hn, hw, hi]; done) | (simp -implicitDefEqProofs [sC, hlt, hn, hw, hi]; rfl) | (simp; done) | (simp; rfl) | rfl))))
            | ((first | refine WPc.rq tok rfl fun K hK => ?_ | refine WPS.rn tok _ (by simp [aheadS]; rfl) fun K hK => ?_); simp -implicitDefEqProofs +contextual [-Int.not_le, -Int.not_lt, -Nat.not_le, -Nat.not_lt, -List.all_eq_true, -List.all_eq_false, -List.any_eq_true, -List.any_eq_false, sC, hlt, hn, hw, hi]; (repeat1' (first | apply hK | apply And.intro | intro _)) <;> clear hK K <;> (try dsimp only [List.drop]))
            | (refine WPc.sched (id := 6) tok [] [(0, []), (1, []), (2, []), (3, []), (4, []), (5, []), (6, []), (7, []), (8, []), (9, []), (10, []), (11, []), (12, []), (13, []), (14, []), (15, [])] (by kernel_rfl) ?_)
            | (refine WPS.nil ?_)
            | (refine WPc.condT ?_ ?_; (focus (simp; done)))
            | (refine WPc.condF ?_ ?_; (focus (simp; done))))
          all_goals
            refine ⟨i + 1, ⟨⟨hlt, all_next hv (by rw [okName_eq hlt, hn, hw]; rfl) hall⟩, by first | omega | (simp only; omega) | assumption⟩, rfl, rfl, ?_, ?_⟩ <;> simp (disch := omega) [wrap64]
        | true =>
          rw [namesOk_no hlt (by rw [okName_eq hlt, hw]; simp)]
          repeat' (first
            | apply WPc.sq
            | apply WPc.block
            | (refine WPc.ret (endP.val (.inr rfl) rfl rfl (by simp; rfl) ?_))
            | apply WPc.skip
            | (apply WPS.cL (hc := (c_spec_IsName _ ?g1)); (case ho => exact rfl); (case q => (repeat' (first | refine And.intro ?_ ?_ | intro _ | exact cleanOut_nil | (refine Eqv.mk ?_; first | rfl | (simp -implicitDefEqProofs [sC, hlt, hn, hw, hi]; done)) | (simp -implicitDefEqProofs [sC, hlt, hn, hw, hi]; done) | (simp -implicitDefEqProofs [sC, hlt, hn, hw, hi]; rfl) | (simp; done) | (simp; rfl) | rfl))); (case g1 => (first | assumption | (exact hz))))
            | (apply WPS.cL (hc := (c_spec_l3In_tk _ _ _)); (case ho => exact rfl); (case q => (repeat' (first | refine And.intro ?_ ?_ | intro _ | exact cleanOut_nil | (refine Eqv.mk ?_; first | rfl | (simp -implicitDefEqProofs [sC, hlt, hn, hw, hi]; done)) | (simp -implicitDefEqProofs [sC, hlt, hn, hw, hi]; done) | (simp -implicitDefEqProofs [sC, hlt, hn, hw, hi]; rfl) | (simp; done) | (simp; rfl) | rfl))))
            | ((first | refine WPc.rq tok rfl fun K hK => ?_ | refine WPS.rn tok _ (by simp [aheadS]; rfl) fun K hK => ?_); simp -implicitDefEqProofs +contextual [-Int.not_le, -Int.not_lt, -Nat.not_le, -Nat.not_lt, -List.all_eq_true, -List.all_eq_false, -List.any_eq_true, -List.any_eq_false, sC, hlt, hn, hw, hi]; (repeat1' (first | apply hK | apply And.intro | intro _)) <;> clear hK K <;> (try dsimp only [List.drop]))
            | (refine WPc.sched (id := 6) tok [] [(0, []), (1, []), (2, []), (3, []), (4, []), (5, []), (6, []), (7, []), (8, []), (9, []), (10, []), (11, []), (12, []), (13, []), (14, []), (15, [])] (by kernel_rfl) ?_)
            | (refine WPS.nil ?_)
            | (refine WPc.condT ?_ ?_; (focus (simp; done))))
          all_goals rfl
      · rw [namesOk_no hlt (by rw [okName_eq hlt]; simp [hn])]
        repeat' (first
          | apply WPc.sq
          | apply WPc.block
          | (refine WPc.ret (endP.val (.inr rfl) rfl rfl (by simp; rfl) ?_))
          | apply WPc.skip
          | (apply WPS.cL (hc := (c_spec_IsName _ ?g1)); (case ho => exact rfl); (case q => (repeat' (first | refine And.intro ?_ ?_ | intro _ | exact cleanOut_nil | (refine Eqv.mk ?_; first | rfl | (simp -implicitDefEqProofs [sC, hlt, hn]; done)) | (simp -implicitDefEqProofs [sC, hlt, hn]; done) | (simp -implicitDefEqProofs [sC, hlt, hn]; rfl) | (simp; done) | (simp; rfl) | rfl))); (case g1 => (first | assumption | (exact hz))))
          | (apply WPS.callf (ho := rfl); (case hg => (simp; done)); (case hd => (simp; done)))
          | ((first | refine WPc.rq tok rfl fun K hK => ?_ | refine WPS.rn tok _ (by simp [aheadS]; rfl) fun K hK => ?_); simp -implicitDefEqProofs +contextual [-Int.not_le, -Int.not_lt, -Nat.not_le, -Nat.not_lt, -List.all_eq_true, -List.all_eq_false, -List.any_eq_true, -List.any_eq_false, sC, hlt, hn]; (repeat1' (first | apply hK | apply And.intro | intro _)) <;> clear hK K <;> (try dsimp only [List.drop]))
          | (refine WPc.sched (id := 6) tok [] [(0, []), (1, []), (2, []), (3, []), (4, []), (5, []), (6, []), (7, []), (8, []), (9, []), (10, []), (11, []), (12, []), (13, []), (14, []), (15, [])] (by kernel_rfl) ?_)
          | (refine WPS.nil ?_)
          | (refine WPc.condT ?_ ?_; (focus (simp; done))))
        all_goals rfl
    · obtain rfl : i = l.length := by omega
      repeat' (first
        | apply WPc.sq
        | (refine WPc.ret (endP.val (.inr rfl) rfl rfl (by simp; rfl) ?_))
        | apply WPc.exit
        | (refine WPc.rq tok rfl fun K hK => ?_; simp -implicitDefEqProofs +contextual [-Int.not_le, -Int.not_lt, -Nat.not_le, -Nat.not_lt, -List.all_eq_true, -List.all_eq_false, -List.any_eq_true, -List.any_eq_false, hlt]; (repeat1' (first | apply hK | apply And.intro | intro _)) <;> clear hK K <;> (try dsimp only [List.drop]))
        | (refine WPc.condF ?_ ?_; (focus (simp; done))))
      rw [List.take_of_length_le (by simp)] at hall
      simp [namesOk, hall, hm]
  · have hm' : most < (l.length : Int) := by omega
    have : namesOk l most = false := by simp [namesOk, hm]
    rw [this]
    refine Con.of tok (nt := 32) Go.Proofs.Tryz.func128 (by kernel_rfl) rfl rfl rfl (Nat.le_of_ble_eq_true rfl) fun G => ?_
    simp only [entSt, tmOf, List.append_nil, List.cons_append, List.nil_append]
    repeat' (first
      | apply WPc.sq
      | (refine WPc.ret (endP.val (.inr rfl) rfl rfl (by simp; rfl) ?_))
      | (refine WPc.rq tok rfl fun K hK => ?_; simp -implicitDefEqProofs +contextual [-Int.not_le, -Int.not_lt, -Nat.not_le, -Nat.not_lt, -List.all_eq_true, -List.all_eq_false, -List.any_eq_true, -List.any_eq_false, hm']; (repeat1' (first | apply hK | apply And.intro | intro _)) <;> clear hK K <;> (try dsimp only [List.drop]))
      | (refine WPc.condT ?_ ?_; (focus (simp; done))))
    all_goals rfl
end Go.Own
set_option maxRecDepth 1000000
set_option maxHeartbeats 4000000
namespace Go.Own
attribute [local irreducible] WPc WPL WPS WPS1 WPS2 HAny endP
variable [Laid]
open Go.Lib Go.RowKit
def sMake : ByteArray := ⟨#[109, 97, 107, 101]⟩
def sField : ByteArray := ⟨#[102, 105, 101, 108, 100]⟩
def sIs : ByteArray := ⟨#[105, 115]⟩
def oneName (l : List ByteArray) : Bool := match l with
  | [x] => isName x
  | _ => false
theorem oneName_eq {l : List ByteArray} (h : l.length = 1) : oneName l = isName l[0] := by
  match l, h with
  | [x], _ => rfl
theorem oneName_no {l : List ByteArray} (h : ¬ l.length = 1) : oneName l = false := by
  match l, h with
  | [], _ => rfl
  | [x], h => exact absurd rfl h
  | x :: y :: r, _ => rfl
def primOk (c : Nd) : Bool :=
  if c.s = sMake then decide (c.n = 0) && decide (c.args.length ≤ 8) && oneName c.names
  else if c.s = sField then oneName c.names && decide (c.args.length = 1) && inRange c.n 0 7
  else if c.s = sIs then oneName c.names && decide (c.args.length = 1) && decide (c.n = 0)
  else decide (c.names.length = 0) && decide (arity c.s = c.args.length) && decide (c.n = 0)
structure Nd.sm (c : Nd) : Prop where
  s : c.s.size < 4294967000
  names : ∀ x, x ∈ c.names → x.size < 4294967000
theorem c_impl_isTyped (s : ByteArray) : Con PP 142 [.sc (.string s)] [] [] (fun r o => r = .sc (.bool (decide (s = ⟨#[109, 97, 107, 101]⟩) || decide (s = ⟨#[102, 105, 101, 108, 100]⟩) || decide (s = ⟨#[105, 115]⟩)))) := by
  refine Con.of tok (nt := 13) Go.Proofs.Tryz.func142 (by kernel_rfl) rfl rfl rfl (Nat.le_of_ble_eq_true rfl) fun G => ?_
  simp only [entSt, tmOf, List.append_nil, List.cons_append, List.nil_append]
  repeat' (first
    | apply WPc.sq
    | (refine WPc.ret (endP.val (.inr rfl) rfl rfl (by simp; rfl) ?_))
    | (refine WPc.rq tok rfl fun K hK => ?_; simp -implicitDefEqProofs +contextual [-Int.not_le, -Int.not_lt, -Nat.not_le, -Nat.not_lt, -List.all_eq_true, -List.all_eq_false, -List.any_eq_true, -List.any_eq_false]; (repeat1' (first | apply hK | apply And.intro | intro _)) <;> clear hK K <;> (try dsimp only [List.drop])))
  all_goals (first | rfl | (simp_all; done))
theorem c_impl_primOk [F : Facts.Of] (c : Nd) (hs : c.sm) : Con PP 134 [c.av] [] [] (fun r o => r = .sc (.bool (primOk c))) := by
  obtain ⟨k, n, s, names, args⟩ := c
  obtain ⟨g1, g2⟩ := hs
  dsimp only at g1 g2
  by_cases hm : s = sMake
  · subst hm
    have e : primOk ⟨k, n, sMake, names, args⟩ = (decide (n = 0) && decide (args.length ≤ 8) && oneName names) := by simp [primOk]
    rw [e]
    by_cases h1 : names.length = 1
    · have h0 : 0 < names.length := by omega
      have h1' : ((names.length : Int) = 1) = True := by simp [h1]
      have h0' : (0 : Int) < (names.length : Int) := by omega
      have hz := g2 _ (List.getElem_mem h0)
      rw [oneName_eq h1]
      refine Con.of tok (nt := 78) Go.Proofs.Tryz.func134 (by kernel_rfl) rfl rfl rfl (Nat.le_of_ble_eq_true rfl) fun G => ?_
      simp only [entSt, tmOf, List.append_nil, List.cons_append, List.nil_append, Nd.av, sMake]
      repeat' (first
        | apply WPc.sq
        | (refine WPc.ret (endP.val (.inr rfl) rfl rfl (by simp; rfl) ?_))
        | refine WPL.nil ?_
        | (apply WPL.cL (c_impl_Arity _ ?g1); (case q => (repeat' (first | refine And.intro ?_ ?_ | intro _ | exact cleanOut_nil | (refine Eqv.mk ?_; first | rfl | (simp -implicitDefEqProofs [sC, h0, h0', h1']; done)) | (simp -implicitDefEqProofs [sC, h0, h0', h1']; done) | (simp -implicitDefEqProofs [sC, h0, h0', h1']; rfl) | (simp; done) | (simp; rfl) | rfl))); (case g1 => (first | assumption | (exact hz))))
        | (apply WPL.cL (c_impl_IsName _ ?g1); (case q => (repeat' (first | refine And.intro ?_ ?_ | intro _ | exact cleanOut_nil | (refine Eqv.mk ?_; first | rfl | (simp -implicitDefEqProofs [sC, h0, h0', h1']; done)) | (simp -implicitDefEqProofs [sC, h0, h0', h1']; done) | (simp -implicitDefEqProofs [sC, h0, h0', h1']; rfl) | (simp; done) | (simp; rfl) | rfl))); (case g1 => (first | assumption | (exact hz))))
        | (refine WPL.call0f ?_ ?_ ?_; (focus (simp; done)); (focus (simp; done)))
        | ((first | refine WPc.rq tok rfl fun K hK => ?_ | refine WPL.rn tok _ (by simp [ahead, isFn]; rfl) fun K hK => ?_); simp -implicitDefEqProofs +contextual [-Int.not_le, -Int.not_lt, -Nat.not_le, -Nat.not_lt, -List.all_eq_true, -List.all_eq_false, -List.any_eq_true, -List.any_eq_false, sC, h0, h0', h1']; (repeat1' (first | apply hK | apply And.intro | intro _)) <;> clear hK K <;> (try dsimp only [List.drop]))
        | (refine WPc.region ?_; simp only [List.toList_toArray])
        | (refine WPc.condT ?_ ?_; (focus (simp; done))))
      all_goals (simp_all; try omega)
    · have h1' : ((names.length : Int) = 1) = False := by simp; omega
      rw [oneName_no h1]
      refine Con.of tok (nt := 78) Go.Proofs.Tryz.func134 (by kernel_rfl) rfl rfl rfl (Nat.le_of_ble_eq_true rfl) fun G => ?_
      simp only [entSt, tmOf, List.append_nil, List.cons_append, List.nil_append, Nd.av, sMake]
      repeat' (first
        | apply WPc.sq
        | (refine WPc.ret (endP.val (.inr rfl) rfl rfl (by simp; rfl) ?_))
        | refine WPL.nil ?_
        | (apply WPL.cL (c_impl_Arity _ ?g1); (case q => (repeat' (first | refine And.intro ?_ ?_ | intro _ | exact cleanOut_nil | (refine Eqv.mk ?_; first | rfl | (simp -implicitDefEqProofs [sC, h1']; done)) | (simp -implicitDefEqProofs [sC, h1']; done) | (simp -implicitDefEqProofs [sC, h1']; rfl) | (simp; done) | (simp; rfl) | rfl))); (case g1 => (first | assumption)))
        | (refine WPL.call0f ?_ ?_ ?_; (focus (simp; done)); (focus (simp; done)))
        | ((first | refine WPc.rq tok rfl fun K hK => ?_ | refine WPL.rn tok _ (by simp [ahead, isFn]; rfl) fun K hK => ?_); simp -implicitDefEqProofs +contextual [-Int.not_le, -Int.not_lt, -Nat.not_le, -Nat.not_lt, -List.all_eq_true, -List.all_eq_false, -List.any_eq_true, -List.any_eq_false, sC, h1']; (repeat1' (first | apply hK | apply And.intro | intro _)) <;> clear hK K <;> (try dsimp only [List.drop]))
        | (refine WPc.region ?_; simp only [List.toList_toArray])
        | (refine WPc.condT ?_ ?_; (focus (simp; done))))
      all_goals (simp_all; try omega)
  · have hm' : (s = ⟨#[109, 97, 107, 101]⟩) = False := by simpa [sMake] using hm
    by_cases hf : s = sField
    · subst hf
      have e : primOk ⟨k, n, sField, names, args⟩ = (oneName names && decide (args.length = 1) && inRange n 0 7) := by simp [primOk, sField, sMake]
      have ar : arity sField = 1 := by decide +kernel
      simp only [sField] at ar
      rw [e]
      by_cases h1 : names.length = 1
      · have h0 : 0 < names.length := by omega
        have h1' : ((names.length : Int) = 1) = True := by simp [h1]
        have h0' : (0 : Int) < (names.length : Int) := by omega
        have hz := g2 _ (List.getElem_mem h0)
        rw [oneName_eq h1]
        refine Con.of tok (nt := 78) Go.Proofs.Tryz.func134 (by kernel_rfl) rfl rfl rfl (Nat.le_of_ble_eq_true rfl) fun G => ?_
        simp only [entSt, tmOf, List.append_nil, List.cons_append, List.nil_append, Nd.av, sField]
        repeat' (first
          | apply WPc.sq
          | (refine WPc.ret (endP.val (.inr rfl) rfl rfl (by simp; rfl) ?_))
          | apply WPc.skip
          | refine WPL.nil ?_
          | (apply WPL.cL (c_impl_Arity _ ?g1); (case q => (repeat' (first | refine And.intro ?_ ?_ | intro _ | exact cleanOut_nil | (refine Eqv.mk ?_; first | rfl | (simp -implicitDefEqProofs [sC, h0, h0', h1', ar, sMake, sField, sIs]; done)) | (simp -implicitDefEqProofs [sC, h0, h0', h1', ar, sMake, sField, sIs]; done) | (simp -implicitDefEqProofs [sC, h0, h0', h1', ar, sMake, sField, sIs]; rfl) | (simp; done) | (simp; rfl) | rfl))); (case g1 => (first | assumption | (exact hz))))
          | (apply WPL.cL (c_impl_IsName _ ?g1); (case q => (repeat' (first | refine And.intro ?_ ?_ | intro _ | exact cleanOut_nil | (refine Eqv.mk ?_; first | rfl | (simp -implicitDefEqProofs [sC, h0, h0', h1', ar, sMake, sField, sIs]; done)) | (simp -implicitDefEqProofs [sC, h0, h0', h1', ar, sMake, sField, sIs]; done) | (simp -implicitDefEqProofs [sC, h0, h0', h1', ar, sMake, sField, sIs]; rfl) | (simp; done) | (simp; rfl) | rfl))); (case g1 => (first | assumption | (exact hz))))
          | (apply WPL.cL (c_impl_inRange _ _ _); (case q => (repeat' (first | refine And.intro ?_ ?_ | intro _ | exact cleanOut_nil | (refine Eqv.mk ?_; first | rfl | (simp -implicitDefEqProofs [sC, h0, h0', h1', ar, sMake, sField, sIs]; done)) | (simp -implicitDefEqProofs [sC, h0, h0', h1', ar, sMake, sField, sIs]; done) | (simp -implicitDefEqProofs [sC, h0, h0', h1', ar, sMake, sField, sIs]; rfl) | (simp; done) | (simp; rfl) | rfl))))
          | (apply WPL.cL (c_impl_isTyped _); (case q => (repeat' (first | refine And.intro ?_ ?_ | intro _ | exact cleanOut_nil | (refine Eqv.mk ?_; first | rfl | (simp -implicitDefEqProofs [sC, h0, h0', h1', ar, sMake, sField, sIs]; done)) | (simp -implicitDefEqProofs [sC, h0, h0', h1', ar, sMake, sField, sIs]; done) | (simp -implicitDefEqProofs [sC, h0, h0', h1', ar, sMake, sField, sIs]; rfl) | (simp; done) | (simp; rfl) | rfl))))
          | ((first | refine WPc.rq tok rfl fun K hK => ?_ | refine WPL.rn tok _ (by simp [ahead, isFn]; rfl) fun K hK => ?_); simp -implicitDefEqProofs +contextual [-Int.not_le, -Int.not_lt, -Nat.not_le, -Nat.not_lt, -List.all_eq_true, -List.all_eq_false, -List.any_eq_true, -List.any_eq_false, sC, h0, h0', h1', ar, sMake, sField, sIs]; (repeat1' (first | apply hK | apply And.intro | intro _)) <;> clear hK K <;> (try dsimp only [List.drop]))
          | (refine WPc.region ?_; simp only [List.toList_toArray])
          | (refine WPc.condT ?_ ?_; (focus (simp; done)))
          | (refine WPc.condF ?_ ?_; (focus (simp; done)))
          | (refine WPc.cond (by simp [-Bool.not_eq_eq_eq_not]; rfl) (fun hq => ?_) (fun hq => ?_) <;> simp only [hq] <;> (try (exfalso; (simp only [decide_eq_true_eq, decide_eq_false_iff_not] at hq); omega))))
        all_goals (simp_all; try omega)
      · have h1' : ((names.length : Int) = 1) = False := by simp; omega
        rw [oneName_no h1]
        refine Con.of tok (nt := 78) Go.Proofs.Tryz.func134 (by kernel_rfl) rfl rfl rfl (Nat.le_of_ble_eq_true rfl) fun G => ?_
        simp only [entSt, tmOf, List.append_nil, List.cons_append, List.nil_append, Nd.av, sField]
        repeat' (first
          | apply WPc.sq
          | (refine WPc.ret (endP.val (.inr rfl) rfl rfl (by simp; rfl) ?_))
          | apply WPc.skip
          | refine WPL.nil ?_
          | (apply WPL.cL (c_impl_Arity _ ?g1); (case q => (repeat' (first | refine And.intro ?_ ?_ | intro _ | exact cleanOut_nil | (refine Eqv.mk ?_; first | rfl | (simp -implicitDefEqProofs [sC, h1', ar, sMake, sField, sIs]; done)) | (simp -implicitDefEqProofs [sC, h1', ar, sMake, sField, sIs]; done) | (simp -implicitDefEqProofs [sC, h1', ar, sMake, sField, sIs]; rfl) | (simp; done) | (simp; rfl) | rfl))); (case g1 => (first | assumption)))
          | (apply WPL.cL (c_impl_inRange _ _ _); (case q => (repeat' (first | refine And.intro ?_ ?_ | intro _ | exact cleanOut_nil | (refine Eqv.mk ?_; first | rfl | (simp -implicitDefEqProofs [sC, h1', ar, sMake, sField, sIs]; done)) | (simp -implicitDefEqProofs [sC, h1', ar, sMake, sField, sIs]; done) | (simp -implicitDefEqProofs [sC, h1', ar, sMake, sField, sIs]; rfl) | (simp; done) | (simp; rfl) | rfl))))
          | (apply WPL.cL (c_impl_isTyped _); (case q => (repeat' (first | refine And.intro ?_ ?_ | intro _ | exact cleanOut_nil | (refine Eqv.mk ?_; first | rfl | (simp -implicitDefEqProofs [sC, h1', ar, sMake, sField, sIs]; done)) | (simp -implicitDefEqProofs [sC, h1', ar, sMake, sField, sIs]; done) | (simp -implicitDefEqProofs [sC, h1', ar, sMake, sField, sIs]; rfl) | (simp; done) | (simp; rfl) | rfl))))
          | (refine WPL.call0f ?_ ?_ ?_; (focus (simp; done)); (focus (simp; done)))
          | ((first | refine WPc.rq tok rfl fun K hK => ?_ | refine WPL.rn tok _ (by simp [ahead, isFn]; rfl) fun K hK => ?_); simp -implicitDefEqProofs +contextual [-Int.not_le, -Int.not_lt, -Nat.not_le, -Nat.not_lt, -List.all_eq_true, -List.all_eq_false, -List.any_eq_true, -List.any_eq_false, sC, h1', ar, sMake, sField, sIs]; (repeat1' (first | apply hK | apply And.intro | intro _)) <;> clear hK K <;> (try dsimp only [List.drop]))
          | (refine WPc.region ?_; simp only [List.toList_toArray])
          | (refine WPc.condT ?_ ?_; (focus (simp; done)))
          | (refine WPc.condF ?_ ?_; (focus (simp; done)))
          | (refine WPc.cond (by simp [-Bool.not_eq_eq_eq_not]; rfl) (fun hq => ?_) (fun hq => ?_) <;> simp only [hq] <;> (try (exfalso; (simp only [decide_eq_true_eq, decide_eq_false_iff_not] at hq); omega))))
        all_goals (simp_all; try omega)
    · have hf' : (s = ⟨#[102, 105, 101, 108, 100]⟩) = False := by simpa [sField] using hf
      by_cases hi : s = sIs
      · subst hi
        have e : primOk ⟨k, n, sIs, names, args⟩ = (oneName names && decide (args.length = 1) && decide (n = 0)) := by simp [primOk, sField, sMake, sIs]
        have ar : arity sIs = 1 := by decide +kernel
        simp only [sIs] at ar
        rw [e]
        by_cases h1 : names.length = 1
        · have h0 : 0 < names.length := by omega
          have h1' : ((names.length : Int) = 1) = True := by simp [h1]
          have h0' : (0 : Int) < (names.length : Int) := by omega
          have hz := g2 _ (List.getElem_mem h0)
          rw [oneName_eq h1]
          refine Con.of tok (nt := 78) Go.Proofs.Tryz.func134 (by kernel_rfl) rfl rfl rfl (Nat.le_of_ble_eq_true rfl) fun G => ?_
          simp only [entSt, tmOf, List.append_nil, List.cons_append, List.nil_append, Nd.av, sIs]
          repeat' (first
            | apply WPc.sq
            | (refine WPc.ret (endP.val (.inr rfl) rfl rfl (by simp; rfl) ?_))
            | apply WPc.skip
            | refine WPL.nil ?_
            | (apply WPL.cL (c_impl_Arity _ ?g1); (case q => (repeat' (first | refine And.intro ?_ ?_ | intro _ | exact cleanOut_nil | (refine Eqv.mk ?_; first | rfl | (simp -implicitDefEqProofs [sC, h0, h0', h1', ar, sMake, sField, sIs]; done)) | (simp -implicitDefEqProofs [sC, h0, h0', h1', ar, sMake, sField, sIs]; done) | (simp -implicitDefEqProofs [sC, h0, h0', h1', ar, sMake, sField, sIs]; rfl) | (simp; done) | (simp; rfl) | rfl))); (case g1 => (first | assumption | (exact hz))))
            | (apply WPL.cL (c_impl_IsName _ ?g1); (case q => (repeat' (first | refine And.intro ?_ ?_ | intro _ | exact cleanOut_nil | (refine Eqv.mk ?_; first | rfl | (simp -implicitDefEqProofs [sC, h0, h0', h1', ar, sMake, sField, sIs]; done)) | (simp -implicitDefEqProofs [sC, h0, h0', h1', ar, sMake, sField, sIs]; done) | (simp -implicitDefEqProofs [sC, h0, h0', h1', ar, sMake, sField, sIs]; rfl) | (simp; done) | (simp; rfl) | rfl))); (case g1 => (first | assumption | (exact hz))))
            | (apply WPL.cL (c_impl_isTyped _); (case q => (repeat' (first | refine And.intro ?_ ?_ | intro _ | exact cleanOut_nil | (refine Eqv.mk ?_; first | rfl | (simp -implicitDefEqProofs [sC, h0, h0', h1', ar, sMake, sField, sIs]; done)) | (simp -implicitDefEqProofs [sC, h0, h0', h1', ar, sMake, sField, sIs]; done) | (simp -implicitDefEqProofs [sC, h0, h0', h1', ar, sMake, sField, sIs]; rfl) | (simp; done) | (simp; rfl) | rfl))))
            | (refine WPL.call0f ?_ ?_ ?_; (focus (simp; done)); (focus (simp; done)))
            | ((first | refine WPc.rq tok rfl fun K hK => ?_ | refine WPL.rn tok _ (by simp [ahead, isFn]; rfl) fun K hK => ?_); simp -implicitDefEqProofs +contextual [-Int.not_le, -Int.not_lt, -Nat.not_le, -Nat.not_lt, -List.all_eq_true, -List.all_eq_false, -List.any_eq_true, -List.any_eq_false, sC, h0, h0', h1', ar, sMake, sField, sIs]; (repeat1' (first | apply hK | apply And.intro | intro _)) <;> clear hK K <;> (try dsimp only [List.drop]))
            | (refine WPc.region ?_; simp only [List.toList_toArray])
            | (refine WPc.condT ?_ ?_; (focus (simp; done)))
            | (refine WPc.condF ?_ ?_; (focus (simp; done)))
            | (refine WPc.cond (by simp [-Bool.not_eq_eq_eq_not]; rfl) (fun hq => ?_) (fun hq => ?_) <;> simp only [hq] <;> (try (exfalso; (simp only [decide_eq_true_eq, decide_eq_false_iff_not] at hq); omega))))
          all_goals (simp_all; try omega)
        · have h1' : ((names.length : Int) = 1) = False := by simp; omega
          rw [oneName_no h1]
          refine Con.of tok (nt := 78) Go.Proofs.Tryz.func134 (by kernel_rfl) rfl rfl rfl (Nat.le_of_ble_eq_true rfl) fun G => ?_
          simp only [entSt, tmOf, List.append_nil, List.cons_append, List.nil_append, Nd.av, sIs]
          repeat' (first
            | apply WPc.sq
            | (refine WPc.ret (endP.val (.inr rfl) rfl rfl (by simp; rfl) ?_))
            | apply WPc.skip
            | refine WPL.nil ?_
            | (apply WPL.cL (c_impl_Arity _ ?g1); (case q => (repeat' (first | refine And.intro ?_ ?_ | intro _ | exact cleanOut_nil | (refine Eqv.mk ?_; first | rfl | (simp -implicitDefEqProofs [sC, h1', ar, sMake, sField, sIs]; done)) | (simp -implicitDefEqProofs [sC, h1', ar, sMake, sField, sIs]; done) | (simp -implicitDefEqProofs [sC, h1', ar, sMake, sField, sIs]; rfl) | (simp; done) | (simp; rfl) | rfl))); (case g1 => (first | assumption)))
            | (apply WPL.cL (c_impl_isTyped _); (case q => (repeat' (first | refine And.intro ?_ ?_ | intro _ | exact cleanOut_nil | (refine Eqv.mk ?_; first | rfl | (simp -implicitDefEqProofs [sC, h1', ar, sMake, sField, sIs]; done)) | (simp -implicitDefEqProofs [sC, h1', ar, sMake, sField, sIs]; done) | (simp -implicitDefEqProofs [sC, h1', ar, sMake, sField, sIs]; rfl) | (simp; done) | (simp; rfl) | rfl))))
            | (refine WPL.call0f ?_ ?_ ?_; (focus (simp; done)); (focus (simp; done)))
            | ((first | refine WPc.rq tok rfl fun K hK => ?_ | refine WPL.rn tok _ (by simp [ahead, isFn]; rfl) fun K hK => ?_); simp -implicitDefEqProofs +contextual [-Int.not_le, -Int.not_lt, -Nat.not_le, -Nat.not_lt, -List.all_eq_true, -List.all_eq_false, -List.any_eq_true, -List.any_eq_false, sC, h1', ar, sMake, sField, sIs]; (repeat1' (first | apply hK | apply And.intro | intro _)) <;> clear hK K <;> (try dsimp only [List.drop]))
            | (refine WPc.region ?_; simp only [List.toList_toArray])
            | (refine WPc.condT ?_ ?_; (focus (simp; done)))
            | (refine WPc.condF ?_ ?_; (focus (simp; done)))
            | (refine WPc.cond (by simp [-Bool.not_eq_eq_eq_not]; rfl) (fun hq => ?_) (fun hq => ?_) <;> simp only [hq] <;> (try (exfalso; (simp only [decide_eq_true_eq, decide_eq_false_iff_not] at hq); omega))))
          all_goals (simp_all; try omega)
      · have hi' : (s = ⟨#[105, 115]⟩) = False := by simpa [sIs] using hi
        have e : primOk ⟨k, n, s, names, args⟩ = (decide (names.length = 0) && decide (arity s = args.length) && decide (n = 0)) := by simp [primOk, hm, hf, hi]
        rw [e]
        refine Con.of tok (nt := 78) Go.Proofs.Tryz.func134 (by kernel_rfl) rfl rfl rfl (Nat.le_of_ble_eq_true rfl) fun G => ?_
        simp only [entSt, tmOf, List.append_nil, List.cons_append, List.nil_append, Nd.av]
        repeat' (first
          | apply WPc.sq
          | (refine WPc.ret (endP.val (.inr rfl) rfl rfl (by simp; rfl) ?_))
          | apply WPc.skip
          | refine WPL.nil ?_
          | (apply WPL.cL (c_impl_Arity _ ?g1); (case q => (repeat' (first | refine And.intro ?_ ?_ | intro _ | exact cleanOut_nil | (refine Eqv.mk ?_; first | rfl | (simp -implicitDefEqProofs [sC, hm', hf', hi', sMake, sField, sIs]; done)) | (simp -implicitDefEqProofs [sC, hm', hf', hi', sMake, sField, sIs]; done) | (simp -implicitDefEqProofs [sC, hm', hf', hi', sMake, sField, sIs]; rfl) | (simp; done) | (simp; rfl) | rfl))); (case g1 => (first | assumption)))
          | (apply WPL.cL (c_impl_isTyped _); (case q => (repeat' (first | refine And.intro ?_ ?_ | intro _ | exact cleanOut_nil | (refine Eqv.mk ?_; first | rfl | (simp -implicitDefEqProofs [sC, hm', hf', hi', sMake, sField, sIs]; done)) | (simp -implicitDefEqProofs [sC, hm', hf', hi', sMake, sField, sIs]; done) | (simp -implicitDefEqProofs [sC, hm', hf', hi', sMake, sField, sIs]; rfl) | (simp; done) | (simp; rfl) | rfl))))
          | (refine WPL.call0f ?_ ?_ ?_; (focus (simp; done)); (focus (simp; done)))
          | ((first | refine WPc.rq tok rfl fun K hK => ?_ | refine WPL.rn tok _ (by simp [ahead, isFn]; rfl) fun K hK => ?_); simp -implicitDefEqProofs +contextual [-Int.not_le, -Int.not_lt, -Nat.not_le, -Nat.not_lt, -List.all_eq_true, -List.all_eq_false, -List.any_eq_true, -List.any_eq_false, sC, hm', hf', hi', sMake, sField, sIs]; (repeat1' (first | apply hK | apply And.intro | intro _)) <;> clear hK K <;> (try dsimp only [List.drop]))
          | (refine WPc.region ?_; simp only [List.toList_toArray])
          | (refine WPc.condT ?_ ?_; (focus (simp; done)))
          | (refine WPc.condF ?_ ?_; (focus (simp; done)))
          | (refine WPc.cond (by simp [-Bool.not_eq_eq_eq_not]; rfl) (fun hq => ?_) (fun hq => ?_) <;> simp only [hq] <;> (try (exfalso; (simp only [decide_eq_true_eq, decide_eq_false_iff_not] at hq); omega))))
        all_goals (simp_all; try omega)
theorem c_spec_l3Prim (c : Nd) (hs : c.sm) : Con PP 129 [c.av] [] [] (fun r o => r = .sc (.bool (primOk c))) := by
  obtain ⟨k, n, s, names, args⟩ := c
  obtain ⟨g1, g2⟩ := hs
  dsimp only at g1 g2
  by_cases hm : s = sMake
  · subst hm
    have e : primOk ⟨k, n, sMake, names, args⟩ = (decide (n = 0) && decide (args.length ≤ 8) && oneName names) := by simp [primOk]
    rw [e]
    by_cases h1 : names.length = 1
    · have h0 : 0 < names.length := by omega
      have h1' : ((names.length : Int) = 1) = True := by simp [h1]
      have h0' : (0 : Int) < (names.length : Int) := by omega
      have hz := g2 _ (List.getElem_mem h0)
      rw [oneName_eq h1]
      refine Con.of tok (nt := 91) Go.Proofs.Tryz.func129 (by kernel_rfl) rfl rfl rfl (Nat.le_of_ble_eq_true rfl) fun G => ?_
      simp only [entSt, tmOf, List.append_nil, List.cons_append, List.nil_append, Nd.av, sMake]
      repeat' (first
        | apply WPc.sq
        | apply WPc.block
        | (refine WPc.ret (endP.val (.inr rfl) rfl rfl (by simp; rfl) ?_))
        | refine WPL.nil ?_
        | (apply WPL.cL (c_spec_IsName _ ?g1); (case q => (repeat' (first | refine And.intro ?_ ?_ | intro _ | exact cleanOut_nil | (refine Eqv.mk ?_; first | rfl | (simp -implicitDefEqProofs [sC, h0, h0', h1']; done)) | (simp -implicitDefEqProofs [sC, h0, h0', h1']; done) | (simp -implicitDefEqProofs [sC, h0, h0', h1']; rfl) | (simp; done) | (simp; rfl) | rfl))); (case g1 => (first | assumption | (exact hz))))
        | ((first | refine WPc.rq tok rfl fun K hK => ?_ | refine WPL.rn tok _ (by simp [ahead, isFn]; rfl) fun K hK => ?_); simp -implicitDefEqProofs +contextual [-Int.not_le, -Int.not_lt, -Nat.not_le, -Nat.not_lt, -List.all_eq_true, -List.all_eq_false, -List.any_eq_true, -List.any_eq_false, sC, h0, h0', h1']; (repeat1' (first | apply hK | apply And.intro | intro _)) <;> clear hK K <;> (try dsimp only [List.drop]))
        | (refine WPc.region ?_; simp only [List.toList_toArray])
        | (refine WPc.condT ?_ ?_; (focus (simp; done))))
      all_goals (simp_all; try omega)
    · have h1' : ((names.length : Int) = 1) = False := by simp; omega
      rw [oneName_no h1]
      refine Con.of tok (nt := 91) Go.Proofs.Tryz.func129 (by kernel_rfl) rfl rfl rfl (Nat.le_of_ble_eq_true rfl) fun G => ?_
      simp only [entSt, tmOf, List.append_nil, List.cons_append, List.nil_append, Nd.av, sMake]
      repeat' (first
        | apply WPc.sq
        | apply WPc.block
        | (refine WPc.ret (endP.val (.inr rfl) rfl rfl (by simp; rfl) ?_))
        | refine WPL.nil ?_
        | (refine WPL.call0f ?_ ?_ ?_; (focus (simp; done)); (focus (simp; done)))
        | ((first | refine WPc.rq tok rfl fun K hK => ?_ | refine WPL.rn tok _ (by simp [ahead, isFn]; rfl) fun K hK => ?_); simp -implicitDefEqProofs +contextual [-Int.not_le, -Int.not_lt, -Nat.not_le, -Nat.not_lt, -List.all_eq_true, -List.all_eq_false, -List.any_eq_true, -List.any_eq_false, sC, h1']; (repeat1' (first | apply hK | apply And.intro | intro _)) <;> clear hK K <;> (try dsimp only [List.drop]))
        | (refine WPc.region ?_; simp only [List.toList_toArray])
        | (refine WPc.condT ?_ ?_; (focus (simp; done))))
      all_goals (simp_all; try omega)
  · have hm' : (s = ⟨#[109, 97, 107, 101]⟩) = False := by simpa [sMake] using hm
    by_cases hf : s = sField
    · subst hf
      have e : primOk ⟨k, n, sField, names, args⟩ = (oneName names && decide (args.length = 1) && inRange n 0 7) := by simp [primOk, sField, sMake]
      rw [e]
      by_cases h1 : names.length = 1
      · have h0 : 0 < names.length := by omega
        have h1' : ((names.length : Int) = 1) = True := by simp [h1]
        have h0' : (0 : Int) < (names.length : Int) := by omega
        have hz := g2 _ (List.getElem_mem h0)
        rw [oneName_eq h1]
        refine Con.of tok (nt := 91) Go.Proofs.Tryz.func129 (by kernel_rfl) rfl rfl rfl (Nat.le_of_ble_eq_true rfl) fun G => ?_
        simp only [entSt, tmOf, List.append_nil, List.cons_append, List.nil_append, Nd.av, sField]
        repeat' (first
          | apply WPc.sq
          | apply WPc.block
          | (refine WPc.ret (endP.val (.inr rfl) rfl rfl (by simp; rfl) ?_))
          | refine WPL.nil ?_
          | (apply WPL.cL (c_spec_IsName _ ?g1); (case q => (repeat' (first | refine And.intro ?_ ?_ | intro _ | exact cleanOut_nil | (refine Eqv.mk ?_; first | rfl | (simp -implicitDefEqProofs [sC, h0, h0', h1']; done)) | (simp -implicitDefEqProofs [sC, h0, h0', h1']; done) | (simp -implicitDefEqProofs [sC, h0, h0', h1']; rfl) | (simp; done) | (simp; rfl) | rfl))); (case g1 => (first | assumption | (exact hz))))
          | (apply WPL.cL (c_spec_l1In _ _ _); (case q => (repeat' (first | refine And.intro ?_ ?_ | intro _ | exact cleanOut_nil | (refine Eqv.mk ?_; first | rfl | (simp -implicitDefEqProofs [sC, h0, h0', h1']; done)) | (simp -implicitDefEqProofs [sC, h0, h0', h1']; done) | (simp -implicitDefEqProofs [sC, h0, h0', h1']; rfl) | (simp; done) | (simp; rfl) | rfl))))
          | (refine WPL.call0f ?_ ?_ ?_; (focus (simp; done)); (focus (simp; done)))
          | ((first | refine WPc.rq tok rfl fun K hK => ?_ | refine WPL.rn tok _ (by simp [ahead, isFn]; rfl) fun K hK => ?_); simp -implicitDefEqProofs +contextual [-Int.not_le, -Int.not_lt, -Nat.not_le, -Nat.not_lt, -List.all_eq_true, -List.all_eq_false, -List.any_eq_true, -List.any_eq_false, sC, h0, h0', h1']; (repeat1' (first | apply hK | apply And.intro | intro _)) <;> clear hK K <;> (try dsimp only [List.drop]))
          | (refine WPc.region ?_; simp only [List.toList_toArray])
          | (refine WPc.condT ?_ ?_; (focus (simp; done)))
          | (refine WPc.condF ?_ ?_; (focus (simp; done))))
        all_goals (simp_all; try omega)
      · have h1' : ((names.length : Int) = 1) = False := by simp; omega
        rw [oneName_no h1]
        refine Con.of tok (nt := 91) Go.Proofs.Tryz.func129 (by kernel_rfl) rfl rfl rfl (Nat.le_of_ble_eq_true rfl) fun G => ?_
        simp only [entSt, tmOf, List.append_nil, List.cons_append, List.nil_append, Nd.av, sField]
        repeat' (first
          | apply WPc.sq
          | apply WPc.block
          | (refine WPc.ret (endP.val (.inr rfl) rfl rfl (by simp; rfl) ?_))
          | refine WPL.nil ?_
          | (refine WPL.call0f ?_ ?_ ?_; (focus (simp; done)); (focus (simp; done)))
          | ((first | refine WPc.rq tok rfl fun K hK => ?_ | refine WPL.rn tok _ (by simp [ahead, isFn]; rfl) fun K hK => ?_); simp -implicitDefEqProofs +contextual [-Int.not_le, -Int.not_lt, -Nat.not_le, -Nat.not_lt, -List.all_eq_true, -List.all_eq_false, -List.any_eq_true, -List.any_eq_false, sC, h1']; (repeat1' (first | apply hK | apply And.intro | intro _)) <;> clear hK K <;> (try dsimp only [List.drop]))
          | (refine WPc.region ?_; simp only [List.toList_toArray])
          | (refine WPc.condT ?_ ?_; (focus (simp; done)))
          | (refine WPc.condF ?_ ?_; (focus (simp; done))))
        all_goals (simp_all; try omega)
    · have hf' : (s = ⟨#[102, 105, 101, 108, 100]⟩) = False := by simpa [sField] using hf
      by_cases hi : s = sIs
      · subst hi
        have e : primOk ⟨k, n, sIs, names, args⟩ = (oneName names && decide (args.length = 1) && decide (n = 0)) := by simp [primOk, sField, sMake, sIs]
        rw [e]
        by_cases h1 : names.length = 1
        · have h0 : 0 < names.length := by omega
          have h1' : ((names.length : Int) = 1) = True := by simp [h1]
          have h0' : (0 : Int) < (names.length : Int) := by omega
          have hz := g2 _ (List.getElem_mem h0)
          rw [oneName_eq h1]
          refine Con.of tok (nt := 91) Go.Proofs.Tryz.func129 (by kernel_rfl) rfl rfl rfl (Nat.le_of_ble_eq_true rfl) fun G => ?_
          simp only [entSt, tmOf, List.append_nil, List.cons_append, List.nil_append, Nd.av, sIs]
          repeat' (first
            | apply WPc.sq
            | apply WPc.block
            | (refine WPc.ret (endP.val (.inr rfl) rfl rfl (by simp; rfl) ?_))
            | refine WPL.nil ?_
            | (apply WPL.cL (c_spec_IsName _ ?g1); (case q => (repeat' (first | refine And.intro ?_ ?_ | intro _ | exact cleanOut_nil | (refine Eqv.mk ?_; first | rfl | (simp -implicitDefEqProofs [sC, h0, h0', h1']; done)) | (simp -implicitDefEqProofs [sC, h0, h0', h1']; done) | (simp -implicitDefEqProofs [sC, h0, h0', h1']; rfl) | (simp; done) | (simp; rfl) | rfl))); (case g1 => (first | assumption | (exact hz))))
            | ((first | refine WPc.rq tok rfl fun K hK => ?_ | refine WPL.rn tok _ (by simp [ahead, isFn]; rfl) fun K hK => ?_); simp -implicitDefEqProofs +contextual [-Int.not_le, -Int.not_lt, -Nat.not_le, -Nat.not_lt, -List.all_eq_true, -List.all_eq_false, -List.any_eq_true, -List.any_eq_false, sC, h0, h0', h1']; (repeat1' (first | apply hK | apply And.intro | intro _)) <;> clear hK K <;> (try dsimp only [List.drop]))
            | (refine WPc.region ?_; simp only [List.toList_toArray])
            | (refine WPc.condT ?_ ?_; (focus (simp; done)))
            | (refine WPc.condF ?_ ?_; (focus (simp; done))))
          all_goals (simp_all; try omega)
        · have h1' : ((names.length : Int) = 1) = False := by simp; omega
          rw [oneName_no h1]
          refine Con.of tok (nt := 91) Go.Proofs.Tryz.func129 (by kernel_rfl) rfl rfl rfl (Nat.le_of_ble_eq_true rfl) fun G => ?_
          simp only [entSt, tmOf, List.append_nil, List.cons_append, List.nil_append, Nd.av, sIs]
          repeat' (first
            | apply WPc.sq
            | apply WPc.block
            | (refine WPc.ret (endP.val (.inr rfl) rfl rfl (by simp; rfl) ?_))
            | refine WPL.nil ?_
            | (refine WPL.call0f ?_ ?_ ?_; (focus (simp; done)); (focus (simp; done)))
            | ((first | refine WPc.rq tok rfl fun K hK => ?_ | refine WPL.rn tok _ (by simp [ahead, isFn]; rfl) fun K hK => ?_); simp -implicitDefEqProofs +contextual [-Int.not_le, -Int.not_lt, -Nat.not_le, -Nat.not_lt, -List.all_eq_true, -List.all_eq_false, -List.any_eq_true, -List.any_eq_false, sC, h1']; (repeat1' (first | apply hK | apply And.intro | intro _)) <;> clear hK K <;> (try dsimp only [List.drop]))
            | (refine WPc.region ?_; simp only [List.toList_toArray])
            | (refine WPc.condT ?_ ?_; (focus (simp; done)))
            | (refine WPc.condF ?_ ?_; (focus (simp; done))))
          all_goals (simp_all; try omega)
      · have hi' : (s = ⟨#[105, 115]⟩) = False := by simpa [sIs] using hi
        have e : primOk ⟨k, n, s, names, args⟩ = (decide (names.length = 0) && decide (arity s = args.length) && decide (n = 0)) := by simp [primOk, hm, hf, hi]
        rw [e]
        refine Con.of tok (nt := 91) Go.Proofs.Tryz.func129 (by kernel_rfl) rfl rfl rfl (Nat.le_of_ble_eq_true rfl) fun G => ?_
        simp only [entSt, tmOf, List.append_nil, List.cons_append, List.nil_append, Nd.av]
        repeat' (first
          | apply WPc.sq
          | apply WPc.block
          | (refine WPc.ret (endP.val (.inr rfl) rfl rfl (by simp; rfl) ?_))
          | apply WPc.skip
          | refine WPL.nil ?_
          | (apply WPL.cL (c_spec_Arity _); (case q => (repeat' (first | refine And.intro ?_ ?_ | intro _ | exact cleanOut_nil | (refine Eqv.mk ?_; first | rfl | (simp -implicitDefEqProofs [sC, hm', hf', hi']; done)) | (simp -implicitDefEqProofs [sC, hm', hf', hi']; done) | (simp -implicitDefEqProofs [sC, hm', hf', hi']; rfl) | (simp; done) | (simp; rfl) | rfl))))
          | (refine WPL.call0f ?_ ?_ ?_; (focus (simp; done)); (focus (simp; done)))
          | ((first | refine WPc.rq tok rfl fun K hK => ?_ | refine WPL.rn tok _ (by simp [ahead, isFn]; rfl) fun K hK => ?_); simp -implicitDefEqProofs +contextual [-Int.not_le, -Int.not_lt, -Nat.not_le, -Nat.not_lt, -List.all_eq_true, -List.all_eq_false, -List.any_eq_true, -List.any_eq_false, sC, hm', hf', hi']; (repeat1' (first | apply hK | apply And.intro | intro _)) <;> clear hK K <;> (try dsimp only [List.drop]))
          | (refine WPc.region ?_; simp only [List.toList_toArray])
          | (refine WPc.condF ?_ ?_; (focus (simp; done))))
        all_goals (simp_all; try omega)
end Go.Own
set_option maxRecDepth 1000000
set_option maxHeartbeats 4000000
namespace Go.Own
attribute [local irreducible] WPc WPL WPS WPS1 WPS2 HAny endP
variable [Laid]
open Go.Lib Go.RowKit
def nodeOk (c : Nd) : Bool :=
  if c.k = 1 then inRange c.n (-1000000) 1000000 && decide (c.s = zs) && decide (c.names.length = 0) && decide (c.args.length = 0)
  else if c.k = 2 then inRange c.n 0 1 && decide (c.s = zs) && decide (c.names.length = 0) && decide (c.args.length = 0)
  else if c.k = 3 then decide (c.n = 0) && decide (c.s = zs) && decide (c.names.length = 0) && decide (c.args.length = 0)
  else if c.k = 4 then decide (c.n = 0) && sym c.s && decide (c.names.length = 0) && decide (c.args.length = 0)
  else if c.k = 5 then decide (c.n = 0) && isName c.s && decide (c.names.length = 0) && decide (c.args.length = 0)
  else if c.k = 6 then decide (c.n = 0) && decide (c.s = zs) && decide (c.names.length = 0) && decide (c.args.length = 3)
  else if c.k = 7 then decide (c.n = 0) && decide (c.s = zs) && namesOk c.names 8 && decide (c.args.length = 1)
  else if c.k = 8 then decide (c.n = 0) && decide (c.s = zs) && decide (c.names.length = 0) && inRange c.args.length 1 9
  else if c.k = 9 then primOk c
  else if c.k = 10 then decide (c.n = 0) && isName c.s && decide (c.names.length = 0) && decide (c.args.length = 1)
  else if c.k = 11 then decide (c.n = 0) && decide (c.s = zs) && decide (c.names.length = 0) && decide (2 ≤ c.args.length)
  else false
theorem c_impl_nodeOk [F : Facts.Of] (c : Nd) (hs : c.sm) : Con PP 111 [c.av] [] [] (fun r o => r = .sc (.bool (nodeOk c))) := by
  obtain ⟨g1, g2⟩ := hs
  have g3 : c.s.size ≤ 281474976710656 := by omega
  have ep : primOk ⟨c.k, c.n, c.s, c.names, c.args⟩ = primOk c := rfl
  have gs : Nd.sm ⟨c.k, c.n, c.s, c.names, c.args⟩ := ⟨g1, g2⟩
  refine Con.of tok (nt := 168) Go.Proofs.Tryz.func111 (by kernel_rfl) rfl rfl rfl (Nat.le_of_ble_eq_true rfl) fun G => ?_
  simp only [entSt, tmOf, List.append_nil, List.cons_append, List.nil_append, Nd.av]
  repeat' (first
    | apply WPc.sq
    | apply WPc.block
    | (refine WPc.ret (endP.val (.inr rfl) rfl rfl (by simp; rfl) ?_))
    | apply WPc.skip
    | refine WPL.nil ?_
    | (apply WPL.cL (c_impl_inRange _ _ _); (case q => (repeat' (first | refine And.intro ?_ ?_ | intro _ | exact cleanOut_nil | (refine Eqv.mk ?_; first | rfl | (simp -implicitDefEqProofs [ep]; done)) | (simp -implicitDefEqProofs [ep]; done) | (simp -implicitDefEqProofs [ep]; rfl) | (simp; done) | (simp; rfl) | rfl))))
    | (apply WPL.cL (c_impl_symOk _ ?g1); (case q => (repeat' (first | refine And.intro ?_ ?_ | intro _ | exact cleanOut_nil | (refine Eqv.mk ?_; first | rfl | (simp -implicitDefEqProofs [ep]; done)) | (simp -implicitDefEqProofs [ep]; done) | (simp -implicitDefEqProofs [ep]; rfl) | (simp; done) | (simp; rfl) | rfl))); (case g1 => (first | assumption | omega)))
    | (apply WPL.cL (c_impl_IsName _ ?g1); (case q => (repeat' (first | refine And.intro ?_ ?_ | intro _ | exact cleanOut_nil | (refine Eqv.mk ?_; first | rfl | (simp -implicitDefEqProofs [ep]; done)) | (simp -implicitDefEqProofs [ep]; done) | (simp -implicitDefEqProofs [ep]; rfl) | (simp; done) | (simp; rfl) | rfl))); (case g1 => (first | assumption | omega)))
    | (apply WPL.cL (c_impl_namesOk _ _ ?g1); (case q => (repeat' (first | refine And.intro ?_ ?_ | intro _ | exact cleanOut_nil | (refine Eqv.mk ?_; first | rfl | (simp -implicitDefEqProofs [ep]; done)) | (simp -implicitDefEqProofs [ep]; done) | (simp -implicitDefEqProofs [ep]; rfl) | (simp; done) | (simp; rfl) | rfl))); (case g1 => (first | assumption | omega)))
    | (apply WPL.cL (c_impl_primOk ⟨_, _, _, _, _⟩ ?g1); (case q => (repeat' (first | refine And.intro ?_ ?_ | intro _ | exact cleanOut_nil | (refine Eqv.mk ?_; first | rfl | (simp -implicitDefEqProofs [ep]; done)) | (simp -implicitDefEqProofs [ep]; done) | (simp -implicitDefEqProofs [ep]; rfl) | (simp; done) | (simp; rfl) | rfl))); (case g1 => (first | assumption | omega)))
    | (refine WPL.call0f ?_ ?_ ?_; (focus (simp; done)); (focus (simp; done)))
    | ((first | refine WPc.rq tok rfl fun K hK => ?_ | refine WPL.rn tok _ (by simp [ahead, isFn]; rfl) fun K hK => ?_ | refine WPS.rn tok _ (by simp [aheadS]; rfl) fun K hK => ?_); simp -implicitDefEqProofs +contextual [-Int.not_le, -Int.not_lt, -Nat.not_le, -Nat.not_lt, -List.all_eq_true, -List.all_eq_false, -List.any_eq_true, -List.any_eq_false, ep]; (repeat1' (first | apply hK | apply And.intro | intro _)) <;> clear hK K <;> (try dsimp only [List.drop]))
    | (refine WPc.sched (id := 1) tok [] [(0, []), (1, []), (2, []), (3, []), (4, []), (5, []), (6, []), (7, []), (8, []), (9, []), (10, []), (11, []), (12, []), (13, []), (14, []), (15, []), (16, [])] (by kernel_rfl) ?_)
    | (refine WPS.nil ?_)
    | (refine WPc.region ?_; simp only [List.toList_toArray])
    | (refine WPc.cond (by simp [-Bool.not_eq_eq_eq_not]; rfl) (fun hq => ?_) (fun hq => ?_) <;> simp only [hq] <;> (try (exfalso; (simp only [decide_eq_true_eq, decide_eq_false_iff_not] at hq); omega))))
  all_goals (first | (simp_all [nodeOk, zs]; done) | (simp_all [nodeOk, zs]; omega) | trace_state)
theorem c_spec_l3Node (c : Nd) (hs : c.sm) : Con PP 108 [c.av] [] [] (fun r o => r = .sc (.bool (nodeOk c))) := by
  obtain ⟨g1, g2⟩ := hs
  have g3 : c.s.size ≤ 281474976710656 := by omega
  have ep : primOk ⟨c.k, c.n, c.s, c.names, c.args⟩ = primOk c := rfl
  have gs : Nd.sm ⟨c.k, c.n, c.s, c.names, c.args⟩ := ⟨g1, g2⟩
  refine Con.of tok (nt := 190) Go.Proofs.Tryz.func108 (by kernel_rfl) rfl rfl rfl (Nat.le_of_ble_eq_true rfl) fun G => ?_
  simp only [entSt, tmOf, List.append_nil, List.cons_append, List.nil_append, Nd.av]
  repeat' (first
    | apply WPc.sq
    | apply WPc.block
    | (refine WPc.ret (endP.val (.inr rfl) rfl rfl (by simp; rfl) ?_))
    | apply WPc.skip
    | refine WPL.nil ?_
    | (apply WPL.cL (c_spec_l1In _ _ _); (case q => (repeat' (first | refine And.intro ?_ ?_ | intro _ | exact cleanOut_nil | (refine Eqv.mk ?_; first | rfl | (simp -implicitDefEqProofs [ep]; done)) | (simp -implicitDefEqProofs [ep]; done) | (simp -implicitDefEqProofs [ep]; rfl) | (simp; done) | (simp; rfl) | rfl))))
    | (apply WPL.cL (c_spec_l2Sym _ ?g1); (case q => (repeat' (first | refine And.intro ?_ ?_ | intro _ | exact cleanOut_nil | (refine Eqv.mk ?_; first | rfl | (simp -implicitDefEqProofs [ep]; done)) | (simp -implicitDefEqProofs [ep]; done) | (simp -implicitDefEqProofs [ep]; rfl) | (simp; done) | (simp; rfl) | rfl))); (case g1 => (first | assumption | omega)))
    | (apply WPL.cL (c_spec_IsName _ ?g1); (case q => (repeat' (first | refine And.intro ?_ ?_ | intro _ | exact cleanOut_nil | (refine Eqv.mk ?_; first | rfl | (simp -implicitDefEqProofs [ep]; done)) | (simp -implicitDefEqProofs [ep]; done) | (simp -implicitDefEqProofs [ep]; rfl) | (simp; done) | (simp; rfl) | rfl))); (case g1 => (first | assumption | omega)))
    | (apply WPL.cL (c_spec_l3Names _ _ ?g1); (case q => (repeat' (first | refine And.intro ?_ ?_ | intro _ | exact cleanOut_nil | (refine Eqv.mk ?_; first | rfl | (simp -implicitDefEqProofs [ep]; done)) | (simp -implicitDefEqProofs [ep]; done) | (simp -implicitDefEqProofs [ep]; rfl) | (simp; done) | (simp; rfl) | rfl))); (case g1 => (first | assumption | omega)))
    | (apply WPL.cL (c_spec_l3Prim ⟨_, _, _, _, _⟩ ?g1); (case q => (repeat' (first | refine And.intro ?_ ?_ | intro _ | exact cleanOut_nil | (refine Eqv.mk ?_; first | rfl | (simp -implicitDefEqProofs [ep]; done)) | (simp -implicitDefEqProofs [ep]; done) | (simp -implicitDefEqProofs [ep]; rfl) | (simp; done) | (simp; rfl) | rfl))); (case g1 => (first | assumption | omega)))
    | (refine WPL.call0f ?_ ?_ ?_; (focus (simp; done)); (focus (simp; done)))
    | ((first | refine WPc.rq tok rfl fun K hK => ?_ | refine WPL.rn tok _ (by simp [ahead, isFn]; rfl) fun K hK => ?_); simp -implicitDefEqProofs +contextual [-Int.not_le, -Int.not_lt, -Nat.not_le, -Nat.not_lt, -List.all_eq_true, -List.all_eq_false, -List.any_eq_true, -List.any_eq_false, ep]; (repeat1' (first | apply hK | apply And.intro | intro _)) <;> clear hK K <;> (try dsimp only [List.drop]))
    | (refine WPc.region ?_; simp only [List.toList_toArray])
    | (refine WPc.cond (by simp [-Bool.not_eq_eq_eq_not]; rfl) (fun hq => ?_) (fun hq => ?_) <;> simp only [hq] <;> (try (exfalso; (simp only [decide_eq_true_eq, decide_eq_false_iff_not] at hq); omega))))
  all_goals (first | (simp_all [nodeOk, zs]; done) | (simp_all [nodeOk, zs]; omega) | trace_state)
end Go.Own
set_option maxRecDepth 1000000
set_option maxHeartbeats 4000000
namespace Go.Own
variable [Laid]
def bump (l : List Int) (a : Int) : List Int := l.modify a.toNat (· + 1)
def bumps (l : List Int) (xs : List Int) : List Int := xs.foldl bump l
def seenTo (ns : List Nd) (i : Nat) : List Int := (ns.take i).foldl (fun l c => bumps l c.args) (List.replicate ns.length 0)
def argsOk (i : Nat) (xs : List Int) : Bool := xs.all fun a => inRange a 0 ((i : Int) - 1)
def okNode (ns : List Nd) (i : Nat) : Bool := match ns[i]? with
  | some c => nodeOk c && argsOk i c.args
  | none => true
def progOk (p : Pg) : Bool := inRange p.nodes.length 1 400 && decide (p.root = (p.nodes.length : Int) - 1) && (List.range p.nodes.length).all (okNode p.nodes) && ((seenTo p.nodes p.nodes.length).take (p.nodes.length - 1)).all fun n => decide (n = 1)
@[simp] theorem bump_len (l : List Int) (a : Int) : (bump l a).length = l.length := by simp [bump]
@[simp] theorem bumps_len : ∀ (xs : List Int) (l : List Int), (bumps l xs).length = l.length
  | [], l => rfl
  | a :: xs, l => by rw [bumps, List.foldl_cons]; exact (bumps_len xs (bump l a)).trans (bump_len l a)
theorem seen_fold_len : ∀ (cs : List Nd) (l : List Int), (cs.foldl (fun l c => bumps l c.args) l).length = l.length
  | [], l => rfl
  | c :: cs, l => by rw [List.foldl_cons, seen_fold_len cs]; simp
@[simp] theorem seenTo_len (ns : List Nd) (i : Nat) : (seenTo ns i).length = ns.length := by rw [seenTo, seen_fold_len]; simp
theorem seenTo_zero (ns : List Nd) : seenTo ns 0 = List.replicate ns.length 0 := by simp [seenTo]
theorem seenTo_next {ns : List Nd} {i : Nat} (hi : i < ns.length) : seenTo ns (i + 1) = bumps (seenTo ns i) ns[i].args := by
  rw [seenTo, List.take_add_one, List.getElem?_eq_getElem hi, Option.toList_some, List.foldl_append]
  rfl
theorem bumps_zero (l : List Int) : bumps l [] = l := rfl
theorem bumps_next {l xs : List Int} {k : Nat} (hk : k < xs.length) : bumps l (xs.take (k + 1)) = bump (bumps l (xs.take k)) xs[k] := by
  rw [bumps, List.take_add_one, List.getElem?_eq_getElem hk, Option.toList_some, List.foldl_append]
  rfl
def bnd (B : Int) (l : List Int) : Prop := ∀ x, x ∈ l → 0 ≤ x ∧ x ≤ B
theorem mem_modify {α : Type} {l : List α} {i : Nat} {f : α → α} {x : α} (h : x ∈ l.modify i f) : x ∈ l ∨ ∃ y, y ∈ l ∧ x = f y := by
  obtain ⟨j, hj⟩ := List.mem_iff_getElem?.1 h
  rw [List.getElem?_modify] at hj
  cases hl : l[j]? with
  | none => simp [hl] at hj
  | some y =>
    simp [hl] at hj
    split at hj
    · exact .inr ⟨y, List.mem_iff_getElem?.2 ⟨j, hl⟩, hj.symm⟩
    · exact .inl (hj ▸ List.mem_iff_getElem?.2 ⟨j, hl⟩)
theorem bnd_bump {B : Int} {l : List Int} (h : bnd B l) (a : Int) : bnd (B + 1) (bump l a) := fun x hx => by
  rcases mem_modify hx with hx | ⟨y, hy, rfl⟩
  · have := h x hx; omega
  · have := h y hy; omega
theorem bnd_bumps : ∀ (xs : List Int) {B : Int} {l : List Int} (_ : bnd B l), bnd (B + xs.length) (bumps l xs)
  | [], B, l, h => by simpa [bumps] using h
  | a :: xs, B, l, h => by
    have := bnd_bumps xs (bnd_bump h a)
    rw [bumps, List.foldl_cons]
    intro x hx
    have := this x hx
    simp only [List.length_cons]
    omega
theorem bnd_fold (M : Nat) : ∀ (cs : List Nd) {B : Int} {l : List Int} (_ : bnd B l) (_ : ∀ c, c ∈ cs → c.args.length ≤ M), bnd (B + M * cs.length) (cs.foldl (fun l c => bumps l c.args) l)
  | [], B, l, h, _ => by simpa using h
  | c :: cs, B, l, h, hc => by
    have h1 := bnd_bumps c.args h
    have h2 := bnd_fold M cs h1 fun d hd => hc d (by simp [hd])
    have h3 := hc c (by simp)
    rw [List.foldl_cons]
    intro x hx
    have := h2 x hx
    simp only [List.length_cons]
    refine ⟨this.1, Int.le_trans this.2 ?_⟩
    have : (M : Int) * ((cs.length + 1 : Nat) : Int) = M * cs.length + M := by rw [Int.natCast_add, Int.mul_add]; simp
    rw [this]
    omega
theorem bnd_seen {ns : List Nd} {i : Nat} (hr : ∀ c, c ∈ ns → c.args.length ≤ 1000000000) (hi : i ≤ 400) : bnd 400000000000 (seenTo ns i) := by
  have h0 : bnd 0 (List.replicate ns.length (0 : Int)) := fun x hx => by
    have := List.eq_of_mem_replicate hx; omega
  have := bnd_fold 1000000000 (ns.take i) h0 fun c hc => hr c (List.mem_of_mem_take hc)
  intro x hx
  have := this x hx
  have hl : (ns.take i).length ≤ i := by simp; omega
  refine ⟨this.1, Int.le_trans this.2 ?_⟩
  have h2 : ((1000000000 : Nat) : Int) * ((ns.take i).length : Int) ≤ 1000000000 * 400 := by
    have : ((ns.take i).length : Int) ≤ 400 := by omega
    have := Int.mul_le_mul_of_nonneg_left this (show (0 : Int) ≤ ((1000000000 : Nat) : Int) by omega)
    simpa using this
  omega
theorem bump_ne {l : List Int} {a : Int} {j : Nat} (h : a.toNat ≠ j) : (bump l a)[j]? = l[j]? := by
  rw [bump, List.getElem?_modify]
  cases l[j]? with
  | none => rfl
  | some x => simp [h]
theorem bumps_ne {j : Nat} : ∀ (xs : List Int) (l : List Int), (∀ a, a ∈ xs → a.toNat ≠ j) → (bumps l xs)[j]? = l[j]?
  | [], l, _ => rfl
  | a :: xs, l, h => by
    rw [bumps, List.foldl_cons]
    exact (bumps_ne xs (bump l a) fun b hb => h b (by simp [hb])).trans (bump_ne (h a (by simp)))
theorem seen_last {ns : List Nd} (h0 : 0 < ns.length) (hall : ∀ i, i < ns.length → okNode ns i = true) : ∀ i, i ≤ ns.length → (seenTo ns i)[ns.length - 1]? = some 0
  | 0, _ => by rw [seenTo_zero, List.getElem?_replicate, if_pos (by omega)]
  | i + 1, hi => by
    rw [seenTo_next (show i < ns.length by omega), bumps_ne]
    · exact seen_last h0 hall i (by omega)
    · intro a ha
      have := hall i (by omega)
      simp only [okNode, List.getElem?_eq_getElem (show i < ns.length by omega), Bool.and_eq_true] at this
      have := List.all_eq_true.1 this.2 a ha
      simp only [inRange, Bool.and_eq_true, decide_eq_true_eq] at this
      omega
theorem okNode_eq {ns : List Nd} {i : Nat} (hi : i < ns.length) : okNode ns i = (nodeOk ns[i] && argsOk i ns[i].args) := by simp [okNode, hi]
theorem progOk_node {p : Pg} {i : Nat} (hi : i < p.nodes.length) (h : okNode p.nodes i = false) : progOk p = false := by
  have hv : (List.range p.nodes.length)[i]? = some i := List.getElem?_range hi
  simp [progOk, all_at hv h]
theorem progOk_len {p : Pg} (h : inRange p.nodes.length 1 400 = false) : progOk p = false := by simp [progOk, h]
theorem progOk_root {p : Pg} (h : ¬ p.root = (p.nodes.length : Int) - 1) : progOk p = false := by simp [progOk, h]
theorem progOk_seen {p : Pg} {i : Nat} (hi : i < p.nodes.length - 1) {x : Int} (hx : (seenTo p.nodes p.nodes.length)[i]? = some x) (h : ¬ x = 1) : progOk p = false := by
  have hv : ((seenTo p.nodes p.nodes.length).take (p.nodes.length - 1))[i]? = some x := by rw [List.getElem?_take_of_lt hi, hx]
  rw [progOk, all_at hv (by simp [h]), Bool.and_false]
theorem progOk_yes {p : Pg} (h1 : inRange p.nodes.length 1 400 = true) (h2 : p.root = (p.nodes.length : Int) - 1) (h3 : ∀ i, i < p.nodes.length → okNode p.nodes i = true) (h4 : ((seenTo p.nodes p.nodes.length).take (p.nodes.length - 1)).all (fun n => decide (n = 1)) = true) : progOk p = true := by
  have : (List.range p.nodes.length).all (okNode p.nodes) = true := List.all_eq_true.2 fun i hi => h3 i (List.mem_range.1 hi)
  rw [progOk, h1, this, h4, decide_eq_true h2]; rfl
theorem modify_nC {l : List Int} {i : Nat} (hi : i < l.length) : (l.map nC).modify i (fun r => r.set 0 (.sc (.int .i64 (l[i] + 1)))) = (l.modify i (· + 1)).map nC := by
  apply List.ext_getElem?
  intro j
  rw [List.getElem?_modify, List.getElem?_map, List.getElem?_map, List.getElem?_modify]
  cases hj : l[j]? with
  | none => rfl
  | some c =>
    simp only [Option.map_some, Option.map_eq_map]
    split
    · rename_i e; subst e
      rw [List.getElem?_eq_getElem hi] at hj
      injection hj with hj
      subst hj
      rfl
    · rfl
end Go.Own
