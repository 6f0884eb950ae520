import Derived.Test.YtemknkncncoedaaGreatDoorTc
/- Lemmas for the proof in the last text of this claim. -/
set_option linter.unusedVariables false
set_option linter.unusedSimpArgs false
set_option linter.unusedSectionVars false
set_option maxRecDepth 1000000
set_option maxHeartbeats 4000000
namespace Go.Own
attribute [local irreducible] WPc WPL WPS HAny endP
variable [Laid]
open Go.Lib Go.RowKit
theorem c_impl_valuesOk [F : Facts.Of] (h : List Cl) (vs : List V) (hs : ∀ v, v ∈ vs → v.sm) : Con PP 173 [.fz (h.map Cl.cs), .fz (vs.map V.cs)] [] [] (fun r o => r = .sc (.bool (vs.all (valueOk h)))) := by
  refine Con.lenOf 1 Go.Proofs.Tryz.func173 (by kernel_rfl) (by kernel_rfl) rfl fun hlen => ?_
  simp at hlen
  refine Con.of tok (nt := 18) Go.Proofs.Tryz.func173 (by kernel_rfl) rfl rfl rfl (Nat.le_of_ble_eq_true rfl) fun G => ?_
  simp only [entSt, tmOf, List.append_nil, List.cons_append, List.nil_append]
  repeat' (first
    | apply WPc.sq
    | apply WPc.block
    | (refine WPc.rq tok rfl fun K hK => ?_; simp -implicitDefEqProofs +contextual [-Int.not_le, -Int.not_lt, -Nat.not_le, -Nat.not_lt, -List.all_eq_true, -List.all_eq_false, -List.any_eq_true, -List.any_eq_false]; (repeat1' (first | apply hK | apply And.intro | intro _)) <;> clear hK K <;> (try dsimp only [List.drop])))
  refine WPc.loopK (σ := Nat) (fun i => i ≤ vs.length ∧ (vs.take i).all (valueOk h) = true) (fun i => vs.length - i) (fun i => [(9, .sc (.int .i64 i))])  [0, 7, 8] 0 (by simp) (by simp) (by simp) ?_
  rintro i ⟨hi, hall⟩ s hs
  simp at hs
  subst hs
  by_cases hlt : i < vs.length
  · have hv := List.getElem?_eq_getElem hlt
    have hs1 := hs _ (List.getElem_mem hlt)
    repeat' (first
      | apply WPc.sq
      | apply WPc.block
      | (refine WPc.ret (endP.val (.inr rfl) rfl rfl (by simp; rfl) ?_))
      | apply WPc.skip
      | refine WPL.nil ?_
      | (apply WPL.cL (c_impl_ValueOk _ ⟨_, _, _⟩ ?g1); (case q => (repeat' (first | refine And.intro ?_ ?_ | intro _ | exact cleanOut_nil | (refine Eqv.mk ?_; first | rfl | (simp -implicitDefEqProofs [V.cs, hlt]; done)) | (simp -implicitDefEqProofs [V.cs, hlt]; done) | (simp -implicitDefEqProofs [V.cs, hlt]; rfl) | (simp; done) | (simp; rfl) | rfl))); (case g1 => (first | assumption | (exact hs1))))
      | ((first | refine WPc.rq tok rfl fun K hK => ?_ | refine WPL.rn tok _ (by simp [ahead, isFn]; rfl) fun K hK => ?_); simp -implicitDefEqProofs +contextual [-Int.not_le, -Int.not_lt, -Nat.not_le, -Nat.not_lt, -List.all_eq_true, -List.all_eq_false, -List.any_eq_true, -List.any_eq_false, V.cs, hlt]; (repeat1' (first | apply hK | apply And.intro | intro _)) <;> clear hK K <;> (try dsimp only [List.drop]))
      | (refine WPc.region ?_; simp only [List.toList_toArray])
      | (refine WPc.condT ?_ ?_; (focus (simp; done)))
      | (refine WPc.cond (by simp [-Bool.not_eq_eq_eq_not]; rfl) (fun hq => ?_) (fun hq => ?_) <;> simp only [hq] <;> (try (exfalso; (simp only [decide_eq_true_eq, decide_eq_false_iff_not] at hq); omega))))
    · rw [all_at hv (by simp_all)]
    all_goals
      refine ⟨i + 1, ⟨⟨by omega, all_next hv (by simp_all) hall⟩, by first | omega | (simp only; omega) | assumption⟩, rfl, rfl, ?_, ?_⟩ <;> simp (disch := omega) [wrap64]
  · repeat' (first
      | apply WPc.sq
      | (refine WPc.ret (endP.val (.inr rfl) rfl rfl (by simp; rfl) ?_))
      | apply WPc.exit
      | (refine WPc.rq tok rfl fun K hK => ?_; simp -implicitDefEqProofs +contextual [-Int.not_le, -Int.not_lt, -Nat.not_le, -Nat.not_lt, -List.all_eq_true, -List.all_eq_false, -List.any_eq_true, -List.any_eq_false, hlt]; (repeat1' (first | apply hK | apply And.intro | intro _)) <;> clear hK K <;> (try dsimp only [List.drop]))
      | (refine WPc.condF ?_ ?_; (focus (simp; done))))
    rw [← hall, List.take_of_length_le (by omega)]
theorem c_impl_allNames [F : Facts.Of] (vs : List ByteArray) (hs : ∀ v, v ∈ vs → v.size < 4294967000) : Con PP 197 [.fz (vs.map sC)] [] [] (fun r o => r = .sc (.bool (vs.all isName))) := by
  refine Con.lenOf 0 Go.Proofs.Tryz.func197 (by kernel_rfl) (by kernel_rfl) rfl fun hlen => ?_
  simp at hlen
  refine Con.of tok (nt := 15) Go.Proofs.Tryz.func197 (by kernel_rfl) rfl rfl rfl (Nat.le_of_ble_eq_true rfl) fun G => ?_
  simp only [entSt, tmOf, List.append_nil, List.cons_append, List.nil_append]
  repeat' (first
    | apply WPc.sq
    | apply WPc.block
    | (refine WPc.rq tok rfl fun K hK => ?_; simp -implicitDefEqProofs +contextual [-Int.not_le, -Int.not_lt, -Nat.not_le, -Nat.not_lt, -List.all_eq_true, -List.all_eq_false, -List.any_eq_true, -List.any_eq_false]; (repeat1' (first | apply hK | apply And.intro | intro _)) <;> clear hK K <;> (try dsimp only [List.drop])))
  refine WPc.loopK (σ := Nat) (fun i => i ≤ vs.length ∧ (vs.take i).all isName = true) (fun i => vs.length - i) (fun i => [(7, .sc (.int .i64 i))])  [5, 6] 0 (by simp) (by simp) (by simp) ?_
  rintro i ⟨hi, hall⟩ s hs
  simp at hs
  subst hs
  by_cases hlt : i < vs.length
  · have hv := List.getElem?_eq_getElem hlt
    have hs1 := hs _ (List.getElem_mem hlt)
    repeat' (first
      | apply WPc.sq
      | apply WPc.block
      | (refine WPc.ret (endP.val (.inr rfl) rfl rfl (by simp; rfl) ?_))
      | apply WPc.skip
      | refine WPL.nil ?_
      | (apply WPL.cL (c_impl_IsName _ ?g1); (case q => (repeat' (first | refine And.intro ?_ ?_ | intro _ | exact cleanOut_nil | (refine Eqv.mk ?_; first | rfl | (simp -implicitDefEqProofs [sC, hlt]; done)) | (simp -implicitDefEqProofs [sC, hlt]; done) | (simp -implicitDefEqProofs [sC, hlt]; rfl) | (simp; done) | (simp; rfl) | rfl))); (case g1 => (first | assumption | (exact hs1))))
      | ((first | refine WPc.rq tok rfl fun K hK => ?_ | refine WPL.rn tok _ (by simp [ahead, isFn]; rfl) fun K hK => ?_); simp -implicitDefEqProofs +contextual [-Int.not_le, -Int.not_lt, -Nat.not_le, -Nat.not_lt, -List.all_eq_true, -List.all_eq_false, -List.any_eq_true, -List.any_eq_false, sC, hlt]; (repeat1' (first | apply hK | apply And.intro | intro _)) <;> clear hK K <;> (try dsimp only [List.drop]))
      | (refine WPc.region ?_; simp only [List.toList_toArray])
      | (refine WPc.condT ?_ ?_; (focus (simp; done)))
      | (refine WPc.cond (by simp [-Bool.not_eq_eq_eq_not]; rfl) (fun hq => ?_) (fun hq => ?_) <;> simp only [hq] <;> (try (exfalso; (simp only [decide_eq_true_eq, decide_eq_false_iff_not] at hq); omega))))
    · rw [all_at hv (by simp_all)]
    all_goals
      refine ⟨i + 1, ⟨⟨by omega, all_next hv (by simp_all) hall⟩, by first | omega | (simp only; omega) | assumption⟩, rfl, rfl, ?_, ?_⟩ <;> simp (disch := omega) [wrap64]
  · repeat' (first
      | apply WPc.sq
      | (refine WPc.ret (endP.val (.inr rfl) rfl rfl (by simp; rfl) ?_))
      | apply WPc.exit
      | (refine WPc.rq tok rfl fun K hK => ?_; simp -implicitDefEqProofs +contextual [-Int.not_le, -Int.not_lt, -Nat.not_le, -Nat.not_lt, -List.all_eq_true, -List.all_eq_false, -List.any_eq_true, -List.any_eq_false, hlt]; (repeat1' (first | apply hK | apply And.intro | intro _)) <;> clear hK K <;> (try dsimp only [List.drop]))
      | (refine WPc.condF ?_ ?_; (focus (simp; done))))
    rw [← hall, List.take_of_length_le (by omega)]
def cellOk (c : Cl) : Bool :=
  if c.k = 1 then decide (c.s = zs) && decide (c.a = 0) && decide (c.b = 0) && decide (c.names = []) && decide (c.vals.length = 2)
  else if c.k = 2 then decide (c.s = zs) && decide (0 ≤ c.a) && decide (0 ≤ c.b) && c.names.all isName && decide (c.vals.length = c.names.length)
  else if c.k = 3 then decide (c.s ≠ zs) && inRange c.a 0 1000 && decide (c.b = 0) && decide (c.names = []) && decide (c.vals.length ≤ 8)
  else false
theorem c_impl_cellOk [F : Facts.Of] (c : Cl) (hs : c.sm) : Con PP 172 [c.av] [] [] (fun r o => r = .sc (.bool (cellOk c))) := by
  have h1 := hs.names
  cases hn : c.names.all isName
  all_goals
    refine Con.of tok (nt := 88) Go.Proofs.Tryz.func172 (by kernel_rfl) rfl rfl rfl (Nat.le_of_ble_eq_true rfl) fun G => ?_
    simp only [entSt, tmOf, List.append_nil, List.cons_append, List.nil_append, Cl.av]
  · repeat' (first
      | apply WPc.sq
      | apply WPc.block
      | (refine WPc.ret (endP.val (.inr rfl) rfl rfl (by simp; rfl) ?_))
      | apply WPc.skip
      | refine WPL.nil ?_
      | (apply WPL.cL (c_impl_allNames _ ?g1); (case q => (repeat' (first | refine And.intro ?_ ?_ | intro _ | exact cleanOut_nil | (refine Eqv.mk ?_; first | rfl | (simp -implicitDefEqProofs [hn]; done)) | (simp -implicitDefEqProofs [hn]; done) | (simp -implicitDefEqProofs [hn]; rfl) | (simp; done) | (simp; rfl) | rfl))); (case g1 => (first | assumption | (exact h1))))
      | (apply WPL.cL (c_impl_inRange _ _ _); (case q => (repeat' (first | refine And.intro ?_ ?_ | intro _ | exact cleanOut_nil | (refine Eqv.mk ?_; first | rfl | (simp -implicitDefEqProofs [hn]; done)) | (simp -implicitDefEqProofs [hn]; done) | (simp -implicitDefEqProofs [hn]; rfl) | (simp; done) | (simp; rfl) | rfl))))
      | (refine WPL.call0f ?_ ?_ ?_; (focus (simp; done)); (focus (simp; done)))
      | ((first | refine WPc.rq tok rfl fun K hK => ?_ | refine WPL.rn tok _ (by simp [ahead, isFn]; rfl) fun K hK => ?_); simp -implicitDefEqProofs +contextual [-Int.not_le, -Int.not_lt, -Nat.not_le, -Nat.not_lt, -List.all_eq_true, -List.all_eq_false, -List.any_eq_true, -List.any_eq_false, hn]; (repeat1' (first | apply hK | apply And.intro | intro _)) <;> clear hK K <;> (try dsimp only [List.drop]))
      | (refine WPc.region ?_; simp only [List.toList_toArray])
      | (refine WPc.cond (by simp [-Bool.not_eq_eq_eq_not]; rfl) (fun hq => ?_) (fun hq => ?_) <;> simp only [hq] <;> (try (exfalso; (simp only [decide_eq_true_eq, decide_eq_false_iff_not] at hq); omega))))
    all_goals (simp_all [cellOk, -List.all_eq_true, -List.all_eq_false]; try (intros; omega))
  · repeat' (first
      | apply WPc.sq
      | apply WPc.block
      | (refine WPc.ret (endP.val (.inr rfl) rfl rfl (by simp; rfl) ?_))
      | apply WPc.skip
      | refine WPL.nil ?_
      | (apply WPL.cL (c_impl_allNames _ ?g1); (case q => (repeat' (first | refine And.intro ?_ ?_ | intro _ | exact cleanOut_nil | (refine Eqv.mk ?_; first | rfl | (simp -implicitDefEqProofs [hn]; done)) | (simp -implicitDefEqProofs [hn]; done) | (simp -implicitDefEqProofs [hn]; rfl) | (simp; done) | (simp; rfl) | rfl))); (case g1 => (first | assumption | (exact h1))))
      | (apply WPL.cL (c_impl_inRange _ _ _); (case q => (repeat' (first | refine And.intro ?_ ?_ | intro _ | exact cleanOut_nil | (refine Eqv.mk ?_; first | rfl | (simp -implicitDefEqProofs [hn]; done)) | (simp -implicitDefEqProofs [hn]; done) | (simp -implicitDefEqProofs [hn]; rfl) | (simp; done) | (simp; rfl) | rfl))))
      | (refine WPL.call0f ?_ ?_ ?_; (focus (simp; done)); (focus (simp; done)))
      | ((first | refine WPc.rq tok rfl fun K hK => ?_ | refine WPL.rn tok _ (by simp [ahead, isFn]; rfl) fun K hK => ?_); simp -implicitDefEqProofs +contextual [-Int.not_le, -Int.not_lt, -Nat.not_le, -Nat.not_lt, -List.all_eq_true, -List.all_eq_false, -List.any_eq_true, -List.any_eq_false, hn]; (repeat1' (first | apply hK | apply And.intro | intro _)) <;> clear hK K <;> (try dsimp only [List.drop]))
      | (refine WPc.region ?_; simp only [List.toList_toArray])
      | (refine WPc.cond (by simp [-Bool.not_eq_eq_eq_not]; rfl) (fun hq => ?_) (fun hq => ?_) <;> simp only [hq] <;> (try (exfalso; (simp only [decide_eq_true_eq, decide_eq_false_iff_not] at hq); omega))))
    all_goals (simp_all [cellOk, -List.all_eq_true, -List.all_eq_false]; try (intros; omega))
def okAt (h : List Cl) (i : Nat) (c : Cl) : Bool := cellOk c && c.vals.all (valueOk h) && (decide (c.k = 3) || c.vals.all (isBelow i))
def okI (h : List Cl) (i : Nat) : Bool := match h[i]? with
  | some c => okAt h i c
  | none => true
def heapOk (h : List Cl) : Bool := decide (h.length ≤ 300) && (List.range h.length).all (okI h)
theorem heapOk_no {h : List Cl} {i : Nat} (hi : i < h.length) (ho : okI h i = false) : heapOk h = false := by
  have hv : (List.range h.length)[i]? = some i := List.getElem?_range hi
  rw [heapOk, all_at hv ho, Bool.and_false]
theorem okI_eq {h : List Cl} {i : Nat} (hi : i < h.length) : okI h i = okAt h i h[i] := by simp [okI, hi]
theorem c_impl_HeapOk [F : Facts.Of] (h : List Cl) (hs : ∀ c, c ∈ h → c.sm) : Con PP 106 [.fz (h.map Cl.cs)] [] [] (fun r o => r = .sc (.bool (heapOk h))) := by
  by_cases h300 : h.length ≤ 300
  · refine Con.of tok (nt := 38) Go.Proofs.Tryz.func106 (by kernel_rfl) rfl rfl rfl (Nat.le_of_ble_eq_true rfl) fun G => ?_
    simp only [entSt, tmOf, List.append_nil, List.cons_append, List.nil_append]
    repeat' (first
      | apply WPc.sq
      | apply WPc.block
      | apply WPc.skip
      | (refine WPc.rq tok rfl fun K hK => ?_; simp -implicitDefEqProofs +contextual [-Int.not_le, -Int.not_lt, -Nat.not_le, -Nat.not_lt, -List.all_eq_true, -List.all_eq_false, -List.any_eq_true, -List.any_eq_false, h300]; (repeat1' (first | apply hK | apply And.intro | intro _)) <;> clear hK K <;> (try dsimp only [List.drop]))
      | (refine WPc.cond (by simp [-Bool.not_eq_eq_eq_not]; rfl) (fun hq => ?_) (fun hq => ?_) <;> simp only [hq] <;> (try (exfalso; (simp only [decide_eq_true_eq, decide_eq_false_iff_not] at hq); omega))))
    refine WPc.loopK (σ := Nat) (fun i => i ≤ h.length ∧ ((List.range h.length).take i).all (okI h) = true) (fun i => h.length - i) (fun i => [(10, .sc (.int .i64 i))])  [0, 8, 9] 0 (by simp) (by simp) (by simp) ?_
    rintro i ⟨hi, hall⟩ s hs
    simp at hs
    subst hs
    by_cases hlt : i < h.length
    · have hv : (List.range h.length)[i]? = some i := List.getElem?_range hlt
      have hs1 := hs _ (List.getElem_mem hlt)
      have hs2 := hs1.vals
      have ho := okI_eq hlt
      obtain ⟨p, g3⟩ : ∃ p, (h[i].k = 3) = p := ⟨_, rfl⟩
      have hp : p = True ∨ p = False := Classical.propComplete p
      cases g1 : cellOk h[i] <;> cases g2 : h[i].vals.all (valueOk h) <;> rcases hp with rfl | rfl <;> cases g4 : h[i].vals.all (isBelow i)
      all_goals
        repeat' (first
          | apply WPc.sq
          | apply WPc.block
          | (refine WPc.ret (endP.val (.inr rfl) rfl rfl (by simp; rfl) ?_))
          | apply WPc.skip
          | refine WPL.nil ?_
          | (apply WPL.cL (c_impl_cellOk ⟨_, _, _, _, _, _⟩ ?g1); (case q => (repeat' (first | refine And.intro ?_ ?_ | intro _ | exact cleanOut_nil | (refine Eqv.mk ?_; first | rfl | (simp -implicitDefEqProofs [Cl.cs, hlt, g1, g2, g3, g4]; done)) | (simp -implicitDefEqProofs [Cl.cs, hlt, g1, g2, g3, g4]; done) | (simp -implicitDefEqProofs [Cl.cs, hlt, g1, g2, g3, g4]; rfl) | (simp; done) | (simp; rfl) | rfl))); (case g1 => (first | assumption | (exact hs1) | (exact hs2))))
          | (apply WPL.cL (c_impl_valuesOk _ _ ?g1); (case q => (repeat' (first | refine And.intro ?_ ?_ | intro _ | exact cleanOut_nil | (refine Eqv.mk ?_; first | rfl | (simp -implicitDefEqProofs [Cl.cs, hlt, g1, g2, g3, g4]; done)) | (simp -implicitDefEqProofs [Cl.cs, hlt, g1, g2, g3, g4]; done) | (simp -implicitDefEqProofs [Cl.cs, hlt, g1, g2, g3, g4]; rfl) | (simp; done) | (simp; rfl) | rfl))); (case g1 => (first | assumption | (exact hs1) | (exact hs2))))
          | (apply WPL.cL (c_impl_areBelow _ _); (case q => (repeat' (first | refine And.intro ?_ ?_ | intro _ | exact cleanOut_nil | (refine Eqv.mk ?_; first | rfl | (simp -implicitDefEqProofs [Cl.cs, hlt, g1, g2, g3, g4]; done)) | (simp -implicitDefEqProofs [Cl.cs, hlt, g1, g2, g3, g4]; done) | (simp -implicitDefEqProofs [Cl.cs, hlt, g1, g2, g3, g4]; rfl) | (simp; done) | (simp; rfl) | rfl))))
          | (refine WPL.call0f ?_ ?_ ?_; (focus (simp; done)); (focus (simp; done)))
          | ((first | refine WPc.rq tok rfl fun K hK => ?_ | refine WPL.rn tok _ (by simp [ahead, isFn]; rfl) fun K hK => ?_); simp -implicitDefEqProofs +contextual [-Int.not_le, -Int.not_lt, -Nat.not_le, -Nat.not_lt, -List.all_eq_true, -List.all_eq_false, -List.any_eq_true, -List.any_eq_false, Cl.cs, hlt, g1, g2, g3, g4]; (repeat1' (first | apply hK | apply And.intro | intro _)) <;> clear hK K <;> (try dsimp only [List.drop]))
          | (refine WPc.region ?_; simp only [List.toList_toArray])
          | (refine WPc.condT ?_ ?_; (focus (simp; done)))
          | (refine WPc.condF ?_ ?_; (focus (simp; done))))
      all_goals (simp only [okAt, g1, g2, g3, g4, Bool.and_true, Bool.and_false, Bool.true_and, Bool.false_and, Bool.or_true, Bool.or_false, Bool.true_or, Bool.false_or, decide_true, decide_false] at ho)
      all_goals (first
        | (rw [heapOk_no hlt ho]; done)
        | (refine ⟨i + 1, ⟨⟨hlt, all_next hv ho hall⟩, ?_⟩, rfl, rfl, ?_, ?_⟩ <;> (first | omega | (simp (disch := omega) [wrap64]; done))))
    · repeat' (first
        | apply WPc.sq
        | (refine WPc.ret (endP.val (.inr rfl) rfl rfl (by simp; rfl) ?_))
        | apply WPc.exit
        | (refine WPc.rq tok rfl fun K hK => ?_; simp -implicitDefEqProofs +contextual [-Int.not_le, -Int.not_lt, -Nat.not_le, -Nat.not_lt, -List.all_eq_true, -List.all_eq_false, -List.any_eq_true, -List.any_eq_false, hlt]; (repeat1' (first | apply hK | apply And.intro | intro _)) <;> clear hK K <;> (try dsimp only [List.drop]))
        | (refine WPc.condF ?_ ?_; (focus (simp; done))))
      rw [List.take_of_length_le (by simp; omega)] at hall
      simp [heapOk, hall, h300]
  · have hno : heapOk h = false := by simp [heapOk, h300]
    rw [hno]
    refine Con.of tok (nt := 38) Go.Proofs.Tryz.func106 (by kernel_rfl) rfl rfl rfl (Nat.le_of_ble_eq_true rfl) fun G => ?_
    simp only [entSt, tmOf, List.append_nil, List.cons_append, List.nil_append]
    repeat' (first
      | apply WPc.sq
      | (refine WPc.ret (endP.val (.inr rfl) rfl rfl (by simp; rfl) ?_))
      | (refine WPc.rq tok rfl fun K hK => ?_; simp -implicitDefEqProofs +contextual [-Int.not_le, -Int.not_lt, -Nat.not_le, -Nat.not_lt, -List.all_eq_true, -List.all_eq_false, -List.any_eq_true, -List.any_eq_false, h300]; (repeat1' (first | apply hK | apply And.intro | intro _)) <;> clear hK K <;> (try dsimp only [List.drop]))
      | (refine WPc.cond (by simp [-Bool.not_eq_eq_eq_not]; rfl) (fun hq => ?_) (fun hq => ?_) <;> simp only [hq] <;> (try (exfalso; (simp only [decide_eq_true_eq, decide_eq_false_iff_not] at hq); omega))))
    all_goals rfl
theorem isBelow_eq (i : Nat) (v : V) : isBelow i v = !(inRange v.k 5 7 && decide ((i : Int) ≤ v.n)) := by
  unfold isBelow cellKind inRange
  by_cases h5 : v.k = 5
  · simp [h5]
  · by_cases h6 : v.k = 6
    · simp [h6]
    · by_cases h7 : v.k = 7
      · simp [h7]
      · simp only [h5, h6, h7, if_false]
        have : ¬ (5 ≤ v.k ∧ v.k ≤ 7) := by omega
        by_cases h1 : 5 ≤ v.k <;> by_cases h2 : v.k ≤ 7 <;> simp [h1, h2] <;> omega
def qAt (h : List Cl) (i : Nat) (c : Cl) (v : V) : Bool := valueOk h v && (decide (c.k = 3) || isBelow i v)
theorem all_and {α : Type} (p q : α → Bool) : ∀ l : List α, (l.all fun x => p x && q x) = (l.all p && l.all q)
  | [] => rfl
  | x :: xs => by
    simp only [List.all_cons, all_and p q xs]
    cases p x <;> cases q x <;> cases xs.all p <;> cases xs.all q <;> rfl
theorem all_or {α : Type} (b : Bool) (q : α → Bool) : ∀ l : List α, (l.all fun x => b || q x) = (b || l.all q)
  | [] => by simp
  | x :: xs => by
    simp only [List.all_cons, all_or b q xs]
    cases b <;> simp
theorem okAt_eq (h : List Cl) (i : Nat) (c : Cl) : okAt h i c = (cellOk c && c.vals.all (qAt h i c)) := by
  rw [okAt, show qAt h i c = fun v => valueOk h v && (decide (c.k = 3) || isBelow i v) from rfl, all_and, all_or, Bool.and_assoc]
theorem okAt_no {h : List Cl} {i m : Nat} {c : Cl} {v : V} (hv : c.vals[m]? = some v) (hq : qAt h i c v = false) : okAt h i c = false := by
  rw [okAt_eq, all_at hv hq, Bool.and_false]
theorem c_spec_l6CellOk (h : List Cl) (i : Nat) (c : Cl) (hc : h[i]? = some c) (hs : c.sm) : Con PP 159 [.fz (h.map Cl.cs), .sc (.int .i64 i)] [] [] (fun r o => r = .sc (.bool (okAt h i c))) := by
  obtain ⟨hlt, rfl⟩ := List.getElem?_eq_some_iff.1 hc
  have hs2 := hs.vals
  have hs3 := hs.names
  refine Con.of tok (nt := 144) Go.Proofs.Tryz.func159 (by kernel_rfl) rfl rfl rfl (Nat.le_of_ble_eq_true rfl) fun G => ?_
  simp only [entSt, tmOf, List.append_nil, List.cons_append, List.nil_append]
  refine WPc.lenAt 0 (xs := h.map Cl.cs) (by simp) (r := h[i].cs) (j := 5) (ys := h[i].vals.map V.cs) (List.mem_iff_getElem?.2 ⟨i, by simp [hlt]⟩) rfl fun hlen => ?_
  refine WPc.lenAt 0 (xs := h.map Cl.cs) (by simp) (r := h[i].cs) (j := 4) (ys := h[i].names.map sC) (List.mem_iff_getElem?.2 ⟨i, by simp [hlt]⟩) rfl fun hlen2 => ?_
  simp at hlen hlen2
  repeat' (first
    | apply WPc.sq
    | apply WPc.block
    | (refine WPc.rq tok rfl fun K hK => ?_; simp -implicitDefEqProofs +contextual [-Int.not_le, -Int.not_lt, -Nat.not_le, -Nat.not_lt, -List.all_eq_true, -List.all_eq_false, -List.any_eq_true, -List.any_eq_false, Cl.cs, hlt]; (repeat1' (first | apply hK | apply And.intro | intro _)) <;> clear hK K <;> (try dsimp only [List.drop])))
  refine WPc.loopK (σ := Nat) (fun m => m ≤ h[i].vals.length ∧ (h[i].vals.take m).all (qAt h i h[i]) = true) (fun m => h[i].vals.length - m) (fun m => [(6, .sc (.int .i64 m))])  [0, 1, 5] 0 (by simp) (by simp) (by simp) ?_
  rintro m ⟨hm, hall⟩ s hs
  simp at hs
  subst hs
  by_cases hml : m < h[i].vals.length
  · have hv := List.getElem?_eq_getElem hml
    have hs1 := hs2 _ (List.getElem_mem hml)
    have hb := isBelow_eq i h[i].vals[m]
    have hqd : qAt h i h[i] h[i].vals[m] = (valueOk h h[i].vals[m] && (decide (h[i].k = 3) || isBelow i h[i].vals[m])) := rfl
    obtain ⟨p, g3⟩ : ∃ p, (h[i].k = 3) = p := ⟨_, rfl⟩
    have hp : p = True ∨ p = False := Classical.propComplete p
    cases g1 : valueOk h h[i].vals[m] <;> rcases hp with rfl | rfl <;> cases g4 : inRange h[i].vals[m].k 5 7
    all_goals
      repeat' (first
        | apply WPc.sq
        | apply WPc.block
        | (refine WPc.ret (endP.val (.inr rfl) rfl rfl (by simp; rfl) ?_))
        | apply WPc.skip
        | refine WPL.nil ?_
        | (apply WPL.cL (c_spec_ValueOk _ ⟨_, _, _⟩ ?g1); (case q => (repeat' (first | refine And.intro ?_ ?_ | intro _ | exact cleanOut_nil | (refine Eqv.mk ?_; first | rfl | (simp -implicitDefEqProofs [Cl.cs, V.cs, hlt, hml, g1, g3, g4]; done)) | (simp -implicitDefEqProofs [Cl.cs, V.cs, hlt, hml, g1, g3, g4]; done) | (simp -implicitDefEqProofs [Cl.cs, V.cs, hlt, hml, g1, g3, g4]; rfl) | (simp; done) | (simp; rfl) | rfl))); (case g1 => (first | assumption | (exact hs1))))
        | (apply WPL.cL (c_spec_l6Points ⟨_, _, _⟩); (case q => (repeat' (first | refine And.intro ?_ ?_ | intro _ | exact cleanOut_nil | (refine Eqv.mk ?_; first | rfl | (simp -implicitDefEqProofs [Cl.cs, V.cs, hlt, hml, g1, g3, g4]; done)) | (simp -implicitDefEqProofs [Cl.cs, V.cs, hlt, hml, g1, g3, g4]; done) | (simp -implicitDefEqProofs [Cl.cs, V.cs, hlt, hml, g1, g3, g4]; rfl) | (simp; done) | (simp; rfl) | rfl))))
        | (refine WPL.call0f ?_ ?_ ?_; (focus (simp; done)); (focus (simp; done)))
        | ((first | refine WPc.rq tok rfl fun K hK => ?_ | refine WPL.rn tok _ (by simp [ahead, isFn]; rfl) fun K hK => ?_); simp -implicitDefEqProofs +contextual [-Int.not_le, -Int.not_lt, -Nat.not_le, -Nat.not_lt, -List.all_eq_true, -List.all_eq_false, -List.any_eq_true, -List.any_eq_false, Cl.cs, V.cs, hlt, hml, g1, g3, g4]; (repeat1' (first | apply hK | apply And.intro | intro _)) <;> clear hK K <;> (try dsimp only [List.drop]))
        | (refine WPc.region ?_; simp only [List.toList_toArray])
        | (refine WPc.condT ?_ ?_; (focus (simp; done)))
        | (refine WPc.condF ?_ ?_; (focus (simp; done)))
        | (refine WPc.cond (by simp [-Bool.not_eq_eq_eq_not]; rfl) (fun hq => ?_) (fun hq => ?_) <;> simp only [hq] <;> (try (exfalso; (simp only [decide_eq_true_eq, decide_eq_false_iff_not] at hq); omega))))
    all_goals (simp only [g1, g3, g4, hb, Bool.and_true, Bool.and_false, Bool.true_and, Bool.false_and, Bool.or_true, Bool.or_false, Bool.true_or, Bool.false_or, decide_true, decide_false, Bool.not_false, Bool.not_true] at hqd)
    all_goals (try simp only [hq, Bool.not_false, Bool.not_true] at hqd)
    all_goals (first
      | (rw [okAt_no hv hqd]; done)
      | (refine ⟨m + 1, ⟨⟨hml, all_next hv hqd hall⟩, ?_⟩, rfl, rfl, ?_, ?_⟩ <;> (first | omega | (simp (disch := omega) [wrap64]; done))))
  · rw [List.take_of_length_le (by omega)] at hall
    have hok : okAt h i h[i] = cellOk h[i] := by rw [okAt_eq, hall, Bool.and_true]
    rw [hok]
    obtain ⟨p1, g1⟩ : ∃ p, (h[i].k = 1) = p := ⟨_, rfl⟩
    obtain ⟨p2, g2⟩ : ∃ p, (h[i].k = 2) = p := ⟨_, rfl⟩
    obtain ⟨p3, g3⟩ : ∃ p, (h[i].k = 3) = p := ⟨_, rfl⟩
    have hp1 : p1 = True ∨ p1 = False := Classical.propComplete p1
    have hp2 : p2 = True ∨ p2 = False := Classical.propComplete p2
    have hp3 : p3 = True ∨ p3 = False := Classical.propComplete p3
    rcases hp1 with rfl | rfl
    · repeat' (first
        | apply WPc.sq
        | apply WPc.block
        | (refine WPc.ret (endP.val (.inr rfl) rfl rfl (by simp; rfl) ?_))
        | apply WPc.exit
        | (refine WPc.rq tok rfl fun K hK => ?_; simp -implicitDefEqProofs +contextual [-Int.not_le, -Int.not_lt, -Nat.not_le, -Nat.not_lt, -List.all_eq_true, -List.all_eq_false, -List.any_eq_true, -List.any_eq_false, Cl.cs, hlt, hml, g1]; (repeat1' (first | apply hK | apply And.intro | intro _)) <;> clear hK K <;> (try dsimp only [List.drop]))
        | (refine WPc.condT ?_ ?_; (focus (simp; done)))
        | (refine WPc.condF ?_ ?_; (focus (simp; done))))
      all_goals (unfold cellOk; simp_all)
      all_goals (first | omega | (intros; omega))
    · rcases hp2 with rfl | rfl
      · repeat' (first
          | apply WPc.sq
          | apply WPc.block
          | apply WPc.exit
          | (refine WPc.rq tok rfl fun K hK => ?_; simp -implicitDefEqProofs +contextual [-Int.not_le, -Int.not_lt, -Nat.not_le, -Nat.not_lt, -List.all_eq_true, -List.all_eq_false, -List.any_eq_true, -List.any_eq_false, Cl.cs, hlt, hml, g1, g2]; (repeat1' (first | apply hK | apply And.intro | intro _)) <;> clear hK K <;> (try dsimp only [List.drop]))
          | (refine WPc.condT ?_ ?_; (focus (simp; done)))
          | (refine WPc.condF ?_ ?_; (focus (simp; done))))
        refine WPc.loopK (σ := Nat) (fun k => k ≤ h[i].names.length ∧ (h[i].names.take k).all isName = true) (fun k => h[i].names.length - k) (fun k => [(7, .sc (.int .i64 k))])  [5] 0 (by simp) (by simp) (by simp) ?_
        rintro k ⟨hk, hnn⟩ s hs
        simp at hs
        subst hs
        by_cases hkl : k < h[i].names.length
        · have hv := List.getElem?_eq_getElem hkl
          have hs1 := hs3 _ (List.getElem_mem hkl)
          cases hnm : isName h[i].names[k]
          all_goals
            repeat' (first
              | apply WPc.sq
              | apply WPc.block
              | (refine WPc.ret (endP.val (.inr rfl) rfl rfl (by simp; rfl) ?_))
              | apply WPc.skip
              | refine WPL.nil ?_
              | (apply WPL.cL (c_spec_IsName _ ?g1); (case q => (repeat' (first | refine And.intro ?_ ?_ | intro _ | exact cleanOut_nil | (refine Eqv.mk ?_; first | rfl | (simp -implicitDefEqProofs [sC, hkl, hnm]; done)) | (simp -implicitDefEqProofs [sC, hkl, hnm]; done) | (simp -implicitDefEqProofs [sC, hkl, hnm]; rfl) | (simp; done) | (simp; rfl) | rfl))); (case g1 => (first | assumption | (exact hs1))))
              | ((first | refine WPc.rq tok rfl fun K hK => ?_ | refine WPL.rn tok _ (by simp [ahead, isFn]; rfl) fun K hK => ?_); simp -implicitDefEqProofs +contextual [-Int.not_le, -Int.not_lt, -Nat.not_le, -Nat.not_lt, -List.all_eq_true, -List.all_eq_false, -List.any_eq_true, -List.any_eq_false, sC, hkl, hnm]; (repeat1' (first | apply hK | apply And.intro | intro _)) <;> clear hK K <;> (try dsimp only [List.drop]))
              | (refine WPc.region ?_; simp only [List.toList_toArray])
              | (refine WPc.condT ?_ ?_; (focus (simp; done)))
              | (refine WPc.condF ?_ ?_; (focus (simp; done))))
          · unfold cellOk; rw [if_neg (by rw [g1]; simp), if_pos (by rw [g2]; trivial), all_at hv hnm]; simp
          all_goals
            refine ⟨k + 1, ⟨⟨hkl, all_next hv hnm hnn⟩, ?_⟩, rfl, rfl, ?_, ?_⟩ <;> (first | omega | (simp (disch := omega) [wrap64]; done))
        · rw [List.take_of_length_le (by omega)] at hnn
          repeat' (first
            | apply WPc.sq
            | (refine WPc.ret (endP.val (.inr rfl) rfl rfl (by simp; rfl) ?_))
            | apply WPc.exit
            | (refine WPc.rq tok rfl fun K hK => ?_; simp -implicitDefEqProofs +contextual [-Int.not_le, -Int.not_lt, -Nat.not_le, -Nat.not_lt, -List.all_eq_true, -List.all_eq_false, -List.any_eq_true, -List.any_eq_false, Cl.cs, hkl]; (repeat1' (first | apply hK | apply And.intro | intro _)) <;> clear hK K <;> (try dsimp only [List.drop]))
            | (refine WPc.condF ?_ ?_; (focus (simp; done))))
          all_goals (unfold cellOk; rw [if_neg (by rw [g1]; simp), if_pos (by rw [g2]; trivial)]; rw [hnn]; simp_all)
          all_goals (first | omega | (intros; omega))
      · rcases hp3 with rfl | rfl
        · repeat' (first
            | apply WPc.sq
            | apply WPc.block
            | (refine WPc.ret (endP.val (.inr rfl) rfl rfl (by simp; rfl) ?_))
            | apply WPc.exit
            | refine WPL.nil ?_
            | (apply WPL.cL (c_spec_l1In _ _ _); (case q => (repeat' (first | refine And.intro ?_ ?_ | intro _ | exact cleanOut_nil | (refine Eqv.mk ?_; first | rfl | (simp -implicitDefEqProofs [Cl.cs, hlt, hml, g1, g2, g3]; done)) | (simp -implicitDefEqProofs [Cl.cs, hlt, hml, g1, g2, g3]; done) | (simp -implicitDefEqProofs [Cl.cs, hlt, hml, g1, g2, g3]; rfl) | (simp; done) | (simp; rfl) | rfl))))
            | (refine WPL.call0f ?_ ?_ ?_; (focus (simp; done)); (focus (simp; done)))
            | ((first | refine WPc.rq tok rfl fun K hK => ?_ | refine WPL.rn tok _ (by simp [ahead, isFn]; rfl) fun K hK => ?_); simp -implicitDefEqProofs +contextual [-Int.not_le, -Int.not_lt, -Nat.not_le, -Nat.not_lt, -List.all_eq_true, -List.all_eq_false, -List.any_eq_true, -List.any_eq_false, Cl.cs, hlt, hml, g1, g2, g3]; (repeat1' (first | apply hK | apply And.intro | intro _)) <;> clear hK K <;> (try dsimp only [List.drop]))
            | (refine WPc.region ?_; simp only [List.toList_toArray])
            | (refine WPc.condT ?_ ?_; (focus (simp; done)))
            | (refine WPc.condF ?_ ?_; (focus (simp; done))))
          all_goals (unfold cellOk; simp_all)
          all_goals (first | omega | (intros; omega))
        · repeat' (first
            | apply WPc.sq
            | apply WPc.block
            | (refine WPc.ret (endP.val (.inr rfl) rfl rfl (by simp; rfl) ?_))
            | apply WPc.skip
            | apply WPc.exit
            | (refine WPc.rq tok rfl fun K hK => ?_; simp -implicitDefEqProofs +contextual [-Int.not_le, -Int.not_lt, -Nat.not_le, -Nat.not_lt, -List.all_eq_true, -List.all_eq_false, -List.any_eq_true, -List.any_eq_false, Cl.cs, hlt, hml, g1, g2, g3]; (repeat1' (first | apply hK | apply And.intro | intro _)) <;> clear hK K <;> (try dsimp only [List.drop]))
            | (refine WPc.condF ?_ ?_; (focus (simp; done))))
          all_goals (unfold cellOk; simp_all)
theorem c_spec_HeapOk (h : List Cl) (hs : ∀ c, c ∈ h → c.sm) : Con PP 95 [.fz (h.map Cl.cs)] [] [] (fun r o => r = .sc (.bool (heapOk h))) := by
  by_cases h300 : h.length ≤ 300
  · refine Con.of tok (nt := 17) Go.Proofs.Tryz.func95 (by kernel_rfl) rfl rfl rfl (Nat.le_of_ble_eq_true rfl) fun G => ?_
    simp only [entSt, tmOf, List.append_nil, List.cons_append, List.nil_append]
    repeat' (first
      | apply WPc.sq
      | apply WPc.block
      | apply WPc.skip
      | (refine WPc.rq tok rfl fun K hK => ?_; simp -implicitDefEqProofs +contextual [-Int.not_le, -Int.not_lt, -Nat.not_le, -Nat.not_lt, -List.all_eq_true, -List.all_eq_false, -List.any_eq_true, -List.any_eq_false, h300]; (repeat1' (first | apply hK | apply And.intro | intro _)) <;> clear hK K <;> (try dsimp only [List.drop]))
      | (refine WPc.cond (by simp [-Bool.not_eq_eq_eq_not]; rfl) (fun hq => ?_) (fun hq => ?_) <;> simp only [hq] <;> (try (exfalso; (simp only [decide_eq_true_eq, decide_eq_false_iff_not] at hq); omega))))
    refine WPc.loopK (σ := Nat) (fun i => i ≤ h.length ∧ ((List.range h.length).take i).all (okI h) = true) (fun i => h.length - i) (fun i => [(3, .sc (.int .i64 i))])  [0] 0 (by simp) (by simp) (by simp) ?_
    rintro i ⟨hi, hall⟩ s hs
    simp at hs
    subst hs
    by_cases hlt : i < h.length
    · have hv : (List.range h.length)[i]? = some i := List.getElem?_range hlt
      have hs1 := hs _ (List.getElem_mem hlt)
      have hc := List.getElem?_eq_getElem hlt
      have ho := okI_eq hlt
      have kC := c_spec_l6CellOk h i h[i] hc hs1
      cases g1 : okAt h i h[i]
      all_goals
        rw [g1] at ho kC
        repeat' (first
          | apply WPc.sq
          | apply WPc.block
          | (refine WPc.ret (endP.val (.inr rfl) rfl rfl (by simp; rfl) ?_))
          | apply WPc.skip
          | refine WPL.nil ?_
          | (apply WPL.cL kC; (case q => (repeat' (first | refine And.intro ?_ ?_ | intro _ | exact cleanOut_nil | (refine Eqv.mk ?_; first | rfl | (simp -implicitDefEqProofs [hlt, g1]; done)) | (simp -implicitDefEqProofs [hlt, g1]; done) | (simp -implicitDefEqProofs [hlt, g1]; rfl) | (simp; done) | (simp; rfl) | rfl))))
          | ((first | refine WPc.rq tok rfl fun K hK => ?_ | refine WPL.rn tok _ (by simp [ahead, isFn]; rfl) fun K hK => ?_); simp -implicitDefEqProofs +contextual [-Int.not_le, -Int.not_lt, -Nat.not_le, -Nat.not_lt, -List.all_eq_true, -List.all_eq_false, -List.any_eq_true, -List.any_eq_false, hlt, g1]; (repeat1' (first | apply hK | apply And.intro | intro _)) <;> clear hK K <;> (try dsimp only [List.drop]))
          | (refine WPc.region ?_; simp only [List.toList_toArray])
          | (refine WPc.condT ?_ ?_; (focus (simp; done)))
          | (refine WPc.condF ?_ ?_; (focus (simp; done))))
      all_goals (first
        | (rw [heapOk_no hlt ho]; done)
        | (refine ⟨i + 1, ⟨⟨hlt, all_next hv ho hall⟩, ?_⟩, rfl, rfl, ?_, ?_⟩ <;> (first | omega | (simp (disch := omega) [wrap64]; done))))
    · repeat' (first
        | apply WPc.sq
        | (refine WPc.ret (endP.val (.inr rfl) rfl rfl (by simp; rfl) ?_))
        | apply WPc.exit
        | (refine WPc.rq tok rfl fun K hK => ?_; simp -implicitDefEqProofs +contextual [-Int.not_le, -Int.not_lt, -Nat.not_le, -Nat.not_lt, -List.all_eq_true, -List.all_eq_false, -List.any_eq_true, -List.any_eq_false, hlt]; (repeat1' (first | apply hK | apply And.intro | intro _)) <;> clear hK K <;> (try dsimp only [List.drop]))
        | (refine WPc.condF ?_ ?_; (focus (simp; done))))
      rw [List.take_of_length_le (by simp; omega)] at hall
      simp [heapOk, hall, h300]
  · have hno : heapOk h = false := by simp [heapOk, h300]
    rw [hno]
    refine Con.of tok (nt := 17) Go.Proofs.Tryz.func95 (by kernel_rfl) rfl rfl rfl (Nat.le_of_ble_eq_true rfl) fun G => ?_
    simp only [entSt, tmOf, List.append_nil, List.cons_append, List.nil_append]
    repeat' (first
      | apply WPc.sq
      | (refine WPc.ret (endP.val (.inr rfl) rfl rfl (by simp; rfl) ?_))
      | (refine WPc.rq tok rfl fun K hK => ?_; simp -implicitDefEqProofs +contextual [-Int.not_le, -Int.not_lt, -Nat.not_le, -Nat.not_lt, -List.all_eq_true, -List.all_eq_false, -List.any_eq_true, -List.any_eq_false, h300]; (repeat1' (first | apply hK | apply And.intro | intro _)) <;> clear hK K <;> (try dsimp only [List.drop]))
      | (refine WPc.cond (by simp [-Bool.not_eq_eq_eq_not]; rfl) (fun hq => ?_) (fun hq => ?_) <;> simp only [hq] <;> (try (exfalso; (simp only [decide_eq_true_eq, decide_eq_false_iff_not] at hq); omega))))
    all_goals rfl
end Go.Own
set_option maxRecDepth 1000000
set_option maxHeartbeats 4000000
namespace Go.Own
attribute [local irreducible] WPc WPL WPS HAny endP
variable [Laid]
open Go.Lib Go.RowKit
end Go.Own
set_option maxRecDepth 1000000
set_option maxHeartbeats 4000000
namespace Go.Own
attribute [local irreducible] WPc WPL WPS WPS1 WPS2 HAny endP
variable [Laid]
open Go.Lib Go.RowKit
end Go.Own
set_option maxRecDepth 1000000
set_option maxHeartbeats 4000000
namespace Go.Own
attribute [local irreducible] WPc WPL WPS WPS1 WPS2 HAny endP
variable [Laid]
open Go.Lib Go.RowKit
end Go.Own
set_option maxRecDepth 1000000
set_option maxHeartbeats 4000000
namespace Go.Own
attribute [local irreducible] WPc WPL WPS WPS1 WPS2 HAny endP
variable [Laid]
open Go.Lib Go.RowKit
def good (h : List Cl) (s : ByteArray) (a : List V) : Bool := plainP s && decide ((a.length : Int) = arity s) && heapOk h && a.all (valueOk h)
def arg (a : List V) (i : Nat) : V := a[i]?.getD noV
end Go.Own
set_option maxRecDepth 1000000
set_option maxHeartbeats 4000000
namespace Go.Own
attribute [local irreducible] WPc WPL WPS WPS1 WPS2 HAny endP
variable [Laid]
open Go.Lib Go.RowKit
end Go.Own
set_option maxRecDepth 1000000
set_option maxHeartbeats 4000000
namespace Go.Own
attribute [local irreducible] WPc WPL WPS WPS1 WPS2 HAny endP
variable [Laid]
open Go.Lib Go.RowKit
attribute [simp] dz_V dz_sC
@[simp] theorem dz_V1 (l : List V) : dzLL (List.take l.length (l.map V.cs)) = l.map V.cs := by
  rw [List.take_of_length_le (by simp), dz_V]
@[simp] theorem dz_sC1 (l : List ByteArray) : dzLL (List.take l.length (l.map sC)) = l.map sC := by
  rw [List.take_of_length_le (by simp), dz_sC]
@[simp] theorem sc_sC (l : List ByteArray) : scLL (l.map sC) = true := by
  induction l with
  | nil => rfl
  | cons x l ih => simp only [List.map_cons, scLL, ih]; rfl
@[simp] theorem sc_V (l : List V) : scLL (l.map V.cs) = true := by
  induction l with
  | nil => rfl
  | cons x l ih => simp only [List.map_cons, scLL, ih]; rfl
@[simp] theorem sc_ow (l : List Cl) : scLL (l.map Cl.ow) = true := by
  induction l with
  | nil => rfl
  | cons x l ih => simp only [List.map_cons, scLL, ih, Cl.ow, scL, scC, sc_sC, sc_V]; rfl
end Go.Own
set_option maxRecDepth 1000000
set_option maxHeartbeats 4000000
namespace Go.Own
attribute [local irreducible] WPc WPL WPS WPS1 WPS2 HAny endP
variable [Laid]
open Go.Lib Go.RowKit
def szR (left : Int) (c : Nat) : Int := if (c : Int) ≤ left then left - c else -1
def costS (l : List ByteArray) : Nat := l.length + (l.map ByteArray.size).sum
def costV (l : List V) : Nat := l.length + (l.map fun v => v.s.size).sum
def costC (c : Cl) : Nat := c.s.size + costS c.names + costV c.vals
def costH (h : List Cl) : Nat := h.length + (h.map costC).sum
theorem fit_int {a b : Int} (h : a = b) : Fit (.sc (.int .i64 a)) (.sc (.int .i64 b)) := by subst h; simp
def sumTo {α : Type} (f : α → Nat) (l : List α) (i : Nat) : Nat := ((l.take i).map f).sum
theorem sumTo_zero {α : Type} (f : α → Nat) (l : List α) : sumTo f l 0 = 0 := by simp [sumTo]
theorem sumTo_all {α : Type} (f : α → Nat) (l : List α) : sumTo f l l.length = (l.map f).sum := by simp [sumTo]
theorem sumTo_next {α : Type} {f : α → Nat} {l : List α} {i : Nat} (hi : i < l.length) : sumTo f l (i + 1) = sumTo f l i + f l[i] := by
  unfold sumTo
  rw [List.take_add_one, List.getElem?_eq_getElem hi, List.map_append, List.sum_append]
  simp
theorem sumTo_le {α : Type} (f : α → Nat) (l : List α) (i : Nat) : sumTo f l i ≤ (l.map f).sum := by
  unfold sumTo
  conv => rhs; rw [← List.take_append_drop i l, List.map_append, List.sum_append]
  omega
theorem szR_no {left : Int} {c : Nat} (h : left < c) : szR left c = -1 := by unfold szR; rw [if_neg (by omega)]
theorem szR_ok {left : Int} {c : Nat} (h : (c : Int) ≤ left) : szR left c = left - c := by unfold szR; rw [if_pos h]
theorem c_laws_szStringS (l : List ByteArray) (left : Int) (h0 : 0 ≤ left) (h1 : left ≤ 1073741824) (hs : ∀ s, s ∈ l → s.size ≤ 9223372036854775807) : Con PP 37 [.fz (l.map sC), .sc (.int .i64 left)] [] [] (fun r o => r = .sc (.int .i64 (szR left (costS l)))) := by
  refine Con.lenOf 0 Go.Proofs.Tryz.func37 (by kernel_rfl) (by kernel_rfl) rfl fun hlen => ?_
  simp at hlen
  refine Con.of tok (nt := 28) Go.Proofs.Tryz.func37 (by kernel_rfl) rfl rfl rfl (Nat.le_of_ble_eq_true rfl) fun G => ?_
  simp only [entSt, tmOf, List.append_nil, List.cons_append, List.nil_append]
  have e1 : IntKind.i64.wrap (left - l.length) = left - l.length := wrap64 (by omega) (by omega)
  repeat' (first
    | apply WPc.sq
    | apply WPc.block
    | (refine WPc.ret (endP.val (.inr rfl) rfl rfl (by simp; rfl) ?_))
    | apply WPc.skip
    | (refine WPc.rq tok rfl fun K hK => ?_; simp -implicitDefEqProofs +contextual [-Int.not_le, -Int.not_lt, -Nat.not_le, -Nat.not_lt, -List.all_eq_true, -List.all_eq_false, -List.any_eq_true, -List.any_eq_false, e1]; (repeat1' (first | apply hK | apply And.intro | intro _)) <;> clear hK K <;> (try dsimp only [List.drop]))
    | (refine WPc.cond (by simp [-Bool.not_eq_eq_eq_not]; rfl) (fun hq => ?_) (fun hq => ?_) <;> simp only [hq] <;> (try (exfalso; (simp only [decide_eq_true_eq, decide_eq_false_iff_not] at hq); omega))))
  · rw [szR_no (by unfold costS; simp at hq; omega)]
  simp only [decide_eq_false_iff_not] at hq
  refine WPc.loopK (σ := Nat) (fun i => i ≤ l.length ∧ l.length + sumTo ByteArray.size l i ≤ left) (fun i => l.length - i) (fun i => [(5, .sc (.int .i64 i)), (1, .sc (.int .i64 (left - l.length - sumTo ByteArray.size l i)))])  [0] 0 (by simp [sumTo_zero]) (by simp [sumTo_zero]) (⟨by omega, by rw [sumTo_zero]; omega⟩) ?_
  rintro i ⟨hi, hle⟩ s hs
  simp at hs
  subst hs
  by_cases hlt : i < l.length
  · have hz := hs _ (List.getElem_mem hlt)
    have e2 : IntKind.i64.wrap (left - l.length - sumTo ByteArray.size l i - l[i].size) = left - l.length - sumTo ByteArray.size l i - l[i].size := wrap64 (by omega) (by omega)
    have e3 := sumTo_next (f := ByteArray.size) hlt
    have e4 := sumTo_le ByteArray.size l (i + 1)
    repeat' (first
      | apply WPc.sq
      | apply WPc.block
      | (refine WPc.ret (endP.val (.inr rfl) rfl rfl (by simp; rfl) ?_))
      | apply WPc.skip
      | (refine WPc.rq tok rfl fun K hK => ?_; simp -implicitDefEqProofs +contextual [-Int.not_le, -Int.not_lt, -Nat.not_le, -Nat.not_lt, -List.all_eq_true, -List.all_eq_false, -List.any_eq_true, -List.any_eq_false, sC, hlt, e2]; (repeat1' (first | apply hK | apply And.intro | intro _)) <;> clear hK K <;> (try dsimp only [List.drop]))
      | (refine WPc.condT ?_ ?_; (focus (simp; done)))
      | (refine WPc.cond (by simp [-Bool.not_eq_eq_eq_not]; rfl) (fun hq => ?_) (fun hq => ?_) <;> simp only [hq] <;> (try (exfalso; (simp only [decide_eq_true_eq, decide_eq_false_iff_not] at hq); omega))))
    · rw [szR_no (by unfold costS; simp at hq; omega)]
    all_goals
      simp at hq
      refine ⟨i + 1, ⟨⟨by omega, by omega⟩, by first | omega | (simp only; omega) | assumption⟩, rfl, rfl, ?_, ?_⟩ <;> simp (disch := omega) [wrap64, e3]
    all_goals (try rw [e2])
    all_goals (refine fit_int ?_; omega)
  · obtain rfl : i = l.length := by omega
    repeat' (first
      | apply WPc.sq
      | (refine WPc.ret (endP.val (.inr rfl) rfl rfl (by simp; rfl) ?_))
      | apply WPc.exit
      | (refine WPc.rq tok rfl fun K hK => ?_; simp -implicitDefEqProofs +contextual [-Int.not_le, -Int.not_lt, -Nat.not_le, -Nat.not_lt, -List.all_eq_true, -List.all_eq_false, -List.any_eq_true, -List.any_eq_false]; (repeat1' (first | apply hK | apply And.intro | intro _)) <;> clear hK K <;> (try dsimp only [List.drop]))
      | (refine WPc.condF ?_ ?_; (focus (simp; done))))
    rw [sumTo_all] at hle
    rw [szR_ok (by unfold costS; omega), sumTo_all]
    simp only [costS, AV.sc.injEq, Value.int.injEq, true_and]
    omega
theorem c_laws_szValue (v : V) (left : Int) (h0 : 0 ≤ left) (h1 : left ≤ 1073741824) (hs : v.s.size ≤ 9223372036854775807) : Con PP 39 [v.av, .sc (.int .i64 left)] [] [] (fun r o => r = .sc (.int .i64 (szR left v.s.size))) := by
  have e1 : IntKind.i64.wrap (left - v.s.size) = left - v.s.size := wrap64 (by omega) (by omega)
  refine Con.of tok (nt := 13) Go.Proofs.Tryz.func39 (by kernel_rfl) rfl rfl rfl (Nat.le_of_ble_eq_true rfl) fun G => ?_
  simp only [entSt, tmOf, List.append_nil, List.cons_append, List.nil_append, V.av]
  repeat' (first
    | apply WPc.sq
    | (refine WPc.ret (endP.val (.inr rfl) rfl rfl (by simp; rfl) ?_))
    | apply WPc.skip
    | (refine WPc.rq tok rfl fun K hK => ?_; simp -implicitDefEqProofs +contextual [-Int.not_le, -Int.not_lt, -Nat.not_le, -Nat.not_lt, -List.all_eq_true, -List.all_eq_false, -List.any_eq_true, -List.any_eq_false, e1]; (repeat1' (first | apply hK | apply And.intro | intro _)) <;> clear hK K <;> (try dsimp only [List.drop]))
    | (refine WPc.cond (by simp [-Bool.not_eq_eq_eq_not]; rfl) (fun hq => ?_) (fun hq => ?_) <;> simp only [hq] <;> (try (exfalso; (simp only [decide_eq_true_eq, decide_eq_false_iff_not] at hq); omega))))
  · rw [szR_no (by simp at hq; omega)]
  · rw [szR_ok (by simp at hq; omega)]
theorem c_laws_szValueS (l : List V) (left : Int) (h0 : 0 ≤ left) (h1 : left ≤ 1073741824) (hs : ∀ v, v ∈ l → v.s.size ≤ 9223372036854775807) : Con PP 155 [.fz (l.map V.cs), .sc (.int .i64 left)] [] [] (fun r o => r = .sc (.int .i64 (szR left (costV l)))) := by
  refine Con.lenOf 0 Go.Proofs.Tryz.func155 (by kernel_rfl) (by kernel_rfl) rfl fun hlen => ?_
  simp at hlen
  refine Con.of tok (nt := 27) Go.Proofs.Tryz.func155 (by kernel_rfl) rfl rfl rfl (Nat.le_of_ble_eq_true rfl) fun G => ?_
  simp only [entSt, tmOf, List.append_nil, List.cons_append, List.nil_append]
  have e1 : IntKind.i64.wrap (left - l.length) = left - l.length := wrap64 (by omega) (by omega)
  repeat' (first
    | apply WPc.sq
    | apply WPc.block
    | (refine WPc.ret (endP.val (.inr rfl) rfl rfl (by simp; rfl) ?_))
    | apply WPc.skip
    | (refine WPc.rq tok rfl fun K hK => ?_; simp -implicitDefEqProofs +contextual [-Int.not_le, -Int.not_lt, -Nat.not_le, -Nat.not_lt, -List.all_eq_true, -List.all_eq_false, -List.any_eq_true, -List.any_eq_false, e1]; (repeat1' (first | apply hK | apply And.intro | intro _)) <;> clear hK K <;> (try dsimp only [List.drop]))
    | (refine WPc.cond (by simp [-Bool.not_eq_eq_eq_not]; rfl) (fun hq => ?_) (fun hq => ?_) <;> simp only [hq] <;> (try (exfalso; (simp only [decide_eq_true_eq, decide_eq_false_iff_not] at hq); omega))))
  · rw [szR_no (by unfold costV; simp at hq; omega)]
  simp only [decide_eq_false_iff_not] at hq
  refine WPc.loopK (σ := Nat) (fun i => i ≤ l.length ∧ l.length + sumTo (fun v => v.s.size) l i ≤ left) (fun i => l.length - i) (fun i => [(5, .sc (.int .i64 i)), (1, .sc (.int .i64 (left - l.length - sumTo (fun v => v.s.size) l i)))])  [0] 0 (by simp [sumTo_zero]) (by simp [sumTo_zero]) (⟨by omega, by rw [sumTo_zero]; omega⟩) ?_
  rintro i ⟨hi, hle⟩ s hs
  simp at hs
  subst hs
  by_cases hlt : i < l.length
  · have hz := hs _ (List.getElem_mem hlt)
    have e3 := sumTo_next (f := fun v : V => v.s.size) hlt
    have e4 := sumTo_le (fun v : V => v.s.size) l (i + 1)
    repeat' (first
      | apply WPc.sq
      | apply WPc.block
      | (refine WPc.ret (endP.val (.inr rfl) rfl rfl (by simp; rfl) ?_))
      | apply WPc.skip
      | refine WPL.nil ?_
      | (apply WPL.cL (c_laws_szValue ⟨_, _, _⟩ _ ?g1 ?g2 ?g3); (case q => (repeat' (first | refine And.intro ?_ ?_ | intro _ | exact cleanOut_nil | (refine Eqv.mk ?_; first | rfl | (simp -implicitDefEqProofs [V.cs, hlt]; done)) | (simp -implicitDefEqProofs [V.cs, hlt]; done) | (simp -implicitDefEqProofs [V.cs, hlt]; rfl) | (simp; done) | (simp; rfl) | rfl))); (case g1 => (first | assumption | omega | decide | (simp; done) | (simp_all; done) | (intros; omega))); (case g2 => (first | assumption | omega | decide | (simp; done) | (simp_all; done) | (intros; omega))); (case g3 => (first | assumption | omega | decide | (simp; done) | (simp_all; done) | (intros; omega))))
      | ((first | refine WPc.rq tok rfl fun K hK => ?_ | refine WPL.rn tok _ (by simp [ahead, isFn]; rfl) fun K hK => ?_); simp -implicitDefEqProofs +contextual [-Int.not_le, -Int.not_lt, -Nat.not_le, -Nat.not_lt, -List.all_eq_true, -List.all_eq_false, -List.any_eq_true, -List.any_eq_false, V.cs, hlt]; (repeat1' (first | apply hK | apply And.intro | intro _)) <;> clear hK K <;> (try dsimp only [List.drop]))
      | (refine WPc.region ?_; simp only [List.toList_toArray])
      | (refine WPc.condT ?_ ?_; (focus (simp; done)))
      | (refine WPc.cond (by simp [-Bool.not_eq_eq_eq_not]; rfl) (fun hq => ?_) (fun hq => ?_) <;> simp only [hq] <;> (try (exfalso; (simp only [decide_eq_true_eq, decide_eq_false_iff_not] at hq); omega))))
    · simp only [decide_eq_true_eq] at hq
      have : ¬ ((l[i].s.size : Int) ≤ left - l.length - sumTo (fun v => v.s.size) l i) := fun h => by rw [szR_ok h] at hq; omega
      rw [szR_no (by unfold costV; omega)]
    all_goals
      simp only [decide_eq_false_iff_not] at hq
      have hle2 : (l[i].s.size : Int) ≤ left - l.length - sumTo (fun v => v.s.size) l i := by
        by_cases h : (l[i].s.size : Int) ≤ left - l.length - sumTo (fun v => v.s.size) l i
        · exact h
        · rw [szR_no (by omega)] at hq; omega
      refine ⟨i + 1, ⟨⟨by omega, by omega⟩, by first | omega | (simp only; omega) | assumption⟩, rfl, rfl, ?_, ?_⟩ <;> simp (disch := omega) [wrap64, e3, szR_ok hle2]
    all_goals (refine fit_int ?_; omega)
  · obtain rfl : i = l.length := by omega
    repeat' (first
      | apply WPc.sq
      | (refine WPc.ret (endP.val (.inr rfl) rfl rfl (by simp; rfl) ?_))
      | apply WPc.exit
      | (refine WPc.rq tok rfl fun K hK => ?_; simp -implicitDefEqProofs +contextual [-Int.not_le, -Int.not_lt, -Nat.not_le, -Nat.not_lt, -List.all_eq_true, -List.all_eq_false, -List.any_eq_true, -List.any_eq_false]; (repeat1' (first | apply hK | apply And.intro | intro _)) <;> clear hK K <;> (try dsimp only [List.drop]))
      | (refine WPc.condF ?_ ?_; (focus (simp; done))))
    rw [sumTo_all] at hle
    rw [szR_ok (by unfold costV; omega), sumTo_all]
    simp only [costV, AV.sc.injEq, Value.int.injEq, true_and]
    omega
end Go.Own
set_option maxRecDepth 1000000
set_option maxHeartbeats 4000000
namespace Go.Own
attribute [local irreducible] WPc WPL WPS WPS1 WPS2 HAny endP
variable [Laid]
open Go.Lib Go.RowKit
def V.tx (v : V) : Prop := v.s.size ≤ 9223372036854775807
structure Cl.tx (c : Cl) : Prop where
  s : c.s.size ≤ 9223372036854775807
  names : ∀ x, x ∈ c.names → x.size ≤ 9223372036854775807
  vals : ∀ v, v ∈ c.vals → v.s.size ≤ 9223372036854775807
theorem szR_neg {left : Int} {c : Nat} (h0 : 0 ≤ left) (hq : szR left c < 0) : left < c := by
  by_cases h : (c : Int) ≤ left
  · rw [szR_ok h] at hq; omega
  · omega
theorem szR_pos {left : Int} {c : Nat} (hq : ¬ szR left c < 0) : (c : Int) ≤ left := by
  by_cases h : (c : Int) ≤ left
  · exact h
  · rw [szR_no (by omega)] at hq; omega
theorem c_laws_szCell (c : Cl) (left : Int) (h0 : 0 ≤ left) (h1 : left ≤ 1073741824) (hs : c.tx) : Con PP 90 [c.av, .sc (.int .i64 left)] [] [] (fun r o => r = .sc (.int .i64 (szR left (costC c)))) := by
  have t1 := hs.s
  have t2 := hs.names
  have t3 := hs.vals
  have e1 : IntKind.i64.wrap (left - c.s.size) = left - c.s.size := wrap64 (by omega) (by omega)
  refine Con.of tok (nt := 25) Go.Proofs.Tryz.func90 (by kernel_rfl) rfl rfl rfl (Nat.le_of_ble_eq_true rfl) fun G => ?_
  simp only [entSt, tmOf, List.append_nil, List.cons_append, List.nil_append, Cl.av]
  by_cases g1 : (c.s.size : Int) ≤ left
  · by_cases g2 : (costS c.names : Int) ≤ left - c.s.size
    · have e2 := szR_ok g2
      by_cases g3 : (costV c.vals : Int) ≤ left - c.s.size - costS c.names
      · have e3 := szR_ok g3
        repeat' (first
          | apply WPc.sq
          | (refine WPc.ret (endP.val (.inr rfl) rfl rfl (by simp; rfl) ?_))
          | apply WPc.skip
          | refine WPL.nil ?_
          | (apply WPL.cL (c_laws_szStringS _ _ ?g1 ?g2 ?g3); (case q => (repeat' (first | refine And.intro ?_ ?_ | intro _ | exact cleanOut_nil | (refine Eqv.mk ?_; first | rfl | (simp -implicitDefEqProofs [e1, e2, e3]; done)) | (simp -implicitDefEqProofs [e1, e2, e3]; done) | (simp -implicitDefEqProofs [e1, e2, e3]; rfl) | (simp; done) | (simp; rfl) | rfl))); (case g1 => (first | assumption | omega)); (case g2 => (first | assumption | omega)); (case g3 => (first | assumption | omega)))
          | (apply WPL.cL (c_laws_szValueS _ _ ?g1 ?g2 ?g3); (case q => (repeat' (first | refine And.intro ?_ ?_ | intro _ | exact cleanOut_nil | (refine Eqv.mk ?_; first | rfl | (simp -implicitDefEqProofs [e1, e2, e3]; done)) | (simp -implicitDefEqProofs [e1, e2, e3]; done) | (simp -implicitDefEqProofs [e1, e2, e3]; rfl) | (simp; done) | (simp; rfl) | rfl))); (case g1 => (first | assumption | omega)); (case g2 => (first | assumption | omega)); (case g3 => (first | assumption | omega)))
          | ((first | refine WPc.rq tok rfl fun K hK => ?_ | refine WPL.rn tok _ (by simp [ahead, isFn]; rfl) fun K hK => ?_); simp -implicitDefEqProofs +contextual [-Int.not_le, -Int.not_lt, -Nat.not_le, -Nat.not_lt, -List.all_eq_true, -List.all_eq_false, -List.any_eq_true, -List.any_eq_false, e1, e2, e3]; (repeat1' (first | apply hK | apply And.intro | intro _)) <;> clear hK K <;> (try dsimp only [List.drop]))
          | (refine WPc.region ?_; simp only [List.toList_toArray])
          | (refine WPc.cond (by simp [-Bool.not_eq_eq_eq_not]; rfl) (fun hq => ?_) (fun hq => ?_) <;> simp only [hq] <;> (try (exfalso; (simp only [decide_eq_true_eq, decide_eq_false_iff_not] at hq); omega))))
        all_goals (simp only [decide_eq_true_eq, decide_eq_false_iff_not] at *)
        all_goals first
          | (exfalso; omega)
          | (rw [szR_ok (by unfold costC; omega)]; simp only [costC, AV.sc.injEq, Value.int.injEq, true_and]; omega)
      · have e3 : szR (left - c.s.size - costS c.names) (costV c.vals) = -1 := szR_no (by omega)
        repeat' (first
          | apply WPc.sq
          | (refine WPc.ret (endP.val (.inr rfl) rfl rfl (by simp; rfl) ?_))
          | apply WPc.skip
          | refine WPL.nil ?_
          | (apply WPL.cL (c_laws_szStringS _ _ ?g1 ?g2 ?g3); (case q => (repeat' (first | refine And.intro ?_ ?_ | intro _ | exact cleanOut_nil | (refine Eqv.mk ?_; first | rfl | (simp -implicitDefEqProofs [e1, e2, e3]; done)) | (simp -implicitDefEqProofs [e1, e2, e3]; done) | (simp -implicitDefEqProofs [e1, e2, e3]; rfl) | (simp; done) | (simp; rfl) | rfl))); (case g1 => (first | assumption | omega)); (case g2 => (first | assumption | omega)); (case g3 => (first | assumption | omega)))
          | (apply WPL.cL (c_laws_szValueS _ _ ?g1 ?g2 ?g3); (case q => (repeat' (first | refine And.intro ?_ ?_ | intro _ | exact cleanOut_nil | (refine Eqv.mk ?_; first | rfl | (simp -implicitDefEqProofs [e1, e2, e3]; done)) | (simp -implicitDefEqProofs [e1, e2, e3]; done) | (simp -implicitDefEqProofs [e1, e2, e3]; rfl) | (simp; done) | (simp; rfl) | rfl))); (case g1 => (first | assumption | omega)); (case g2 => (first | assumption | omega)); (case g3 => (first | assumption | omega)))
          | ((first | refine WPc.rq tok rfl fun K hK => ?_ | refine WPL.rn tok _ (by simp [ahead, isFn]; rfl) fun K hK => ?_); simp -implicitDefEqProofs +contextual [-Int.not_le, -Int.not_lt, -Nat.not_le, -Nat.not_lt, -List.all_eq_true, -List.all_eq_false, -List.any_eq_true, -List.any_eq_false, e1, e2, e3]; (repeat1' (first | apply hK | apply And.intro | intro _)) <;> clear hK K <;> (try dsimp only [List.drop]))
          | (refine WPc.region ?_; simp only [List.toList_toArray])
          | (refine WPc.condT ?_ ?_; (focus (simp; done)))
          | (refine WPc.cond (by simp [-Bool.not_eq_eq_eq_not]; rfl) (fun hq => ?_) (fun hq => ?_) <;> simp only [hq] <;> (try (exfalso; (simp only [decide_eq_true_eq, decide_eq_false_iff_not] at hq); omega))))
        all_goals (simp only [decide_eq_true_eq, decide_eq_false_iff_not] at *)
        all_goals first
          | (exfalso; omega)
          | (rw [szR_no (by unfold costC; omega)])
    · have e2 : szR (left - c.s.size) (costS c.names) = -1 := szR_no (by omega)
      repeat' (first
        | apply WPc.sq
        | (refine WPc.ret (endP.val (.inr rfl) rfl rfl (by simp; rfl) ?_))
        | apply WPc.skip
        | refine WPL.nil ?_
        | (apply WPL.cL (c_laws_szStringS _ _ ?g1 ?g2 ?g3); (case q => (repeat' (first | refine And.intro ?_ ?_ | intro _ | exact cleanOut_nil | (refine Eqv.mk ?_; first | rfl | (simp -implicitDefEqProofs [e1, e2]; done)) | (simp -implicitDefEqProofs [e1, e2]; done) | (simp -implicitDefEqProofs [e1, e2]; rfl) | (simp; done) | (simp; rfl) | rfl))); (case g1 => (first | assumption | omega)); (case g2 => (first | assumption | omega)); (case g3 => (first | assumption | omega)))
        | ((first | refine WPc.rq tok rfl fun K hK => ?_ | refine WPL.rn tok _ (by simp [ahead, isFn]; rfl) fun K hK => ?_); simp -implicitDefEqProofs +contextual [-Int.not_le, -Int.not_lt, -Nat.not_le, -Nat.not_lt, -List.all_eq_true, -List.all_eq_false, -List.any_eq_true, -List.any_eq_false, e1, e2]; (repeat1' (first | apply hK | apply And.intro | intro _)) <;> clear hK K <;> (try dsimp only [List.drop]))
        | (refine WPc.region ?_; simp only [List.toList_toArray])
        | (refine WPc.condT ?_ ?_; (focus (simp; done)))
        | (refine WPc.cond (by simp [-Bool.not_eq_eq_eq_not]; rfl) (fun hq => ?_) (fun hq => ?_) <;> simp only [hq] <;> (try (exfalso; (simp only [decide_eq_true_eq, decide_eq_false_iff_not] at hq); omega))))
      all_goals (simp only [decide_eq_true_eq, decide_eq_false_iff_not] at *)
      all_goals first
        | (exfalso; omega)
        | (rw [szR_no (by unfold costC; omega)])
  · repeat' (first
      | apply WPc.sq
      | (refine WPc.ret (endP.val (.inr rfl) rfl rfl (by simp; rfl) ?_))
      | (refine WPc.rq tok rfl fun K hK => ?_; simp -implicitDefEqProofs +contextual [-Int.not_le, -Int.not_lt, -Nat.not_le, -Nat.not_lt, -List.all_eq_true, -List.all_eq_false, -List.any_eq_true, -List.any_eq_false, e1]; (repeat1' (first | apply hK | apply And.intro | intro _)) <;> clear hK K <;> (try dsimp only [List.drop]))
      | (refine WPc.cond (by simp [-Bool.not_eq_eq_eq_not]; rfl) (fun hq => ?_) (fun hq => ?_) <;> simp only [hq] <;> (try (exfalso; (simp only [decide_eq_true_eq, decide_eq_false_iff_not] at hq); omega))))
    all_goals (simp only [decide_eq_true_eq, decide_eq_false_iff_not] at *)
    all_goals first
      | (exfalso; omega)
      | (rw [szR_no (by unfold costC; omega)])
theorem c_laws_szCellS (l : List Cl) (left : Int) (h0 : 0 ≤ left) (h1 : left ≤ 1073741824) (hs : ∀ c, c ∈ l → c.tx) : Con PP 34 [.fz (l.map Cl.cs), .sc (.int .i64 left)] [] [] (fun r o => r = .sc (.int .i64 (szR left (costH l)))) := by
  refine Con.lenOf 0 Go.Proofs.Tryz.func34 (by kernel_rfl) (by kernel_rfl) rfl fun hlen => ?_
  simp at hlen
  refine Con.of tok (nt := 27) Go.Proofs.Tryz.func34 (by kernel_rfl) rfl rfl rfl (Nat.le_of_ble_eq_true rfl) fun G => ?_
  simp only [entSt, tmOf, List.append_nil, List.cons_append, List.nil_append]
  have e1 : IntKind.i64.wrap (left - l.length) = left - l.length := wrap64 (by omega) (by omega)
  repeat' (first
    | apply WPc.sq
    | apply WPc.block
    | (refine WPc.ret (endP.val (.inr rfl) rfl rfl (by simp; rfl) ?_))
    | apply WPc.skip
    | (refine WPc.rq tok rfl fun K hK => ?_; simp -implicitDefEqProofs +contextual [-Int.not_le, -Int.not_lt, -Nat.not_le, -Nat.not_lt, -List.all_eq_true, -List.all_eq_false, -List.any_eq_true, -List.any_eq_false, e1]; (repeat1' (first | apply hK | apply And.intro | intro _)) <;> clear hK K <;> (try dsimp only [List.drop]))
    | (refine WPc.cond (by simp [-Bool.not_eq_eq_eq_not]; rfl) (fun hq => ?_) (fun hq => ?_) <;> simp only [hq] <;> (try (exfalso; (simp only [decide_eq_true_eq, decide_eq_false_iff_not] at hq); omega))))
  · rw [szR_no (by unfold costH; simp at hq; omega)]
  simp only [decide_eq_false_iff_not] at hq
  refine WPc.loopK (σ := Nat) (fun i => i ≤ l.length ∧ l.length + sumTo costC l i ≤ left) (fun i => l.length - i) (fun i => [(5, .sc (.int .i64 i)), (1, .sc (.int .i64 (left - l.length - sumTo costC l i)))])  [0] 0 (by simp [sumTo_zero]) (by simp [sumTo_zero]) (⟨by omega, by rw [sumTo_zero]; omega⟩) ?_
  rintro i ⟨hi, hle⟩ s hs
  simp at hs
  subst hs
  by_cases hlt : i < l.length
  · have hz := hs _ (List.getElem_mem hlt)
    have e3 := sumTo_next (f := costC) hlt
    have e4 := sumTo_le costC l (i + 1)
    have ee : costC ⟨l[i].k, l[i].s, l[i].a, l[i].b, l[i].names, l[i].vals⟩ = costC l[i] := rfl
    repeat' (first
      | apply WPc.sq
      | apply WPc.block
      | (refine WPc.ret (endP.val (.inr rfl) rfl rfl (by simp; rfl) ?_))
      | apply WPc.skip
      | refine WPL.nil ?_
      | (apply WPL.cL (c_laws_szCell ⟨_, _, _, _, _, _⟩ _ ?g1 ?g2 ?g3); (case q => (repeat' (first | refine And.intro ?_ ?_ | intro _ | exact cleanOut_nil | (refine Eqv.mk ?_; first | rfl | (simp -implicitDefEqProofs [Cl.cs, hlt, ee]; done)) | (simp -implicitDefEqProofs [Cl.cs, hlt, ee]; done) | (simp -implicitDefEqProofs [Cl.cs, hlt, ee]; rfl) | (simp; done) | (simp; rfl) | rfl))); (case g1 => (first | assumption | (exact hz) | omega)); (case g2 => (first | assumption | (exact hz) | omega)); (case g3 => (first | assumption | (exact hz) | omega)))
      | ((first | refine WPc.rq tok rfl fun K hK => ?_ | refine WPL.rn tok _ (by simp [ahead, isFn]; rfl) fun K hK => ?_); simp -implicitDefEqProofs +contextual [-Int.not_le, -Int.not_lt, -Nat.not_le, -Nat.not_lt, -List.all_eq_true, -List.all_eq_false, -List.any_eq_true, -List.any_eq_false, Cl.cs, hlt, ee]; (repeat1' (first | apply hK | apply And.intro | intro _)) <;> clear hK K <;> (try dsimp only [List.drop]))
      | (refine WPc.region ?_; simp only [List.toList_toArray])
      | (refine WPc.condT ?_ ?_; (focus (simp; done)))
      | (refine WPc.cond (by simp [-Bool.not_eq_eq_eq_not]; rfl) (fun hq => ?_) (fun hq => ?_) <;> simp only [hq] <;> (try (exfalso; (simp only [decide_eq_true_eq, decide_eq_false_iff_not] at hq); omega))))
    all_goals try rw [ee] at hq
    · simp only [decide_eq_true_eq] at hq
      have := szR_neg (by omega) hq
      rw [szR_no (by unfold costH; omega)]
    all_goals
      try simp only [decide_eq_false_iff_not] at hq
      have hle2 := szR_pos hq
      refine ⟨i + 1, ⟨⟨by omega, by omega⟩, by first | omega | (simp only; omega) | assumption⟩, rfl, rfl, ?_, ?_⟩ <;> simp (disch := omega) [wrap64, e3, ee, szR_ok hle2]
    all_goals (refine fit_int ?_; omega)
  · obtain rfl : i = l.length := by omega
    repeat' (first
      | apply WPc.sq
      | (refine WPc.ret (endP.val (.inr rfl) rfl rfl (by simp; rfl) ?_))
      | apply WPc.exit
      | (refine WPc.rq tok rfl fun K hK => ?_; simp -implicitDefEqProofs +contextual [-Int.not_le, -Int.not_lt, -Nat.not_le, -Nat.not_lt, -List.all_eq_true, -List.all_eq_false, -List.any_eq_true, -List.any_eq_false]; (repeat1' (first | apply hK | apply And.intro | intro _)) <;> clear hK K <;> (try dsimp only [List.drop]))
      | (refine WPc.condF ?_ ?_; (focus (simp; done))))
    rw [sumTo_all] at hle
    rw [szR_ok (by unfold costH; omega), sumTo_all]
    simp only [costH, AV.sc.injEq, Value.int.injEq, true_and]
    omega
end Go.Own
set_option maxRecDepth 1000000
set_option maxHeartbeats 4000000
namespace Go.Own
attribute [local irreducible] WPc WPL WPS WPS1 WPS2 HAny endP
variable [Laid]
open Go.Lib Go.RowKit
theorem c_laws_eqStringS (l : List ByteArray) : Con PP 30 [.fz (l.map sC), .fz (l.map sC)] [] [] (fun r o => r = .sc (.bool true)) := by
  refine Con.lenOf 0 Go.Proofs.Tryz.func30 (by kernel_rfl) (by kernel_rfl) rfl fun hlen => ?_
  simp at hlen
  refine Con.of tok (nt := 26) Go.Proofs.Tryz.func30 (by kernel_rfl) rfl rfl rfl (Nat.le_of_ble_eq_true rfl) fun G => ?_
  simp only [entSt, tmOf, List.append_nil, List.cons_append, List.nil_append]
  repeat' (first
    | apply WPc.sq
    | apply WPc.block
    | apply WPc.skip
    | (refine WPc.rq tok rfl fun K hK => ?_; simp -implicitDefEqProofs +contextual [-Int.not_le, -Int.not_lt, -Nat.not_le, -Nat.not_lt, -List.all_eq_true, -List.all_eq_false, -List.any_eq_true, -List.any_eq_false]; (repeat1' (first | apply hK | apply And.intro | intro _)) <;> clear hK K <;> (try dsimp only [List.drop]))
    | (refine WPc.condF ?_ ?_; (focus (simp; done))))
  refine WPc.loopK (σ := Nat) (fun i => i ≤ l.length) (fun i => l.length - i) (fun i => [(5, .sc (.int .i64 i))])  [0, 1] 0 (by simp) (by simp) (by simp) ?_
  rintro i hi s hs
  simp at hs
  subst hs
  by_cases hlt : i < l.length
  · repeat' (first
      | apply WPc.sq
      | apply WPc.block
      | apply WPc.skip
      | ((first | refine WPc.rq tok rfl fun K hK => ?_ | refine WPS.rn tok _ (by simp [aheadS]; rfl) fun K hK => ?_); simp -implicitDefEqProofs +contextual [-Int.not_le, -Int.not_lt, -Nat.not_le, -Nat.not_lt, -List.all_eq_true, -List.all_eq_false, -List.any_eq_true, -List.any_eq_false, sC, hlt]; (repeat1' (first | apply hK | apply And.intro | intro _)) <;> clear hK K <;> (try dsimp only [List.drop]))
      | (refine WPc.sched (id := 6) tok [] [(0, []), (1, []), (2, []), (3, []), (4, []), (5, []), (6, []), (7, []), (8, [])] (by kernel_rfl) ?_)
      | (refine WPS.nil ?_)
      | (refine WPc.condT ?_ ?_; (focus (simp; done)))
      | (refine WPc.condF ?_ ?_; (focus (simp; done))))
    all_goals
      refine ⟨i + 1, ⟨hlt, by first | omega | (simp only; omega) | assumption⟩, rfl, rfl, ?_, ?_⟩ <;> simp (disch := omega) [wrap64]
  · repeat' (first
      | apply WPc.sq
      | (refine WPc.ret (endP.val (.inr rfl) rfl rfl (by simp; rfl) ?_))
      | apply WPc.exit
      | (refine WPc.rq tok rfl fun K hK => ?_; simp -implicitDefEqProofs +contextual [-Int.not_le, -Int.not_lt, -Nat.not_le, -Nat.not_lt, -List.all_eq_true, -List.all_eq_false, -List.any_eq_true, -List.any_eq_false, hlt]; (repeat1' (first | apply hK | apply And.intro | intro _)) <;> clear hK K <;> (try dsimp only [List.drop]))
      | (refine WPc.condF ?_ ?_; (focus (simp; done))))
    all_goals rfl
theorem c_laws_eqValue (v : V) : Con PP 60 [v.av, v.av] [] [] (fun r o => r = .sc (.bool true)) := by
  refine Con.of tok (nt := 20) Go.Proofs.Tryz.func60 (by kernel_rfl) rfl rfl rfl (Nat.le_of_ble_eq_true rfl) fun G => ?_
  simp only [entSt, tmOf, List.append_nil, List.cons_append, List.nil_append, V.av]
  repeat' (first
    | apply WPc.sq
    | (refine WPc.ret (endP.val (.inr rfl) rfl rfl (by simp; rfl) ?_))
    | apply WPc.skip
    | (refine WPc.rq tok rfl fun K hK => ?_; simp -implicitDefEqProofs +contextual [-Int.not_le, -Int.not_lt, -Nat.not_le, -Nat.not_lt, -List.all_eq_true, -List.all_eq_false, -List.any_eq_true, -List.any_eq_false]; (repeat1' (first | apply hK | apply And.intro | intro _)) <;> clear hK K <;> (try dsimp only [List.drop]))
    | (refine WPc.condF ?_ ?_; (focus (simp; done))))
  all_goals rfl
theorem c_laws_eqValueS (l : List V) : Con PP 183 [.fz (l.map V.cs), .fz (l.map V.cs)] [] [] (fun r o => r = .sc (.bool true)) := by
  refine Con.lenOf 0 Go.Proofs.Tryz.func183 (by kernel_rfl) (by kernel_rfl) rfl fun hlen => ?_
  simp at hlen
  refine Con.of tok (nt := 27) Go.Proofs.Tryz.func183 (by kernel_rfl) rfl rfl rfl (Nat.le_of_ble_eq_true rfl) fun G => ?_
  simp only [entSt, tmOf, List.append_nil, List.cons_append, List.nil_append]
  repeat' (first
    | apply WPc.sq
    | apply WPc.block
    | apply WPc.skip
    | (refine WPc.rq tok rfl fun K hK => ?_; simp -implicitDefEqProofs +contextual [-Int.not_le, -Int.not_lt, -Nat.not_le, -Nat.not_lt, -List.all_eq_true, -List.all_eq_false, -List.any_eq_true, -List.any_eq_false]; (repeat1' (first | apply hK | apply And.intro | intro _)) <;> clear hK K <;> (try dsimp only [List.drop]))
    | (refine WPc.condF ?_ ?_; (focus (simp; done))))
  refine WPc.loopK (σ := Nat) (fun i => i ≤ l.length) (fun i => l.length - i) (fun i => [(5, .sc (.int .i64 i))])  [0, 1] 0 (by simp) (by simp) (by simp) ?_
  rintro i hi s hs
  simp at hs
  subst hs
  by_cases hlt : i < l.length
  · repeat' (first
      | apply WPc.sq
      | apply WPc.block
      | apply WPc.skip
      | (apply WPS.cL (hc := (c_laws_eqValue ⟨_, _, _⟩)); (case ho => exact rfl); (case q => (repeat' (first | refine And.intro ?_ ?_ | intro _ | exact cleanOut_nil | (refine Eqv.mk ?_; first | rfl | (simp -implicitDefEqProofs [V.cs, V.av, hlt]; done)) | (simp -implicitDefEqProofs [V.cs, V.av, hlt]; done) | (simp -implicitDefEqProofs [V.cs, V.av, hlt]; rfl) | (simp; done) | (simp; rfl) | rfl))))
      | ((first | refine WPc.rq tok rfl fun K hK => ?_ | refine WPS.rn tok _ (by simp [aheadS]; rfl) fun K hK => ?_); simp -implicitDefEqProofs +contextual [-Int.not_le, -Int.not_lt, -Nat.not_le, -Nat.not_lt, -List.all_eq_true, -List.all_eq_false, -List.any_eq_true, -List.any_eq_false, V.cs, V.av, hlt]; (repeat1' (first | apply hK | apply And.intro | intro _)) <;> clear hK K <;> (try dsimp only [List.drop]))
      | (refine WPc.sched (id := 6) tok [] [(0, []), (1, []), (2, []), (3, []), (4, []), (5, []), (6, []), (7, []), (8, []), (9, [])] (by kernel_rfl) ?_)
      | (refine WPS.nil ?_)
      | (refine WPc.condT ?_ ?_; (focus (simp; done)))
      | (refine WPc.condF ?_ ?_; (focus (simp; done))))
    all_goals
      refine ⟨i + 1, ⟨hlt, by first | omega | (simp only; omega) | assumption⟩, rfl, rfl, ?_, ?_⟩ <;> simp (disch := omega) [wrap64]
  · repeat' (first
      | apply WPc.sq
      | (refine WPc.ret (endP.val (.inr rfl) rfl rfl (by simp; rfl) ?_))
      | apply WPc.exit
      | (refine WPc.rq tok rfl fun K hK => ?_; simp -implicitDefEqProofs +contextual [-Int.not_le, -Int.not_lt, -Nat.not_le, -Nat.not_lt, -List.all_eq_true, -List.all_eq_false, -List.any_eq_true, -List.any_eq_false, hlt]; (repeat1' (first | apply hK | apply And.intro | intro _)) <;> clear hK K <;> (try dsimp only [List.drop]))
      | (refine WPc.condF ?_ ?_; (focus (simp; done))))
    all_goals rfl
theorem c_laws_eqCell (c : Cl) : Con PP 114 [c.av, c.av] [] [] (fun r o => r = .sc (.bool true)) := by
  refine Con.of tok (nt := 37) Go.Proofs.Tryz.func114 (by kernel_rfl) rfl rfl rfl (Nat.le_of_ble_eq_true rfl) fun G => ?_
  simp only [entSt, tmOf, List.append_nil, List.cons_append, List.nil_append, Cl.av]
  repeat' (first
    | apply WPc.sq
    | (refine WPc.ret (endP.val (.inr rfl) rfl rfl (by simp; rfl) ?_))
    | apply WPc.skip
    | refine WPL.nil ?_
    | (apply WPL.cL (c_laws_eqStringS _); (case q => (repeat' (first | refine And.intro ?_ ?_ | intro _ | exact cleanOut_nil | (refine Eqv.mk ?_; first | rfl | (simp -implicitDefEqProofs; done)) | (simp -implicitDefEqProofs; done) | (simp -implicitDefEqProofs; rfl) | rfl))))
    | (apply WPL.cL (c_laws_eqValueS _); (case q => (repeat' (first | refine And.intro ?_ ?_ | intro _ | exact cleanOut_nil | (refine Eqv.mk ?_; first | rfl | (simp -implicitDefEqProofs; done)) | (simp -implicitDefEqProofs; done) | (simp -implicitDefEqProofs; rfl) | rfl))))
    | ((first | refine WPc.rq tok rfl fun K hK => ?_ | refine WPL.rn tok _ (by simp [ahead, isFn]; rfl) fun K hK => ?_); simp -implicitDefEqProofs +contextual [-Int.not_le, -Int.not_lt, -Nat.not_le, -Nat.not_lt, -List.all_eq_true, -List.all_eq_false, -List.any_eq_true, -List.any_eq_false]; (repeat1' (first | apply hK | apply And.intro | intro _)) <;> clear hK K <;> (try dsimp only [List.drop]))
    | (refine WPc.region ?_; simp only [List.toList_toArray])
    | (refine WPc.condF ?_ ?_; (focus (simp; done))))
  all_goals rfl
theorem c_laws_eqCellS (l : List Cl) : Con PP 56 [.fz (l.map Cl.cs), .fz (l.map Cl.cs)] [] [] (fun r o => r = .sc (.bool true)) := by
  refine Con.lenOf 0 Go.Proofs.Tryz.func56 (by kernel_rfl) (by kernel_rfl) rfl fun hlen => ?_
  simp at hlen
  refine Con.of tok (nt := 27) Go.Proofs.Tryz.func56 (by kernel_rfl) rfl rfl rfl (Nat.le_of_ble_eq_true rfl) fun G => ?_
  simp only [entSt, tmOf, List.append_nil, List.cons_append, List.nil_append]
  repeat' (first
    | apply WPc.sq
    | apply WPc.block
    | apply WPc.skip
    | (refine WPc.rq tok rfl fun K hK => ?_; simp -implicitDefEqProofs +contextual [-Int.not_le, -Int.not_lt, -Nat.not_le, -Nat.not_lt, -List.all_eq_true, -List.all_eq_false, -List.any_eq_true, -List.any_eq_false]; (repeat1' (first | apply hK | apply And.intro | intro _)) <;> clear hK K <;> (try dsimp only [List.drop]))
    | (refine WPc.condF ?_ ?_; (focus (simp; done))))
  refine WPc.loopK (σ := Nat) (fun i => i ≤ l.length) (fun i => l.length - i) (fun i => [(5, .sc (.int .i64 i))])  [0, 1] 0 (by simp) (by simp) (by simp) ?_
  rintro i hi s hs
  simp at hs
  subst hs
  by_cases hlt : i < l.length
  · repeat' (first
      | apply WPc.sq
      | apply WPc.block
      | apply WPc.skip
      | (apply WPS.cL (hc := (c_laws_eqCell ⟨_, _, _, _, _, _⟩)); (case ho => exact rfl); (case q => (repeat' (first | refine And.intro ?_ ?_ | intro _ | exact cleanOut_nil | (refine Eqv.mk ?_; first | rfl | (simp -implicitDefEqProofs [Cl.cs, Cl.av, hlt]; done)) | (simp -implicitDefEqProofs [Cl.cs, Cl.av, hlt]; done) | (simp -implicitDefEqProofs [Cl.cs, Cl.av, hlt]; rfl) | (simp; done) | (simp; rfl) | rfl))))
      | ((first | refine WPc.rq tok rfl fun K hK => ?_ | refine WPS.rn tok _ (by simp [aheadS]; rfl) fun K hK => ?_); simp -implicitDefEqProofs +contextual [-Int.not_le, -Int.not_lt, -Nat.not_le, -Nat.not_lt, -List.all_eq_true, -List.all_eq_false, -List.any_eq_true, -List.any_eq_false, Cl.cs, Cl.av, hlt]; (repeat1' (first | apply hK | apply And.intro | intro _)) <;> clear hK K <;> (try dsimp only [List.drop]))
      | (refine WPc.sched (id := 6) tok [] [(0, []), (1, []), (2, []), (3, []), (4, []), (5, []), (6, []), (7, []), (8, []), (9, [])] (by kernel_rfl) ?_)
      | (refine WPS.nil ?_)
      | (refine WPc.condT ?_ ?_; (focus (simp; done)))
      | (refine WPc.condF ?_ ?_; (focus (simp; done))))
    all_goals
      refine ⟨i + 1, ⟨hlt, by first | omega | (simp only; omega) | assumption⟩, rfl, rfl, ?_, ?_⟩ <;> simp (disch := omega) [wrap64]
  · repeat' (first
      | apply WPc.sq
      | (refine WPc.ret (endP.val (.inr rfl) rfl rfl (by simp; rfl) ?_))
      | apply WPc.exit
      | (refine WPc.rq tok rfl fun K hK => ?_; simp -implicitDefEqProofs +contextual [-Int.not_le, -Int.not_lt, -Nat.not_le, -Nat.not_lt, -List.all_eq_true, -List.all_eq_false, -List.any_eq_true, -List.any_eq_false, hlt]; (repeat1' (first | apply hK | apply And.intro | intro _)) <;> clear hK K <;> (try dsimp only [List.drop]))
      | (refine WPc.condF ?_ ?_; (focus (simp; done))))
    all_goals rfl
end Go.Own
set_option maxRecDepth 1000000
set_option maxHeartbeats 4000000
namespace Go.Own
attribute [local irreducible] WPc WPL WPS WPS1 WPS2 HAny endP
variable [Laid]
open Go.Lib Go.RowKit
def nC (x : Int) : List C := [.sc (.int .i64 x)]
@[simp] theorem nC.len (c : Int) : (nC c).length = 1 := rfl
@[simp] theorem nC.frz (c : Int) : (nC c).map Own.frz = nC c := rfl
@[simp] theorem nC.pln (c : Int) : (nC c).all plainC = true := rfl
@[simp] theorem nC.lenA (l : List Int) : lenAll 1 (l.map nC) = true := lenAll_map nC.len l
@[simp] theorem nC.frzA (l : List Int) : frzAll (l.map nC) = l.map nC := frzAll_map nC.frz l
@[simp] theorem nC.plnA (l : List Int) : plainAll (l.map nC) = true := plainAll_map nC.pln l
structure Nd where
  k : Int
  n : Int
  s : ByteArray
  names : List ByteArray
  args : List Int
  deriving DecidableEq
def Nd.cs (c : Nd) : List C := [.sc (.int .i64 c.k), .sc (.int .i64 c.n), .sc (.string c.s), .fz (c.names.map sC), .fz (c.args.map nC)]
def Nd.av (c : Nd) : AV := .agg [.sc (.int .i64 c.k), .sc (.int .i64 c.n), .sc (.string c.s), .fz (c.names.map sC), .fz (c.args.map nC)]
def Nd.ow (c : Nd) : List C := [.sc (.int .i64 c.k), .sc (.int .i64 c.n), .sc (.string c.s), .sl 9 1 (c.names.map sC), .sl 3 1 (c.args.map nC)]
@[simp] theorem Nd.len (c : Nd) : c.cs.length = 5 := rfl
@[simp] theorem Nd.frz (c : Nd) : c.cs.map Own.frz = c.cs := rfl
@[simp] theorem Nd.pln (c : Nd) : c.cs.all plainC = true := rfl
@[simp] theorem Nd.lenA (l : List Nd) : lenAll 5 (l.map Nd.cs) = true := lenAll_map Nd.len l
@[simp] theorem Nd.frzA (l : List Nd) : frzAll (l.map Nd.cs) = l.map Nd.cs := frzAll_map Nd.frz l
@[simp] theorem Nd.plnA (l : List Nd) : plainAll (l.map Nd.cs) = true := plainAll_map Nd.pln l
@[simp] theorem Nd.lenO (c : Nd) : c.ow.length = 5 := rfl
@[simp] theorem Nd.lenOA (l : List Nd) : lenAll 5 (l.map Nd.ow) = true := lenAll_map Nd.lenO l
theorem dz_nC (l : List Int) : dzLL (l.map nC) = l.map nC := by rw [dzLL_map, List.map_map]; rfl
attribute [simp] dz_nC
@[simp] theorem dz_nC1 (l : List Int) : dzLL (List.take l.length (l.map nC)) = l.map nC := by
  rw [List.take_of_length_le (by simp), dz_nC]
@[simp] theorem dz_nd (h : List Nd) : dzLL (h.map Nd.ow) = h.map Nd.cs := by
  rw [dzLL_map, List.map_map]
  refine List.map_congr_left fun c _ => ?_
  simp [Nd.ow, Nd.cs, dzL, deepFz, dz_sC]
@[simp] theorem dz_nd1 (h : List Nd) : dzLL (List.take h.length (h.map Nd.ow)) = h.map Nd.cs := by
  rw [List.take_of_length_le (by simp), dz_nd]
@[simp] theorem sc_nC (l : List Int) : scLL (l.map nC) = true := by
  induction l with
  | nil => rfl
  | cons x l ih => simp only [List.map_cons, scLL, ih]; rfl
@[simp] theorem sc_nd (l : List Nd) : scLL (l.map Nd.ow) = true := by
  induction l with
  | nil => rfl
  | cons x l ih => simp only [List.map_cons, scLL, ih, Nd.ow, scL, scC, sc_sC, sc_nC]; rfl
structure Pg where
  nodes : List Nd
  root : Int
  deriving DecidableEq
def Pg.av (p : Pg) : AV := .agg [.fz (p.nodes.map Nd.cs), .sc (.int .i64 p.root)]
def nodesR (h : List Nd) : Root := (174, 5, h.map Nd.ow)
structure Nd.tx (c : Nd) : Prop where
  s : c.s.size ≤ 9223372036854775807
  names : ∀ x, x ∈ c.names → x.size ≤ 9223372036854775807
def costN (c : Nd) : Nat := c.s.size + costS c.names + c.args.length
def costP (h : List Nd) : Nat := h.length + (h.map costN).sum
theorem c_laws_szIntS (l : List Int) (left : Int) (h0 : 0 ≤ left) (h1 : left ≤ 1073741824) : Con PP 255 [.fz (l.map nC), .sc (.int .i64 left)] [] [] (fun r o => r = .sc (.int .i64 (szR left l.length))) := by
  refine Con.lenOf 0 Go.Proofs.Tryz.func255 (by kernel_rfl) (by kernel_rfl) rfl fun hlen => ?_
  simp at hlen
  refine Con.of tok (nt := 12) Go.Proofs.Tryz.func255 (by kernel_rfl) rfl rfl rfl (Nat.le_of_ble_eq_true rfl) fun G => ?_
  simp only [entSt, tmOf, List.append_nil, List.cons_append, List.nil_append]
  have e1 : IntKind.i64.wrap (left - l.length) = left - l.length := wrap64 (by omega) (by omega)
  repeat' (first
    | apply WPc.sq
    | (refine WPc.ret (endP.val (.inr rfl) rfl rfl (by simp; rfl) ?_))
    | apply WPc.skip
    | (refine WPc.rq tok rfl fun K hK => ?_; simp -implicitDefEqProofs +contextual [-Int.not_le, -Int.not_lt, -Nat.not_le, -Nat.not_lt, -List.all_eq_true, -List.all_eq_false, -List.any_eq_true, -List.any_eq_false, e1]; (repeat1' (first | apply hK | apply And.intro | intro _)) <;> clear hK K <;> (try dsimp only [List.drop]))
    | (refine WPc.cond (by simp [-Bool.not_eq_eq_eq_not]; rfl) (fun hq => ?_) (fun hq => ?_) <;> simp only [hq] <;> (try (exfalso; (simp only [decide_eq_true_eq, decide_eq_false_iff_not] at hq); omega))))
  · rw [szR_no (by simp at hq; omega)]
  · rw [szR_ok (by simp at hq; omega)]
theorem c_laws_szNode (c : Nd) (left : Int) (h0 : 0 ≤ left) (h1 : left ≤ 1073741824) (hs : c.tx) : Con PP 243 [c.av, .sc (.int .i64 left)] [] [] (fun r o => r = .sc (.int .i64 (szR left (costN c)))) := by
  have t1 := hs.s
  have t2 := hs.names
  have e1 : IntKind.i64.wrap (left - c.s.size) = left - c.s.size := wrap64 (by omega) (by omega)
  refine Con.of tok (nt := 25) Go.Proofs.Tryz.func243 (by kernel_rfl) rfl rfl rfl (Nat.le_of_ble_eq_true rfl) fun G => ?_
  simp only [entSt, tmOf, List.append_nil, List.cons_append, List.nil_append, Nd.av]
  by_cases g1 : (c.s.size : Int) ≤ left
  · by_cases g2 : (costS c.names : Int) ≤ left - c.s.size
    · have e2 := szR_ok g2
      by_cases g3 : (c.args.length : Int) ≤ left - c.s.size - costS c.names
      · have e3 := szR_ok g3
        repeat' (first
          | apply WPc.sq
          | (refine WPc.ret (endP.val (.inr rfl) rfl rfl (by simp; rfl) ?_))
          | apply WPc.skip
          | refine WPL.nil ?_
          | (apply WPL.cL (c_laws_szStringS _ _ ?g1 ?g2 ?g3); (case q => (repeat' (first | refine And.intro ?_ ?_ | intro _ | exact cleanOut_nil | (refine Eqv.mk ?_; first | rfl | (simp -implicitDefEqProofs [e1, e2, e3]; done)) | (simp -implicitDefEqProofs [e1, e2, e3]; done) | (simp -implicitDefEqProofs [e1, e2, e3]; rfl) | (simp; done) | (simp; rfl) | rfl))); (case g1 => (first | assumption | omega)); (case g2 => (first | assumption | omega)); (case g3 => (first | assumption | omega)))
          | (apply WPL.cL (c_laws_szIntS _ _ ?g1 ?g2); (case q => (repeat' (first | refine And.intro ?_ ?_ | intro _ | exact cleanOut_nil | (refine Eqv.mk ?_; first | rfl | (simp -implicitDefEqProofs [e1, e2, e3]; done)) | (simp -implicitDefEqProofs [e1, e2, e3]; done) | (simp -implicitDefEqProofs [e1, e2, e3]; rfl) | (simp; done) | (simp; rfl) | rfl))); (case g1 => (first | assumption | omega)); (case g2 => (first | assumption | omega)))
          | ((first | refine WPc.rq tok rfl fun K hK => ?_ | refine WPL.rn tok _ (by simp [ahead, isFn]; rfl) fun K hK => ?_); simp -implicitDefEqProofs +contextual [-Int.not_le, -Int.not_lt, -Nat.not_le, -Nat.not_lt, -List.all_eq_true, -List.all_eq_false, -List.any_eq_true, -List.any_eq_false, e1, e2, e3]; (repeat1' (first | apply hK | apply And.intro | intro _)) <;> clear hK K <;> (try dsimp only [List.drop]))
          | (refine WPc.region ?_; simp only [List.toList_toArray])
          | (refine WPc.cond (by simp [-Bool.not_eq_eq_eq_not]; rfl) (fun hq => ?_) (fun hq => ?_) <;> simp only [hq] <;> (try (exfalso; (simp only [decide_eq_true_eq, decide_eq_false_iff_not] at hq); omega))))
        all_goals (simp only [decide_eq_true_eq, decide_eq_false_iff_not] at *)
        all_goals first
          | (exfalso; omega)
          | (rw [szR_ok (by unfold costN; omega)]; simp only [costN, AV.sc.injEq, Value.int.injEq, true_and]; omega)
      · have e3 : szR (left - c.s.size - costS c.names) c.args.length = -1 := szR_no (by omega)
        repeat' (first
          | apply WPc.sq
          | (refine WPc.ret (endP.val (.inr rfl) rfl rfl (by simp; rfl) ?_))
          | apply WPc.skip
          | refine WPL.nil ?_
          | (apply WPL.cL (c_laws_szStringS _ _ ?g1 ?g2 ?g3); (case q => (repeat' (first | refine And.intro ?_ ?_ | intro _ | exact cleanOut_nil | (refine Eqv.mk ?_; first | rfl | (simp -implicitDefEqProofs [e1, e2, e3]; done)) | (simp -implicitDefEqProofs [e1, e2, e3]; done) | (simp -implicitDefEqProofs [e1, e2, e3]; rfl) | (simp; done) | (simp; rfl) | rfl))); (case g1 => (first | assumption | omega)); (case g2 => (first | assumption | omega)); (case g3 => (first | assumption | omega)))
          | (apply WPL.cL (c_laws_szIntS _ _ ?g1 ?g2); (case q => (repeat' (first | refine And.intro ?_ ?_ | intro _ | exact cleanOut_nil | (refine Eqv.mk ?_; first | rfl | (simp -implicitDefEqProofs [e1, e2, e3]; done)) | (simp -implicitDefEqProofs [e1, e2, e3]; done) | (simp -implicitDefEqProofs [e1, e2, e3]; rfl) | (simp; done) | (simp; rfl) | rfl))); (case g1 => (first | assumption | omega)); (case g2 => (first | assumption | omega)))
          | ((first | refine WPc.rq tok rfl fun K hK => ?_ | refine WPL.rn tok _ (by simp [ahead, isFn]; rfl) fun K hK => ?_); simp -implicitDefEqProofs +contextual [-Int.not_le, -Int.not_lt, -Nat.not_le, -Nat.not_lt, -List.all_eq_true, -List.all_eq_false, -List.any_eq_true, -List.any_eq_false, e1, e2, e3]; (repeat1' (first | apply hK | apply And.intro | intro _)) <;> clear hK K <;> (try dsimp only [List.drop]))
          | (refine WPc.region ?_; simp only [List.toList_toArray])
          | (refine WPc.condT ?_ ?_; (focus (simp; done)))
          | (refine WPc.cond (by simp [-Bool.not_eq_eq_eq_not]; rfl) (fun hq => ?_) (fun hq => ?_) <;> simp only [hq] <;> (try (exfalso; (simp only [decide_eq_true_eq, decide_eq_false_iff_not] at hq); omega))))
        all_goals (simp only [decide_eq_true_eq, decide_eq_false_iff_not] at *)
        all_goals first
          | (exfalso; omega)
          | (rw [szR_no (by unfold costN; omega)])
    · have e2 : szR (left - c.s.size) (costS c.names) = -1 := szR_no (by omega)
      repeat' (first
        | apply WPc.sq
        | (refine WPc.ret (endP.val (.inr rfl) rfl rfl (by simp; rfl) ?_))
        | apply WPc.skip
        | refine WPL.nil ?_
        | (apply WPL.cL (c_laws_szStringS _ _ ?g1 ?g2 ?g3); (case q => (repeat' (first | refine And.intro ?_ ?_ | intro _ | exact cleanOut_nil | (refine Eqv.mk ?_; first | rfl | (simp -implicitDefEqProofs [e1, e2]; done)) | (simp -implicitDefEqProofs [e1, e2]; done) | (simp -implicitDefEqProofs [e1, e2]; rfl) | (simp; done) | (simp; rfl) | rfl))); (case g1 => (first | assumption | omega)); (case g2 => (first | assumption | omega)); (case g3 => (first | assumption | omega)))
        | ((first | refine WPc.rq tok rfl fun K hK => ?_ | refine WPL.rn tok _ (by simp [ahead, isFn]; rfl) fun K hK => ?_); simp -implicitDefEqProofs +contextual [-Int.not_le, -Int.not_lt, -Nat.not_le, -Nat.not_lt, -List.all_eq_true, -List.all_eq_false, -List.any_eq_true, -List.any_eq_false, e1, e2]; (repeat1' (first | apply hK | apply And.intro | intro _)) <;> clear hK K <;> (try dsimp only [List.drop]))
        | (refine WPc.region ?_; simp only [List.toList_toArray])
        | (refine WPc.condT ?_ ?_; (focus (simp; done)))
        | (refine WPc.cond (by simp [-Bool.not_eq_eq_eq_not]; rfl) (fun hq => ?_) (fun hq => ?_) <;> simp only [hq] <;> (try (exfalso; (simp only [decide_eq_true_eq, decide_eq_false_iff_not] at hq); omega))))
      all_goals (simp only [decide_eq_true_eq, decide_eq_false_iff_not] at *)
      all_goals first
        | (exfalso; omega)
        | (rw [szR_no (by unfold costN; omega)])
  · repeat' (first
      | apply WPc.sq
      | (refine WPc.ret (endP.val (.inr rfl) rfl rfl (by simp; rfl) ?_))
      | (refine WPc.rq tok rfl fun K hK => ?_; simp -implicitDefEqProofs +contextual [-Int.not_le, -Int.not_lt, -Nat.not_le, -Nat.not_lt, -List.all_eq_true, -List.all_eq_false, -List.any_eq_true, -List.any_eq_false, e1]; (repeat1' (first | apply hK | apply And.intro | intro _)) <;> clear hK K <;> (try dsimp only [List.drop]))
      | (refine WPc.cond (by simp [-Bool.not_eq_eq_eq_not]; rfl) (fun hq => ?_) (fun hq => ?_) <;> simp only [hq] <;> (try (exfalso; (simp only [decide_eq_true_eq, decide_eq_false_iff_not] at hq); omega))))
    all_goals (simp only [decide_eq_true_eq, decide_eq_false_iff_not] at *)
    all_goals first
      | (exfalso; omega)
      | (rw [szR_no (by unfold costN; omega)])
theorem c_laws_szNodeS (l : List Nd) (left : Int) (h0 : 0 ≤ left) (h1 : left ≤ 1073741824) (hs : ∀ c, c ∈ l → c.tx) : Con PP 215 [.fz (l.map Nd.cs), .sc (.int .i64 left)] [] [] (fun r o => r = .sc (.int .i64 (szR left (costP l)))) := by
  refine Con.lenOf 0 Go.Proofs.Tryz.func215 (by kernel_rfl) (by kernel_rfl) rfl fun hlen => ?_
  simp at hlen
  refine Con.of tok (nt := 27) Go.Proofs.Tryz.func215 (by kernel_rfl) rfl rfl rfl (Nat.le_of_ble_eq_true rfl) fun G => ?_
  simp only [entSt, tmOf, List.append_nil, List.cons_append, List.nil_append]
  have e1 : IntKind.i64.wrap (left - l.length) = left - l.length := wrap64 (by omega) (by omega)
  repeat' (first
    | apply WPc.sq
    | apply WPc.block
    | (refine WPc.ret (endP.val (.inr rfl) rfl rfl (by simp; rfl) ?_))
    | apply WPc.skip
    | (refine WPc.rq tok rfl fun K hK => ?_; simp -implicitDefEqProofs +contextual [-Int.not_le, -Int.not_lt, -Nat.not_le, -Nat.not_lt, -List.all_eq_true, -List.all_eq_false, -List.any_eq_true, -List.any_eq_false, e1]; (repeat1' (first | apply hK | apply And.intro | intro _)) <;> clear hK K <;> (try dsimp only [List.drop]))
    | (refine WPc.cond (by simp [-Bool.not_eq_eq_eq_not]; rfl) (fun hq => ?_) (fun hq => ?_) <;> simp only [hq] <;> (try (exfalso; (simp only [decide_eq_true_eq, decide_eq_false_iff_not] at hq); omega))))
  · rw [szR_no (by unfold costP; simp at hq; omega)]
  simp only [decide_eq_false_iff_not] at hq
  refine WPc.loopK (σ := Nat) (fun i => i ≤ l.length ∧ l.length + sumTo costN l i ≤ left) (fun i => l.length - i) (fun i => [(5, .sc (.int .i64 i)), (1, .sc (.int .i64 (left - l.length - sumTo costN l i)))])  [0] 0 (by simp [sumTo_zero]) (by simp [sumTo_zero]) (⟨by omega, by rw [sumTo_zero]; omega⟩) ?_
  rintro i ⟨hi, hle⟩ s hs
  simp at hs
  subst hs
  by_cases hlt : i < l.length
  · have hz := hs _ (List.getElem_mem hlt)
    have e3 := sumTo_next (f := costN) hlt
    have e4 := sumTo_le costN l (i + 1)
    have ee : costN ⟨l[i].k, l[i].n, l[i].s, l[i].names, l[i].args⟩ = costN l[i] := rfl
    repeat' (first
      | apply WPc.sq
      | apply WPc.block
      | (refine WPc.ret (endP.val (.inr rfl) rfl rfl (by simp; rfl) ?_))
      | apply WPc.skip
      | refine WPL.nil ?_
      | (apply WPL.cL (c_laws_szNode ⟨_, _, _, _, _⟩ _ ?g1 ?g2 ?g3); (case q => (repeat' (first | refine And.intro ?_ ?_ | intro _ | exact cleanOut_nil | (refine Eqv.mk ?_; first | rfl | (simp -implicitDefEqProofs [Nd.cs, hlt, ee]; done)) | (simp -implicitDefEqProofs [Nd.cs, hlt, ee]; done) | (simp -implicitDefEqProofs [Nd.cs, hlt, ee]; rfl) | (simp; done) | (simp; rfl) | rfl))); (case g1 => (first | assumption | (exact hz) | omega)); (case g2 => (first | assumption | (exact hz) | omega)); (case g3 => (first | assumption | (exact hz) | omega)))
      | ((first | refine WPc.rq tok rfl fun K hK => ?_ | refine WPL.rn tok _ (by simp [ahead, isFn]; rfl) fun K hK => ?_); simp -implicitDefEqProofs +contextual [-Int.not_le, -Int.not_lt, -Nat.not_le, -Nat.not_lt, -List.all_eq_true, -List.all_eq_false, -List.any_eq_true, -List.any_eq_false, Nd.cs, hlt, ee]; (repeat1' (first | apply hK | apply And.intro | intro _)) <;> clear hK K <;> (try dsimp only [List.drop]))
      | (refine WPc.region ?_; simp only [List.toList_toArray])
      | (refine WPc.condT ?_ ?_; (focus (simp; done)))
      | (refine WPc.cond (by simp [-Bool.not_eq_eq_eq_not]; rfl) (fun hq => ?_) (fun hq => ?_) <;> simp only [hq] <;> (try (exfalso; (simp only [decide_eq_true_eq, decide_eq_false_iff_not] at hq); omega))))
    all_goals try rw [ee] at hq
    · simp only [decide_eq_true_eq] at hq
      have := szR_neg (by omega) hq
      rw [szR_no (by unfold costP; omega)]
    all_goals
      try simp only [decide_eq_false_iff_not] at hq
      have hle2 := szR_pos hq
      refine ⟨i + 1, ⟨⟨by omega, by omega⟩, by first | omega | (simp only; omega) | assumption⟩, rfl, rfl, ?_, ?_⟩ <;> simp (disch := omega) [wrap64, e3, ee, szR_ok hle2]
    all_goals (refine fit_int ?_; omega)
  · obtain rfl : i = l.length := by omega
    repeat' (first
      | apply WPc.sq
      | (refine WPc.ret (endP.val (.inr rfl) rfl rfl (by simp; rfl) ?_))
      | apply WPc.exit
      | (refine WPc.rq tok rfl fun K hK => ?_; simp -implicitDefEqProofs +contextual [-Int.not_le, -Int.not_lt, -Nat.not_le, -Nat.not_lt, -List.all_eq_true, -List.all_eq_false, -List.any_eq_true, -List.any_eq_false]; (repeat1' (first | apply hK | apply And.intro | intro _)) <;> clear hK K <;> (try dsimp only [List.drop]))
      | (refine WPc.condF ?_ ?_; (focus (simp; done))))
    rw [sumTo_all] at hle
    rw [szR_ok (by unfold costP; omega), sumTo_all]
    simp only [costP, AV.sc.injEq, Value.int.injEq, true_and]
    omega
theorem c_laws_szProg (p : Pg) (left : Int) (h0 : 0 ≤ left) (h1 : left ≤ 1073741824) (hs : ∀ c, c ∈ p.nodes → c.tx) : Con PP 158 [p.av, .sc (.int .i64 left)] [] [] (fun r o => r = .sc (.int .i64 (szR left (costP p.nodes)))) := by
  refine Con.of tok (nt := 12) Go.Proofs.Tryz.func158 (by kernel_rfl) rfl rfl rfl (Nat.le_of_ble_eq_true rfl) fun G => ?_
  simp only [entSt, tmOf, List.append_nil, List.cons_append, List.nil_append, Pg.av]
  by_cases g1 : (costP p.nodes : Int) ≤ left
  · have e := szR_ok g1
    repeat' (first
      | apply WPc.sq
      | (refine WPc.ret (endP.val (.inr rfl) rfl rfl (by simp; rfl) ?_))
      | apply WPc.skip
      | refine WPL.nil ?_
      | (apply WPL.cL (c_laws_szNodeS _ _ ?g1 ?g2 ?g3); (case q => (repeat' (first | refine And.intro ?_ ?_ | intro _ | exact cleanOut_nil | (refine Eqv.mk ?_; first | rfl | (simp -implicitDefEqProofs [e]; done)) | (simp -implicitDefEqProofs [e]; done) | (simp -implicitDefEqProofs [e]; rfl) | (simp; done) | (simp; rfl) | rfl))); (case g1 => (first | assumption | omega)); (case g2 => (first | assumption | omega)); (case g3 => (first | assumption | omega)))
      | ((first | refine WPc.rq tok rfl fun K hK => ?_ | refine WPL.rn tok _ (by simp [ahead, isFn]; rfl) fun K hK => ?_); simp -implicitDefEqProofs +contextual [-Int.not_le, -Int.not_lt, -Nat.not_le, -Nat.not_lt, -List.all_eq_true, -List.all_eq_false, -List.any_eq_true, -List.any_eq_false, e]; (repeat1' (first | apply hK | apply And.intro | intro _)) <;> clear hK K <;> (try dsimp only [List.drop]))
      | (refine WPc.region ?_; simp only [List.toList_toArray])
      | (refine WPc.cond (by simp [-Bool.not_eq_eq_eq_not]; rfl) (fun hq => ?_) (fun hq => ?_) <;> simp only [hq] <;> (try (exfalso; (simp only [decide_eq_true_eq, decide_eq_false_iff_not] at hq); omega))))
    all_goals (try simp only [decide_eq_true_eq, decide_eq_false_iff_not] at *)
    all_goals first
      | (exfalso; omega)
      | (rw [e])
  · have e : szR left (costP p.nodes) = -1 := szR_no (by omega)
    repeat' (first
      | apply WPc.sq
      | (refine WPc.ret (endP.val (.inr rfl) rfl rfl (by simp; rfl) ?_))
      | refine WPL.nil ?_
      | (apply WPL.cL (c_laws_szNodeS _ _ ?g1 ?g2 ?g3); (case q => (repeat' (first | refine And.intro ?_ ?_ | intro _ | exact cleanOut_nil | (refine Eqv.mk ?_; first | rfl | (simp -implicitDefEqProofs [e]; done)) | (simp -implicitDefEqProofs [e]; done) | (simp -implicitDefEqProofs [e]; rfl) | (simp; done) | (simp; rfl) | rfl))); (case g1 => (first | assumption | omega)); (case g2 => (first | assumption | omega)); (case g3 => (first | assumption | omega)))
      | ((first | refine WPc.rq tok rfl fun K hK => ?_ | refine WPL.rn tok _ (by simp [ahead, isFn]; rfl) fun K hK => ?_); simp -implicitDefEqProofs +contextual [-Int.not_le, -Int.not_lt, -Nat.not_le, -Nat.not_lt, -List.all_eq_true, -List.all_eq_false, -List.any_eq_true, -List.any_eq_false, e]; (repeat1' (first | apply hK | apply And.intro | intro _)) <;> clear hK K <;> (try dsimp only [List.drop]))
      | (refine WPc.region ?_; simp only [List.toList_toArray])
      | (refine WPc.condT ?_ ?_; (focus (simp; done))))
    all_goals (try simp only [decide_eq_true_eq, decide_eq_false_iff_not] at *)
    all_goals first
      | (exfalso; omega)
      | (rw [e])
theorem c_laws_eqIntS (l : List Int) : Con PP 262 [.fz (l.map nC), .fz (l.map nC)] [] [] (fun r o => r = .sc (.bool true)) := by
  refine Con.lenOf 0 Go.Proofs.Tryz.func262 (by kernel_rfl) (by kernel_rfl) rfl fun hlen => ?_
  simp at hlen
  refine Con.of tok (nt := 26) Go.Proofs.Tryz.func262 (by kernel_rfl) rfl rfl rfl (Nat.le_of_ble_eq_true rfl) fun G => ?_
  simp only [entSt, tmOf, List.append_nil, List.cons_append, List.nil_append]
  repeat' (first
    | apply WPc.sq
    | apply WPc.block
    | apply WPc.skip
    | (refine WPc.rq tok rfl fun K hK => ?_; simp -implicitDefEqProofs +contextual [-Int.not_le, -Int.not_lt, -Nat.not_le, -Nat.not_lt, -List.all_eq_true, -List.all_eq_false, -List.any_eq_true, -List.any_eq_false]; (repeat1' (first | apply hK | apply And.intro | intro _)) <;> clear hK K <;> (try dsimp only [List.drop]))
    | (refine WPc.condF ?_ ?_; (focus (simp; done))))
  refine WPc.loopK (σ := Nat) (fun i => i ≤ l.length) (fun i => l.length - i) (fun i => [(5, .sc (.int .i64 i))])  [0, 1] 0 (by simp) (by simp) (by simp) ?_
  rintro i hi s hs
  simp at hs
  subst hs
  by_cases hlt : i < l.length
  · repeat' (first
      | apply WPc.sq
      | apply WPc.block
      | apply WPc.skip
      | ((first | refine WPc.rq tok rfl fun K hK => ?_ | refine WPS.rn tok _ (by simp [aheadS]; rfl) fun K hK => ?_); simp -implicitDefEqProofs +contextual [-Int.not_le, -Int.not_lt, -Nat.not_le, -Nat.not_lt, -List.all_eq_true, -List.all_eq_false, -List.any_eq_true, -List.any_eq_false, nC, hlt]; (repeat1' (first | apply hK | apply And.intro | intro _)) <;> clear hK K <;> (try dsimp only [List.drop]))
      | (refine WPc.sched (id := 6) tok [] [(0, []), (1, []), (2, []), (3, []), (4, []), (5, []), (6, []), (7, []), (8, [])] (by kernel_rfl) ?_)
      | (refine WPS.nil ?_)
      | (refine WPc.condT ?_ ?_; (focus (simp; done)))
      | (refine WPc.condF ?_ ?_; (focus (simp; done))))
    all_goals
      refine ⟨i + 1, ⟨hlt, by first | omega | (simp only; omega) | assumption⟩, rfl, rfl, ?_, ?_⟩ <;> simp (disch := omega) [wrap64]
  · repeat' (first
      | apply WPc.sq
      | (refine WPc.ret (endP.val (.inr rfl) rfl rfl (by simp; rfl) ?_))
      | apply WPc.exit
      | (refine WPc.rq tok rfl fun K hK => ?_; simp -implicitDefEqProofs +contextual [-Int.not_le, -Int.not_lt, -Nat.not_le, -Nat.not_lt, -List.all_eq_true, -List.all_eq_false, -List.any_eq_true, -List.any_eq_false, hlt]; (repeat1' (first | apply hK | apply And.intro | intro _)) <;> clear hK K <;> (try dsimp only [List.drop]))
      | (refine WPc.condF ?_ ?_; (focus (simp; done))))
    all_goals rfl
theorem c_laws_eqNode (c : Nd) : Con PP 250 [c.av, c.av] [] [] (fun r o => r = .sc (.bool true)) := by
  refine Con.of tok (nt := 32) Go.Proofs.Tryz.func250 (by kernel_rfl) rfl rfl rfl (Nat.le_of_ble_eq_true rfl) fun G => ?_
  simp only [entSt, tmOf, List.append_nil, List.cons_append, List.nil_append, Nd.av]
  repeat' (first
    | apply WPc.sq
    | (refine WPc.ret (endP.val (.inr rfl) rfl rfl (by simp; rfl) ?_))
    | apply WPc.skip
    | refine WPL.nil ?_
    | (apply WPL.cL (c_laws_eqStringS _); (case q => (repeat' (first | refine And.intro ?_ ?_ | intro _ | exact cleanOut_nil | (refine Eqv.mk ?_; first | rfl | (simp -implicitDefEqProofs; done)) | (simp -implicitDefEqProofs; done) | (simp -implicitDefEqProofs; rfl) | rfl))))
    | (apply WPL.cL (c_laws_eqIntS _); (case q => (repeat' (first | refine And.intro ?_ ?_ | intro _ | exact cleanOut_nil | (refine Eqv.mk ?_; first | rfl | (simp -implicitDefEqProofs; done)) | (simp -implicitDefEqProofs; done) | (simp -implicitDefEqProofs; rfl) | rfl))))
    | ((first | refine WPc.rq tok rfl fun K hK => ?_ | refine WPL.rn tok _ (by simp [ahead, isFn]; rfl) fun K hK => ?_); simp -implicitDefEqProofs +contextual [-Int.not_le, -Int.not_lt, -Nat.not_le, -Nat.not_lt, -List.all_eq_true, -List.all_eq_false, -List.any_eq_true, -List.any_eq_false]; (repeat1' (first | apply hK | apply And.intro | intro _)) <;> clear hK K <;> (try dsimp only [List.drop]))
    | (refine WPc.region ?_; simp only [List.toList_toArray])
    | (refine WPc.condF ?_ ?_; (focus (simp; done))))
  all_goals rfl
theorem c_laws_eqNodeS (l : List Nd) : Con PP 230 [.fz (l.map Nd.cs), .fz (l.map Nd.cs)] [] [] (fun r o => r = .sc (.bool true)) := by
  refine Con.lenOf 0 Go.Proofs.Tryz.func230 (by kernel_rfl) (by kernel_rfl) rfl fun hlen => ?_
  simp at hlen
  refine Con.of tok (nt := 27) Go.Proofs.Tryz.func230 (by kernel_rfl) rfl rfl rfl (Nat.le_of_ble_eq_true rfl) fun G => ?_
  simp only [entSt, tmOf, List.append_nil, List.cons_append, List.nil_append]
  repeat' (first
    | apply WPc.sq
    | apply WPc.block
    | apply WPc.skip
    | (refine WPc.rq tok rfl fun K hK => ?_; simp -implicitDefEqProofs +contextual [-Int.not_le, -Int.not_lt, -Nat.not_le, -Nat.not_lt, -List.all_eq_true, -List.all_eq_false, -List.any_eq_true, -List.any_eq_false]; (repeat1' (first | apply hK | apply And.intro | intro _)) <;> clear hK K <;> (try dsimp only [List.drop]))
    | (refine WPc.condF ?_ ?_; (focus (simp; done))))
  refine WPc.loopK (σ := Nat) (fun i => i ≤ l.length) (fun i => l.length - i) (fun i => [(5, .sc (.int .i64 i))])  [0, 1] 0 (by simp) (by simp) (by simp) ?_
  rintro i hi s hs
  simp at hs
  subst hs
  by_cases hlt : i < l.length
  · repeat' (first
      | apply WPc.sq
      | apply WPc.block
      | apply WPc.skip
      | (apply WPS.cL (hc := (c_laws_eqNode ⟨_, _, _, _, _⟩)); (case ho => exact rfl); (case q => (repeat' (first | refine And.intro ?_ ?_ | intro _ | exact cleanOut_nil | (refine Eqv.mk ?_; first | rfl | (simp -implicitDefEqProofs [Nd.cs, Nd.av, hlt]; done)) | (simp -implicitDefEqProofs [Nd.cs, Nd.av, hlt]; done) | (simp -implicitDefEqProofs [Nd.cs, Nd.av, hlt]; rfl) | (simp; done) | (simp; rfl) | rfl))))
      | ((first | refine WPc.rq tok rfl fun K hK => ?_ | refine WPS.rn tok _ (by simp [aheadS]; rfl) fun K hK => ?_); simp -implicitDefEqProofs +contextual [-Int.not_le, -Int.not_lt, -Nat.not_le, -Nat.not_lt, -List.all_eq_true, -List.all_eq_false, -List.any_eq_true, -List.any_eq_false, Nd.cs, Nd.av, hlt]; (repeat1' (first | apply hK | apply And.intro | intro _)) <;> clear hK K <;> (try dsimp only [List.drop]))
      | (refine WPc.sched (id := 6) tok [] [(0, []), (1, []), (2, []), (3, []), (4, []), (5, []), (6, []), (7, []), (8, []), (9, [])] (by kernel_rfl) ?_)
      | (refine WPS.nil ?_)
      | (refine WPc.condT ?_ ?_; (focus (simp; done)))
      | (refine WPc.condF ?_ ?_; (focus (simp; done))))
    all_goals
      refine ⟨i + 1, ⟨hlt, by first | omega | (simp only; omega) | assumption⟩, rfl, rfl, ?_, ?_⟩ <;> simp (disch := omega) [wrap64]
  · repeat' (first
      | apply WPc.sq
      | (refine WPc.ret (endP.val (.inr rfl) rfl rfl (by simp; rfl) ?_))
      | apply WPc.exit
      | (refine WPc.rq tok rfl fun K hK => ?_; simp -implicitDefEqProofs +contextual [-Int.not_le, -Int.not_lt, -Nat.not_le, -Nat.not_lt, -List.all_eq_true, -List.all_eq_false, -List.any_eq_true, -List.any_eq_false, hlt]; (repeat1' (first | apply hK | apply And.intro | intro _)) <;> clear hK K <;> (try dsimp only [List.drop]))
      | (refine WPc.condF ?_ ?_; (focus (simp; done))))
    all_goals rfl
theorem c_laws_eqProg (p : Pg) : Con PP 186 [p.av, p.av] [] [] (fun r o => r = .sc (.bool true)) := by
  refine Con.of tok (nt := 16) Go.Proofs.Tryz.func186 (by kernel_rfl) rfl rfl rfl (Nat.le_of_ble_eq_true rfl) fun G => ?_
  simp only [entSt, tmOf, List.append_nil, List.cons_append, List.nil_append, Pg.av]
  repeat' (first
    | apply WPc.sq
    | (refine WPc.ret (endP.val (.inr rfl) rfl rfl (by simp; rfl) ?_))
    | apply WPc.skip
    | refine WPL.nil ?_
    | (apply WPL.cL (c_laws_eqNodeS _); (case q => (repeat' (first | refine And.intro ?_ ?_ | intro _ | exact cleanOut_nil | (refine Eqv.mk ?_; first | rfl | (simp -implicitDefEqProofs; done)) | (simp -implicitDefEqProofs; done) | (simp -implicitDefEqProofs; rfl) | rfl))))
    | ((first | refine WPc.rq tok rfl fun K hK => ?_ | refine WPL.rn tok _ (by simp [ahead, isFn]; rfl) fun K hK => ?_); simp -implicitDefEqProofs +contextual [-Int.not_le, -Int.not_lt, -Nat.not_le, -Nat.not_lt, -List.all_eq_true, -List.all_eq_false, -List.any_eq_true, -List.any_eq_false]; (repeat1' (first | apply hK | apply And.intro | intro _)) <;> clear hK K <;> (try dsimp only [List.drop]))
    | (refine WPc.region ?_; simp only [List.toList_toArray])
    | (refine WPc.condF ?_ ?_; (focus (simp; done))))
  all_goals rfl
end Go.Own
set_option maxRecDepth 1000000
set_option maxHeartbeats 4000000
namespace Go.Own
attribute [local irreducible] WPc WPL WPS WPS1 WPS2 HAny endP
variable [Laid]
open Go.Lib Go.RowKit
def part {α : Type} (z : List C) (f : α → List C) (l : List α) (i : Nat) : List (List C) := (l.take i).map f ++ List.replicate (l.length - i) z
section
variable {α : Type} {z : List C} {f : α → List C} {l : List α} {i : Nat}
theorem part_len (hi : i ≤ l.length) : (part z f l i).length = l.length := by simp [part]; omega
theorem part_zero : part z f l 0 = List.replicate l.length z := by simp [part]
theorem part_all : part z f l l.length = l.map f := by simp [part]
theorem part_get (hi : i < l.length) : (part z f l i)[i]? = some z := by
  unfold part
  rw [List.getElem?_append_right (by simp; omega), List.getElem?_replicate]
  simp [Nat.min_eq_left (Nat.le_of_lt hi)]
  omega
theorem part_ge (hi : i < l.length) (p : i < (part z f l i).length) : (part z f l i)[i] = z := by
  have := part_get (z := z) (f := f) hi
  rw [List.getElem?_eq_getElem p] at this
  exact Option.some.inj this
theorem part_next {g : List C → List C} (hi : i < l.length) (hg : g z = f l[i]) : (part z f l i).modify i g = part z f l (i + 1) := by
  apply List.ext_getElem?
  intro j
  rw [List.getElem?_modify]
  by_cases hj : i = j
  · subst hj
    rw [part_get hi]
    unfold part
    rw [List.getElem?_append_left (by simp; omega)]
    simp [hi, hg]
  · simp only [hj, if_false]
    unfold part
    by_cases h1 : j < i
    · rw [List.getElem?_append_left (by simp; omega), List.getElem?_append_left (by simp; omega)]
      simp [h1, show j < i + 1 by omega]
    · rw [List.getElem?_append_right (by simp; omega), List.getElem?_append_right (by simp; omega), List.getElem?_replicate, List.getElem?_replicate]
      simp [Nat.min_eq_left (Nat.le_of_lt hi), Nat.min_eq_left (Nat.succ_le_of_lt hi)]
      split <;> split <;> first | rfl | omega
end
theorem c_laws_toStringS (l : List ByteArray) (h1 : l.length ≤ 1000000000) : Con PP 50 [.fz (l.map sC)] [] [] (fun r o => r = .sl 7 1 [] 0 l.length ∧ o = [(7, 9, 1, l.map sC)]) := by
  have hb1 : (16 : Int) * (l.length : Int) ≤ 281474976710656 := by omega
  have hb2 : (l.length : Int) ≤ 9223372036854775807 := by omega
  refine Con.of tok (nt := 22) Go.Proofs.Tryz.func50 (by kernel_rfl) rfl rfl rfl (Nat.le_of_ble_eq_true rfl) fun G => ?_
  simp only [entSt, tmOf, List.append_nil, List.cons_append, List.nil_append]
  repeat' (first
    | apply WPc.sq
    | apply WPc.block
    | (refine WPc.rq tok rfl fun K hK => ?_; simp -implicitDefEqProofs +contextual [-Int.not_le, -Int.not_lt, -Nat.not_le, -Nat.not_lt, -List.all_eq_true, -List.all_eq_false, -List.any_eq_true, -List.any_eq_false, hb1, hb2]; (repeat1' (first | apply hK | apply And.intro | intro _)) <;> clear hK K <;> (try dsimp only [List.drop])))
  refine WPc.loopV (σ := Nat) (fun i => i ≤ l.length) (fun i => l.length - i) (fun i => [(4, .sc (.int .i64 i))]) (fun i => [(7, 9, 1, part [.sc (.string zs)] sC l i)]) [0, 3] 0 (by simp [part_zero]) (by simp [part_zero]) (by simp) ?_
  rintro i hi s hs
  simp at hs
  subst hs
  by_cases hlt : i < l.length
  · have hl := part_len (z := [.sc (.string zs)]) (f := sC) hi
    have hn := part_next (z := [.sc (.string zs)]) (f := sC) (g := fun r => r.set 0 (.sc (.string l[i]))) hlt rfl
    have hge := part_ge (z := [.sc (.string zs)]) (f := sC) hlt
    repeat' (first
      | apply WPc.sq
      | apply WPc.block
      | apply WPc.skip
      | (refine WPc.rq tok rfl fun K hK => ?_; simp -implicitDefEqProofs +contextual [-Int.not_le, -Int.not_lt, -Nat.not_le, -Nat.not_lt, -List.all_eq_true, -List.all_eq_false, -List.any_eq_true, -List.any_eq_false, sC, hlt, hl, hge]; (repeat1' (first | apply hK | apply And.intro | intro _)) <;> clear hK K <;> (try dsimp only [List.drop]))
      | (refine WPc.condT ?_ ?_; (focus (simp; done))))
    refine ⟨i + 1, ⟨hlt, by first | omega | (simp only; omega) | assumption⟩, rfl, rfl, ?_, ?_⟩ <;> simp (disch := omega) [wrap64, hn]
  · obtain rfl : i = l.length := by omega
    repeat' (first
      | apply WPc.sq
      | (refine WPc.ret (endP.own [(7, 9, 1, l.map sC)] (.inr rfl) rfl rfl (by simp; rfl) ?_ ?_ (by simp)))
      | apply WPc.exit
      | (refine WPc.rq tok rfl fun K hK => ?_; simp -implicitDefEqProofs +contextual [-Int.not_le, -Int.not_lt, -Nat.not_le, -Nat.not_lt, -List.all_eq_true, -List.all_eq_false, -List.any_eq_true, -List.any_eq_false]; (repeat1' (first | apply hK | apply And.intro | intro _)) <;> clear hK K <;> (try dsimp only [List.drop]))
      | (refine WPc.condF ?_ ?_; (focus (simp; done))))
    · simp [part_all]
    · exact ⟨rfl, rfl⟩
theorem c_laws_toValue (v : V) : Con PP 52 [v.av] [] [] (fun r o => r = v.av) := by
  refine Con.of tok (nt := 14) Go.Proofs.Tryz.func52 (by kernel_rfl) rfl rfl rfl (Nat.le_of_ble_eq_true rfl) fun G => ?_
  simp only [entSt, tmOf, List.append_nil, List.cons_append, List.nil_append, V.av]
  repeat' (first
    | apply WPc.sq
    | (refine WPc.ret (endP.val (.inr rfl) rfl rfl (by simp; rfl) ?_))
    | (refine WPc.rq tok rfl fun K hK => ?_; simp -implicitDefEqProofs +contextual [-Int.not_le, -Int.not_lt, -Nat.not_le, -Nat.not_lt, -List.all_eq_true, -List.all_eq_false, -List.any_eq_true, -List.any_eq_false]; (repeat1' (first | apply hK | apply And.intro | intro _)) <;> clear hK K <;> (try dsimp only [List.drop])))
  all_goals rfl
end Go.Own
set_option maxRecDepth 1000000
set_option maxHeartbeats 4000000
namespace Go.Own
attribute [local irreducible] WPc WPL WPS WPS1 WPS2 HAny endP
variable [Laid]
open Go.Lib Go.RowKit
structure Nd.rm (c : Nd) : Prop where
  names : c.names.length ≤ 1000000000
  args : c.args.length ≤ 1000000000
def progB (p : Pg) : Root := (166, 2, [[.sl 174 5 (p.nodes.map Nd.ow), .sc (.int .i64 p.root)]])
theorem c_laws_toIntS (l : List Int) (h1 : l.length ≤ 1000000000) : Con PP 256 [.fz (l.map nC)] [] [] (fun r o => r = .sl 7 1 [] 0 l.length ∧ o = [(7, 3, 1, l.map nC)]) := by
  have hb1 : (8 : Int) * (l.length : Int) ≤ 281474976710656 := by omega
  have hb2 : (l.length : Int) ≤ 9223372036854775807 := by omega
  refine Con.of tok (nt := 22) Go.Proofs.Tryz.func256 (by kernel_rfl) rfl rfl rfl (Nat.le_of_ble_eq_true rfl) fun G => ?_
  simp only [entSt, tmOf, List.append_nil, List.cons_append, List.nil_append]
  repeat' (first
    | apply WPc.sq
    | apply WPc.block
    | (refine WPc.rq tok rfl fun K hK => ?_; simp -implicitDefEqProofs +contextual [-Int.not_le, -Int.not_lt, -Nat.not_le, -Nat.not_lt, -List.all_eq_true, -List.all_eq_false, -List.any_eq_true, -List.any_eq_false, hb1, hb2]; (repeat1' (first | apply hK | apply And.intro | intro _)) <;> clear hK K <;> (try dsimp only [List.drop])))
  refine WPc.loopV (σ := Nat) (fun i => i ≤ l.length) (fun i => l.length - i) (fun i => [(4, .sc (.int .i64 i))]) (fun i => [(7, 3, 1, part [.sc (.int .i64 0)] nC l i)]) [0, 3] 0 (by simp [part_zero]) (by simp [part_zero]) (by simp) ?_
  rintro i hi s hs
  simp at hs
  subst hs
  by_cases hlt : i < l.length
  · have hl := part_len (z := [.sc (.int .i64 0)]) (f := nC) hi
    have hn := part_next (z := [.sc (.int .i64 0)]) (f := nC) (g := fun r => r.set 0 (.sc (.int .i64 l[i]))) hlt rfl
    have hge := part_ge (z := [.sc (.int .i64 0)]) (f := nC) hlt
    repeat' (first
      | apply WPc.sq
      | apply WPc.block
      | apply WPc.skip
      | (refine WPc.rq tok rfl fun K hK => ?_; simp -implicitDefEqProofs +contextual [-Int.not_le, -Int.not_lt, -Nat.not_le, -Nat.not_lt, -List.all_eq_true, -List.all_eq_false, -List.any_eq_true, -List.any_eq_false, nC, hlt, hl, hge]; (repeat1' (first | apply hK | apply And.intro | intro _)) <;> clear hK K <;> (try dsimp only [List.drop]))
      | (refine WPc.condT ?_ ?_; (focus (simp; done))))
    refine ⟨i + 1, ⟨hlt, by first | omega | (simp only; omega) | assumption⟩, rfl, rfl, ?_, ?_⟩ <;> simp (disch := omega) [wrap64, hn]
  · obtain rfl : i = l.length := by omega
    repeat' (first
      | apply WPc.sq
      | (refine WPc.ret (endP.own [(7, 3, 1, l.map nC)] (.inr rfl) rfl rfl (by simp; rfl) ?_ ?_ (by simp)))
      | apply WPc.exit
      | (refine WPc.rq tok rfl fun K hK => ?_; simp -implicitDefEqProofs +contextual [-Int.not_le, -Int.not_lt, -Nat.not_le, -Nat.not_lt, -List.all_eq_true, -List.all_eq_false, -List.any_eq_true, -List.any_eq_false]; (repeat1' (first | apply hK | apply And.intro | intro _)) <;> clear hK K <;> (try dsimp only [List.drop]))
      | (refine WPc.condF ?_ ?_; (focus (simp; done))))
    · simp [part_all]
    · exact ⟨rfl, rfl⟩
theorem c_laws_toNode (c : Nd) (h1 : c.names.length ≤ 1000000000) (h2 : c.args.length ≤ 1000000000) : Con PP 244 [c.av] [] [] (fun r o => r = .agg [.sc (.int .i64 c.k), .sc (.int .i64 c.n), .sc (.string c.s), .sl 2 1 [(0, 3)] 0 c.names.length, .sl 2 1 [(0, 4)] 0 c.args.length] ∧ o = [(2, 174, 5, [c.ow])]) := by
  refine Con.of tok (nt := 22) Go.Proofs.Tryz.func244 (by kernel_rfl) rfl rfl rfl (Nat.le_of_ble_eq_true rfl) fun G => ?_
  simp only [entSt, tmOf, List.append_nil, List.cons_append, List.nil_append, Nd.av]
  repeat' (first
    | (refine WPL.detSt 21 3 900001 [] 0 3 ?_ ?_; (focus (simp; done)); refine fun K hK => ?_; simp -implicitDefEqProofs +contextual [-Int.not_le, -Int.not_lt, -Nat.not_le, -Nat.not_lt, -List.all_eq_true, -List.all_eq_false, -List.any_eq_true, -List.any_eq_false]; (repeat1' (first | apply hK | apply And.intro | intro _)) <;> clear hK K)
    | (refine WPL.rnToSt tok 21 _ (by simp [isFn]; rfl) fun K hK => ?_; simp -implicitDefEqProofs +contextual [-Int.not_le, -Int.not_lt, -Nat.not_le, -Nat.not_lt, -List.all_eq_true, -List.all_eq_false, -List.any_eq_true, -List.any_eq_false]; (repeat1' (first | apply hK | apply And.intro | intro _)) <;> clear hK K <;> (try dsimp only [List.drop]))
    | (refine WPL.detSt 21 3 900002 [] 0 4 ?_ ?_; (focus (simp; done)); refine fun K hK => ?_; simp -implicitDefEqProofs +contextual [-Int.not_le, -Int.not_lt, -Nat.not_le, -Nat.not_lt, -List.all_eq_true, -List.all_eq_false, -List.any_eq_true, -List.any_eq_false]; (repeat1' (first | apply hK | apply And.intro | intro _)) <;> clear hK K)
    | apply WPc.sq
    | (refine WPc.ret (endP.own [(2, 174, 5, [c.ow])] (.inr rfl) rfl rfl (by simp; rfl) ?_ ?_ (by simp)))
    | refine WPL.nil ?_
    | (apply WPL.cU (c_laws_toStringS _ ?g1); (case q => (repeat' (first | refine And.intro ?_ ?_ | intro _ | exact cleanOut_nil | (refine Eqv.mk ?_; first | rfl | (simp -implicitDefEqProofs; done)) | (simp -implicitDefEqProofs; done) | (simp -implicitDefEqProofs; rfl) | rfl))); (case g1 => (first | assumption | omega)))
    | (apply WPL.cU (c_laws_toIntS _ ?g1); (case q => (repeat' (first | refine And.intro ?_ ?_ | intro _ | exact cleanOut_nil | (refine Eqv.mk ?_; first | rfl | (simp -implicitDefEqProofs; done)) | (simp -implicitDefEqProofs; done) | (simp -implicitDefEqProofs; rfl) | rfl))); (case g1 => (first | assumption | omega)))
    | ((first | refine WPc.rq tok rfl fun K hK => ?_ | refine WPL.rn tok _ (by simp [ahead, isFn]; rfl) fun K hK => ?_); simp -implicitDefEqProofs +contextual [-Int.not_le, -Int.not_lt, -Nat.not_le, -Nat.not_lt, -List.all_eq_true, -List.all_eq_false, -List.any_eq_true, -List.any_eq_false]; (repeat1' (first | apply hK | apply And.intro | intro _)) <;> clear hK K <;> (try dsimp only [List.drop]))
    | (refine WPc.region ?_; simp only [List.toList_toArray]))
  · simp [Nd.ow]
  · exact ⟨rfl, rfl⟩
theorem c_laws_toNodeS (l : List Nd) (h1 : l.length ≤ 1000000000) (h2 : ∀ c, c ∈ l → c.rm) : Con PP 222 [.fz (l.map Nd.cs)] [] [] (fun r o => r = .sl 7 5 [] 0 l.length ∧ o = [(7, nodesR l)]) := by
  have hb1 : (80 : Int) * (l.length : Int) ≤ 281474976710656 := by omega
  have hb2 : (l.length : Int) ≤ 9223372036854775807 := by omega
  refine Con.of tok (nt := 23) Go.Proofs.Tryz.func222 (by kernel_rfl) rfl rfl rfl (Nat.le_of_ble_eq_true rfl) fun G => ?_
  simp only [entSt, tmOf, List.append_nil, List.cons_append, List.nil_append]
  repeat' (first
    | apply WPc.sq
    | apply WPc.block
    | (refine WPc.rq tok rfl fun K hK => ?_; simp -implicitDefEqProofs +contextual [-Int.not_le, -Int.not_lt, -Nat.not_le, -Nat.not_lt, -List.all_eq_true, -List.all_eq_false, -List.any_eq_true, -List.any_eq_false, hb1, hb2]; (repeat1' (first | apply hK | apply And.intro | intro _)) <;> clear hK K <;> (try dsimp only [List.drop])))
  refine WPc.loopV (σ := Nat) (fun i => i ≤ l.length) (fun i => l.length - i) (fun i => [(4, .sc (.int .i64 i))]) (fun i => [(7, 174, 5, part [.sc (.int .i64 0), .sc (.int .i64 0), .sc (.string zs), .sc (.slice none 0 0), .sc (.slice none 0 0)] Nd.ow l i)]) [0, 3] 0 (by simp [part_zero]) (by simp [part_zero]) (by simp) ?_
  rintro i hi s hs
  simp at hs
  subst hs
  by_cases hlt : i < l.length
  · have hr := h2 _ (List.getElem_mem hlt)
    have hr1 := hr.names
    have hr2 := hr.args
    have hl := part_len (z := [.sc (.int .i64 0), .sc (.int .i64 0), .sc (.string zs), .sc (.slice none 0 0), .sc (.slice none 0 0)]) (f := Nd.ow) hi
    have hge := part_ge (z := [.sc (.int .i64 0), .sc (.int .i64 0), .sc (.string zs), .sc (.slice none 0 0), .sc (.slice none 0 0)]) (f := Nd.ow) hlt
    have hn : (((((part [.sc (.int .i64 0), .sc (.int .i64 0), .sc (.string zs), .sc (.slice none 0 0), .sc (.slice none 0 0)] Nd.ow l i).modify i fun r => r.set 0 (.sc (.int .i64 l[i].k))).modify i fun r => r.set 1 (.sc (.int .i64 l[i].n))).modify i fun r => r.set 2 (.sc (.string l[i].s))).modify i fun r => r.set 3 (.sl 9 1 (l[i].names.map sC))).modify i (fun r => r.set 4 (.sl 3 1 (l[i].args.map nC))) = part [.sc (.int .i64 0), .sc (.int .i64 0), .sc (.string zs), .sc (.slice none 0 0), .sc (.slice none 0 0)] Nd.ow l (i + 1) := by
      rw [List.modify_modify_eq, List.modify_modify_eq, List.modify_modify_eq, List.modify_modify_eq]
      exact part_next hlt rfl
    repeat' (first
      | (refine WPL.detSt 20 20 900001 [] 0 3 ?_ ?_; (focus (simp; done)); refine fun K hK => ?_; simp -implicitDefEqProofs +contextual [-Int.not_le, -Int.not_lt, -Nat.not_le, -Nat.not_lt, -List.all_eq_true, -List.all_eq_false, -List.any_eq_true, -List.any_eq_false, Nd.cs, Nd.av, hlt, hl, hge, Nd.ow]; (repeat1' (first | apply hK | apply And.intro | intro _)) <;> clear hK K)
      | (refine WPL.rnToSt tok 20 _ (by simp [isFn]; rfl) fun K hK => ?_; simp -implicitDefEqProofs +contextual [-Int.not_le, -Int.not_lt, -Nat.not_le, -Nat.not_lt, -List.all_eq_true, -List.all_eq_false, -List.any_eq_true, -List.any_eq_false, Nd.cs, Nd.av, hlt, hl, hge, Nd.ow]; (repeat1' (first | apply hK | apply And.intro | intro _)) <;> clear hK K <;> (try dsimp only [List.drop]))
      | (refine WPL.detSt 20 20 900002 [] 0 4 ?_ ?_; (focus (simp; done)); refine fun K hK => ?_; simp -implicitDefEqProofs +contextual [-Int.not_le, -Int.not_lt, -Nat.not_le, -Nat.not_lt, -List.all_eq_true, -List.all_eq_false, -List.any_eq_true, -List.any_eq_false, Nd.cs, Nd.av, hlt, hl, hge, Nd.ow]; (repeat1' (first | apply hK | apply And.intro | intro _)) <;> clear hK K)
      | apply WPc.sq
      | apply WPc.block
      | apply WPc.skip
      | refine WPL.nil ?_
      | (apply WPL.cU (c_laws_toNode ⟨_, _, _, _, _⟩ ?g1 ?g2); (case q => (repeat' (first | refine And.intro ?_ ?_ | intro _ | exact cleanOut_nil | (refine Eqv.mk ?_; first | rfl | (simp -implicitDefEqProofs [Nd.cs, Nd.av, hlt, hl, hge, Nd.ow]; done)) | (simp -implicitDefEqProofs [Nd.cs, Nd.av, hlt, hl, hge, Nd.ow]; done) | (simp -implicitDefEqProofs [Nd.cs, Nd.av, hlt, hl, hge, Nd.ow]; rfl) | (simp; done) | (simp; rfl) | rfl))); (case g1 => (first | assumption | (exact hr1) | (exact hr2) | omega)); (case g2 => (first | assumption | (exact hr1) | (exact hr2) | omega)))
      | ((first | refine WPc.rq tok rfl fun K hK => ?_ | refine WPL.rn tok _ (by simp [ahead, isFn]; rfl) fun K hK => ?_); simp -implicitDefEqProofs +contextual [-Int.not_le, -Int.not_lt, -Nat.not_le, -Nat.not_lt, -List.all_eq_true, -List.all_eq_false, -List.any_eq_true, -List.any_eq_false, Nd.cs, Nd.av, hlt, hl, hge, Nd.ow]; (repeat1' (first | apply hK | apply And.intro | intro _)) <;> clear hK K <;> (try dsimp only [List.drop]))
      | (refine WPc.region ?_; simp only [List.toList_toArray])
      | (refine WPc.condT ?_ ?_; (focus (simp; done))))
    refine ⟨i + 1, ⟨hlt, by first | omega | (simp only; omega) | assumption⟩, rfl, rfl, ?_, ?_⟩ <;> simp (disch := omega) [wrap64, hn]
  · obtain rfl : i = l.length := by omega
    repeat' (first
      | apply WPc.sq
      | (refine WPc.ret (endP.own [(7, nodesR l)] (.inr rfl) rfl rfl (by simp; rfl) ?_ ?_ (by simp)))
      | apply WPc.exit
      | (refine WPc.rq tok rfl fun K hK => ?_; simp -implicitDefEqProofs +contextual [-Int.not_le, -Int.not_lt, -Nat.not_le, -Nat.not_lt, -List.all_eq_true, -List.all_eq_false, -List.any_eq_true, -List.any_eq_false]; (repeat1' (first | apply hK | apply And.intro | intro _)) <;> clear hK K <;> (try dsimp only [List.drop]))
      | (refine WPc.condF ?_ ?_; (focus (simp; done))))
    · simp [part_all, nodesR]
    · exact ⟨rfl, rfl⟩
theorem c_laws_toProg (p : Pg) (h1 : p.nodes.length ≤ 1000000000) (h2 : ∀ c, c ∈ p.nodes → c.rm) : Con PP 171 [p.av] [] [] (fun r o => r = .agg [.sl 2 5 [(0, 0)] 0 p.nodes.length, .sc (.int .i64 p.root)] ∧ o = [(2, progB p)]) := by
  refine Con.of tok (nt := 12) Go.Proofs.Tryz.func171 (by kernel_rfl) rfl rfl rfl (Nat.le_of_ble_eq_true rfl) fun G => ?_
  simp only [entSt, tmOf, List.append_nil, List.cons_append, List.nil_append, Pg.av]
  repeat' (first
    | (refine WPL.detSt 11 3 900001 [] 0 0 ?_ ?_; (focus (simp; done)); refine fun K hK => ?_; simp -implicitDefEqProofs +contextual [-Int.not_le, -Int.not_lt, -Nat.not_le, -Nat.not_lt, -List.all_eq_true, -List.all_eq_false, -List.any_eq_true, -List.any_eq_false, nodesR]; (repeat1' (first | apply hK | apply And.intro | intro _)) <;> clear hK K)
    | (refine WPL.rnToSt tok 11 _ (by simp [isFn]; rfl) fun K hK => ?_; simp -implicitDefEqProofs +contextual [-Int.not_le, -Int.not_lt, -Nat.not_le, -Nat.not_lt, -List.all_eq_true, -List.all_eq_false, -List.any_eq_true, -List.any_eq_false, nodesR]; (repeat1' (first | apply hK | apply And.intro | intro _)) <;> clear hK K <;> (try dsimp only [List.drop]))
    | apply WPc.sq
    | (refine WPc.ret (endP.own [(2, progB p)] (.inr rfl) rfl rfl (by simp; rfl) ?_ ?_ (by simp)))
    | refine WPL.nil ?_
    | (apply WPL.cU (c_laws_toNodeS _ ?g1 ?g2); (case q => (repeat' (first | refine And.intro ?_ ?_ | intro _ | exact cleanOut_nil | (refine Eqv.mk ?_; first | rfl | (simp -implicitDefEqProofs [nodesR]; done)) | (simp -implicitDefEqProofs [nodesR]; done) | (simp -implicitDefEqProofs [nodesR]; rfl) | (simp; done) | (simp; rfl) | rfl))); (case g1 => (first | assumption | omega)); (case g2 => (first | assumption | omega)))
    | ((first | refine WPc.rq tok rfl fun K hK => ?_ | refine WPL.rn tok _ (by simp [ahead, isFn]; rfl) fun K hK => ?_); simp -implicitDefEqProofs +contextual [-Int.not_le, -Int.not_lt, -Nat.not_le, -Nat.not_lt, -List.all_eq_true, -List.all_eq_false, -List.any_eq_true, -List.any_eq_false, nodesR]; (repeat1' (first | apply hK | apply And.intro | intro _)) <;> clear hK K <;> (try dsimp only [List.drop]))
    | (refine WPc.region ?_; simp only [List.toList_toArray]))
  · simp [progB]
  · exact ⟨rfl, rfl⟩
end Go.Own
set_option maxRecDepth 1000000
set_option maxHeartbeats 4000000
namespace Go.Own
attribute [local irreducible] WPc WPL WPS WPS1 WPS2 HAny endP
variable [Laid]
open Go.Lib Go.RowKit
theorem isW_cons (x : ByteArray) (l : List ByteArray) (s : ByteArray) : isW (x :: l) s = (decide (s = x) || isW l s) := rfl
def fidx : List ByteArray → ByteArray → Nat → Int
  | [], _, _ => -1
  | x :: l, s, i => if s = x then i else fidx l s (i + 1)
theorem fidx_hit {s : ByteArray} : ∀ {l : List ByteArray} {i k : Nat} (hi : i < l.length), isW (l.take i) s = false → s = l[i] → fidx l s k = ((i + k : Nat) : Int)
  | x :: l, 0, k, _, _, he => by simp [fidx, show s = x from he]
  | x :: l, i + 1, k, hi, hn, he => by
    have hn' : ¬ s = x ∧ isW (l.take i) s = false := by
      rw [List.take_succ_cons, isW_cons, Bool.or_eq_false_iff, decide_eq_false_iff_not] at hn; exact hn
    simp only [fidx, if_neg hn'.1]
    rw [fidx_hit (l := l) (i := i) (k := k + 1) (by simpa using hi) hn'.2 he]
    omega
theorem fidx_none {s : ByteArray} : ∀ {l : List ByteArray} {k : Nat}, isW l s = false → fidx l s k = -1
  | [], _, _ => rfl
  | x :: l, k, h => by
    have hn' : ¬ s = x ∧ isW l s = false := by
      rw [isW_cons, Bool.or_eq_false_iff, decide_eq_false_iff_not] at h; exact h
    simp only [fidx, if_neg hn'.1]
    exact fidx_none hn'.2
theorem isW_next {l : List ByteArray} {s : ByteArray} {i : Nat} (hi : i < l.length) (h : isW (l.take i) s = false) (hn : ¬ s = l[i]) : isW (l.take (i + 1)) s = false := by
  unfold isW at h ⊢
  rw [List.take_add_one, List.getElem?_eq_getElem hi]
  simp only [Option.toList_some, List.any_append, h, List.any_cons, List.any_nil, Bool.or_false, Bool.false_or]
  simpa using hn
theorem c_slices_IndexS (l : List ByteArray) (s : ByteArray) : Con PP 134 [.fz (l.map sC), .sc (.string s)] [] [] (fun r o => r = .sc (.int .i64 (fidx l s 0))) := by
  refine Con.lenOf 0 Go.Proofs.Tryz.func134 (by kernel_rfl) (by kernel_rfl) rfl fun hlen => ?_
  simp at hlen
  refine Con.of tok (nt := 19) Go.Proofs.Tryz.func134 (by kernel_rfl) rfl rfl rfl (Nat.le_of_ble_eq_true rfl) fun G => ?_
  simp only [entSt, tmOf, List.append_nil, List.cons_append, List.nil_append]
  repeat' (first
    | apply WPc.sq
    | apply WPc.block
    | (refine WPc.rq tok rfl fun K hK => ?_; simp -implicitDefEqProofs +contextual [-Int.not_le, -Int.not_lt, -Nat.not_le, -Nat.not_lt, -List.all_eq_true, -List.all_eq_false, -List.any_eq_true, -List.any_eq_false]; (repeat1' (first | apply hK | apply And.intro | intro _)) <;> clear hK K <;> (try dsimp only [List.drop])))
  refine WPc.loopK (σ := Nat) (fun i => i ≤ l.length ∧ isW (l.take i) s = false) (fun i => l.length - i) (fun i => [(8, .sc (.int .i64 i))])  [0, 1, 7] 0 (by simp) (by simp) (⟨by omega, by simp [isW]⟩) ?_
  rintro i ⟨hi, hn⟩ s hs
  simp at hs
  subst hs
  by_cases hlt : i < l.length
  · by_cases he : s = l[i]
    · have := fidx_hit (k := 0) hlt hn he
      have he' : (s = l[i]) = True := by simp [he]
      rw [this]
      repeat' (first
        | apply WPc.sq
        | apply WPc.block
        | (refine WPc.ret (endP.val (.inr rfl) rfl rfl (by simp; rfl) ?_))
        | apply WPc.skip
        | (refine WPc.rq tok rfl fun K hK => ?_; simp -implicitDefEqProofs +contextual [-Int.not_le, -Int.not_lt, -Nat.not_le, -Nat.not_lt, -List.all_eq_true, -List.all_eq_false, -List.any_eq_true, -List.any_eq_false, sC, hlt, he']; (repeat1' (first | apply hK | apply And.intro | intro _)) <;> clear hK K <;> (try dsimp only [List.drop]))
        | (refine WPc.condT ?_ ?_; (focus (simp; done))))
      all_goals rfl
    · have he' : (s = l[i]) = False := by simp [he]
      repeat' (first
        | apply WPc.sq
        | apply WPc.block
        | apply WPc.skip
        | (refine WPc.rq tok rfl fun K hK => ?_; simp -implicitDefEqProofs +contextual [-Int.not_le, -Int.not_lt, -Nat.not_le, -Nat.not_lt, -List.all_eq_true, -List.all_eq_false, -List.any_eq_true, -List.any_eq_false, sC, hlt, he']; (repeat1' (first | apply hK | apply And.intro | intro _)) <;> clear hK K <;> (try dsimp only [List.drop]))
        | (refine WPc.condT ?_ ?_; (focus (simp; done)))
        | (refine WPc.condF ?_ ?_; (focus (simp; done))))
      all_goals
        refine ⟨i + 1, ⟨⟨hlt, isW_next hlt hn he⟩, by first | omega | (simp only; omega) | assumption⟩, rfl, rfl, ?_, ?_⟩ <;> simp (disch := omega) [wrap64]
  · obtain rfl : i = l.length := by omega
    rw [List.take_length] at hn
    rw [fidx_none hn]
    repeat' (first
      | apply WPc.sq
      | (refine WPc.ret (endP.val (.inr rfl) rfl rfl (by simp; rfl) ?_))
      | apply WPc.exit
      | (refine WPc.rq tok rfl fun K hK => ?_; simp -implicitDefEqProofs +contextual [-Int.not_le, -Int.not_lt, -Nat.not_le, -Nat.not_lt, -List.all_eq_true, -List.all_eq_false, -List.any_eq_true, -List.any_eq_false, hlt]; (repeat1' (first | apply hK | apply And.intro | intro _)) <;> clear hK K <;> (try dsimp only [List.drop]))
      | (refine WPc.condF ?_ ?_; (focus (simp; done))))
    all_goals rfl
def okName (l : List ByteArray) (i : Nat) : Bool := match l[i]? with
  | some s => isName s && !isW (l.take i) s
  | none => true
def namesOk (l : List ByteArray) (most : Int) : Bool := (List.range l.length).all (okName l) && decide ((l.length : Int) ≤ most)
theorem okName_eq {l : List ByteArray} {i : Nat} (hi : i < l.length) : okName l i = (isName l[i] && !isW (l.take i) l[i]) := by simp [okName, hi]
theorem fidx_self {l : List ByteArray} {i : Nat} (hi : i < l.length) : decide (fidx l l[i] 0 = (i : Int)) = !isW (l.take i) l[i] := by
  cases h : isW (l.take i) l[i] with
  | false => simp [fidx_hit (k := 0) hi h rfl]
  | true =>
    simp only [Bool.not_true, decide_eq_false_iff_not]
    intro he
    have key : ∀ (l : List ByteArray) (s : ByteArray) (i k : Nat), i ≤ l.length → isW (l.take i) s = true → fidx l s k < ((i + k : Nat) : Int) := by
      intro l s
      induction l with
      | nil => intro i k hi h; simp [isW] at h
      | cons x l ih =>
        intro i k hi h
        cases i with
        | zero => simp [isW] at h
        | succ i =>
          simp only [fidx]
          split
          · omega
          · rename_i hx
            have h' : isW (l.take i) s = true := by
              simp only [List.take_succ_cons, isW, List.any_cons, Bool.or_eq_true] at h
              rcases h with h | h
              · exact absurd (of_decide_eq_true h) (fun e => hx (by first | exact e | exact e.symm))
              · exact h
            have := ih i (k + 1) (by simpa using hi) h'
            omega
    have := key l l[i] i 0 (by omega) h
    omega
theorem namesOk_no {l : List ByteArray} {i : Nat} {most : Int} (hi : i < l.length) (ho : okName l i = false) : namesOk l most = false := by
  have hv : (List.range l.length)[i]? = some i := List.getElem?_range hi
  rw [namesOk, all_at hv ho, Bool.false_and]
theorem c_impl_namesOk [F : Facts.Of] (l : List ByteArray) (most : Int) (hs : ∀ v, v ∈ l → v.size < 4294967000) : Con PP 176 [.fz (l.map sC), .sc (.int .i64 most)] [] [] (fun r o => r = .sc (.bool (namesOk l most))) := by
  refine Con.lenOf 0 Go.Proofs.Tryz.func176 (by kernel_rfl) (by kernel_rfl) rfl fun hlen => ?_
  simp at hlen
  refine Con.of tok (nt := 29) Go.Proofs.Tryz.func176 (by kernel_rfl) rfl rfl rfl (Nat.le_of_ble_eq_true rfl) fun G => ?_
  simp only [entSt, tmOf, List.append_nil, List.cons_append, List.nil_append]
  repeat' (first
    | apply WPc.sq
    | apply WPc.block
    | (refine WPc.rq tok rfl fun K hK => ?_; simp -implicitDefEqProofs +contextual [-Int.not_le, -Int.not_lt, -Nat.not_le, -Nat.not_lt, -List.all_eq_true, -List.all_eq_false, -List.any_eq_true, -List.any_eq_false]; (repeat1' (first | apply hK | apply And.intro | intro _)) <;> clear hK K <;> (try dsimp only [List.drop])))
  refine WPc.loopK (σ := Nat) (fun i => i ≤ l.length ∧ ((List.range l.length).take i).all (okName l) = true) (fun i => l.length - i) (fun i => [(9, .sc (.int .i64 i))])  [0, 1, 7, 8] 0 (by simp) (by simp) (by simp) ?_
  rintro i ⟨hi, hall⟩ s hs
  simp at hs
  subst hs
  by_cases hlt : i < l.length
  · have hv : (List.range l.length)[i]? = some i := List.getElem?_range hlt
    have hz := hs _ (List.getElem_mem hlt)
    have hf := fidx_self hlt
    by_cases hn : isName l[i] = true
    · cases hw : isW (l.take i) l[i] with
      | false =>
        have hf' : (fidx l l[i] 0 = (i : Int)) = True := by rw [hw] at hf; simpa using hf
        repeat' (first
          | apply WPc.sq
          | apply WPc.block
          | apply WPc.skip
          | refine WPL.nil ?_
          | (apply WPL.cL (c_impl_IsName _ ?g1); (case q => (repeat' (first | refine And.intro ?_ ?_ | intro _ | exact cleanOut_nil | (refine Eqv.mk ?_; first | rfl | (simp -implicitDefEqProofs [sC, hlt, hn, hf']; done)) | (simp -implicitDefEqProofs [sC, hlt, hn, hf']; done) | (simp -implicitDefEqProofs [sC, hlt, hn, hf']; rfl) | (simp; done) | (simp; rfl) | rfl))); (case g1 => (first | assumption | (exact hz))))
          | (apply WPL.cL (c_slices_IndexS _ _); (case q => (repeat' (first | refine And.intro ?_ ?_ | intro _ | exact cleanOut_nil | (refine Eqv.mk ?_; first | rfl | (simp -implicitDefEqProofs [sC, hlt, hn, hf']; done)) | (simp -implicitDefEqProofs [sC, hlt, hn, hf']; done) | (simp -implicitDefEqProofs [sC, hlt, hn, hf']; rfl) | (simp; done) | (simp; rfl) | rfl))))
          | ((first | refine WPc.rq tok rfl fun K hK => ?_ | refine WPL.rn tok _ (by simp [ahead, isFn]; rfl) fun K hK => ?_); simp -implicitDefEqProofs +contextual [-Int.not_le, -Int.not_lt, -Nat.not_le, -Nat.not_lt, -List.all_eq_true, -List.all_eq_false, -List.any_eq_true, -List.any_eq_false, sC, hlt, hn, hf']; (repeat1' (first | apply hK | apply And.intro | intro _)) <;> clear hK K <;> (try dsimp only [List.drop]))
          | (refine WPc.region ?_; simp only [List.toList_toArray])
          | (refine WPc.condT ?_ ?_; (focus (simp; done)))
          | (refine WPc.condF ?_ ?_; (focus (simp; done))))
        all_goals
          refine ⟨i + 1, ⟨⟨hlt, all_next hv (by rw [okName_eq hlt, hn, hw]; rfl) hall⟩, by first | omega | (simp only; omega) | assumption⟩, rfl, rfl, ?_, ?_⟩ <;> simp (disch := omega) [wrap64]
      | true =>
        have hf' : (fidx l l[i] 0 = (i : Int)) = False := by rw [hw] at hf; simpa using hf
        rw [namesOk_no hlt (by rw [okName_eq hlt, hw]; simp)]
        repeat' (first
          | apply WPc.sq
          | apply WPc.block
          | (refine WPc.ret (endP.val (.inr rfl) rfl rfl (by simp; rfl) ?_))
          | apply WPc.skip
          | refine WPL.nil ?_
          | (apply WPL.cL (c_impl_IsName _ ?g1); (case q => (repeat' (first | refine And.intro ?_ ?_ | intro _ | exact cleanOut_nil | (refine Eqv.mk ?_; first | rfl | (simp -implicitDefEqProofs [sC, hlt, hn, hf']; done)) | (simp -implicitDefEqProofs [sC, hlt, hn, hf']; done) | (simp -implicitDefEqProofs [sC, hlt, hn, hf']; rfl) | (simp; done) | (simp; rfl) | rfl))); (case g1 => (first | assumption | (exact hz))))
          | (apply WPL.cL (c_slices_IndexS _ _); (case q => (repeat' (first | refine And.intro ?_ ?_ | intro _ | exact cleanOut_nil | (refine Eqv.mk ?_; first | rfl | (simp -implicitDefEqProofs [sC, hlt, hn, hf']; done)) | (simp -implicitDefEqProofs [sC, hlt, hn, hf']; done) | (simp -implicitDefEqProofs [sC, hlt, hn, hf']; rfl) | (simp; done) | (simp; rfl) | rfl))))
          | ((first | refine WPc.rq tok rfl fun K hK => ?_ | refine WPL.rn tok _ (by simp [ahead, isFn]; rfl) fun K hK => ?_); simp -implicitDefEqProofs +contextual [-Int.not_le, -Int.not_lt, -Nat.not_le, -Nat.not_lt, -List.all_eq_true, -List.all_eq_false, -List.any_eq_true, -List.any_eq_false, sC, hlt, hn, hf']; (repeat1' (first | apply hK | apply And.intro | intro _)) <;> clear hK K <;> (try dsimp only [List.drop]))
          | (refine WPc.region ?_; simp only [List.toList_toArray])
          | (refine WPc.condT ?_ ?_; (focus (simp; done))))
        all_goals rfl
    · rw [namesOk_no hlt (by rw [okName_eq hlt]; simp [hn])]
      repeat' (first
        | apply WPc.sq
        | apply WPc.block
        | (refine WPc.ret (endP.val (.inr rfl) rfl rfl (by simp; rfl) ?_))
        | apply WPc.skip
        | refine WPL.nil ?_
        | (apply WPL.cL (c_impl_IsName _ ?g1); (case q => (repeat' (first | refine And.intro ?_ ?_ | intro _ | exact cleanOut_nil | (refine Eqv.mk ?_; first | rfl | (simp -implicitDefEqProofs [sC, hlt, hn]; done)) | (simp -implicitDefEqProofs [sC, hlt, hn]; done) | (simp -implicitDefEqProofs [sC, hlt, hn]; rfl) | (simp; done) | (simp; rfl) | rfl))); (case g1 => (first | assumption | (exact hz))))
        | (refine WPL.call0f ?_ ?_ ?_; (focus (simp; done)); (focus (simp; done)))
        | ((first | refine WPc.rq tok rfl fun K hK => ?_ | refine WPL.rn tok _ (by simp [ahead, isFn]; rfl) fun K hK => ?_); simp -implicitDefEqProofs +contextual [-Int.not_le, -Int.not_lt, -Nat.not_le, -Nat.not_lt, -List.all_eq_true, -List.all_eq_false, -List.any_eq_true, -List.any_eq_false, sC, hlt, hn]; (repeat1' (first | apply hK | apply And.intro | intro _)) <;> clear hK K <;> (try dsimp only [List.drop]))
        | (refine WPc.region ?_; simp only [List.toList_toArray])
        | (refine WPc.condT ?_ ?_; (focus (simp; done))))
      all_goals rfl
  · obtain rfl : i = l.length := by omega
    repeat' (first
      | apply WPc.sq
      | (refine WPc.ret (endP.val (.inr rfl) rfl rfl (by simp; rfl) ?_))
      | apply WPc.exit
      | (refine WPc.rq tok rfl fun K hK => ?_; simp -implicitDefEqProofs +contextual [-Int.not_le, -Int.not_lt, -Nat.not_le, -Nat.not_lt, -List.all_eq_true, -List.all_eq_false, -List.any_eq_true, -List.any_eq_false, hlt]; (repeat1' (first | apply hK | apply And.intro | intro _)) <;> clear hK K <;> (try dsimp only [List.drop]))
      | (refine WPc.condF ?_ ?_; (focus (simp; done))))
    rw [List.take_of_length_le (by simp)] at hall
    simp [namesOk, hall]
theorem c_spec_l3In_tk (ws : List ByteArray) (i : Nat) (s : ByteArray) : Con PP 161 [.fz (List.take i (ws.map sC)), .sc (.string s)] [] [] (fun r o => r = .sc (.bool (isW (ws.take i) s))) := by
  rw [← List.map_take]; exact c_spec_l3In _ s
theorem c_spec_l3Names (l : List ByteArray) (most : Int) (hs : ∀ v, v ∈ l → v.size < 4294967000) : Con PP 160 [.fz (l.map sC), .sc (.int .i64 most)] [] [] (fun r o => r = .sc (.bool (namesOk l most))) := by
  refine Con.lenOf 0 Go.Proofs.Tryz.func160 (by kernel_rfl) (by kernel_rfl) rfl fun hlen => ?_
  simp at hlen
  by_cases hm : (l.length : Int) ≤ most
  · have hm' : ¬ most < (l.length : Int) := by omega
    refine Con.of tok (nt := 32) Go.Proofs.Tryz.func160 (by kernel_rfl) rfl rfl rfl (Nat.le_of_ble_eq_true rfl) fun G => ?_
    simp only [entSt, tmOf, List.append_nil, List.cons_append, List.nil_append]
    repeat' (first
      | apply WPc.sq
      | apply WPc.block
      | apply WPc.skip
      | (refine WPc.rq tok rfl fun K hK => ?_; simp -implicitDefEqProofs +contextual [-Int.not_le, -Int.not_lt, -Nat.not_le, -Nat.not_lt, -List.all_eq_true, -List.all_eq_false, -List.any_eq_true, -List.any_eq_false, hm']; (repeat1' (first | apply hK | apply And.intro | intro _)) <;> clear hK K <;> (try dsimp only [List.drop]))
      | (refine WPc.condF ?_ ?_; (focus (simp; done))))
    refine WPc.loopK (σ := Nat) (fun i => i ≤ l.length ∧ ((List.range l.length).take i).all (okName l) = true) (fun i => l.length - i) (fun i => [(5, .sc (.int .i64 i))])  [0] 0 (by simp) (by simp) (by simp) ?_
    rintro i ⟨hi, hall⟩ s hs
    simp at hs
    subst hs
    by_cases hlt : i < l.length
    · have hv : (List.range l.length)[i]? = some i := List.getElem?_range hlt
      have hz := hs _ (List.getElem_mem hlt)
      by_cases hn : isName l[i] = true
      · cases hw : isW (l.take i) l[i] with
        | false =>
          repeat' (first
            | apply WPc.sq
            | apply WPc.block
            | apply WPc.skip
            | (apply WPS.cL (hc := (c_spec_IsName _ ?g1)); (case ho => exact rfl); (case q => (repeat' (first | refine And.intro ?_ ?_ | intro _ | exact cleanOut_nil | (refine Eqv.mk ?_; first | rfl | (simp -implicitDefEqProofs [sC, hlt, hn, hw, hi]; done)) | (simp -implicitDefEqProofs [sC, hlt, hn, hw, hi]; done) | (simp -implicitDefEqProofs [sC, hlt, hn, hw, hi]; rfl) | (simp; done) | (simp; rfl) | rfl))); (case g1 => (first | assumption | (exact hz))))
            | (apply WPS.cL (hc := (c_spec_l3In_tk _ _ _)); (case ho => exact rfl); (case q => (repeat' (first | refine And.intro ?_ ?_ | intro _ | exact cleanOut_nil | (refine Eqv.mk ?_; first | rfl | (simp -implicitDefEqProofs [sC, hlt, hn, hw, hi]; done)) | (simp -implicitDefEqProofs [sC, hlt, hn, hw, hi]; done) | (simp -implicitDefEqProofs [sC, hlt, hn, hw, hi]; rfl) | (simp; done) | (simp; rfl) | rfl))))
            | ((first | refine WPc.rq tok rfl fun K hK => ?_ | refine WPS.rn tok _ (by simp [aheadS]; rfl) fun K hK => ?_); simp -implicitDefEqProofs +contextual [-Int.not_le, -Int.not_lt, -Nat.not_le, -Nat.not_lt, -List.all_eq_true, -List.all_eq_false, -List.any_eq_true, -List.any_eq_false, sC, hlt, hn, hw, hi]; (repeat1' (first | apply hK | apply And.intro | intro _)) <;> clear hK K <;> (try dsimp only [List.drop]))
            | (refine WPc.sched (id := 6) tok [] [(0, []), (1, []), (2, []), (3, []), (4, []), (5, []), (6, []), (7, []), (8, []), (9, []), (10, []), (11, []), (12, []), (13, []), (14, []), (15, [])] (by kernel_rfl) ?_)
            | (refine WPS.nil ?_)
            | (refine WPc.condT ?_ ?_; (focus (simp; done)))
            | (refine WPc.condF ?_ ?_; (focus (simp; done))))
          all_goals
            refine ⟨i + 1, ⟨⟨hlt, all_next hv (by rw [okName_eq hlt, hn, hw]; rfl) hall⟩, by first | omega | (simp only; omega) | assumption⟩, rfl, rfl, ?_, ?_⟩ <;> simp (disch := omega) [wrap64]
        | true =>
          rw [namesOk_no hlt (by rw [okName_eq hlt, hw]; simp)]
          repeat' (first
            | apply WPc.sq
            | apply WPc.block
            | (refine WPc.ret (endP.val (.inr rfl) rfl rfl (by simp; rfl) ?_))
            | apply WPc.skip
            | (apply WPS.cL (hc := (c_spec_IsName _ ?g1)); (case ho => exact rfl); (case q => (repeat' (first | refine And.intro ?_ ?_ | intro _ | exact cleanOut_nil | (refine Eqv.mk ?_; first | rfl | (simp -implicitDefEqProofs [sC, hlt, hn, hw, hi]; done)) | (simp -implicitDefEqProofs [sC, hlt, hn, hw, hi]; done) | (simp -implicitDefEqProofs [sC, hlt, hn, hw, hi]; rfl) | (simp; done) | (simp; rfl) | rfl))); (case g1 => (first | assumption | (exact hz))))
            | (apply WPS.cL (hc := (c_spec_l3In_tk _ _ _)); (case ho => exact rfl); (case q => (repeat' (first | refine And.intro ?_ ?_ | intro _ | exact cleanOut_nil | (refine Eqv.mk ?_; first | rfl | (simp -implicitDefEqProofs [sC, hlt, hn, hw, hi]; done)) | (simp -implicitDefEqProofs [sC, hlt, hn, hw, hi]; done) | (simp -implicitDefEqProofs [sC, hlt, hn, hw, hi]; rfl) | (simp; done) | (simp; rfl) | rfl))))
            | ((first | refine WPc.rq tok rfl fun K hK => ?_ | refine WPS.rn tok _ (by simp [aheadS]; rfl) fun K hK => ?_); simp -implicitDefEqProofs +contextual [-Int.not_le, -Int.not_lt, -Nat.not_le, -Nat.not_lt, -List.all_eq_true, -List.all_eq_false, -List.any_eq_true, -List.any_eq_false, sC, hlt, hn, hw, hi]; (repeat1' (first | apply hK | apply And.intro | intro _)) <;> clear hK K <;> (try dsimp only [List.drop]))
            | (refine WPc.sched (id := 6) tok [] [(0, []), (1, []), (2, []), (3, []), (4, []), (5, []), (6, []), (7, []), (8, []), (9, []), (10, []), (11, []), (12, []), (13, []), (14, []), (15, [])] (by kernel_rfl) ?_)
            | (refine WPS.nil ?_)
            | (refine WPc.condT ?_ ?_; (focus (simp; done))))
          all_goals rfl
      · rw [namesOk_no hlt (by rw [okName_eq hlt]; simp [hn])]
        repeat' (first
          | apply WPc.sq
          | apply WPc.block
          | (refine WPc.ret (endP.val (.inr rfl) rfl rfl (by simp; rfl) ?_))
          | apply WPc.skip
          | (apply WPS.cL (hc := (c_spec_IsName _ ?g1)); (case ho => exact rfl); (case q => (repeat' (first | refine And.intro ?_ ?_ | intro _ | exact cleanOut_nil | (refine Eqv.mk ?_; first | rfl | (simp -implicitDefEqProofs [sC, hlt, hn]; done)) | (simp -implicitDefEqProofs [sC, hlt, hn]; done) | (simp -implicitDefEqProofs [sC, hlt, hn]; rfl) | (simp; done) | (simp; rfl) | rfl))); (case g1 => (first | assumption | (exact hz))))
          | (apply WPS.callf (ho := rfl); (case hg => (simp; done)); (case hd => (simp; done)))
          | ((first | refine WPc.rq tok rfl fun K hK => ?_ | refine WPS.rn tok _ (by simp [aheadS]; rfl) fun K hK => ?_); simp -implicitDefEqProofs +contextual [-Int.not_le, -Int.not_lt, -Nat.not_le, -Nat.not_lt, -List.all_eq_true, -List.all_eq_false, -List.any_eq_true, -List.any_eq_false, sC, hlt, hn]; (repeat1' (first | apply hK | apply And.intro | intro _)) <;> clear hK K <;> (try dsimp only [List.drop]))
          | (refine WPc.sched (id := 6) tok [] [(0, []), (1, []), (2, []), (3, []), (4, []), (5, []), (6, []), (7, []), (8, []), (9, []), (10, []), (11, []), (12, []), (13, []), (14, []), (15, [])] (by kernel_rfl) ?_)
          | (refine WPS.nil ?_)
          | (refine WPc.condT ?_ ?_; (focus (simp; done))))
        all_goals rfl
    · obtain rfl : i = l.length := by omega
      repeat' (first
        | apply WPc.sq
        | (refine WPc.ret (endP.val (.inr rfl) rfl rfl (by simp; rfl) ?_))
        | apply WPc.exit
        | (refine WPc.rq tok rfl fun K hK => ?_; simp -implicitDefEqProofs +contextual [-Int.not_le, -Int.not_lt, -Nat.not_le, -Nat.not_lt, -List.all_eq_true, -List.all_eq_false, -List.any_eq_true, -List.any_eq_false, hlt]; (repeat1' (first | apply hK | apply And.intro | intro _)) <;> clear hK K <;> (try dsimp only [List.drop]))
        | (refine WPc.condF ?_ ?_; (focus (simp; done))))
      rw [List.take_of_length_le (by simp)] at hall
      simp [namesOk, hall, hm]
  · have hm' : most < (l.length : Int) := by omega
    have : namesOk l most = false := by simp [namesOk, hm]
    rw [this]
    refine Con.of tok (nt := 32) Go.Proofs.Tryz.func160 (by kernel_rfl) rfl rfl rfl (Nat.le_of_ble_eq_true rfl) fun G => ?_
    simp only [entSt, tmOf, List.append_nil, List.cons_append, List.nil_append]
    repeat' (first
      | apply WPc.sq
      | (refine WPc.ret (endP.val (.inr rfl) rfl rfl (by simp; rfl) ?_))
      | (refine WPc.rq tok rfl fun K hK => ?_; simp -implicitDefEqProofs +contextual [-Int.not_le, -Int.not_lt, -Nat.not_le, -Nat.not_lt, -List.all_eq_true, -List.all_eq_false, -List.any_eq_true, -List.any_eq_false, hm']; (repeat1' (first | apply hK | apply And.intro | intro _)) <;> clear hK K <;> (try dsimp only [List.drop]))
      | (refine WPc.condT ?_ ?_; (focus (simp; done))))
    all_goals rfl
end Go.Own
set_option maxRecDepth 1000000
set_option maxHeartbeats 4000000
namespace Go.Own
attribute [local irreducible] WPc WPL WPS WPS1 WPS2 HAny endP
variable [Laid]
open Go.Lib Go.RowKit
def sMake : ByteArray := ⟨#[109, 97, 107, 101]⟩
def sField : ByteArray := ⟨#[102, 105, 101, 108, 100]⟩
def sIs : ByteArray := ⟨#[105, 115]⟩
def oneName (l : List ByteArray) : Bool := match l with
  | [x] => isName x
  | _ => false
theorem oneName_eq {l : List ByteArray} (h : l.length = 1) : oneName l = isName l[0] := by
  match l, h with
  | [x], _ => rfl
theorem oneName_no {l : List ByteArray} (h : ¬ l.length = 1) : oneName l = false := by
  match l, h with
  | [], _ => rfl
  | [x], h => exact absurd rfl h
  | x :: y :: r, _ => rfl
def primOk (c : Nd) : Bool :=
  if c.s = sMake then decide (c.n = 0) && decide (c.args.length ≤ 8) && oneName c.names
  else if c.s = sField then oneName c.names && decide (c.args.length = 1) && inRange c.n 0 7
  else if c.s = sIs then oneName c.names && decide (c.args.length = 1) && decide (c.n = 0)
  else decide (c.names.length = 0) && decide (arity c.s = c.args.length) && decide (c.n = 0)
structure Nd.sm (c : Nd) : Prop where
  s : c.s.size < 4294967000
  names : ∀ x, x ∈ c.names → x.size < 4294967000
theorem c_impl_isTyped (s : ByteArray) : Con PP 246 [.sc (.string s)] [] [] (fun r o => r = .sc (.bool (decide (s = ⟨#[109, 97, 107, 101]⟩) || decide (s = ⟨#[102, 105, 101, 108, 100]⟩) || decide (s = ⟨#[105, 115]⟩)))) := by
  refine Con.of tok (nt := 13) Go.Proofs.Tryz.func246 (by kernel_rfl) rfl rfl rfl (Nat.le_of_ble_eq_true rfl) fun G => ?_
  simp only [entSt, tmOf, List.append_nil, List.cons_append, List.nil_append]
  repeat' (first
    | apply WPc.sq
    | (refine WPc.ret (endP.val (.inr rfl) rfl rfl (by simp; rfl) ?_))
    | (refine WPc.rq tok rfl fun K hK => ?_; simp -implicitDefEqProofs +contextual [-Int.not_le, -Int.not_lt, -Nat.not_le, -Nat.not_lt, -List.all_eq_true, -List.all_eq_false, -List.any_eq_true, -List.any_eq_false]; (repeat1' (first | apply hK | apply And.intro | intro _)) <;> clear hK K <;> (try dsimp only [List.drop])))
  all_goals (first | rfl | (simp_all; done))
theorem c_impl_primOk [F : Facts.Of] (c : Nd) (hs : c.sm) : Con PP 225 [c.av] [] [] (fun r o => r = .sc (.bool (primOk c))) := by
  obtain ⟨k, n, s, names, args⟩ := c
  obtain ⟨g1, g2⟩ := hs
  dsimp only at g1 g2
  by_cases hm : s = sMake
  · subst hm
    have e : primOk ⟨k, n, sMake, names, args⟩ = (decide (n = 0) && decide (args.length ≤ 8) && oneName names) := by simp [primOk]
    rw [e]
    by_cases h1 : names.length = 1
    · have h0 : 0 < names.length := by omega
      have h1' : ((names.length : Int) = 1) = True := by simp [h1]
      have h0' : (0 : Int) < (names.length : Int) := by omega
      have hz := g2 _ (List.getElem_mem h0)
      rw [oneName_eq h1]
      refine Con.of tok (nt := 78) Go.Proofs.Tryz.func225 (by kernel_rfl) rfl rfl rfl (Nat.le_of_ble_eq_true rfl) fun G => ?_
      simp only [entSt, tmOf, List.append_nil, List.cons_append, List.nil_append, Nd.av, sMake]
      repeat' (first
        | apply WPc.sq
        | (refine WPc.ret (endP.val (.inr rfl) rfl rfl (by simp; rfl) ?_))
        | refine WPL.nil ?_
        | (apply WPL.cL (c_impl_Arity _ ?g1); (case q => (repeat' (first | refine And.intro ?_ ?_ | intro _ | exact cleanOut_nil | (refine Eqv.mk ?_; first | rfl | (simp -implicitDefEqProofs [sC, h0, h0', h1']; done)) | (simp -implicitDefEqProofs [sC, h0, h0', h1']; done) | (simp -implicitDefEqProofs [sC, h0, h0', h1']; rfl) | (simp; done) | (simp; rfl) | rfl))); (case g1 => (first | assumption | (exact hz))))
        | (apply WPL.cL (c_impl_IsName _ ?g1); (case q => (repeat' (first | refine And.intro ?_ ?_ | intro _ | exact cleanOut_nil | (refine Eqv.mk ?_; first | rfl | (simp -implicitDefEqProofs [sC, h0, h0', h1']; done)) | (simp -implicitDefEqProofs [sC, h0, h0', h1']; done) | (simp -implicitDefEqProofs [sC, h0, h0', h1']; rfl) | (simp; done) | (simp; rfl) | rfl))); (case g1 => (first | assumption | (exact hz))))
        | (refine WPL.call0f ?_ ?_ ?_; (focus (simp; done)); (focus (simp; done)))
        | ((first | refine WPc.rq tok rfl fun K hK => ?_ | refine WPL.rn tok _ (by simp [ahead, isFn]; rfl) fun K hK => ?_); simp -implicitDefEqProofs +contextual [-Int.not_le, -Int.not_lt, -Nat.not_le, -Nat.not_lt, -List.all_eq_true, -List.all_eq_false, -List.any_eq_true, -List.any_eq_false, sC, h0, h0', h1']; (repeat1' (first | apply hK | apply And.intro | intro _)) <;> clear hK K <;> (try dsimp only [List.drop]))
        | (refine WPc.region ?_; simp only [List.toList_toArray])
        | (refine WPc.condT ?_ ?_; (focus (simp; done))))
      all_goals (simp_all; try omega)
    · have h1' : ((names.length : Int) = 1) = False := by simp; omega
      rw [oneName_no h1]
      refine Con.of tok (nt := 78) Go.Proofs.Tryz.func225 (by kernel_rfl) rfl rfl rfl (Nat.le_of_ble_eq_true rfl) fun G => ?_
      simp only [entSt, tmOf, List.append_nil, List.cons_append, List.nil_append, Nd.av, sMake]
      repeat' (first
        | apply WPc.sq
        | (refine WPc.ret (endP.val (.inr rfl) rfl rfl (by simp; rfl) ?_))
        | refine WPL.nil ?_
        | (apply WPL.cL (c_impl_Arity _ ?g1); (case q => (repeat' (first | refine And.intro ?_ ?_ | intro _ | exact cleanOut_nil | (refine Eqv.mk ?_; first | rfl | (simp -implicitDefEqProofs [sC, h1']; done)) | (simp -implicitDefEqProofs [sC, h1']; done) | (simp -implicitDefEqProofs [sC, h1']; rfl) | (simp; done) | (simp; rfl) | rfl))); (case g1 => (first | assumption)))
        | (refine WPL.call0f ?_ ?_ ?_; (focus (simp; done)); (focus (simp; done)))
        | ((first | refine WPc.rq tok rfl fun K hK => ?_ | refine WPL.rn tok _ (by simp [ahead, isFn]; rfl) fun K hK => ?_); simp -implicitDefEqProofs +contextual [-Int.not_le, -Int.not_lt, -Nat.not_le, -Nat.not_lt, -List.all_eq_true, -List.all_eq_false, -List.any_eq_true, -List.any_eq_false, sC, h1']; (repeat1' (first | apply hK | apply And.intro | intro _)) <;> clear hK K <;> (try dsimp only [List.drop]))
        | (refine WPc.region ?_; simp only [List.toList_toArray])
        | (refine WPc.condT ?_ ?_; (focus (simp; done))))
      all_goals (simp_all; try omega)
  · have hm' : (s = ⟨#[109, 97, 107, 101]⟩) = False := by simpa [sMake] using hm
    by_cases hf : s = sField
    · subst hf
      have e : primOk ⟨k, n, sField, names, args⟩ = (oneName names && decide (args.length = 1) && inRange n 0 7) := by simp [primOk, sField, sMake]
      have ar : arity sField = 1 := by decide +kernel
      simp only [sField] at ar
      rw [e]
      by_cases h1 : names.length = 1
      · have h0 : 0 < names.length := by omega
        have h1' : ((names.length : Int) = 1) = True := by simp [h1]
        have h0' : (0 : Int) < (names.length : Int) := by omega
        have hz := g2 _ (List.getElem_mem h0)
        rw [oneName_eq h1]
        refine Con.of tok (nt := 78) Go.Proofs.Tryz.func225 (by kernel_rfl) rfl rfl rfl (Nat.le_of_ble_eq_true rfl) fun G => ?_
        simp only [entSt, tmOf, List.append_nil, List.cons_append, List.nil_append, Nd.av, sField]
        repeat' (first
          | apply WPc.sq
          | (refine WPc.ret (endP.val (.inr rfl) rfl rfl (by simp; rfl) ?_))
          | apply WPc.skip
          | refine WPL.nil ?_
          | (apply WPL.cL (c_impl_Arity _ ?g1); (case q => (repeat' (first | refine And.intro ?_ ?_ | intro _ | exact cleanOut_nil | (refine Eqv.mk ?_; first | rfl | (simp -implicitDefEqProofs [sC, h0, h0', h1', ar, sMake, sField, sIs]; done)) | (simp -implicitDefEqProofs [sC, h0, h0', h1', ar, sMake, sField, sIs]; done) | (simp -implicitDefEqProofs [sC, h0, h0', h1', ar, sMake, sField, sIs]; rfl) | (simp; done) | (simp; rfl) | rfl))); (case g1 => (first | assumption | (exact hz))))
          | (apply WPL.cL (c_impl_IsName _ ?g1); (case q => (repeat' (first | refine And.intro ?_ ?_ | intro _ | exact cleanOut_nil | (refine Eqv.mk ?_; first | rfl | (simp -implicitDefEqProofs [sC, h0, h0', h1', ar, sMake, sField, sIs]; done)) | (simp -implicitDefEqProofs [sC, h0, h0', h1', ar, sMake, sField, sIs]; done) | (simp -implicitDefEqProofs [sC, h0, h0', h1', ar, sMake, sField, sIs]; rfl) | (simp; done) | (simp; rfl) | rfl))); (case g1 => (first | assumption | (exact hz))))
          | (apply WPL.cL (c_impl_inRange _ _ _); (case q => (repeat' (first | refine And.intro ?_ ?_ | intro _ | exact cleanOut_nil | (refine Eqv.mk ?_; first | rfl | (simp -implicitDefEqProofs [sC, h0, h0', h1', ar, sMake, sField, sIs]; done)) | (simp -implicitDefEqProofs [sC, h0, h0', h1', ar, sMake, sField, sIs]; done) | (simp -implicitDefEqProofs [sC, h0, h0', h1', ar, sMake, sField, sIs]; rfl) | (simp; done) | (simp; rfl) | rfl))))
          | (apply WPL.cL (c_impl_isTyped _); (case q => (repeat' (first | refine And.intro ?_ ?_ | intro _ | exact cleanOut_nil | (refine Eqv.mk ?_; first | rfl | (simp -implicitDefEqProofs [sC, h0, h0', h1', ar, sMake, sField, sIs]; done)) | (simp -implicitDefEqProofs [sC, h0, h0', h1', ar, sMake, sField, sIs]; done) | (simp -implicitDefEqProofs [sC, h0, h0', h1', ar, sMake, sField, sIs]; rfl) | (simp; done) | (simp; rfl) | rfl))))
          | ((first | refine WPc.rq tok rfl fun K hK => ?_ | refine WPL.rn tok _ (by simp [ahead, isFn]; rfl) fun K hK => ?_); simp -implicitDefEqProofs +contextual [-Int.not_le, -Int.not_lt, -Nat.not_le, -Nat.not_lt, -List.all_eq_true, -List.all_eq_false, -List.any_eq_true, -List.any_eq_false, sC, h0, h0', h1', ar, sMake, sField, sIs]; (repeat1' (first | apply hK | apply And.intro | intro _)) <;> clear hK K <;> (try dsimp only [List.drop]))
          | (refine WPc.region ?_; simp only [List.toList_toArray])
          | (refine WPc.condT ?_ ?_; (focus (simp; done)))
          | (refine WPc.condF ?_ ?_; (focus (simp; done)))
          | (refine WPc.cond (by simp [-Bool.not_eq_eq_eq_not]; rfl) (fun hq => ?_) (fun hq => ?_) <;> simp only [hq] <;> (try (exfalso; (simp only [decide_eq_true_eq, decide_eq_false_iff_not] at hq); omega))))
        all_goals (simp_all; try omega)
      · have h1' : ((names.length : Int) = 1) = False := by simp; omega
        rw [oneName_no h1]
        refine Con.of tok (nt := 78) Go.Proofs.Tryz.func225 (by kernel_rfl) rfl rfl rfl (Nat.le_of_ble_eq_true rfl) fun G => ?_
        simp only [entSt, tmOf, List.append_nil, List.cons_append, List.nil_append, Nd.av, sField]
        repeat' (first
          | apply WPc.sq
          | (refine WPc.ret (endP.val (.inr rfl) rfl rfl (by simp; rfl) ?_))
          | apply WPc.skip
          | refine WPL.nil ?_
          | (apply WPL.cL (c_impl_Arity _ ?g1); (case q => (repeat' (first | refine And.intro ?_ ?_ | intro _ | exact cleanOut_nil | (refine Eqv.mk ?_; first | rfl | (simp -implicitDefEqProofs [sC, h1', ar, sMake, sField, sIs]; done)) | (simp -implicitDefEqProofs [sC, h1', ar, sMake, sField, sIs]; done) | (simp -implicitDefEqProofs [sC, h1', ar, sMake, sField, sIs]; rfl) | (simp; done) | (simp; rfl) | rfl))); (case g1 => (first | assumption)))
          | (apply WPL.cL (c_impl_inRange _ _ _); (case q => (repeat' (first | refine And.intro ?_ ?_ | intro _ | exact cleanOut_nil | (refine Eqv.mk ?_; first | rfl | (simp -implicitDefEqProofs [sC, h1', ar, sMake, sField, sIs]; done)) | (simp -implicitDefEqProofs [sC, h1', ar, sMake, sField, sIs]; done) | (simp -implicitDefEqProofs [sC, h1', ar, sMake, sField, sIs]; rfl) | (simp; done) | (simp; rfl) | rfl))))
          | (apply WPL.cL (c_impl_isTyped _); (case q => (repeat' (first | refine And.intro ?_ ?_ | intro _ | exact cleanOut_nil | (refine Eqv.mk ?_; first | rfl | (simp -implicitDefEqProofs [sC, h1', ar, sMake, sField, sIs]; done)) | (simp -implicitDefEqProofs [sC, h1', ar, sMake, sField, sIs]; done) | (simp -implicitDefEqProofs [sC, h1', ar, sMake, sField, sIs]; rfl) | (simp; done) | (simp; rfl) | rfl))))
          | (refine WPL.call0f ?_ ?_ ?_; (focus (simp; done)); (focus (simp; done)))
          | ((first | refine WPc.rq tok rfl fun K hK => ?_ | refine WPL.rn tok _ (by simp [ahead, isFn]; rfl) fun K hK => ?_); simp -implicitDefEqProofs +contextual [-Int.not_le, -Int.not_lt, -Nat.not_le, -Nat.not_lt, -List.all_eq_true, -List.all_eq_false, -List.any_eq_true, -List.any_eq_false, sC, h1', ar, sMake, sField, sIs]; (repeat1' (first | apply hK | apply And.intro | intro _)) <;> clear hK K <;> (try dsimp only [List.drop]))
          | (refine WPc.region ?_; simp only [List.toList_toArray])
          | (refine WPc.condT ?_ ?_; (focus (simp; done)))
          | (refine WPc.condF ?_ ?_; (focus (simp; done)))
          | (refine WPc.cond (by simp [-Bool.not_eq_eq_eq_not]; rfl) (fun hq => ?_) (fun hq => ?_) <;> simp only [hq] <;> (try (exfalso; (simp only [decide_eq_true_eq, decide_eq_false_iff_not] at hq); omega))))
        all_goals (simp_all; try omega)
    · have hf' : (s = ⟨#[102, 105, 101, 108, 100]⟩) = False := by simpa [sField] using hf
      by_cases hi : s = sIs
      · subst hi
        have e : primOk ⟨k, n, sIs, names, args⟩ = (oneName names && decide (args.length = 1) && decide (n = 0)) := by simp [primOk, sField, sMake, sIs]
        have ar : arity sIs = 1 := by decide +kernel
        simp only [sIs] at ar
        rw [e]
        by_cases h1 : names.length = 1
        · have h0 : 0 < names.length := by omega
          have h1' : ((names.length : Int) = 1) = True := by simp [h1]
          have h0' : (0 : Int) < (names.length : Int) := by omega
          have hz := g2 _ (List.getElem_mem h0)
          rw [oneName_eq h1]
          refine Con.of tok (nt := 78) Go.Proofs.Tryz.func225 (by kernel_rfl) rfl rfl rfl (Nat.le_of_ble_eq_true rfl) fun G => ?_
          simp only [entSt, tmOf, List.append_nil, List.cons_append, List.nil_append, Nd.av, sIs]
          repeat' (first
            | apply WPc.sq
            | (refine WPc.ret (endP.val (.inr rfl) rfl rfl (by simp; rfl) ?_))
            | apply WPc.skip
            | refine WPL.nil ?_
            | (apply WPL.cL (c_impl_Arity _ ?g1); (case q => (repeat' (first | refine And.intro ?_ ?_ | intro _ | exact cleanOut_nil | (refine Eqv.mk ?_; first | rfl | (simp -implicitDefEqProofs [sC, h0, h0', h1', ar, sMake, sField, sIs]; done)) | (simp -implicitDefEqProofs [sC, h0, h0', h1', ar, sMake, sField, sIs]; done) | (simp -implicitDefEqProofs [sC, h0, h0', h1', ar, sMake, sField, sIs]; rfl) | (simp; done) | (simp; rfl) | rfl))); (case g1 => (first | assumption | (exact hz))))
            | (apply WPL.cL (c_impl_IsName _ ?g1); (case q => (repeat' (first | refine And.intro ?_ ?_ | intro _ | exact cleanOut_nil | (refine Eqv.mk ?_; first | rfl | (simp -implicitDefEqProofs [sC, h0, h0', h1', ar, sMake, sField, sIs]; done)) | (simp -implicitDefEqProofs [sC, h0, h0', h1', ar, sMake, sField, sIs]; done) | (simp -implicitDefEqProofs [sC, h0, h0', h1', ar, sMake, sField, sIs]; rfl) | (simp; done) | (simp; rfl) | rfl))); (case g1 => (first | assumption | (exact hz))))
            | (apply WPL.cL (c_impl_isTyped _); (case q => (repeat' (first | refine And.intro ?_ ?_ | intro _ | exact cleanOut_nil | (refine Eqv.mk ?_; first | rfl | (simp -implicitDefEqProofs [sC, h0, h0', h1', ar, sMake, sField, sIs]; done)) | (simp -implicitDefEqProofs [sC, h0, h0', h1', ar, sMake, sField, sIs]; done) | (simp -implicitDefEqProofs [sC, h0, h0', h1', ar, sMake, sField, sIs]; rfl) | (simp; done) | (simp; rfl) | rfl))))
            | (refine WPL.call0f ?_ ?_ ?_; (focus (simp; done)); (focus (simp; done)))
            | ((first | refine WPc.rq tok rfl fun K hK => ?_ | refine WPL.rn tok _ (by simp [ahead, isFn]; rfl) fun K hK => ?_); simp -implicitDefEqProofs +contextual [-Int.not_le, -Int.not_lt, -Nat.not_le, -Nat.not_lt, -List.all_eq_true, -List.all_eq_false, -List.any_eq_true, -List.any_eq_false, sC, h0, h0', h1', ar, sMake, sField, sIs]; (repeat1' (first | apply hK | apply And.intro | intro _)) <;> clear hK K <;> (try dsimp only [List.drop]))
            | (refine WPc.region ?_; simp only [List.toList_toArray])
            | (refine WPc.condT ?_ ?_; (focus (simp; done)))
            | (refine WPc.condF ?_ ?_; (focus (simp; done)))
            | (refine WPc.cond (by simp [-Bool.not_eq_eq_eq_not]; rfl) (fun hq => ?_) (fun hq => ?_) <;> simp only [hq] <;> (try (exfalso; (simp only [decide_eq_true_eq, decide_eq_false_iff_not] at hq); omega))))
          all_goals (simp_all; try omega)
        · have h1' : ((names.length : Int) = 1) = False := by simp; omega
          rw [oneName_no h1]
          refine Con.of tok (nt := 78) Go.Proofs.Tryz.func225 (by kernel_rfl) rfl rfl rfl (Nat.le_of_ble_eq_true rfl) fun G => ?_
          simp only [entSt, tmOf, List.append_nil, List.cons_append, List.nil_append, Nd.av, sIs]
          repeat' (first
            | apply WPc.sq
            | (refine WPc.ret (endP.val (.inr rfl) rfl rfl (by simp; rfl) ?_))
            | apply WPc.skip
            | refine WPL.nil ?_
            | (apply WPL.cL (c_impl_Arity _ ?g1); (case q => (repeat' (first | refine And.intro ?_ ?_ | intro _ | exact cleanOut_nil | (refine Eqv.mk ?_; first | rfl | (simp -implicitDefEqProofs [sC, h1', ar, sMake, sField, sIs]; done)) | (simp -implicitDefEqProofs [sC, h1', ar, sMake, sField, sIs]; done) | (simp -implicitDefEqProofs [sC, h1', ar, sMake, sField, sIs]; rfl) | (simp; done) | (simp; rfl) | rfl))); (case g1 => (first | assumption)))
            | (apply WPL.cL (c_impl_isTyped _); (case q => (repeat' (first | refine And.intro ?_ ?_ | intro _ | exact cleanOut_nil | (refine Eqv.mk ?_; first | rfl | (simp -implicitDefEqProofs [sC, h1', ar, sMake, sField, sIs]; done)) | (simp -implicitDefEqProofs [sC, h1', ar, sMake, sField, sIs]; done) | (simp -implicitDefEqProofs [sC, h1', ar, sMake, sField, sIs]; rfl) | (simp; done) | (simp; rfl) | rfl))))
            | (refine WPL.call0f ?_ ?_ ?_; (focus (simp; done)); (focus (simp; done)))
            | ((first | refine WPc.rq tok rfl fun K hK => ?_ | refine WPL.rn tok _ (by simp [ahead, isFn]; rfl) fun K hK => ?_); simp -implicitDefEqProofs +contextual [-Int.not_le, -Int.not_lt, -Nat.not_le, -Nat.not_lt, -List.all_eq_true, -List.all_eq_false, -List.any_eq_true, -List.any_eq_false, sC, h1', ar, sMake, sField, sIs]; (repeat1' (first | apply hK | apply And.intro | intro _)) <;> clear hK K <;> (try dsimp only [List.drop]))
            | (refine WPc.region ?_; simp only [List.toList_toArray])
            | (refine WPc.condT ?_ ?_; (focus (simp; done)))
            | (refine WPc.condF ?_ ?_; (focus (simp; done)))
            | (refine WPc.cond (by simp [-Bool.not_eq_eq_eq_not]; rfl) (fun hq => ?_) (fun hq => ?_) <;> simp only [hq] <;> (try (exfalso; (simp only [decide_eq_true_eq, decide_eq_false_iff_not] at hq); omega))))
          all_goals (simp_all; try omega)
      · have hi' : (s = ⟨#[105, 115]⟩) = False := by simpa [sIs] using hi
        have e : primOk ⟨k, n, s, names, args⟩ = (decide (names.length = 0) && decide (arity s = args.length) && decide (n = 0)) := by simp [primOk, hm, hf, hi]
        rw [e]
        refine Con.of tok (nt := 78) Go.Proofs.Tryz.func225 (by kernel_rfl) rfl rfl rfl (Nat.le_of_ble_eq_true rfl) fun G => ?_
        simp only [entSt, tmOf, List.append_nil, List.cons_append, List.nil_append, Nd.av]
        repeat' (first
          | apply WPc.sq
          | (refine WPc.ret (endP.val (.inr rfl) rfl rfl (by simp; rfl) ?_))
          | apply WPc.skip
          | refine WPL.nil ?_
          | (apply WPL.cL (c_impl_Arity _ ?g1); (case q => (repeat' (first | refine And.intro ?_ ?_ | intro _ | exact cleanOut_nil | (refine Eqv.mk ?_; first | rfl | (simp -implicitDefEqProofs [sC, hm', hf', hi', sMake, sField, sIs]; done)) | (simp -implicitDefEqProofs [sC, hm', hf', hi', sMake, sField, sIs]; done) | (simp -implicitDefEqProofs [sC, hm', hf', hi', sMake, sField, sIs]; rfl) | (simp; done) | (simp; rfl) | rfl))); (case g1 => (first | assumption)))
          | (apply WPL.cL (c_impl_isTyped _); (case q => (repeat' (first | refine And.intro ?_ ?_ | intro _ | exact cleanOut_nil | (refine Eqv.mk ?_; first | rfl | (simp -implicitDefEqProofs [sC, hm', hf', hi', sMake, sField, sIs]; done)) | (simp -implicitDefEqProofs [sC, hm', hf', hi', sMake, sField, sIs]; done) | (simp -implicitDefEqProofs [sC, hm', hf', hi', sMake, sField, sIs]; rfl) | (simp; done) | (simp; rfl) | rfl))))
          | (refine WPL.call0f ?_ ?_ ?_; (focus (simp; done)); (focus (simp; done)))
          | ((first | refine WPc.rq tok rfl fun K hK => ?_ | refine WPL.rn tok _ (by simp [ahead, isFn]; rfl) fun K hK => ?_); simp -implicitDefEqProofs +contextual [-Int.not_le, -Int.not_lt, -Nat.not_le, -Nat.not_lt, -List.all_eq_true, -List.all_eq_false, -List.any_eq_true, -List.any_eq_false, sC, hm', hf', hi', sMake, sField, sIs]; (repeat1' (first | apply hK | apply And.intro | intro _)) <;> clear hK K <;> (try dsimp only [List.drop]))
          | (refine WPc.region ?_; simp only [List.toList_toArray])
          | (refine WPc.condT ?_ ?_; (focus (simp; done)))
          | (refine WPc.condF ?_ ?_; (focus (simp; done)))
          | (refine WPc.cond (by simp [-Bool.not_eq_eq_eq_not]; rfl) (fun hq => ?_) (fun hq => ?_) <;> simp only [hq] <;> (try (exfalso; (simp only [decide_eq_true_eq, decide_eq_false_iff_not] at hq); omega))))
        all_goals (simp_all; try omega)
theorem c_spec_l3Prim (c : Nd) (hs : c.sm) : Con PP 217 [c.av] [] [] (fun r o => r = .sc (.bool (primOk c))) := by
  obtain ⟨k, n, s, names, args⟩ := c
  obtain ⟨g1, g2⟩ := hs
  dsimp only at g1 g2
  by_cases hm : s = sMake
  · subst hm
    have e : primOk ⟨k, n, sMake, names, args⟩ = (decide (n = 0) && decide (args.length ≤ 8) && oneName names) := by simp [primOk]
    rw [e]
    by_cases h1 : names.length = 1
    · have h0 : 0 < names.length := by omega
      have h1' : ((names.length : Int) = 1) = True := by simp [h1]
      have h0' : (0 : Int) < (names.length : Int) := by omega
      have hz := g2 _ (List.getElem_mem h0)
      rw [oneName_eq h1]
      refine Con.of tok (nt := 91) Go.Proofs.Tryz.func217 (by kernel_rfl) rfl rfl rfl (Nat.le_of_ble_eq_true rfl) fun G => ?_
      simp only [entSt, tmOf, List.append_nil, List.cons_append, List.nil_append, Nd.av, sMake]
      repeat' (first
        | apply WPc.sq
        | apply WPc.block
        | (refine WPc.ret (endP.val (.inr rfl) rfl rfl (by simp; rfl) ?_))
        | refine WPL.nil ?_
        | (apply WPL.cL (c_spec_IsName _ ?g1); (case q => (repeat' (first | refine And.intro ?_ ?_ | intro _ | exact cleanOut_nil | (refine Eqv.mk ?_; first | rfl | (simp -implicitDefEqProofs [sC, h0, h0', h1']; done)) | (simp -implicitDefEqProofs [sC, h0, h0', h1']; done) | (simp -implicitDefEqProofs [sC, h0, h0', h1']; rfl) | (simp; done) | (simp; rfl) | rfl))); (case g1 => (first | assumption | (exact hz))))
        | ((first | refine WPc.rq tok rfl fun K hK => ?_ | refine WPL.rn tok _ (by simp [ahead, isFn]; rfl) fun K hK => ?_); simp -implicitDefEqProofs +contextual [-Int.not_le, -Int.not_lt, -Nat.not_le, -Nat.not_lt, -List.all_eq_true, -List.all_eq_false, -List.any_eq_true, -List.any_eq_false, sC, h0, h0', h1']; (repeat1' (first | apply hK | apply And.intro | intro _)) <;> clear hK K <;> (try dsimp only [List.drop]))
        | (refine WPc.region ?_; simp only [List.toList_toArray])
        | (refine WPc.condT ?_ ?_; (focus (simp; done))))
      all_goals (simp_all; try omega)
    · have h1' : ((names.length : Int) = 1) = False := by simp; omega
      rw [oneName_no h1]
      refine Con.of tok (nt := 91) Go.Proofs.Tryz.func217 (by kernel_rfl) rfl rfl rfl (Nat.le_of_ble_eq_true rfl) fun G => ?_
      simp only [entSt, tmOf, List.append_nil, List.cons_append, List.nil_append, Nd.av, sMake]
      repeat' (first
        | apply WPc.sq
        | apply WPc.block
        | (refine WPc.ret (endP.val (.inr rfl) rfl rfl (by simp; rfl) ?_))
        | refine WPL.nil ?_
        | (refine WPL.call0f ?_ ?_ ?_; (focus (simp; done)); (focus (simp; done)))
        | ((first | refine WPc.rq tok rfl fun K hK => ?_ | refine WPL.rn tok _ (by simp [ahead, isFn]; rfl) fun K hK => ?_); simp -implicitDefEqProofs +contextual [-Int.not_le, -Int.not_lt, -Nat.not_le, -Nat.not_lt, -List.all_eq_true, -List.all_eq_false, -List.any_eq_true, -List.any_eq_false, sC, h1']; (repeat1' (first | apply hK | apply And.intro | intro _)) <;> clear hK K <;> (try dsimp only [List.drop]))
        | (refine WPc.region ?_; simp only [List.toList_toArray])
        | (refine WPc.condT ?_ ?_; (focus (simp; done))))
      all_goals (simp_all; try omega)
  · have hm' : (s = ⟨#[109, 97, 107, 101]⟩) = False := by simpa [sMake] using hm
    by_cases hf : s = sField
    · subst hf
      have e : primOk ⟨k, n, sField, names, args⟩ = (oneName names && decide (args.length = 1) && inRange n 0 7) := by simp [primOk, sField, sMake]
      rw [e]
      by_cases h1 : names.length = 1
      · have h0 : 0 < names.length := by omega
        have h1' : ((names.length : Int) = 1) = True := by simp [h1]
        have h0' : (0 : Int) < (names.length : Int) := by omega
        have hz := g2 _ (List.getElem_mem h0)
        rw [oneName_eq h1]
        refine Con.of tok (nt := 91) Go.Proofs.Tryz.func217 (by kernel_rfl) rfl rfl rfl (Nat.le_of_ble_eq_true rfl) fun G => ?_
        simp only [entSt, tmOf, List.append_nil, List.cons_append, List.nil_append, Nd.av, sField]
        repeat' (first
          | apply WPc.sq
          | apply WPc.block
          | (refine WPc.ret (endP.val (.inr rfl) rfl rfl (by simp; rfl) ?_))
          | refine WPL.nil ?_
          | (apply WPL.cL (c_spec_IsName _ ?g1); (case q => (repeat' (first | refine And.intro ?_ ?_ | intro _ | exact cleanOut_nil | (refine Eqv.mk ?_; first | rfl | (simp -implicitDefEqProofs [sC, h0, h0', h1']; done)) | (simp -implicitDefEqProofs [sC, h0, h0', h1']; done) | (simp -implicitDefEqProofs [sC, h0, h0', h1']; rfl) | (simp; done) | (simp; rfl) | rfl))); (case g1 => (first | assumption | (exact hz))))
          | (apply WPL.cL (c_spec_l1In _ _ _); (case q => (repeat' (first | refine And.intro ?_ ?_ | intro _ | exact cleanOut_nil | (refine Eqv.mk ?_; first | rfl | (simp -implicitDefEqProofs [sC, h0, h0', h1']; done)) | (simp -implicitDefEqProofs [sC, h0, h0', h1']; done) | (simp -implicitDefEqProofs [sC, h0, h0', h1']; rfl) | (simp; done) | (simp; rfl) | rfl))))
          | (refine WPL.call0f ?_ ?_ ?_; (focus (simp; done)); (focus (simp; done)))
          | ((first | refine WPc.rq tok rfl fun K hK => ?_ | refine WPL.rn tok _ (by simp [ahead, isFn]; rfl) fun K hK => ?_); simp -implicitDefEqProofs +contextual [-Int.not_le, -Int.not_lt, -Nat.not_le, -Nat.not_lt, -List.all_eq_true, -List.all_eq_false, -List.any_eq_true, -List.any_eq_false, sC, h0, h0', h1']; (repeat1' (first | apply hK | apply And.intro | intro _)) <;> clear hK K <;> (try dsimp only [List.drop]))
          | (refine WPc.region ?_; simp only [List.toList_toArray])
          | (refine WPc.condT ?_ ?_; (focus (simp; done)))
          | (refine WPc.condF ?_ ?_; (focus (simp; done))))
        all_goals (simp_all; try omega)
      · have h1' : ((names.length : Int) = 1) = False := by simp; omega
        rw [oneName_no h1]
        refine Con.of tok (nt := 91) Go.Proofs.Tryz.func217 (by kernel_rfl) rfl rfl rfl (Nat.le_of_ble_eq_true rfl) fun G => ?_
        simp only [entSt, tmOf, List.append_nil, List.cons_append, List.nil_append, Nd.av, sField]
        repeat' (first
          | apply WPc.sq
          | apply WPc.block
          | (refine WPc.ret (endP.val (.inr rfl) rfl rfl (by simp; rfl) ?_))
          | refine WPL.nil ?_
          | (refine WPL.call0f ?_ ?_ ?_; (focus (simp; done)); (focus (simp; done)))
          | ((first | refine WPc.rq tok rfl fun K hK => ?_ | refine WPL.rn tok _ (by simp [ahead, isFn]; rfl) fun K hK => ?_); simp -implicitDefEqProofs +contextual [-Int.not_le, -Int.not_lt, -Nat.not_le, -Nat.not_lt, -List.all_eq_true, -List.all_eq_false, -List.any_eq_true, -List.any_eq_false, sC, h1']; (repeat1' (first | apply hK | apply And.intro | intro _)) <;> clear hK K <;> (try dsimp only [List.drop]))
          | (refine WPc.region ?_; simp only [List.toList_toArray])
          | (refine WPc.condT ?_ ?_; (focus (simp; done)))
          | (refine WPc.condF ?_ ?_; (focus (simp; done))))
        all_goals (simp_all; try omega)
    · have hf' : (s = ⟨#[102, 105, 101, 108, 100]⟩) = False := by simpa [sField] using hf
      by_cases hi : s = sIs
      · subst hi
        have e : primOk ⟨k, n, sIs, names, args⟩ = (oneName names && decide (args.length = 1) && decide (n = 0)) := by simp [primOk, sField, sMake, sIs]
        rw [e]
        by_cases h1 : names.length = 1
        · have h0 : 0 < names.length := by omega
          have h1' : ((names.length : Int) = 1) = True := by simp [h1]
          have h0' : (0 : Int) < (names.length : Int) := by omega
          have hz := g2 _ (List.getElem_mem h0)
          rw [oneName_eq h1]
          refine Con.of tok (nt := 91) Go.Proofs.Tryz.func217 (by kernel_rfl) rfl rfl rfl (Nat.le_of_ble_eq_true rfl) fun G => ?_
          simp only [entSt, tmOf, List.append_nil, List.cons_append, List.nil_append, Nd.av, sIs]
          repeat' (first
            | apply WPc.sq
            | apply WPc.block
            | (refine WPc.ret (endP.val (.inr rfl) rfl rfl (by simp; rfl) ?_))
            | refine WPL.nil ?_
            | (apply WPL.cL (c_spec_IsName _ ?g1); (case q => (repeat' (first | refine And.intro ?_ ?_ | intro _ | exact cleanOut_nil | (refine Eqv.mk ?_; first | rfl | (simp -implicitDefEqProofs [sC, h0, h0', h1']; done)) | (simp -implicitDefEqProofs [sC, h0, h0', h1']; done) | (simp -implicitDefEqProofs [sC, h0, h0', h1']; rfl) | (simp; done) | (simp; rfl) | rfl))); (case g1 => (first | assumption | (exact hz))))
            | ((first | refine WPc.rq tok rfl fun K hK => ?_ | refine WPL.rn tok _ (by simp [ahead, isFn]; rfl) fun K hK => ?_); simp -implicitDefEqProofs +contextual [-Int.not_le, -Int.not_lt, -Nat.not_le, -Nat.not_lt, -List.all_eq_true, -List.all_eq_false, -List.any_eq_true, -List.any_eq_false, sC, h0, h0', h1']; (repeat1' (first | apply hK | apply And.intro | intro _)) <;> clear hK K <;> (try dsimp only [List.drop]))
            | (refine WPc.region ?_; simp only [List.toList_toArray])
            | (refine WPc.condT ?_ ?_; (focus (simp; done)))
            | (refine WPc.condF ?_ ?_; (focus (simp; done))))
          all_goals (simp_all; try omega)
        · have h1' : ((names.length : Int) = 1) = False := by simp; omega
          rw [oneName_no h1]
          refine Con.of tok (nt := 91) Go.Proofs.Tryz.func217 (by kernel_rfl) rfl rfl rfl (Nat.le_of_ble_eq_true rfl) fun G => ?_
          simp only [entSt, tmOf, List.append_nil, List.cons_append, List.nil_append, Nd.av, sIs]
          repeat' (first
            | apply WPc.sq
            | apply WPc.block
            | (refine WPc.ret (endP.val (.inr rfl) rfl rfl (by simp; rfl) ?_))
            | refine WPL.nil ?_
            | (refine WPL.call0f ?_ ?_ ?_; (focus (simp; done)); (focus (simp; done)))
            | ((first | refine WPc.rq tok rfl fun K hK => ?_ | refine WPL.rn tok _ (by simp [ahead, isFn]; rfl) fun K hK => ?_); simp -implicitDefEqProofs +contextual [-Int.not_le, -Int.not_lt, -Nat.not_le, -Nat.not_lt, -List.all_eq_true, -List.all_eq_false, -List.any_eq_true, -List.any_eq_false, sC, h1']; (repeat1' (first | apply hK | apply And.intro | intro _)) <;> clear hK K <;> (try dsimp only [List.drop]))
            | (refine WPc.region ?_; simp only [List.toList_toArray])
            | (refine WPc.condT ?_ ?_; (focus (simp; done)))
            | (refine WPc.condF ?_ ?_; (focus (simp; done))))
          all_goals (simp_all; try omega)
      · have hi' : (s = ⟨#[105, 115]⟩) = False := by simpa [sIs] using hi
        have e : primOk ⟨k, n, s, names, args⟩ = (decide (names.length = 0) && decide (arity s = args.length) && decide (n = 0)) := by simp [primOk, hm, hf, hi]
        rw [e]
        refine Con.of tok (nt := 91) Go.Proofs.Tryz.func217 (by kernel_rfl) rfl rfl rfl (Nat.le_of_ble_eq_true rfl) fun G => ?_
        simp only [entSt, tmOf, List.append_nil, List.cons_append, List.nil_append, Nd.av]
        repeat' (first
          | apply WPc.sq
          | apply WPc.block
          | (refine WPc.ret (endP.val (.inr rfl) rfl rfl (by simp; rfl) ?_))
          | apply WPc.skip
          | refine WPL.nil ?_
          | (apply WPL.cL (c_spec_Arity _); (case q => (repeat' (first | refine And.intro ?_ ?_ | intro _ | exact cleanOut_nil | (refine Eqv.mk ?_; first | rfl | (simp -implicitDefEqProofs [sC, hm', hf', hi']; done)) | (simp -implicitDefEqProofs [sC, hm', hf', hi']; done) | (simp -implicitDefEqProofs [sC, hm', hf', hi']; rfl) | (simp; done) | (simp; rfl) | rfl))))
          | (refine WPL.call0f ?_ ?_ ?_; (focus (simp; done)); (focus (simp; done)))
          | ((first | refine WPc.rq tok rfl fun K hK => ?_ | refine WPL.rn tok _ (by simp [ahead, isFn]; rfl) fun K hK => ?_); simp -implicitDefEqProofs +contextual [-Int.not_le, -Int.not_lt, -Nat.not_le, -Nat.not_lt, -List.all_eq_true, -List.all_eq_false, -List.any_eq_true, -List.any_eq_false, sC, hm', hf', hi']; (repeat1' (first | apply hK | apply And.intro | intro _)) <;> clear hK K <;> (try dsimp only [List.drop]))
          | (refine WPc.region ?_; simp only [List.toList_toArray])
          | (refine WPc.condF ?_ ?_; (focus (simp; done))))
        all_goals (simp_all; try omega)
end Go.Own
set_option maxRecDepth 1000000
set_option maxHeartbeats 4000000
namespace Go.Own
attribute [local irreducible] WPc WPL WPS WPS1 WPS2 HAny endP
variable [Laid]
open Go.Lib Go.RowKit
def nodeOk (c : Nd) : Bool :=
  if c.k = 1 then inRange c.n (-1000000) 1000000 && decide (c.s = zs) && decide (c.names.length = 0) && decide (c.args.length = 0)
  else if c.k = 2 then inRange c.n 0 1 && decide (c.s = zs) && decide (c.names.length = 0) && decide (c.args.length = 0)
  else if c.k = 3 then decide (c.n = 0) && decide (c.s = zs) && decide (c.names.length = 0) && decide (c.args.length = 0)
  else if c.k = 4 then decide (c.n = 0) && sym c.s && decide (c.names.length = 0) && decide (c.args.length = 0)
  else if c.k = 5 then decide (c.n = 0) && isName c.s && decide (c.names.length = 0) && decide (c.args.length = 0)
  else if c.k = 6 then decide (c.n = 0) && decide (c.s = zs) && decide (c.names.length = 0) && decide (c.args.length = 3)
  else if c.k = 7 then decide (c.n = 0) && decide (c.s = zs) && namesOk c.names 8 && decide (c.args.length = 1)
  else if c.k = 8 then decide (c.n = 0) && decide (c.s = zs) && decide (c.names.length = 0) && inRange c.args.length 1 9
  else if c.k = 9 then primOk c
  else if c.k = 10 then decide (c.n = 0) && isName c.s && decide (c.names.length = 0) && decide (c.args.length = 1)
  else if c.k = 11 then decide (c.n = 0) && decide (c.s = zs) && decide (c.names.length = 0) && decide (2 ≤ c.args.length)
  else false
theorem c_impl_nodeOk [F : Facts.Of] (c : Nd) (hs : c.sm) : Con PP 179 [c.av] [] [] (fun r o => r = .sc (.bool (nodeOk c))) := by
  obtain ⟨g1, g2⟩ := hs
  have g3 : c.s.size ≤ 281474976710656 := by omega
  have ep : primOk ⟨c.k, c.n, c.s, c.names, c.args⟩ = primOk c := rfl
  have gs : Nd.sm ⟨c.k, c.n, c.s, c.names, c.args⟩ := ⟨g1, g2⟩
  refine Con.of tok (nt := 168) Go.Proofs.Tryz.func179 (by kernel_rfl) rfl rfl rfl (Nat.le_of_ble_eq_true rfl) fun G => ?_
  simp only [entSt, tmOf, List.append_nil, List.cons_append, List.nil_append, Nd.av]
  repeat' (first
    | apply WPc.sq
    | apply WPc.block
    | (refine WPc.ret (endP.val (.inr rfl) rfl rfl (by simp; rfl) ?_))
    | apply WPc.skip
    | refine WPL.nil ?_
    | (apply WPL.cL (c_impl_inRange _ _ _); (case q => (repeat' (first | refine And.intro ?_ ?_ | intro _ | exact cleanOut_nil | (refine Eqv.mk ?_; first | rfl | (simp -implicitDefEqProofs [ep]; done)) | (simp -implicitDefEqProofs [ep]; done) | (simp -implicitDefEqProofs [ep]; rfl) | (simp; done) | (simp; rfl) | rfl))))
    | (apply WPL.cL (c_impl_symOk _ ?g1); (case q => (repeat' (first | refine And.intro ?_ ?_ | intro _ | exact cleanOut_nil | (refine Eqv.mk ?_; first | rfl | (simp -implicitDefEqProofs [ep]; done)) | (simp -implicitDefEqProofs [ep]; done) | (simp -implicitDefEqProofs [ep]; rfl) | (simp; done) | (simp; rfl) | rfl))); (case g1 => (first | assumption | omega)))
    | (apply WPL.cL (c_impl_IsName _ ?g1); (case q => (repeat' (first | refine And.intro ?_ ?_ | intro _ | exact cleanOut_nil | (refine Eqv.mk ?_; first | rfl | (simp -implicitDefEqProofs [ep]; done)) | (simp -implicitDefEqProofs [ep]; done) | (simp -implicitDefEqProofs [ep]; rfl) | (simp; done) | (simp; rfl) | rfl))); (case g1 => (first | assumption | omega)))
    | (apply WPL.cL (c_impl_namesOk _ _ ?g1); (case q => (repeat' (first | refine And.intro ?_ ?_ | intro _ | exact cleanOut_nil | (refine Eqv.mk ?_; first | rfl | (simp -implicitDefEqProofs [ep]; done)) | (simp -implicitDefEqProofs [ep]; done) | (simp -implicitDefEqProofs [ep]; rfl) | (simp; done) | (simp; rfl) | rfl))); (case g1 => (first | assumption | omega)))
    | (apply WPL.cL (c_impl_primOk ⟨_, _, _, _, _⟩ ?g1); (case q => (repeat' (first | refine And.intro ?_ ?_ | intro _ | exact cleanOut_nil | (refine Eqv.mk ?_; first | rfl | (simp -implicitDefEqProofs [ep]; done)) | (simp -implicitDefEqProofs [ep]; done) | (simp -implicitDefEqProofs [ep]; rfl) | (simp; done) | (simp; rfl) | rfl))); (case g1 => (first | assumption | omega)))
    | (refine WPL.call0f ?_ ?_ ?_; (focus (simp; done)); (focus (simp; done)))
    | ((first | refine WPc.rq tok rfl fun K hK => ?_ | refine WPL.rn tok _ (by simp [ahead, isFn]; rfl) fun K hK => ?_ | refine WPS.rn tok _ (by simp [aheadS]; rfl) fun K hK => ?_); simp -implicitDefEqProofs +contextual [-Int.not_le, -Int.not_lt, -Nat.not_le, -Nat.not_lt, -List.all_eq_true, -List.all_eq_false, -List.any_eq_true, -List.any_eq_false, ep]; (repeat1' (first | apply hK | apply And.intro | intro _)) <;> clear hK K <;> (try dsimp only [List.drop]))
    | (refine WPc.sched (id := 1) tok [] [(0, []), (1, []), (2, []), (3, []), (4, []), (5, []), (6, []), (7, []), (8, []), (9, []), (10, []), (11, []), (12, []), (13, []), (14, []), (15, []), (16, [])] (by kernel_rfl) ?_)
    | (refine WPS.nil ?_)
    | (refine WPc.region ?_; simp only [List.toList_toArray])
    | (refine WPc.cond (by simp [-Bool.not_eq_eq_eq_not]; rfl) (fun hq => ?_) (fun hq => ?_) <;> simp only [hq] <;> (try (exfalso; (simp only [decide_eq_true_eq, decide_eq_false_iff_not] at hq); omega))))
  all_goals (first | (simp_all [nodeOk, zs]; done) | (simp_all [nodeOk, zs]; omega) | trace_state)
theorem c_spec_l3Node (c : Nd) (hs : c.sm) : Con PP 162 [c.av] [] [] (fun r o => r = .sc (.bool (nodeOk c))) := by
  obtain ⟨g1, g2⟩ := hs
  have g3 : c.s.size ≤ 281474976710656 := by omega
  have ep : primOk ⟨c.k, c.n, c.s, c.names, c.args⟩ = primOk c := rfl
  have gs : Nd.sm ⟨c.k, c.n, c.s, c.names, c.args⟩ := ⟨g1, g2⟩
  refine Con.of tok (nt := 190) Go.Proofs.Tryz.func162 (by kernel_rfl) rfl rfl rfl (Nat.le_of_ble_eq_true rfl) fun G => ?_
  simp only [entSt, tmOf, List.append_nil, List.cons_append, List.nil_append, Nd.av]
  repeat' (first
    | apply WPc.sq
    | apply WPc.block
    | (refine WPc.ret (endP.val (.inr rfl) rfl rfl (by simp; rfl) ?_))
    | apply WPc.skip
    | refine WPL.nil ?_
    | (apply WPL.cL (c_spec_l1In _ _ _); (case q => (repeat' (first | refine And.intro ?_ ?_ | intro _ | exact cleanOut_nil | (refine Eqv.mk ?_; first | rfl | (simp -implicitDefEqProofs [ep]; done)) | (simp -implicitDefEqProofs [ep]; done) | (simp -implicitDefEqProofs [ep]; rfl) | (simp; done) | (simp; rfl) | rfl))))
    | (apply WPL.cL (c_spec_l2Sym _ ?g1); (case q => (repeat' (first | refine And.intro ?_ ?_ | intro _ | exact cleanOut_nil | (refine Eqv.mk ?_; first | rfl | (simp -implicitDefEqProofs [ep]; done)) | (simp -implicitDefEqProofs [ep]; done) | (simp -implicitDefEqProofs [ep]; rfl) | (simp; done) | (simp; rfl) | rfl))); (case g1 => (first | assumption | omega)))
    | (apply WPL.cL (c_spec_IsName _ ?g1); (case q => (repeat' (first | refine And.intro ?_ ?_ | intro _ | exact cleanOut_nil | (refine Eqv.mk ?_; first | rfl | (simp -implicitDefEqProofs [ep]; done)) | (simp -implicitDefEqProofs [ep]; done) | (simp -implicitDefEqProofs [ep]; rfl) | (simp; done) | (simp; rfl) | rfl))); (case g1 => (first | assumption | omega)))
    | (apply WPL.cL (c_spec_l3Names _ _ ?g1); (case q => (repeat' (first | refine And.intro ?_ ?_ | intro _ | exact cleanOut_nil | (refine Eqv.mk ?_; first | rfl | (simp -implicitDefEqProofs [ep]; done)) | (simp -implicitDefEqProofs [ep]; done) | (simp -implicitDefEqProofs [ep]; rfl) | (simp; done) | (simp; rfl) | rfl))); (case g1 => (first | assumption | omega)))
    | (apply WPL.cL (c_spec_l3Prim ⟨_, _, _, _, _⟩ ?g1); (case q => (repeat' (first | refine And.intro ?_ ?_ | intro _ | exact cleanOut_nil | (refine Eqv.mk ?_; first | rfl | (simp -implicitDefEqProofs [ep]; done)) | (simp -implicitDefEqProofs [ep]; done) | (simp -implicitDefEqProofs [ep]; rfl) | (simp; done) | (simp; rfl) | rfl))); (case g1 => (first | assumption | omega)))
    | (refine WPL.call0f ?_ ?_ ?_; (focus (simp; done)); (focus (simp; done)))
    | ((first | refine WPc.rq tok rfl fun K hK => ?_ | refine WPL.rn tok _ (by simp [ahead, isFn]; rfl) fun K hK => ?_); simp -implicitDefEqProofs +contextual [-Int.not_le, -Int.not_lt, -Nat.not_le, -Nat.not_lt, -List.all_eq_true, -List.all_eq_false, -List.any_eq_true, -List.any_eq_false, ep]; (repeat1' (first | apply hK | apply And.intro | intro _)) <;> clear hK K <;> (try dsimp only [List.drop]))
    | (refine WPc.region ?_; simp only [List.toList_toArray])
    | (refine WPc.cond (by simp [-Bool.not_eq_eq_eq_not]; rfl) (fun hq => ?_) (fun hq => ?_) <;> simp only [hq] <;> (try (exfalso; (simp only [decide_eq_true_eq, decide_eq_false_iff_not] at hq); omega))))
  all_goals (first | (simp_all [nodeOk, zs]; done) | (simp_all [nodeOk, zs]; omega) | trace_state)
end Go.Own
set_option maxRecDepth 1000000
set_option maxHeartbeats 4000000
namespace Go.Own
variable [Laid]
def bump (l : List Int) (a : Int) : List Int := l.modify a.toNat (· + 1)
def bumps (l : List Int) (xs : List Int) : List Int := xs.foldl bump l
def seenTo (ns : List Nd) (i : Nat) : List Int := (ns.take i).foldl (fun l c => bumps l c.args) (List.replicate ns.length 0)
def argsOk (i : Nat) (xs : List Int) : Bool := xs.all fun a => inRange a 0 ((i : Int) - 1)
def okNode (ns : List Nd) (i : Nat) : Bool := match ns[i]? with
  | some c => nodeOk c && argsOk i c.args
  | none => true
def progOk (p : Pg) : Bool := inRange p.nodes.length 1 400 && decide (p.root = (p.nodes.length : Int) - 1) && (List.range p.nodes.length).all (okNode p.nodes) && ((seenTo p.nodes p.nodes.length).take (p.nodes.length - 1)).all fun n => decide (n = 1)
@[simp] theorem bump_len (l : List Int) (a : Int) : (bump l a).length = l.length := by simp [bump]
@[simp] theorem bumps_len : ∀ (xs : List Int) (l : List Int), (bumps l xs).length = l.length
  | [], l => rfl
  | a :: xs, l => by rw [bumps, List.foldl_cons]; exact (bumps_len xs (bump l a)).trans (bump_len l a)
theorem seen_fold_len : ∀ (cs : List Nd) (l : List Int), (cs.foldl (fun l c => bumps l c.args) l).length = l.length
  | [], l => rfl
  | c :: cs, l => by rw [List.foldl_cons, seen_fold_len cs]; simp
@[simp] theorem seenTo_len (ns : List Nd) (i : Nat) : (seenTo ns i).length = ns.length := by rw [seenTo, seen_fold_len]; simp
theorem seenTo_zero (ns : List Nd) : seenTo ns 0 = List.replicate ns.length 0 := by simp [seenTo]
theorem seenTo_next {ns : List Nd} {i : Nat} (hi : i < ns.length) : seenTo ns (i + 1) = bumps (seenTo ns i) ns[i].args := by
  rw [seenTo, List.take_add_one, List.getElem?_eq_getElem hi, Option.toList_some, List.foldl_append]
  rfl
theorem bumps_zero (l : List Int) : bumps l [] = l := rfl
theorem bumps_next {l xs : List Int} {k : Nat} (hk : k < xs.length) : bumps l (xs.take (k + 1)) = bump (bumps l (xs.take k)) xs[k] := by
  rw [bumps, List.take_add_one, List.getElem?_eq_getElem hk, Option.toList_some, List.foldl_append]
  rfl
def bnd (B : Int) (l : List Int) : Prop := ∀ x, x ∈ l → 0 ≤ x ∧ x ≤ B
theorem mem_modify {α : Type} {l : List α} {i : Nat} {f : α → α} {x : α} (h : x ∈ l.modify i f) : x ∈ l ∨ ∃ y, y ∈ l ∧ x = f y := by
  obtain ⟨j, hj⟩ := List.mem_iff_getElem?.1 h
  rw [List.getElem?_modify] at hj
  cases hl : l[j]? with
  | none => simp [hl] at hj
  | some y =>
    simp [hl] at hj
    split at hj
    · exact .inr ⟨y, List.mem_iff_getElem?.2 ⟨j, hl⟩, hj.symm⟩
    · exact .inl (hj ▸ List.mem_iff_getElem?.2 ⟨j, hl⟩)
theorem bnd_bump {B : Int} {l : List Int} (h : bnd B l) (a : Int) : bnd (B + 1) (bump l a) := fun x hx => by
  rcases mem_modify hx with hx | ⟨y, hy, rfl⟩
  · have := h x hx; omega
  · have := h y hy; omega
theorem bnd_bumps : ∀ (xs : List Int) {B : Int} {l : List Int} (_ : bnd B l), bnd (B + xs.length) (bumps l xs)
  | [], B, l, h => by simpa [bumps] using h
  | a :: xs, B, l, h => by
    have := bnd_bumps xs (bnd_bump h a)
    rw [bumps, List.foldl_cons]
    intro x hx
    have := this x hx
    simp only [List.length_cons]
    omega
theorem bnd_fold (M : Nat) : ∀ (cs : List Nd) {B : Int} {l : List Int} (_ : bnd B l) (_ : ∀ c, c ∈ cs → c.args.length ≤ M), bnd (B + M * cs.length) (cs.foldl (fun l c => bumps l c.args) l)
  | [], B, l, h, _ => by simpa using h
  | c :: cs, B, l, h, hc => by
    have h1 := bnd_bumps c.args h
    have h2 := bnd_fold M cs h1 fun d hd => hc d (by simp [hd])
    have h3 := hc c (by simp)
    rw [List.foldl_cons]
    intro x hx
    have := h2 x hx
    simp only [List.length_cons]
    refine ⟨this.1, Int.le_trans this.2 ?_⟩
    have : (M : Int) * ((cs.length + 1 : Nat) : Int) = M * cs.length + M := by rw [Int.natCast_add, Int.mul_add]; simp
    rw [this]
    omega
theorem bnd_seen {ns : List Nd} {i : Nat} (hr : ∀ c, c ∈ ns → c.args.length ≤ 1000000000) (hi : i ≤ 400) : bnd 400000000000 (seenTo ns i) := by
  have h0 : bnd 0 (List.replicate ns.length (0 : Int)) := fun x hx => by
    have := List.eq_of_mem_replicate hx; omega
  have := bnd_fold 1000000000 (ns.take i) h0 fun c hc => hr c (List.mem_of_mem_take hc)
  intro x hx
  have := this x hx
  have hl : (ns.take i).length ≤ i := by simp; omega
  refine ⟨this.1, Int.le_trans this.2 ?_⟩
  have h2 : ((1000000000 : Nat) : Int) * ((ns.take i).length : Int) ≤ 1000000000 * 400 := by
    have : ((ns.take i).length : Int) ≤ 400 := by omega
    have := Int.mul_le_mul_of_nonneg_left this (show (0 : Int) ≤ ((1000000000 : Nat) : Int) by omega)
    simpa using this
  omega
theorem bump_ne {l : List Int} {a : Int} {j : Nat} (h : a.toNat ≠ j) : (bump l a)[j]? = l[j]? := by
  rw [bump, List.getElem?_modify]
  cases l[j]? with
  | none => rfl
  | some x => simp [h]
theorem bumps_ne {j : Nat} : ∀ (xs : List Int) (l : List Int), (∀ a, a ∈ xs → a.toNat ≠ j) → (bumps l xs)[j]? = l[j]?
  | [], l, _ => rfl
  | a :: xs, l, h => by
    rw [bumps, List.foldl_cons]
    exact (bumps_ne xs (bump l a) fun b hb => h b (by simp [hb])).trans (bump_ne (h a (by simp)))
theorem seen_last {ns : List Nd} (h0 : 0 < ns.length) (hall : ∀ i, i < ns.length → okNode ns i = true) : ∀ i, i ≤ ns.length → (seenTo ns i)[ns.length - 1]? = some 0
  | 0, _ => by rw [seenTo_zero, List.getElem?_replicate, if_pos (by omega)]
  | i + 1, hi => by
    rw [seenTo_next (show i < ns.length by omega), bumps_ne]
    · exact seen_last h0 hall i (by omega)
    · intro a ha
      have := hall i (by omega)
      simp only [okNode, List.getElem?_eq_getElem (show i < ns.length by omega), Bool.and_eq_true] at this
      have := List.all_eq_true.1 this.2 a ha
      simp only [inRange, Bool.and_eq_true, decide_eq_true_eq] at this
      omega
theorem okNode_eq {ns : List Nd} {i : Nat} (hi : i < ns.length) : okNode ns i = (nodeOk ns[i] && argsOk i ns[i].args) := by simp [okNode, hi]
theorem progOk_node {p : Pg} {i : Nat} (hi : i < p.nodes.length) (h : okNode p.nodes i = false) : progOk p = false := by
  have hv : (List.range p.nodes.length)[i]? = some i := List.getElem?_range hi
  simp [progOk, all_at hv h]
theorem progOk_len {p : Pg} (h : inRange p.nodes.length 1 400 = false) : progOk p = false := by simp [progOk, h]
theorem progOk_root {p : Pg} (h : ¬ p.root = (p.nodes.length : Int) - 1) : progOk p = false := by simp [progOk, h]
theorem progOk_seen {p : Pg} {i : Nat} (hi : i < p.nodes.length - 1) {x : Int} (hx : (seenTo p.nodes p.nodes.length)[i]? = some x) (h : ¬ x = 1) : progOk p = false := by
  have hv : ((seenTo p.nodes p.nodes.length).take (p.nodes.length - 1))[i]? = some x := by rw [List.getElem?_take_of_lt hi, hx]
  rw [progOk, all_at hv (by simp [h]), Bool.and_false]
theorem progOk_yes {p : Pg} (h1 : inRange p.nodes.length 1 400 = true) (h2 : p.root = (p.nodes.length : Int) - 1) (h3 : ∀ i, i < p.nodes.length → okNode p.nodes i = true) (h4 : ((seenTo p.nodes p.nodes.length).take (p.nodes.length - 1)).all (fun n => decide (n = 1)) = true) : progOk p = true := by
  have : (List.range p.nodes.length).all (okNode p.nodes) = true := List.all_eq_true.2 fun i hi => h3 i (List.mem_range.1 hi)
  rw [progOk, h1, this, h4, decide_eq_true h2]; rfl
theorem modify_nC {l : List Int} {i : Nat} (hi : i < l.length) : (l.map nC).modify i (fun r => r.set 0 (.sc (.int .i64 (l[i] + 1)))) = (l.modify i (· + 1)).map nC := by
  apply List.ext_getElem?
  intro j
  rw [List.getElem?_modify, List.getElem?_map, List.getElem?_map, List.getElem?_modify]
  cases hj : l[j]? with
  | none => rfl
  | some c =>
    simp only [Option.map_some, Option.map_eq_map]
    split
    · rename_i e; subst e
      rw [List.getElem?_eq_getElem hi] at hj
      injection hj with hj
      subst hj
      rfl
    · rfl
end Go.Own
set_option maxRecDepth 1000000
set_option maxHeartbeats 4000000
namespace Go.Own
attribute [local irreducible] WPc WPL WPS WPS1 WPS2 HAny endP
variable [Laid]
open Go.Lib Go.RowKit
def Pg.tx (p : Pg) : Prop := ∀ c, c ∈ p.nodes → c.tx
structure Pg.rm (p : Pg) : Prop where
  nodes : p.nodes.length ≤ 1000000000
  nodes1 : ∀ c, c ∈ p.nodes → c.rm
theorem szR_cases (x : Int) (c : Nat) : ((c : Int) ≤ x ∧ szR x c = x - c) ∨ (x < c ∧ szR x c = -1) := by
  unfold szR
  split <;> omega
@[simp] theorem dzc_Cl (h : List Cl) : dzLL (h.map Cl.cs) = h.map Cl.cs := by
  rw [dzLL_map, List.map_map]
  refine List.map_congr_left fun c _ => ?_
  simp [Cl.cs, dzL, deepFz, dz_sC, dz_V]
@[simp] theorem dzc_Nd (h : List Nd) : dzLL (h.map Nd.cs) = h.map Nd.cs := by
  rw [dzLL_map, List.map_map]
  refine List.map_congr_left fun c _ => ?_
  simp [Nd.cs, dzL, deepFz, dz_sC]
attribute [simp] dzL deepFz
structure Lk where
  name : ByteArray
  inst : Int
  tgt : ByteArray
  deriving DecidableEq
def Lk.cs (c : Lk) : List C := [.sc (.string c.name), .sc (.int .i64 c.inst), .sc (.string c.tgt)]
def Lk.av (c : Lk) : AV := .agg [.sc (.string c.name), .sc (.int .i64 c.inst), .sc (.string c.tgt)]
@[simp] theorem Lk.len (c : Lk) : c.cs.length = 3 := rfl
@[simp] theorem Lk.frz (c : Lk) : c.cs.map Own.frz = c.cs := rfl
@[simp] theorem Lk.pln (c : Lk) : c.cs.all plainC = true := rfl
@[simp] theorem Lk.lenA (l : List Lk) : lenAll 3 (l.map Lk.cs) = true := lenAll_map Lk.len l
@[simp] theorem Lk.frzA (l : List Lk) : frzAll (l.map Lk.cs) = l.map Lk.cs := frzAll_map Lk.frz l
@[simp] theorem Lk.plnA (l : List Lk) : plainAll (l.map Lk.cs) = true := plainAll_map Lk.pln l
@[simp] theorem dz_Lk (h : List Lk) : dzLL (h.map Lk.cs) = h.map Lk.cs := by rw [dzLL_map, List.map_map]; rfl
@[simp] theorem sc_Lk (l : List Lk) : scLL (l.map Lk.cs) = true := by
  induction l with
  | nil => rfl
  | cons x l ih => simp only [List.map_cons, scLL, ih]; rfl
@[simp] theorem dz_Lk1 (h : List Lk) : dzLL (List.take h.length (h.map Lk.cs)) = h.map Lk.cs := by
  rw [List.take_of_length_le (by simp), dz_Lk]
structure Lk.tx (c : Lk) : Prop where
  name : c.name.size ≤ 9223372036854775807
  tgt : c.tgt.size ≤ 9223372036854775807
def costLk (c : Lk) : Nat := c.name.size + c.tgt.size
def costLkS (l : List Lk) : Nat := l.length + (l.map costLk).sum
structure Ty where
  name : ByteArray
  size : Int
  deriving DecidableEq
def Ty.cs (c : Ty) : List C := [.sc (.string c.name), .sc (.int .i64 c.size)]
def Ty.av (c : Ty) : AV := .agg [.sc (.string c.name), .sc (.int .i64 c.size)]
@[simp] theorem Ty.len (c : Ty) : c.cs.length = 2 := rfl
@[simp] theorem Ty.frz (c : Ty) : c.cs.map Own.frz = c.cs := rfl
@[simp] theorem Ty.pln (c : Ty) : c.cs.all plainC = true := rfl
@[simp] theorem Ty.lenA (l : List Ty) : lenAll 2 (l.map Ty.cs) = true := lenAll_map Ty.len l
@[simp] theorem Ty.frzA (l : List Ty) : frzAll (l.map Ty.cs) = l.map Ty.cs := frzAll_map Ty.frz l
@[simp] theorem Ty.plnA (l : List Ty) : plainAll (l.map Ty.cs) = true := plainAll_map Ty.pln l
@[simp] theorem dz_Ty (h : List Ty) : dzLL (h.map Ty.cs) = h.map Ty.cs := by rw [dzLL_map, List.map_map]; rfl
@[simp] theorem sc_Ty (l : List Ty) : scLL (l.map Ty.cs) = true := by
  induction l with
  | nil => rfl
  | cons x l ih => simp only [List.map_cons, scLL, ih]; rfl
@[simp] theorem dz_Ty1 (h : List Ty) : dzLL (List.take h.length (h.map Ty.cs)) = h.map Ty.cs := by
  rw [List.take_of_length_le (by simp), dz_Ty]
structure Ty.tx (c : Ty) : Prop where
  name : c.name.size ≤ 9223372036854775807
def costTy (c : Ty) : Nat := c.name.size
def costTyS (l : List Ty) : Nat := l.length + (l.map costTy).sum
structure In where
  lib : ByteArray
  ver : Int
  names : List ByteArray
  vals : List V
  links : List Lk
  types : List Ty
  deriving DecidableEq
def In.cs (c : In) : List C := [.sc (.string c.lib), .sc (.int .i64 c.ver), .fz (c.names.map sC), .fz (c.vals.map V.cs), .fz (c.links.map Lk.cs), .fz (c.types.map Ty.cs)]
def In.av (c : In) : AV := .agg [.sc (.string c.lib), .sc (.int .i64 c.ver), .fz (c.names.map sC), .fz (c.vals.map V.cs), .fz (c.links.map Lk.cs), .fz (c.types.map Ty.cs)]
@[simp] theorem In.len (c : In) : c.cs.length = 6 := rfl
@[simp] theorem In.frz (c : In) : c.cs.map Own.frz = c.cs := rfl
@[simp] theorem In.pln (c : In) : c.cs.all plainC = true := rfl
@[simp] theorem In.lenA (l : List In) : lenAll 6 (l.map In.cs) = true := lenAll_map In.len l
@[simp] theorem In.frzA (l : List In) : frzAll (l.map In.cs) = l.map In.cs := frzAll_map In.frz l
@[simp] theorem In.plnA (l : List In) : plainAll (l.map In.cs) = true := plainAll_map In.pln l
def In.ow (c : In) : List C := [.sc (.string c.lib), .sc (.int .i64 c.ver), .sl 9 1 (c.names.map sC), .sl 44 3 (c.vals.map V.cs), .sl 223 3 (c.links.map Lk.cs), .sl 208 2 (c.types.map Ty.cs)]
@[simp] theorem In.lenO (c : In) : c.ow.length = 6 := rfl
@[simp] theorem In.lenOA (l : List In) : lenAll 6 (l.map In.ow) = true := lenAll_map In.lenO l
@[simp] theorem dz_In (h : List In) : dzLL (h.map In.ow) = h.map In.cs := by
  rw [dzLL_map, List.map_map]
  refine List.map_congr_left fun c _ => ?_
  simp [In.ow, In.cs, dzL, deepFz, dz_sC, dz_V]
@[simp] theorem sc_In (l : List In) : scLL (l.map In.ow) = true := by
  induction l with
  | nil => rfl
  | cons x l ih => simp [List.map_cons, scLL, ih, In.ow, scL, scC, sc_sC, sc_nC, sc_V]
@[simp] theorem dzc_In (h : List In) : dzLL (h.map In.cs) = h.map In.cs := by
  rw [dzLL_map, List.map_map]
  refine List.map_congr_left fun c _ => ?_
  simp [In.cs, dzL, deepFz, dz_sC, dz_V]
@[simp] theorem dz_In1 (h : List In) : dzLL (List.take h.length (h.map In.ow)) = h.map In.cs := by
  rw [List.take_of_length_le (by simp), dz_In]
structure In.tx (c : In) : Prop where
  lib : c.lib.size ≤ 9223372036854775807
  names : ∀ x, x ∈ c.names → x.size ≤ 9223372036854775807
  vals : ∀ x, x ∈ c.vals → x.s.size ≤ 9223372036854775807
  links : ∀ x, x ∈ c.links → x.tx
  types : ∀ x, x ∈ c.types → x.tx
structure In.rm (c : In) : Prop where
  names : c.names.length ≤ 1000000000
  vals : c.vals.length ≤ 1000000000
  links : c.links.length ≤ 1000000000
  types : c.types.length ≤ 1000000000
def costIn (c : In) : Nat := c.lib.size + costS c.names + costV c.vals + costLkS c.links + costTyS c.types
def costInS (l : List In) : Nat := l.length + (l.map costIn).sum
structure Un where
  home : Int
  prog : Pg
  deriving DecidableEq
def Un.cs (c : Un) : List C := [.sc (.int .i64 c.home), .fz (c.prog.nodes.map Nd.cs), .sc (.int .i64 c.prog.root)]
def Un.av (c : Un) : AV := .agg [.sc (.int .i64 c.home), .fz (c.prog.nodes.map Nd.cs), .sc (.int .i64 c.prog.root)]
@[simp] theorem Un.len (c : Un) : c.cs.length = 3 := rfl
@[simp] theorem Un.frz (c : Un) : c.cs.map Own.frz = c.cs := rfl
@[simp] theorem Un.pln (c : Un) : c.cs.all plainC = true := rfl
@[simp] theorem Un.lenA (l : List Un) : lenAll 3 (l.map Un.cs) = true := lenAll_map Un.len l
@[simp] theorem Un.frzA (l : List Un) : frzAll (l.map Un.cs) = l.map Un.cs := frzAll_map Un.frz l
@[simp] theorem Un.plnA (l : List Un) : plainAll (l.map Un.cs) = true := plainAll_map Un.pln l
def Un.ow (c : Un) : List C := [.sc (.int .i64 c.home), .sl 174 5 (c.prog.nodes.map Nd.ow), .sc (.int .i64 c.prog.root)]
@[simp] theorem Un.lenO (c : Un) : c.ow.length = 3 := rfl
@[simp] theorem Un.lenOA (l : List Un) : lenAll 3 (l.map Un.ow) = true := lenAll_map Un.lenO l
@[simp] theorem dz_Un (h : List Un) : dzLL (h.map Un.ow) = h.map Un.cs := by
  rw [dzLL_map, List.map_map]
  refine List.map_congr_left fun c _ => ?_
  simp [Un.ow, Un.cs, dzL, deepFz, dz_sC, dz_V]
@[simp] theorem sc_Un (l : List Un) : scLL (l.map Un.ow) = true := by
  induction l with
  | nil => rfl
  | cons x l ih => simp [List.map_cons, scLL, ih, Un.ow, scL, scC, sc_sC, sc_nC, sc_V]
@[simp] theorem dzc_Un (h : List Un) : dzLL (h.map Un.cs) = h.map Un.cs := by
  rw [dzLL_map, List.map_map]
  refine List.map_congr_left fun c _ => ?_
  simp [Un.cs, dzL, deepFz, dz_sC, dz_V]
@[simp] theorem dz_Un1 (h : List Un) : dzLL (List.take h.length (h.map Un.ow)) = h.map Un.cs := by
  rw [List.take_of_length_le (by simp), dz_Un]
structure Un.tx (c : Un) : Prop where
  prog : c.prog.tx
structure Un.rm (c : Un) : Prop where
  prog : c.prog.rm
def costUn (c : Un) : Nat := costP c.prog.nodes
def costUnS (l : List Un) : Nat := l.length + (l.map costUn).sum
structure Sy where
  heap : List Cl
  insts : List In
  units : List Un
  out : List ByteArray
def Sy.cs (c : Sy) : List C := [.fz (c.heap.map Cl.cs), .fz (c.insts.map In.cs), .fz (c.units.map Un.cs), .fz (c.out.map sC)]
def Sy.av (c : Sy) : AV := .agg [.fz (c.heap.map Cl.cs), .fz (c.insts.map In.cs), .fz (c.units.map Un.cs), .fz (c.out.map sC)]
@[simp] theorem Sy.len (c : Sy) : c.cs.length = 4 := rfl
@[simp] theorem Sy.frz (c : Sy) : c.cs.map Own.frz = c.cs := rfl
@[simp] theorem Sy.pln (c : Sy) : c.cs.all plainC = true := rfl
@[simp] theorem Sy.lenA (l : List Sy) : lenAll 4 (l.map Sy.cs) = true := lenAll_map Sy.len l
@[simp] theorem Sy.frzA (l : List Sy) : frzAll (l.map Sy.cs) = l.map Sy.cs := frzAll_map Sy.frz l
@[simp] theorem Sy.plnA (l : List Sy) : plainAll (l.map Sy.cs) = true := plainAll_map Sy.pln l
def Sy.ow (c : Sy) : List C := [.sl 171 6 (c.heap.map Cl.ow), .sl 114 6 (c.insts.map In.ow), .sl 168 3 (c.units.map Un.ow), .sl 9 1 (c.out.map sC)]
@[simp] theorem Sy.lenO (c : Sy) : c.ow.length = 4 := rfl
@[simp] theorem Sy.lenOA (l : List Sy) : lenAll 4 (l.map Sy.ow) = true := lenAll_map Sy.lenO l
@[simp] theorem dz_Sy (h : List Sy) : dzLL (h.map Sy.ow) = h.map Sy.cs := by
  rw [dzLL_map, List.map_map]
  refine List.map_congr_left fun c _ => ?_
  simp [Sy.ow, Sy.cs, dzL, deepFz, dz_sC, dz_V]
@[simp] theorem sc_Sy (l : List Sy) : scLL (l.map Sy.ow) = true := by
  induction l with
  | nil => rfl
  | cons x l ih => simp [List.map_cons, scLL, ih, Sy.ow, scL, scC, sc_sC, sc_nC, sc_V]
@[simp] theorem dzc_Sy (h : List Sy) : dzLL (h.map Sy.cs) = h.map Sy.cs := by
  rw [dzLL_map, List.map_map]
  refine List.map_congr_left fun c _ => ?_
  simp [Sy.cs, dzL, deepFz, dz_sC, dz_V]
@[simp] theorem dz_Sy1 (h : List Sy) : dzLL (List.take h.length (h.map Sy.ow)) = h.map Sy.cs := by
  rw [List.take_of_length_le (by simp), dz_Sy]
structure Sy.tx (c : Sy) : Prop where
  heap : ∀ x, x ∈ c.heap → x.tx
  insts : ∀ x, x ∈ c.insts → x.tx
  units : ∀ x, x ∈ c.units → x.tx
  out : ∀ x, x ∈ c.out → x.size ≤ 9223372036854775807
structure Sy.rm (c : Sy) : Prop where
  heap : c.heap.length ≤ 1000000000
  heap1 : ∀ x, x ∈ c.heap → x.rm
  insts : c.insts.length ≤ 1000000000
  insts1 : ∀ x, x ∈ c.insts → x.rm
  units : c.units.length ≤ 1000000000
  units1 : ∀ x, x ∈ c.units → x.rm
  out : c.out.length ≤ 1000000000
def costSy (c : Sy) : Nat := costH c.heap + costInS c.insts + costUnS c.units + costS c.out
structure Bd where
  name : ByteArray
  val : V
  deriving DecidableEq
def Bd.cs (c : Bd) : List C := [.sc (.string c.name), .sc (.int .i64 c.val.k), .sc (.int .i64 c.val.n), .sc (.string c.val.s)]
def Bd.av (c : Bd) : AV := .agg [.sc (.string c.name), .sc (.int .i64 c.val.k), .sc (.int .i64 c.val.n), .sc (.string c.val.s)]
@[simp] theorem Bd.len (c : Bd) : c.cs.length = 4 := rfl
@[simp] theorem Bd.frz (c : Bd) : c.cs.map Own.frz = c.cs := rfl
@[simp] theorem Bd.pln (c : Bd) : c.cs.all plainC = true := rfl
@[simp] theorem Bd.lenA (l : List Bd) : lenAll 4 (l.map Bd.cs) = true := lenAll_map Bd.len l
@[simp] theorem Bd.frzA (l : List Bd) : frzAll (l.map Bd.cs) = l.map Bd.cs := frzAll_map Bd.frz l
@[simp] theorem Bd.plnA (l : List Bd) : plainAll (l.map Bd.cs) = true := plainAll_map Bd.pln l
@[simp] theorem dz_Bd (h : List Bd) : dzLL (h.map Bd.cs) = h.map Bd.cs := by rw [dzLL_map, List.map_map]; rfl
@[simp] theorem sc_Bd (l : List Bd) : scLL (l.map Bd.cs) = true := by
  induction l with
  | nil => rfl
  | cons x l ih => simp only [List.map_cons, scLL, ih]; rfl
@[simp] theorem dz_Bd1 (h : List Bd) : dzLL (List.take h.length (h.map Bd.cs)) = h.map Bd.cs := by
  rw [List.take_of_length_le (by simp), dz_Bd]
structure Bd.tx (c : Bd) : Prop where
  name : c.name.size ≤ 9223372036854775807
  val : c.val.s.size ≤ 9223372036854775807
def costBd (c : Bd) : Nat := c.name.size + c.val.s.size
def costBdS (l : List Bd) : Nat := l.length + (l.map costBd).sum
structure Fm where
  unit : Int
  node : Int
  vals : List V
  env : List Bd
  deriving DecidableEq
def Fm.cs (c : Fm) : List C := [.sc (.int .i64 c.unit), .sc (.int .i64 c.node), .fz (c.vals.map V.cs), .fz (c.env.map Bd.cs)]
def Fm.av (c : Fm) : AV := .agg [.sc (.int .i64 c.unit), .sc (.int .i64 c.node), .fz (c.vals.map V.cs), .fz (c.env.map Bd.cs)]
@[simp] theorem Fm.len (c : Fm) : c.cs.length = 4 := rfl
@[simp] theorem Fm.frz (c : Fm) : c.cs.map Own.frz = c.cs := rfl
@[simp] theorem Fm.pln (c : Fm) : c.cs.all plainC = true := rfl
@[simp] theorem Fm.lenA (l : List Fm) : lenAll 4 (l.map Fm.cs) = true := lenAll_map Fm.len l
@[simp] theorem Fm.frzA (l : List Fm) : frzAll (l.map Fm.cs) = l.map Fm.cs := frzAll_map Fm.frz l
@[simp] theorem Fm.plnA (l : List Fm) : plainAll (l.map Fm.cs) = true := plainAll_map Fm.pln l
def Fm.ow (c : Fm) : List C := [.sc (.int .i64 c.unit), .sc (.int .i64 c.node), .sl 44 3 (c.vals.map V.cs), .sl 177 4 (c.env.map Bd.cs)]
@[simp] theorem Fm.lenO (c : Fm) : c.ow.length = 4 := rfl
@[simp] theorem Fm.lenOA (l : List Fm) : lenAll 4 (l.map Fm.ow) = true := lenAll_map Fm.lenO l
@[simp] theorem dz_Fm (h : List Fm) : dzLL (h.map Fm.ow) = h.map Fm.cs := by
  rw [dzLL_map, List.map_map]
  refine List.map_congr_left fun c _ => ?_
  simp [Fm.ow, Fm.cs, dzL, deepFz, dz_sC, dz_V]
@[simp] theorem sc_Fm (l : List Fm) : scLL (l.map Fm.ow) = true := by
  induction l with
  | nil => rfl
  | cons x l ih => simp [List.map_cons, scLL, ih, Fm.ow, scL, scC, sc_sC, sc_nC, sc_V]
@[simp] theorem dzc_Fm (h : List Fm) : dzLL (h.map Fm.cs) = h.map Fm.cs := by
  rw [dzLL_map, List.map_map]
  refine List.map_congr_left fun c _ => ?_
  simp [Fm.cs, dzL, deepFz, dz_sC, dz_V]
@[simp] theorem dz_Fm1 (h : List Fm) : dzLL (List.take h.length (h.map Fm.ow)) = h.map Fm.cs := by
  rw [List.take_of_length_le (by simp), dz_Fm]
structure Fm.tx (c : Fm) : Prop where
  vals : ∀ x, x ∈ c.vals → x.s.size ≤ 9223372036854775807
  env : ∀ x, x ∈ c.env → x.tx
structure Fm.rm (c : Fm) : Prop where
  vals : c.vals.length ≤ 1000000000
  env : c.env.length ≤ 1000000000
def costFm (c : Fm) : Nat := costV c.vals + costBdS c.env
def costFmS (l : List Fm) : Nat := l.length + (l.map costFm).sum
structure Mc where
  mode : Int
  unit : Int
  node : Int
  env : List Bd
  val : V
  stack : List Fm
  fin : Int
  deriving DecidableEq
def Mc.cs (c : Mc) : List C := [.sc (.int .i64 c.mode), .sc (.int .i64 c.unit), .sc (.int .i64 c.node), .fz (c.env.map Bd.cs), .sc (.int .i64 c.val.k), .sc (.int .i64 c.val.n), .sc (.string c.val.s), .fz (c.stack.map Fm.cs), .sc (.int .i64 c.fin)]
def Mc.av (c : Mc) : AV := .agg [.sc (.int .i64 c.mode), .sc (.int .i64 c.unit), .sc (.int .i64 c.node), .fz (c.env.map Bd.cs), .sc (.int .i64 c.val.k), .sc (.int .i64 c.val.n), .sc (.string c.val.s), .fz (c.stack.map Fm.cs), .sc (.int .i64 c.fin)]
@[simp] theorem Mc.len (c : Mc) : c.cs.length = 9 := rfl
@[simp] theorem Mc.frz (c : Mc) : c.cs.map Own.frz = c.cs := rfl
@[simp] theorem Mc.pln (c : Mc) : c.cs.all plainC = true := rfl
@[simp] theorem Mc.lenA (l : List Mc) : lenAll 9 (l.map Mc.cs) = true := lenAll_map Mc.len l
@[simp] theorem Mc.frzA (l : List Mc) : frzAll (l.map Mc.cs) = l.map Mc.cs := frzAll_map Mc.frz l
@[simp] theorem Mc.plnA (l : List Mc) : plainAll (l.map Mc.cs) = true := plainAll_map Mc.pln l
def Mc.ow (c : Mc) : List C := [.sc (.int .i64 c.mode), .sc (.int .i64 c.unit), .sc (.int .i64 c.node), .sl 177 4 (c.env.map Bd.cs), .sc (.int .i64 c.val.k), .sc (.int .i64 c.val.n), .sc (.string c.val.s), .sl 86 4 (c.stack.map Fm.ow), .sc (.int .i64 c.fin)]
@[simp] theorem Mc.lenO (c : Mc) : c.ow.length = 9 := rfl
@[simp] theorem Mc.lenOA (l : List Mc) : lenAll 9 (l.map Mc.ow) = true := lenAll_map Mc.lenO l
@[simp] theorem dz_Mc (h : List Mc) : dzLL (h.map Mc.ow) = h.map Mc.cs := by
  rw [dzLL_map, List.map_map]
  refine List.map_congr_left fun c _ => ?_
  simp [Mc.ow, Mc.cs, dzL, deepFz, dz_sC, dz_V]
@[simp] theorem sc_Mc (l : List Mc) : scLL (l.map Mc.ow) = true := by
  induction l with
  | nil => rfl
  | cons x l ih => simp [List.map_cons, scLL, ih, Mc.ow, scL, scC, sc_sC, sc_nC, sc_V]
@[simp] theorem dzc_Mc (h : List Mc) : dzLL (h.map Mc.cs) = h.map Mc.cs := by
  rw [dzLL_map, List.map_map]
  refine List.map_congr_left fun c _ => ?_
  simp [Mc.cs, dzL, deepFz, dz_sC, dz_V]
@[simp] theorem dz_Mc1 (h : List Mc) : dzLL (List.take h.length (h.map Mc.ow)) = h.map Mc.cs := by
  rw [List.take_of_length_le (by simp), dz_Mc]
structure Mc.tx (c : Mc) : Prop where
  env : ∀ x, x ∈ c.env → x.tx
  val : c.val.s.size ≤ 9223372036854775807
  stack : ∀ x, x ∈ c.stack → x.tx
structure Mc.rm (c : Mc) : Prop where
  env : c.env.length ≤ 1000000000
  stack : c.stack.length ≤ 1000000000
  stack1 : ∀ x, x ∈ c.stack → x.rm
def costMc (c : Mc) : Nat := costBdS c.env + c.val.s.size + costFmS c.stack
structure Df where
  name : ByteArray
  prog : Pg
  deriving DecidableEq
def Df.cs (c : Df) : List C := [.sc (.string c.name), .fz (c.prog.nodes.map Nd.cs), .sc (.int .i64 c.prog.root)]
def Df.av (c : Df) : AV := .agg [.sc (.string c.name), .fz (c.prog.nodes.map Nd.cs), .sc (.int .i64 c.prog.root)]
@[simp] theorem Df.len (c : Df) : c.cs.length = 3 := rfl
@[simp] theorem Df.frz (c : Df) : c.cs.map Own.frz = c.cs := rfl
@[simp] theorem Df.pln (c : Df) : c.cs.all plainC = true := rfl
@[simp] theorem Df.lenA (l : List Df) : lenAll 3 (l.map Df.cs) = true := lenAll_map Df.len l
@[simp] theorem Df.frzA (l : List Df) : frzAll (l.map Df.cs) = l.map Df.cs := frzAll_map Df.frz l
@[simp] theorem Df.plnA (l : List Df) : plainAll (l.map Df.cs) = true := plainAll_map Df.pln l
def Df.ow (c : Df) : List C := [.sc (.string c.name), .sl 174 5 (c.prog.nodes.map Nd.ow), .sc (.int .i64 c.prog.root)]
@[simp] theorem Df.lenO (c : Df) : c.ow.length = 3 := rfl
@[simp] theorem Df.lenOA (l : List Df) : lenAll 3 (l.map Df.ow) = true := lenAll_map Df.lenO l
@[simp] theorem dz_Df (h : List Df) : dzLL (h.map Df.ow) = h.map Df.cs := by
  rw [dzLL_map, List.map_map]
  refine List.map_congr_left fun c _ => ?_
  simp [Df.ow, Df.cs, dzL, deepFz, dz_sC, dz_V]
@[simp] theorem sc_Df (l : List Df) : scLL (l.map Df.ow) = true := by
  induction l with
  | nil => rfl
  | cons x l ih => simp [List.map_cons, scLL, ih, Df.ow, scL, scC, sc_sC, sc_nC, sc_V]
@[simp] theorem dzc_Df (h : List Df) : dzLL (h.map Df.cs) = h.map Df.cs := by
  rw [dzLL_map, List.map_map]
  refine List.map_congr_left fun c _ => ?_
  simp [Df.cs, dzL, deepFz, dz_sC, dz_V]
@[simp] theorem dz_Df1 (h : List Df) : dzLL (List.take h.length (h.map Df.ow)) = h.map Df.cs := by
  rw [List.take_of_length_le (by simp), dz_Df]
structure Df.tx (c : Df) : Prop where
  name : c.name.size ≤ 9223372036854775807
  prog : c.prog.tx
structure Df.rm (c : Df) : Prop where
  prog : c.prog.rm
structure Sr where
  name : ByteArray
  imports : List ByteArray
  exports : List ByteArray
  types : List Ty
  defs : List Df
  convs : List Df
  deriving DecidableEq
def Sr.cs (c : Sr) : List C := [.sc (.string c.name), .fz (c.imports.map sC), .fz (c.exports.map sC), .fz (c.types.map Ty.cs), .fz (c.defs.map Df.cs), .fz (c.convs.map Df.cs)]
def Sr.av (c : Sr) : AV := .agg [.sc (.string c.name), .fz (c.imports.map sC), .fz (c.exports.map sC), .fz (c.types.map Ty.cs), .fz (c.defs.map Df.cs), .fz (c.convs.map Df.cs)]
@[simp] theorem Sr.len (c : Sr) : c.cs.length = 6 := rfl
@[simp] theorem Sr.frz (c : Sr) : c.cs.map Own.frz = c.cs := rfl
@[simp] theorem Sr.pln (c : Sr) : c.cs.all plainC = true := rfl
@[simp] theorem Sr.lenA (l : List Sr) : lenAll 6 (l.map Sr.cs) = true := lenAll_map Sr.len l
@[simp] theorem Sr.frzA (l : List Sr) : frzAll (l.map Sr.cs) = l.map Sr.cs := frzAll_map Sr.frz l
@[simp] theorem Sr.plnA (l : List Sr) : plainAll (l.map Sr.cs) = true := plainAll_map Sr.pln l
def Sr.ow (c : Sr) : List C := [.sc (.string c.name), .sl 9 1 (c.imports.map sC), .sl 9 1 (c.exports.map sC), .sl 208 2 (c.types.map Ty.cs), .sl 210 3 (c.defs.map Df.ow), .sl 210 3 (c.convs.map Df.ow)]
@[simp] theorem Sr.lenO (c : Sr) : c.ow.length = 6 := rfl
@[simp] theorem Sr.lenOA (l : List Sr) : lenAll 6 (l.map Sr.ow) = true := lenAll_map Sr.lenO l
@[simp] theorem dz_Sr (h : List Sr) : dzLL (h.map Sr.ow) = h.map Sr.cs := by
  rw [dzLL_map, List.map_map]
  refine List.map_congr_left fun c _ => ?_
  simp [Sr.ow, Sr.cs, dzL, deepFz, dz_sC, dz_V]
@[simp] theorem sc_Sr (l : List Sr) : scLL (l.map Sr.ow) = true := by
  induction l with
  | nil => rfl
  | cons x l ih => simp [List.map_cons, scLL, ih, Sr.ow, scL, scC, sc_sC, sc_nC, sc_V]
@[simp] theorem dzc_Sr (h : List Sr) : dzLL (h.map Sr.cs) = h.map Sr.cs := by
  rw [dzLL_map, List.map_map]
  refine List.map_congr_left fun c _ => ?_
  simp [Sr.cs, dzL, deepFz, dz_sC, dz_V]
@[simp] theorem dz_Sr1 (h : List Sr) : dzLL (List.take h.length (h.map Sr.ow)) = h.map Sr.cs := by
  rw [List.take_of_length_le (by simp), dz_Sr]
structure Sr.tx (c : Sr) : Prop where
  name : c.name.size ≤ 9223372036854775807
  imports : ∀ x, x ∈ c.imports → x.size ≤ 9223372036854775807
  exports : ∀ x, x ∈ c.exports → x.size ≤ 9223372036854775807
  types : ∀ x, x ∈ c.types → x.tx
  defs : ∀ x, x ∈ c.defs → x.tx
  convs : ∀ x, x ∈ c.convs → x.tx
structure Sr.rm (c : Sr) : Prop where
  imports : c.imports.length ≤ 1000000000
  exports : c.exports.length ≤ 1000000000
  types : c.types.length ≤ 1000000000
  defs : c.defs.length ≤ 1000000000
  defs1 : ∀ x, x ∈ c.defs → x.rm
  convs : c.convs.length ≤ 1000000000
  convs1 : ∀ x, x ∈ c.convs → x.rm
structure En where
  src : Sr
  ver : Int
  inst : Int
  deriving DecidableEq
def En.cs (c : En) : List C := [.sc (.string c.src.name), .fz (c.src.imports.map sC), .fz (c.src.exports.map sC), .fz (c.src.types.map Ty.cs), .fz (c.src.defs.map Df.cs), .fz (c.src.convs.map Df.cs), .sc (.int .i64 c.ver), .sc (.int .i64 c.inst)]
def En.av (c : En) : AV := .agg [.sc (.string c.src.name), .fz (c.src.imports.map sC), .fz (c.src.exports.map sC), .fz (c.src.types.map Ty.cs), .fz (c.src.defs.map Df.cs), .fz (c.src.convs.map Df.cs), .sc (.int .i64 c.ver), .sc (.int .i64 c.inst)]
@[simp] theorem En.len (c : En) : c.cs.length = 8 := rfl
@[simp] theorem En.frz (c : En) : c.cs.map Own.frz = c.cs := rfl
@[simp] theorem En.pln (c : En) : c.cs.all plainC = true := rfl
@[simp] theorem En.lenA (l : List En) : lenAll 8 (l.map En.cs) = true := lenAll_map En.len l
@[simp] theorem En.frzA (l : List En) : frzAll (l.map En.cs) = l.map En.cs := frzAll_map En.frz l
@[simp] theorem En.plnA (l : List En) : plainAll (l.map En.cs) = true := plainAll_map En.pln l
def En.ow (c : En) : List C := [.sc (.string c.src.name), .sl 9 1 (c.src.imports.map sC), .sl 9 1 (c.src.exports.map sC), .sl 208 2 (c.src.types.map Ty.cs), .sl 210 3 (c.src.defs.map Df.ow), .sl 210 3 (c.src.convs.map Df.ow), .sc (.int .i64 c.ver), .sc (.int .i64 c.inst)]
@[simp] theorem En.lenO (c : En) : c.ow.length = 8 := rfl
@[simp] theorem En.lenOA (l : List En) : lenAll 8 (l.map En.ow) = true := lenAll_map En.lenO l
@[simp] theorem dz_En (h : List En) : dzLL (h.map En.ow) = h.map En.cs := by
  rw [dzLL_map, List.map_map]
  refine List.map_congr_left fun c _ => ?_
  simp [En.ow, En.cs, dzL, deepFz, dz_sC, dz_V]
@[simp] theorem sc_En (l : List En) : scLL (l.map En.ow) = true := by
  induction l with
  | nil => rfl
  | cons x l ih => simp [List.map_cons, scLL, ih, En.ow, scL, scC, sc_sC, sc_nC, sc_V]
@[simp] theorem dzc_En (h : List En) : dzLL (h.map En.cs) = h.map En.cs := by
  rw [dzLL_map, List.map_map]
  refine List.map_congr_left fun c _ => ?_
  simp [En.cs, dzL, deepFz, dz_sC, dz_V]
@[simp] theorem dz_En1 (h : List En) : dzLL (List.take h.length (h.map En.ow)) = h.map En.cs := by
  rw [List.take_of_length_le (by simp), dz_En]
structure En.tx (c : En) : Prop where
  src : c.src.tx
structure En.rm (c : En) : Prop where
  src : c.src.rm
structure Tk where
  id : Int
  mac : Mc
  deriving DecidableEq
def Tk.cs (c : Tk) : List C := [.sc (.int .i64 c.id), .sc (.int .i64 c.mac.mode), .sc (.int .i64 c.mac.unit), .sc (.int .i64 c.mac.node), .fz (c.mac.env.map Bd.cs), .sc (.int .i64 c.mac.val.k), .sc (.int .i64 c.mac.val.n), .sc (.string c.mac.val.s), .fz (c.mac.stack.map Fm.cs), .sc (.int .i64 c.mac.fin)]
def Tk.av (c : Tk) : AV := .agg [.sc (.int .i64 c.id), .sc (.int .i64 c.mac.mode), .sc (.int .i64 c.mac.unit), .sc (.int .i64 c.mac.node), .fz (c.mac.env.map Bd.cs), .sc (.int .i64 c.mac.val.k), .sc (.int .i64 c.mac.val.n), .sc (.string c.mac.val.s), .fz (c.mac.stack.map Fm.cs), .sc (.int .i64 c.mac.fin)]
@[simp] theorem Tk.len (c : Tk) : c.cs.length = 10 := rfl
@[simp] theorem Tk.frz (c : Tk) : c.cs.map Own.frz = c.cs := rfl
@[simp] theorem Tk.pln (c : Tk) : c.cs.all plainC = true := rfl
@[simp] theorem Tk.lenA (l : List Tk) : lenAll 10 (l.map Tk.cs) = true := lenAll_map Tk.len l
@[simp] theorem Tk.frzA (l : List Tk) : frzAll (l.map Tk.cs) = l.map Tk.cs := frzAll_map Tk.frz l
@[simp] theorem Tk.plnA (l : List Tk) : plainAll (l.map Tk.cs) = true := plainAll_map Tk.pln l
def Tk.ow (c : Tk) : List C := [.sc (.int .i64 c.id), .sc (.int .i64 c.mac.mode), .sc (.int .i64 c.mac.unit), .sc (.int .i64 c.mac.node), .sl 177 4 (c.mac.env.map Bd.cs), .sc (.int .i64 c.mac.val.k), .sc (.int .i64 c.mac.val.n), .sc (.string c.mac.val.s), .sl 86 4 (c.mac.stack.map Fm.ow), .sc (.int .i64 c.mac.fin)]
@[simp] theorem Tk.lenO (c : Tk) : c.ow.length = 10 := rfl
@[simp] theorem Tk.lenOA (l : List Tk) : lenAll 10 (l.map Tk.ow) = true := lenAll_map Tk.lenO l
@[simp] theorem dz_Tk (h : List Tk) : dzLL (h.map Tk.ow) = h.map Tk.cs := by
  rw [dzLL_map, List.map_map]
  refine List.map_congr_left fun c _ => ?_
  simp [Tk.ow, Tk.cs, dzL, deepFz, dz_sC, dz_V]
@[simp] theorem sc_Tk (l : List Tk) : scLL (l.map Tk.ow) = true := by
  induction l with
  | nil => rfl
  | cons x l ih => simp [List.map_cons, scLL, ih, Tk.ow, scL, scC, sc_sC, sc_nC, sc_V]
@[simp] theorem dzc_Tk (h : List Tk) : dzLL (h.map Tk.cs) = h.map Tk.cs := by
  rw [dzLL_map, List.map_map]
  refine List.map_congr_left fun c _ => ?_
  simp [Tk.cs, dzL, deepFz, dz_sC, dz_V]
@[simp] theorem dz_Tk1 (h : List Tk) : dzLL (List.take h.length (h.map Tk.ow)) = h.map Tk.cs := by
  rw [List.take_of_length_le (by simp), dz_Tk]
structure Tk.tx (c : Tk) : Prop where
  mac : c.mac.tx
structure Tk.rm (c : Tk) : Prop where
  mac : c.mac.rm
structure Wd where
  sys : Sy
  libs : List En
  tasks : List Tk
  next : Int
def Wd.cs (c : Wd) : List C := [.fz (c.sys.heap.map Cl.cs), .fz (c.sys.insts.map In.cs), .fz (c.sys.units.map Un.cs), .fz (c.sys.out.map sC), .fz (c.libs.map En.cs), .fz (c.tasks.map Tk.cs), .sc (.int .i64 c.next)]
def Wd.av (c : Wd) : AV := .agg [.fz (c.sys.heap.map Cl.cs), .fz (c.sys.insts.map In.cs), .fz (c.sys.units.map Un.cs), .fz (c.sys.out.map sC), .fz (c.libs.map En.cs), .fz (c.tasks.map Tk.cs), .sc (.int .i64 c.next)]
@[simp] theorem Wd.len (c : Wd) : c.cs.length = 7 := rfl
@[simp] theorem Wd.frz (c : Wd) : c.cs.map Own.frz = c.cs := rfl
@[simp] theorem Wd.pln (c : Wd) : c.cs.all plainC = true := rfl
@[simp] theorem Wd.lenA (l : List Wd) : lenAll 7 (l.map Wd.cs) = true := lenAll_map Wd.len l
@[simp] theorem Wd.frzA (l : List Wd) : frzAll (l.map Wd.cs) = l.map Wd.cs := frzAll_map Wd.frz l
@[simp] theorem Wd.plnA (l : List Wd) : plainAll (l.map Wd.cs) = true := plainAll_map Wd.pln l
def Wd.ow (c : Wd) : List C := [.sl 171 6 (c.sys.heap.map Cl.ow), .sl 114 6 (c.sys.insts.map In.ow), .sl 168 3 (c.sys.units.map Un.ow), .sl 9 1 (c.sys.out.map sC), .sl 110 8 (c.libs.map En.ow), .sl 121 10 (c.tasks.map Tk.ow), .sc (.int .i64 c.next)]
@[simp] theorem Wd.lenO (c : Wd) : c.ow.length = 7 := rfl
@[simp] theorem Wd.lenOA (l : List Wd) : lenAll 7 (l.map Wd.ow) = true := lenAll_map Wd.lenO l
@[simp] theorem dz_Wd (h : List Wd) : dzLL (h.map Wd.ow) = h.map Wd.cs := by
  rw [dzLL_map, List.map_map]
  refine List.map_congr_left fun c _ => ?_
  simp [Wd.ow, Wd.cs, dzL, deepFz, dz_sC, dz_V]
@[simp] theorem sc_Wd (l : List Wd) : scLL (l.map Wd.ow) = true := by
  induction l with
  | nil => rfl
  | cons x l ih => simp [List.map_cons, scLL, ih, Wd.ow, scL, scC, sc_sC, sc_nC, sc_V]
@[simp] theorem dzc_Wd (h : List Wd) : dzLL (h.map Wd.cs) = h.map Wd.cs := by
  rw [dzLL_map, List.map_map]
  refine List.map_congr_left fun c _ => ?_
  simp [Wd.cs, dzL, deepFz, dz_sC, dz_V]
@[simp] theorem dz_Wd1 (h : List Wd) : dzLL (List.take h.length (h.map Wd.ow)) = h.map Wd.cs := by
  rw [List.take_of_length_le (by simp), dz_Wd]
structure Wd.tx (c : Wd) : Prop where
  sys : c.sys.tx
  libs : ∀ x, x ∈ c.libs → x.tx
  tasks : ∀ x, x ∈ c.tasks → x.tx
structure Wd.rm (c : Wd) : Prop where
  sys : c.sys.rm
  libs : c.libs.length ≤ 1000000000
  libs1 : ∀ x, x ∈ c.libs → x.rm
  tasks : c.tasks.length ≤ 1000000000
  tasks1 : ∀ x, x ∈ c.tasks → x.rm
end Go.Own
set_option maxRecDepth 1000000
set_option maxHeartbeats 4000000
namespace Go.Own
attribute [local irreducible] WPc WPL WPS WPS1 WPS2 HAny endP
variable [Laid]
open Go.Lib Go.RowKit
theorem c_laws_szLink (c : Lk) (left : Int) (h0 : 0 ≤ left) (h1 : left ≤ 1073741824) (hs : c.tx) : Con PP 213 [c.av, .sc (.int .i64 left)] [] [] (fun r o => r = .sc (.int .i64 (szR left (costLk c)))) := by
  have t_name := hs.name
  have t_tgt := hs.tgt
  have hc : costLk c = c.name.size + c.tgt.size := rfl
  have rt := szR_cases left (costLk c)
  refine Con.of tok (nt := 20) Go.Proofs.Tryz.func213 (by kernel_rfl) rfl rfl rfl (Nat.le_of_ble_eq_true rfl) fun G => ?_
  simp only [entSt, tmOf, List.append_nil, List.cons_append, List.nil_append, Lk.av]
  have e0 : IntKind.i64.wrap (left - c.name.size) = left - c.name.size := wrap64 (by omega) (by omega)
  by_cases g0 : (c.name.size : Int) ≤ left
  · skip
    have e1 : IntKind.i64.wrap (left - c.name.size - c.tgt.size) = left - c.name.size - c.tgt.size := wrap64 (by omega) (by omega)
    repeat' (first
      | apply WPc.sq
      | (refine WPc.ret (endP.val (.inr rfl) rfl rfl (by simp; rfl) ?_))
      | apply WPc.skip
      | (refine WPc.rq tok rfl fun K hK => ?_; simp -implicitDefEqProofs +contextual [-Int.not_le, -Int.not_lt, -Nat.not_le, -Nat.not_lt, -List.all_eq_true, -List.all_eq_false, -List.any_eq_true, -List.any_eq_false, e0, e1]; (repeat1' (first | apply hK | apply And.intro | intro _)) <;> clear hK K <;> (try dsimp only [List.drop]))
      | (refine WPc.cond (by simp [-Bool.not_eq_eq_eq_not]; rfl) (fun hq => ?_) (fun hq => ?_) <;> simp only [hq] <;> (try (exfalso; (simp only [decide_eq_true_eq, decide_eq_false_iff_not] at hq); omega))))
    all_goals (try simp only [decide_eq_true_eq, decide_eq_false_iff_not] at *)
    all_goals first
      | (exfalso; omega)
      | (simp only [AV.sc.injEq, Value.int.injEq, true_and]; omega)
  · repeat' (first
      | apply WPc.sq
      | (refine WPc.ret (endP.val (.inr rfl) rfl rfl (by simp; rfl) ?_))
      | (refine WPc.rq tok rfl fun K hK => ?_; simp -implicitDefEqProofs +contextual [-Int.not_le, -Int.not_lt, -Nat.not_le, -Nat.not_lt, -List.all_eq_true, -List.all_eq_false, -List.any_eq_true, -List.any_eq_false, e0]; (repeat1' (first | apply hK | apply And.intro | intro _)) <;> clear hK K <;> (try dsimp only [List.drop]))
      | (refine WPc.cond (by simp [-Bool.not_eq_eq_eq_not]; rfl) (fun hq => ?_) (fun hq => ?_) <;> simp only [hq] <;> (try (exfalso; (simp only [decide_eq_true_eq, decide_eq_false_iff_not] at hq); omega))))
    all_goals (try simp only [decide_eq_true_eq, decide_eq_false_iff_not] at *)
    all_goals first
      | (exfalso; omega)
      | (simp only [AV.sc.injEq, Value.int.injEq, true_and]; omega)
theorem c_laws_szLinkS (l : List Lk) (left : Int) (h0 : 0 ≤ left) (h1 : left ≤ 1073741824) (hs : ∀ c, c ∈ l → c.tx) : Con PP 156 [.fz (l.map Lk.cs), .sc (.int .i64 left)] [] [] (fun r o => r = .sc (.int .i64 (szR left (costLkS l)))) := by
  refine Con.lenOf 0 Go.Proofs.Tryz.func156 (by kernel_rfl) (by kernel_rfl) rfl fun hlen => ?_
  simp at hlen
  refine Con.of tok (nt := 27) Go.Proofs.Tryz.func156 (by kernel_rfl) rfl rfl rfl (Nat.le_of_ble_eq_true rfl) fun G => ?_
  simp only [entSt, tmOf, List.append_nil, List.cons_append, List.nil_append]
  have e1 : IntKind.i64.wrap (left - l.length) = left - l.length := wrap64 (by omega) (by omega)
  refine go (L := _ ∧ _ ∧ True) (wa1 @e1) wb0 wb0 wb0 wb0 ⟨fun _ hq => ?_, fun _ hq => ?_, wb0⟩
  · rw [szR_no (by unfold costLkS; simp at hq; omega)]
  simp only [decide_eq_false_iff_not] at hq
  refine WPc.loopK (σ := Nat) (fun i => i ≤ l.length ∧ l.length + sumTo costLk l i ≤ left) (fun i => l.length - i) (fun i => [(5, .sc (.int .i64 i)), (1, .sc (.int .i64 (left - l.length - sumTo costLk l i)))])  [0] 0 (by simp [sumTo_zero]) (by simp [sumTo_zero]) (⟨by omega, by rw [sumTo_zero]; omega⟩) ?_
  rintro i ⟨hi, hle⟩ s hs
  simp at hs
  subst hs
  by_cases hlt : i < l.length
  · have hz := hs _ (List.getElem_mem hlt)
    have e3 := sumTo_next (f := costLk) hlt
    have e4 := sumTo_le costLk l (i + 1)
    have ee : costLk ⟨l[i].name, l[i].inst, l[i].tgt⟩ = costLk l[i] := rfl
    refine go (L := _ ∧ _ ∧ True) (wa3 @Lk.cs.eq_1 @hlt @ee) (wb1 (fun v0 v1 v2 v3 (h : _ ∧ _ ∧ _) => c_laws_szLink ⟨v0, v1, v2⟩ v3 h.1 h.2.1 h.2.2)) wb0 wb0 wb0 ⟨fun _ hq => ?_, fun _ hq => ?_, wb0⟩
    all_goals try rw [ee] at hq
    · simp only [decide_eq_true_eq] at hq
      have := szR_neg (by omega) hq
      rw [szR_no (by unfold costLkS; omega)]
    all_goals
      try simp only [decide_eq_false_iff_not] at hq
      have hle2 := szR_pos hq
      refine ⟨i + 1, ⟨⟨by omega, by omega⟩, by first | omega | (simp only; omega) | assumption⟩, rfl, rfl, ?_, ?_⟩ <;> simp (disch := omega) [wrap64, e3, ee, szR_ok hle2]
    all_goals (refine fit_int ?_; omega)
  · obtain rfl : i = l.length := by omega
    refine go (L := _ ∧ True) wb0 wb0 wb0 wb0 wb0 ⟨fun _ => ?_, wb0⟩
    rw [sumTo_all] at hle
    rw [szR_ok (by unfold costLkS; omega), sumTo_all]
    simp only [costLkS, AV.sc.injEq, Value.int.injEq, true_and]
    omega
theorem c_laws_szType (c : Ty) (left : Int) (h0 : 0 ≤ left) (h1 : left ≤ 1073741824) (hs : c.tx) : Con PP 214 [c.av, .sc (.int .i64 left)] [] [] (fun r o => r = .sc (.int .i64 (szR left (costTy c)))) := by
  have t_name := hs.name
  have hc : costTy c = c.name.size := rfl
  have rt := szR_cases left (costTy c)
  refine Con.of tok (nt := 13) Go.Proofs.Tryz.func214 (by kernel_rfl) rfl rfl rfl (Nat.le_of_ble_eq_true rfl) fun G => ?_
  simp only [entSt, tmOf, List.append_nil, List.cons_append, List.nil_append, Ty.av]
  have e0 : IntKind.i64.wrap (left - c.name.size) = left - c.name.size := wrap64 (by omega) (by omega)
  repeat' (first
    | apply WPc.sq
    | (refine WPc.ret (endP.val (.inr rfl) rfl rfl (by simp; rfl) ?_))
    | apply WPc.skip
    | (refine WPc.rq tok rfl fun K hK => ?_; simp -implicitDefEqProofs +contextual [-Int.not_le, -Int.not_lt, -Nat.not_le, -Nat.not_lt, -List.all_eq_true, -List.all_eq_false, -List.any_eq_true, -List.any_eq_false, e0]; (repeat1' (first | apply hK | apply And.intro | intro _)) <;> clear hK K <;> (try dsimp only [List.drop]))
    | (refine WPc.cond (by simp [-Bool.not_eq_eq_eq_not]; rfl) (fun hq => ?_) (fun hq => ?_) <;> simp only [hq] <;> (try (exfalso; (simp only [decide_eq_true_eq, decide_eq_false_iff_not] at hq); omega))))
  all_goals (try simp only [decide_eq_true_eq, decide_eq_false_iff_not] at *)
  all_goals first
    | (exfalso; omega)
    | (simp only [AV.sc.injEq, Value.int.injEq, true_and]; omega)
theorem c_laws_szTypeS (l : List Ty) (left : Int) (h0 : 0 ≤ left) (h1 : left ≤ 1073741824) (hs : ∀ c, c ∈ l → c.tx) : Con PP 157 [.fz (l.map Ty.cs), .sc (.int .i64 left)] [] [] (fun r o => r = .sc (.int .i64 (szR left (costTyS l)))) := by
  refine Con.lenOf 0 Go.Proofs.Tryz.func157 (by kernel_rfl) (by kernel_rfl) rfl fun hlen => ?_
  simp at hlen
  refine Con.of tok (nt := 27) Go.Proofs.Tryz.func157 (by kernel_rfl) rfl rfl rfl (Nat.le_of_ble_eq_true rfl) fun G => ?_
  simp only [entSt, tmOf, List.append_nil, List.cons_append, List.nil_append]
  have e1 : IntKind.i64.wrap (left - l.length) = left - l.length := wrap64 (by omega) (by omega)
  refine go (L := _ ∧ _ ∧ True) (wa1 @e1) wb0 wb0 wb0 wb0 ⟨fun _ hq => ?_, fun _ hq => ?_, wb0⟩
  · rw [szR_no (by unfold costTyS; simp at hq; omega)]
  simp only [decide_eq_false_iff_not] at hq
  refine WPc.loopK (σ := Nat) (fun i => i ≤ l.length ∧ l.length + sumTo costTy l i ≤ left) (fun i => l.length - i) (fun i => [(5, .sc (.int .i64 i)), (1, .sc (.int .i64 (left - l.length - sumTo costTy l i)))])  [0] 0 (by simp [sumTo_zero]) (by simp [sumTo_zero]) (⟨by omega, by rw [sumTo_zero]; omega⟩) ?_
  rintro i ⟨hi, hle⟩ s hs
  simp at hs
  subst hs
  by_cases hlt : i < l.length
  · have hz := hs _ (List.getElem_mem hlt)
    have e3 := sumTo_next (f := costTy) hlt
    have e4 := sumTo_le costTy l (i + 1)
    have ee : costTy ⟨l[i].name, l[i].size⟩ = costTy l[i] := rfl
    refine go (L := _ ∧ _ ∧ True) (wa3 @Ty.cs.eq_1 @hlt @ee) (wb1 (fun v0 v1 v2 (h : _ ∧ _ ∧ _) => c_laws_szType ⟨v0, v1⟩ v2 h.1 h.2.1 h.2.2)) wb0 wb0 wb0 ⟨fun _ hq => ?_, fun _ hq => ?_, wb0⟩
    all_goals try rw [ee] at hq
    · simp only [decide_eq_true_eq] at hq
      have := szR_neg (by omega) hq
      rw [szR_no (by unfold costTyS; omega)]
    all_goals
      try simp only [decide_eq_false_iff_not] at hq
      have hle2 := szR_pos hq
      refine ⟨i + 1, ⟨⟨by omega, by omega⟩, by first | omega | (simp only; omega) | assumption⟩, rfl, rfl, ?_, ?_⟩ <;> simp (disch := omega) [wrap64, e3, ee, szR_ok hle2]
    all_goals (refine fit_int ?_; omega)
  · obtain rfl : i = l.length := by omega
    refine go (L := _ ∧ True) wb0 wb0 wb0 wb0 wb0 ⟨fun _ => ?_, wb0⟩
    rw [sumTo_all] at hle
    rw [szR_ok (by unfold costTyS; omega), sumTo_all]
    simp only [costTyS, AV.sc.injEq, Value.int.injEq, true_and]
    omega
theorem c_laws_szInst (c : In) (left : Int) (h0 : 0 ≤ left) (h1 : left ≤ 1073741824) (hs : c.tx) : Con PP 91 [c.av, .sc (.int .i64 left)] [] [] (fun r o => r = .sc (.int .i64 (szR left (costIn c)))) := by
  have t_lib := hs.lib
  have t_names := hs.names
  have t_vals := hs.vals
  have t_links := hs.links
  have t_types := hs.types
  have hc : costIn c = c.lib.size + costS c.names + costV c.vals + costLkS c.links + costTyS c.types := rfl
  have rt := szR_cases left (costIn c)
  refine Con.of tok (nt := 37) Go.Proofs.Tryz.func91 (by kernel_rfl) rfl rfl rfl (Nat.le_of_ble_eq_true rfl) fun G => ?_
  simp only [entSt, tmOf, List.append_nil, List.cons_append, List.nil_append, In.av]
  have e0 : IntKind.i64.wrap (left - c.lib.size) = left - c.lib.size := wrap64 (by omega) (by omega)
  by_cases g0 : (c.lib.size : Int) ≤ left
  · skip
    have r1 := szR_cases (left - c.lib.size) (costS c.names)
    have r2 := szR_cases (szR (left - c.lib.size) (costS c.names)) (costV c.vals)
    have r3 := szR_cases (szR (szR (left - c.lib.size) (costS c.names)) (costV c.vals)) (costLkS c.links)
    have r4 := szR_cases (szR (szR (szR (left - c.lib.size) (costS c.names)) (costV c.vals)) (costLkS c.links)) (costTyS c.types)
    repeat' (first
      | apply WPc.sq
      | (refine WPc.ret (endP.val (.inr rfl) rfl rfl (by simp; rfl) ?_))
      | apply WPc.skip
      | refine WPL.nil ?_
      | (apply WPL.cL (c_laws_szStringS _ _ ?g1 ?g2 ?g3); (case q => (repeat' (first | refine And.intro ?_ ?_ | intro _ | (with_reducible exact cleanOut_nil) | (refine Eqv.mk ?_; first | rfl | (simp -implicitDefEqProofs [e0]; done)) | (simp -implicitDefEqProofs [e0]; done) | (simp -implicitDefEqProofs [e0]; rfl) | (simp; done) | (simp; rfl) | rfl))); (case g1 => (first | assumption | omega | (simp only [decide_eq_true_eq, decide_eq_false_iff_not] at *; omega))); (case g2 => (first | assumption | omega | (simp only [decide_eq_true_eq, decide_eq_false_iff_not] at *; omega))); (case g3 => (first | assumption | omega | (simp only [decide_eq_true_eq, decide_eq_false_iff_not] at *; omega))))
      | (apply WPL.cL (c_laws_szValueS _ _ ?g1 ?g2 ?g3); (case q => (repeat' (first | refine And.intro ?_ ?_ | intro _ | (with_reducible exact cleanOut_nil) | (refine Eqv.mk ?_; first | rfl | (simp -implicitDefEqProofs [e0]; done)) | (simp -implicitDefEqProofs [e0]; done) | (simp -implicitDefEqProofs [e0]; rfl) | (simp; done) | (simp; rfl) | rfl))); (case g1 => (first | assumption | omega | (simp only [decide_eq_true_eq, decide_eq_false_iff_not] at *; omega))); (case g2 => (first | assumption | omega | (simp only [decide_eq_true_eq, decide_eq_false_iff_not] at *; omega))); (case g3 => (first | assumption | omega | (simp only [decide_eq_true_eq, decide_eq_false_iff_not] at *; omega))))
      | (apply WPL.cL (c_laws_szLinkS _ _ ?g1 ?g2 ?g3); (case q => (repeat' (first | refine And.intro ?_ ?_ | intro _ | (with_reducible exact cleanOut_nil) | (refine Eqv.mk ?_; first | rfl | (simp -implicitDefEqProofs [e0]; done)) | (simp -implicitDefEqProofs [e0]; done) | (simp -implicitDefEqProofs [e0]; rfl) | (simp; done) | (simp; rfl) | rfl))); (case g1 => (first | assumption | omega | (simp only [decide_eq_true_eq, decide_eq_false_iff_not] at *; omega))); (case g2 => (first | assumption | omega | (simp only [decide_eq_true_eq, decide_eq_false_iff_not] at *; omega))); (case g3 => (first | assumption | omega | (simp only [decide_eq_true_eq, decide_eq_false_iff_not] at *; omega))))
      | (apply WPL.cL (c_laws_szTypeS _ _ ?g1 ?g2 ?g3); (case q => (repeat' (first | refine And.intro ?_ ?_ | intro _ | (with_reducible exact cleanOut_nil) | (refine Eqv.mk ?_; first | rfl | (simp -implicitDefEqProofs [e0]; done)) | (simp -implicitDefEqProofs [e0]; done) | (simp -implicitDefEqProofs [e0]; rfl) | (simp; done) | (simp; rfl) | rfl))); (case g1 => (first | assumption | omega | (simp only [decide_eq_true_eq, decide_eq_false_iff_not] at *; omega))); (case g2 => (first | assumption | omega | (simp only [decide_eq_true_eq, decide_eq_false_iff_not] at *; omega))); (case g3 => (first | assumption | omega | (simp only [decide_eq_true_eq, decide_eq_false_iff_not] at *; omega))))
      | ((first | refine WPc.rq tok rfl fun K hK => ?_ | refine WPL.rn tok _ (by simp [ahead, isFn]; rfl) fun K hK => ?_); simp -implicitDefEqProofs +contextual [-Int.not_le, -Int.not_lt, -Nat.not_le, -Nat.not_lt, -List.all_eq_true, -List.all_eq_false, -List.any_eq_true, -List.any_eq_false, e0]; (repeat1' (first | apply hK | apply And.intro | intro _)) <;> clear hK K <;> (try dsimp only [List.drop]))
      | (refine WPc.region ?_; simp only [List.toList_toArray])
      | (refine WPc.cond (by simp [-Bool.not_eq_eq_eq_not]; rfl) (fun hq => ?_) (fun hq => ?_) <;> simp only [hq] <;> (try (exfalso; (simp only [decide_eq_true_eq, decide_eq_false_iff_not] at hq); omega))))
    all_goals (try simp only [decide_eq_true_eq, decide_eq_false_iff_not] at *)
    all_goals first
      | (exfalso; omega)
      | (simp only [AV.sc.injEq, Value.int.injEq, true_and]; omega)
  · repeat' (first
      | apply WPc.sq
      | (refine WPc.ret (endP.val (.inr rfl) rfl rfl (by simp; rfl) ?_))
      | (refine WPc.rq tok rfl fun K hK => ?_; simp -implicitDefEqProofs +contextual [-Int.not_le, -Int.not_lt, -Nat.not_le, -Nat.not_lt, -List.all_eq_true, -List.all_eq_false, -List.any_eq_true, -List.any_eq_false, e0]; (repeat1' (first | apply hK | apply And.intro | intro _)) <;> clear hK K <;> (try dsimp only [List.drop]))
      | (refine WPc.cond (by simp [-Bool.not_eq_eq_eq_not]; rfl) (fun hq => ?_) (fun hq => ?_) <;> simp only [hq] <;> (try (exfalso; (simp only [decide_eq_true_eq, decide_eq_false_iff_not] at hq); omega))))
    all_goals (try simp only [decide_eq_true_eq, decide_eq_false_iff_not] at *)
    all_goals first
      | (exfalso; omega)
      | (simp only [AV.sc.injEq, Value.int.injEq, true_and]; omega)
theorem c_laws_szInstS (l : List In) (left : Int) (h0 : 0 ≤ left) (h1 : left ≤ 1073741824) (hs : ∀ c, c ∈ l → c.tx) : Con PP 35 [.fz (l.map In.cs), .sc (.int .i64 left)] [] [] (fun r o => r = .sc (.int .i64 (szR left (costInS l)))) := by
  refine Con.lenOf 0 Go.Proofs.Tryz.func35 (by kernel_rfl) (by kernel_rfl) rfl fun hlen => ?_
  simp at hlen
  refine Con.of tok (nt := 27) Go.Proofs.Tryz.func35 (by kernel_rfl) rfl rfl rfl (Nat.le_of_ble_eq_true rfl) fun G => ?_
  simp only [entSt, tmOf, List.append_nil, List.cons_append, List.nil_append]
  have e1 : IntKind.i64.wrap (left - l.length) = left - l.length := wrap64 (by omega) (by omega)
  refine go (L := _ ∧ _ ∧ True) (wa1 @e1) wb0 wb0 wb0 wb0 ⟨fun _ hq => ?_, fun _ hq => ?_, wb0⟩
  · rw [szR_no (by unfold costInS; simp at hq; omega)]
  simp only [decide_eq_false_iff_not] at hq
  refine WPc.loopK (σ := Nat) (fun i => i ≤ l.length ∧ l.length + sumTo costIn l i ≤ left) (fun i => l.length - i) (fun i => [(5, .sc (.int .i64 i)), (1, .sc (.int .i64 (left - l.length - sumTo costIn l i)))])  [0] 0 (by simp [sumTo_zero]) (by simp [sumTo_zero]) (⟨by omega, by rw [sumTo_zero]; omega⟩) ?_
  rintro i ⟨hi, hle⟩ s hs
  simp at hs
  subst hs
  by_cases hlt : i < l.length
  · have hz := hs _ (List.getElem_mem hlt)
    have e3 := sumTo_next (f := costIn) hlt
    have e4 := sumTo_le costIn l (i + 1)
    have ee : costIn ⟨l[i].lib, l[i].ver, l[i].names, l[i].vals, l[i].links, l[i].types⟩ = costIn l[i] := rfl
    refine go (L := _ ∧ _ ∧ True) (wa3 @In.cs.eq_1 @hlt @ee) (wb1 (fun v0 v1 v2 v3 v4 v5 v6 (h : _ ∧ _ ∧ _) => c_laws_szInst ⟨v0, v1, v2, v3, v4, v5⟩ v6 h.1 h.2.1 h.2.2)) wb0 wb0 wb0 ⟨fun _ hq => ?_, fun _ hq => ?_, wb0⟩
    all_goals try rw [ee] at hq
    · simp only [decide_eq_true_eq] at hq
      have := szR_neg (by omega) hq
      rw [szR_no (by unfold costInS; omega)]
    all_goals
      try simp only [decide_eq_false_iff_not] at hq
      have hle2 := szR_pos hq
      refine ⟨i + 1, ⟨⟨by omega, by omega⟩, by first | omega | (simp only; omega) | assumption⟩, rfl, rfl, ?_, ?_⟩ <;> simp (disch := omega) [wrap64, e3, ee, szR_ok hle2]
    all_goals (refine fit_int ?_; omega)
  · obtain rfl : i = l.length := by omega
    refine go (L := _ ∧ True) wb0 wb0 wb0 wb0 wb0 ⟨fun _ => ?_, wb0⟩
    rw [sumTo_all] at hle
    rw [szR_ok (by unfold costInS; omega), sumTo_all]
    simp only [costInS, AV.sc.injEq, Value.int.injEq, true_and]
    omega
theorem c_laws_szUnit (c : Un) (left : Int) (h0 : 0 ≤ left) (h1 : left ≤ 1073741824) (hs : c.tx) : Con PP 92 [c.av, .sc (.int .i64 left)] [] [] (fun r o => r = .sc (.int .i64 (szR left (costUn c)))) := by
  have t_prog := hs.prog
  have hc : costUn c = costP c.prog.nodes := rfl
  have rt := szR_cases left (costUn c)
  refine Con.of tok (nt := 12) Go.Proofs.Tryz.func92 (by kernel_rfl) rfl rfl rfl (Nat.le_of_ble_eq_true rfl) fun G => ?_
  simp only [entSt, tmOf, List.append_nil, List.cons_append, List.nil_append, Un.av]
  have r0 := szR_cases (left) (costP c.prog.nodes)
  have u0 := fun g1 g2 => c_laws_szProg c.prog (left) g1 g2 t_prog
  simp only [Pg.av] at u0
  repeat' (first
    | apply WPc.sq
    | (refine WPc.ret (endP.val (.inr rfl) rfl rfl (by simp; rfl) ?_))
    | apply WPc.skip
    | refine WPL.nil ?_
    | (apply WPL.cL (u0 ?g1 ?g2); (case q => (repeat' (first | refine And.intro ?_ ?_ | intro _ | (with_reducible exact cleanOut_nil) | (refine Eqv.mk ?_; first | rfl | (simp -implicitDefEqProofs; done)) | (simp -implicitDefEqProofs; done) | (simp -implicitDefEqProofs; rfl) | rfl))); (case g1 => (first | assumption | omega | (simp only [decide_eq_true_eq, decide_eq_false_iff_not] at *; omega))); (case g2 => (first | assumption | omega | (simp only [decide_eq_true_eq, decide_eq_false_iff_not] at *; omega))))
    | ((first | refine WPc.rq tok rfl fun K hK => ?_ | refine WPL.rn tok _ (by simp [ahead, isFn]; rfl) fun K hK => ?_); simp -implicitDefEqProofs +contextual [-Int.not_le, -Int.not_lt, -Nat.not_le, -Nat.not_lt, -List.all_eq_true, -List.all_eq_false, -List.any_eq_true, -List.any_eq_false]; (repeat1' (first | apply hK | apply And.intro | intro _)) <;> clear hK K <;> (try dsimp only [List.drop]))
    | (refine WPc.region ?_; simp only [List.toList_toArray])
    | (refine WPc.cond (by simp [-Bool.not_eq_eq_eq_not]; rfl) (fun hq => ?_) (fun hq => ?_) <;> simp only [hq] <;> (try (exfalso; (simp only [decide_eq_true_eq, decide_eq_false_iff_not] at hq); omega))))
  all_goals (try simp only [decide_eq_true_eq, decide_eq_false_iff_not] at *)
  all_goals first
    | (exfalso; omega)
    | (simp only [AV.sc.injEq, Value.int.injEq, true_and]; omega)
theorem c_laws_szUnitS (l : List Un) (left : Int) (h0 : 0 ≤ left) (h1 : left ≤ 1073741824) (hs : ∀ c, c ∈ l → c.tx) : Con PP 36 [.fz (l.map Un.cs), .sc (.int .i64 left)] [] [] (fun r o => r = .sc (.int .i64 (szR left (costUnS l)))) := by
  refine Con.lenOf 0 Go.Proofs.Tryz.func36 (by kernel_rfl) (by kernel_rfl) rfl fun hlen => ?_
  simp at hlen
  refine Con.of tok (nt := 27) Go.Proofs.Tryz.func36 (by kernel_rfl) rfl rfl rfl (Nat.le_of_ble_eq_true rfl) fun G => ?_
  simp only [entSt, tmOf, List.append_nil, List.cons_append, List.nil_append]
  have e1 : IntKind.i64.wrap (left - l.length) = left - l.length := wrap64 (by omega) (by omega)
  refine go (L := _ ∧ _ ∧ True) (wa1 @e1) wb0 wb0 wb0 wb0 ⟨fun _ hq => ?_, fun _ hq => ?_, wb0⟩
  · rw [szR_no (by unfold costUnS; simp at hq; omega)]
  simp only [decide_eq_false_iff_not] at hq
  refine WPc.loopK (σ := Nat) (fun i => i ≤ l.length ∧ l.length + sumTo costUn l i ≤ left) (fun i => l.length - i) (fun i => [(5, .sc (.int .i64 i)), (1, .sc (.int .i64 (left - l.length - sumTo costUn l i)))])  [0] 0 (by simp [sumTo_zero]) (by simp [sumTo_zero]) (⟨by omega, by rw [sumTo_zero]; omega⟩) ?_
  rintro i ⟨hi, hle⟩ s hs
  simp at hs
  subst hs
  by_cases hlt : i < l.length
  · have hz := hs _ (List.getElem_mem hlt)
    have e3 := sumTo_next (f := costUn) hlt
    have e4 := sumTo_le costUn l (i + 1)
    have ee : costUn ⟨l[i].home, ⟨l[i].prog.nodes, l[i].prog.root⟩⟩ = costUn l[i] := rfl
    refine go (L := _ ∧ _ ∧ True) (wa3 @Un.cs.eq_1 @hlt @ee) (wb1 (fun v0 v1 v2 (h : _ ∧ _ ∧ _) => c_laws_szUnit ⟨v0, v1⟩ v2 h.1 h.2.1 h.2.2)) wb0 wb0 wb0 ⟨fun _ hq => ?_, fun _ hq => ?_, wb0⟩
    all_goals try rw [ee] at hq
    · simp only [decide_eq_true_eq] at hq
      have := szR_neg (by omega) hq
      rw [szR_no (by unfold costUnS; omega)]
    all_goals
      try simp only [decide_eq_false_iff_not] at hq
      have hle2 := szR_pos hq
      refine ⟨i + 1, ⟨⟨by omega, by omega⟩, by first | omega | (simp only; omega) | assumption⟩, rfl, rfl, ?_, ?_⟩ <;> simp (disch := omega) [wrap64, e3, ee, szR_ok hle2]
    all_goals (refine fit_int ?_; omega)
  · obtain rfl : i = l.length := by omega
    refine go (L := _ ∧ True) wb0 wb0 wb0 wb0 wb0 ⟨fun _ => ?_, wb0⟩
    rw [sumTo_all] at hle
    rw [szR_ok (by unfold costUnS; omega), sumTo_all]
    simp only [costUnS, AV.sc.injEq, Value.int.injEq, true_and]
    omega
theorem c_laws_szSys (c : Sy) (left : Int) (h0 : 0 ≤ left) (h1 : left ≤ 1073741824) (hs : c.tx) : Con PP 9 [c.av, .sc (.int .i64 left)] [] [] (fun r o => r = .sc (.int .i64 (szR left (costSy c)))) := by
  have t_heap := hs.heap
  have t_insts := hs.insts
  have t_units := hs.units
  have t_out := hs.out
  have hc : costSy c = costH c.heap + costInS c.insts + costUnS c.units + costS c.out := rfl
  have rt := szR_cases left (costSy c)
  refine Con.of tok (nt := 30) Go.Proofs.Tryz.func9 (by kernel_rfl) rfl rfl rfl (Nat.le_of_ble_eq_true rfl) fun G => ?_
  simp only [entSt, tmOf, List.append_nil, List.cons_append, List.nil_append, Sy.av]
  have r0 := szR_cases (left) (costH c.heap)
  have r1 := szR_cases (szR (left) (costH c.heap)) (costInS c.insts)
  have r2 := szR_cases (szR (szR (left) (costH c.heap)) (costInS c.insts)) (costUnS c.units)
  have r3 := szR_cases (szR (szR (szR (left) (costH c.heap)) (costInS c.insts)) (costUnS c.units)) (costS c.out)
  repeat' (first
    | apply WPc.sq
    | (refine WPc.ret (endP.val (.inr rfl) rfl rfl (by simp; rfl) ?_))
    | apply WPc.skip
    | refine WPL.nil ?_
    | (apply WPL.cL (c_laws_szCellS _ _ ?g1 ?g2 ?g3); (case q => (repeat' (first | refine And.intro ?_ ?_ | intro _ | (with_reducible exact cleanOut_nil) | (refine Eqv.mk ?_; first | rfl | (simp -implicitDefEqProofs; done)) | (simp -implicitDefEqProofs; done) | (simp -implicitDefEqProofs; rfl) | rfl))); (case g1 => (first | assumption | omega | (simp only [decide_eq_true_eq, decide_eq_false_iff_not] at *; omega))); (case g2 => (first | assumption | omega | (simp only [decide_eq_true_eq, decide_eq_false_iff_not] at *; omega))); (case g3 => (first | assumption | omega | (simp only [decide_eq_true_eq, decide_eq_false_iff_not] at *; omega))))
    | (apply WPL.cL (c_laws_szInstS _ _ ?g1 ?g2 ?g3); (case q => (repeat' (first | refine And.intro ?_ ?_ | intro _ | (with_reducible exact cleanOut_nil) | (refine Eqv.mk ?_; first | rfl | (simp -implicitDefEqProofs; done)) | (simp -implicitDefEqProofs; done) | (simp -implicitDefEqProofs; rfl) | rfl))); (case g1 => (first | assumption | omega | (simp only [decide_eq_true_eq, decide_eq_false_iff_not] at *; omega))); (case g2 => (first | assumption | omega | (simp only [decide_eq_true_eq, decide_eq_false_iff_not] at *; omega))); (case g3 => (first | assumption | omega | (simp only [decide_eq_true_eq, decide_eq_false_iff_not] at *; omega))))
    | (apply WPL.cL (c_laws_szUnitS _ _ ?g1 ?g2 ?g3); (case q => (repeat' (first | refine And.intro ?_ ?_ | intro _ | (with_reducible exact cleanOut_nil) | (refine Eqv.mk ?_; first | rfl | (simp -implicitDefEqProofs; done)) | (simp -implicitDefEqProofs; done) | (simp -implicitDefEqProofs; rfl) | rfl))); (case g1 => (first | assumption | omega | (simp only [decide_eq_true_eq, decide_eq_false_iff_not] at *; omega))); (case g2 => (first | assumption | omega | (simp only [decide_eq_true_eq, decide_eq_false_iff_not] at *; omega))); (case g3 => (first | assumption | omega | (simp only [decide_eq_true_eq, decide_eq_false_iff_not] at *; omega))))
    | (apply WPL.cL (c_laws_szStringS _ _ ?g1 ?g2 ?g3); (case q => (repeat' (first | refine And.intro ?_ ?_ | intro _ | (with_reducible exact cleanOut_nil) | (refine Eqv.mk ?_; first | rfl | (simp -implicitDefEqProofs; done)) | (simp -implicitDefEqProofs; done) | (simp -implicitDefEqProofs; rfl) | rfl))); (case g1 => (first | assumption | omega | (simp only [decide_eq_true_eq, decide_eq_false_iff_not] at *; omega))); (case g2 => (first | assumption | omega | (simp only [decide_eq_true_eq, decide_eq_false_iff_not] at *; omega))); (case g3 => (first | assumption | omega | (simp only [decide_eq_true_eq, decide_eq_false_iff_not] at *; omega))))
    | ((first | refine WPc.rq tok rfl fun K hK => ?_ | refine WPL.rn tok _ (by simp [ahead, isFn]; rfl) fun K hK => ?_); simp -implicitDefEqProofs +contextual [-Int.not_le, -Int.not_lt, -Nat.not_le, -Nat.not_lt, -List.all_eq_true, -List.all_eq_false, -List.any_eq_true, -List.any_eq_false]; (repeat1' (first | apply hK | apply And.intro | intro _)) <;> clear hK K <;> (try dsimp only [List.drop]))
    | (refine WPc.region ?_; simp only [List.toList_toArray])
    | (refine WPc.cond (by simp [-Bool.not_eq_eq_eq_not]; rfl) (fun hq => ?_) (fun hq => ?_) <;> simp only [hq] <;> (try (exfalso; (simp only [decide_eq_true_eq, decide_eq_false_iff_not] at hq); omega))))
  all_goals (try simp only [decide_eq_true_eq, decide_eq_false_iff_not] at *)
  all_goals first
    | (exfalso; omega)
    | (simp only [AV.sc.injEq, Value.int.injEq, true_and]; omega)
theorem c_laws_szBind (c : Bd) (left : Int) (h0 : 0 ≤ left) (h1 : left ≤ 1073741824) (hs : c.tx) : Con PP 93 [c.av, .sc (.int .i64 left)] [] [] (fun r o => r = .sc (.int .i64 (szR left (costBd c)))) := by
  have t_name := hs.name
  have t_val := hs.val
  have hc : costBd c = c.name.size + c.val.s.size := rfl
  have rt := szR_cases left (costBd c)
  refine Con.of tok (nt := 19) Go.Proofs.Tryz.func93 (by kernel_rfl) rfl rfl rfl (Nat.le_of_ble_eq_true rfl) fun G => ?_
  simp only [entSt, tmOf, List.append_nil, List.cons_append, List.nil_append, Bd.av]
  have e0 : IntKind.i64.wrap (left - c.name.size) = left - c.name.size := wrap64 (by omega) (by omega)
  by_cases g0 : (c.name.size : Int) ≤ left
  · skip
    have r1 := szR_cases (left - c.name.size) (c.val.s.size)
    have u1 := fun g1 g2 => c_laws_szValue c.val (left - c.name.size) g1 g2 t_val
    simp only [V.av] at u1
    repeat' (first
      | apply WPc.sq
      | (refine WPc.ret (endP.val (.inr rfl) rfl rfl (by simp; rfl) ?_))
      | apply WPc.skip
      | refine WPL.nil ?_
      | (apply WPL.cL (u1 ?g1 ?g2); (case q => (repeat' (first | refine And.intro ?_ ?_ | intro _ | (with_reducible exact cleanOut_nil) | (refine Eqv.mk ?_; first | rfl | (simp -implicitDefEqProofs [e0]; done)) | (simp -implicitDefEqProofs [e0]; done) | (simp -implicitDefEqProofs [e0]; rfl) | (simp; done) | (simp; rfl) | rfl))); (case g1 => (first | assumption | omega | (simp only [decide_eq_true_eq, decide_eq_false_iff_not] at *; omega))); (case g2 => (first | assumption | omega | (simp only [decide_eq_true_eq, decide_eq_false_iff_not] at *; omega))))
      | ((first | refine WPc.rq tok rfl fun K hK => ?_ | refine WPL.rn tok _ (by simp [ahead, isFn]; rfl) fun K hK => ?_); simp -implicitDefEqProofs +contextual [-Int.not_le, -Int.not_lt, -Nat.not_le, -Nat.not_lt, -List.all_eq_true, -List.all_eq_false, -List.any_eq_true, -List.any_eq_false, e0]; (repeat1' (first | apply hK | apply And.intro | intro _)) <;> clear hK K <;> (try dsimp only [List.drop]))
      | (refine WPc.region ?_; simp only [List.toList_toArray])
      | (refine WPc.cond (by simp [-Bool.not_eq_eq_eq_not]; rfl) (fun hq => ?_) (fun hq => ?_) <;> simp only [hq] <;> (try (exfalso; (simp only [decide_eq_true_eq, decide_eq_false_iff_not] at hq); omega))))
    all_goals (try simp only [decide_eq_true_eq, decide_eq_false_iff_not] at *)
    all_goals first
      | (exfalso; omega)
      | (simp only [AV.sc.injEq, Value.int.injEq, true_and]; omega)
  · repeat' (first
      | apply WPc.sq
      | (refine WPc.ret (endP.val (.inr rfl) rfl rfl (by simp; rfl) ?_))
      | (refine WPc.rq tok rfl fun K hK => ?_; simp -implicitDefEqProofs +contextual [-Int.not_le, -Int.not_lt, -Nat.not_le, -Nat.not_lt, -List.all_eq_true, -List.all_eq_false, -List.any_eq_true, -List.any_eq_false, e0]; (repeat1' (first | apply hK | apply And.intro | intro _)) <;> clear hK K <;> (try dsimp only [List.drop]))
      | (refine WPc.cond (by simp [-Bool.not_eq_eq_eq_not]; rfl) (fun hq => ?_) (fun hq => ?_) <;> simp only [hq] <;> (try (exfalso; (simp only [decide_eq_true_eq, decide_eq_false_iff_not] at hq); omega))))
    all_goals (try simp only [decide_eq_true_eq, decide_eq_false_iff_not] at *)
    all_goals first
      | (exfalso; omega)
      | (simp only [AV.sc.injEq, Value.int.injEq, true_and]; omega)
theorem c_laws_szBindS (l : List Bd) (left : Int) (h0 : 0 ≤ left) (h1 : left ≤ 1073741824) (hs : ∀ c, c ∈ l → c.tx) : Con PP 38 [.fz (l.map Bd.cs), .sc (.int .i64 left)] [] [] (fun r o => r = .sc (.int .i64 (szR left (costBdS l)))) := by
  refine Con.lenOf 0 Go.Proofs.Tryz.func38 (by kernel_rfl) (by kernel_rfl) rfl fun hlen => ?_
  simp at hlen
  refine Con.of tok (nt := 27) Go.Proofs.Tryz.func38 (by kernel_rfl) rfl rfl rfl (Nat.le_of_ble_eq_true rfl) fun G => ?_
  simp only [entSt, tmOf, List.append_nil, List.cons_append, List.nil_append]
  have e1 : IntKind.i64.wrap (left - l.length) = left - l.length := wrap64 (by omega) (by omega)
  refine go (L := _ ∧ _ ∧ True) (wa1 @e1) wb0 wb0 wb0 wb0 ⟨fun _ hq => ?_, fun _ hq => ?_, wb0⟩
  · rw [szR_no (by unfold costBdS; simp at hq; omega)]
  simp only [decide_eq_false_iff_not] at hq
  refine WPc.loopK (σ := Nat) (fun i => i ≤ l.length ∧ l.length + sumTo costBd l i ≤ left) (fun i => l.length - i) (fun i => [(5, .sc (.int .i64 i)), (1, .sc (.int .i64 (left - l.length - sumTo costBd l i)))])  [0] 0 (by simp [sumTo_zero]) (by simp [sumTo_zero]) (⟨by omega, by rw [sumTo_zero]; omega⟩) ?_
  rintro i ⟨hi, hle⟩ s hs
  simp at hs
  subst hs
  by_cases hlt : i < l.length
  · have hz := hs _ (List.getElem_mem hlt)
    have e3 := sumTo_next (f := costBd) hlt
    have e4 := sumTo_le costBd l (i + 1)
    have ee : costBd ⟨l[i].name, ⟨l[i].val.k, l[i].val.n, l[i].val.s⟩⟩ = costBd l[i] := rfl
    refine go (L := _ ∧ _ ∧ True) (wa3 @Bd.cs.eq_1 @hlt @ee) (wb1 (fun v0 v1 v2 (h : _ ∧ _ ∧ _) => c_laws_szBind ⟨v0, v1⟩ v2 h.1 h.2.1 h.2.2)) wb0 wb0 wb0 ⟨fun _ hq => ?_, fun _ hq => ?_, wb0⟩
    all_goals try rw [ee] at hq
    · simp only [decide_eq_true_eq] at hq
      have := szR_neg (by omega) hq
      rw [szR_no (by unfold costBdS; omega)]
    all_goals
      try simp only [decide_eq_false_iff_not] at hq
      have hle2 := szR_pos hq
      refine ⟨i + 1, ⟨⟨by omega, by omega⟩, by first | omega | (simp only; omega) | assumption⟩, rfl, rfl, ?_, ?_⟩ <;> simp (disch := omega) [wrap64, e3, ee, szR_ok hle2]
    all_goals (refine fit_int ?_; omega)
  · obtain rfl : i = l.length := by omega
    refine go (L := _ ∧ True) wb0 wb0 wb0 wb0 wb0 ⟨fun _ => ?_, wb0⟩
    rw [sumTo_all] at hle
    rw [szR_ok (by unfold costBdS; omega), sumTo_all]
    simp only [costBdS, AV.sc.injEq, Value.int.injEq, true_and]
    omega
theorem c_laws_szFrame (c : Fm) (left : Int) (h0 : 0 ≤ left) (h1 : left ≤ 1073741824) (hs : c.tx) : Con PP 94 [c.av, .sc (.int .i64 left)] [] [] (fun r o => r = .sc (.int .i64 (szR left (costFm c)))) := by
  have t_vals := hs.vals
  have t_env := hs.env
  have hc : costFm c = costV c.vals + costBdS c.env := rfl
  have rt := szR_cases left (costFm c)
  refine Con.of tok (nt := 18) Go.Proofs.Tryz.func94 (by kernel_rfl) rfl rfl rfl (Nat.le_of_ble_eq_true rfl) fun G => ?_
  simp only [entSt, tmOf, List.append_nil, List.cons_append, List.nil_append, Fm.av]
  have r0 := szR_cases (left) (costV c.vals)
  have r1 := szR_cases (szR (left) (costV c.vals)) (costBdS c.env)
  repeat' (first
    | apply WPc.sq
    | (refine WPc.ret (endP.val (.inr rfl) rfl rfl (by simp; rfl) ?_))
    | apply WPc.skip
    | refine WPL.nil ?_
    | (apply WPL.cL (c_laws_szValueS _ _ ?g1 ?g2 ?g3); (case q => (repeat' (first | refine And.intro ?_ ?_ | intro _ | (with_reducible exact cleanOut_nil) | (refine Eqv.mk ?_; first | rfl | (simp -implicitDefEqProofs; done)) | (simp -implicitDefEqProofs; done) | (simp -implicitDefEqProofs; rfl) | rfl))); (case g1 => (first | assumption | omega | (simp only [decide_eq_true_eq, decide_eq_false_iff_not] at *; omega))); (case g2 => (first | assumption | omega | (simp only [decide_eq_true_eq, decide_eq_false_iff_not] at *; omega))); (case g3 => (first | assumption | omega | (simp only [decide_eq_true_eq, decide_eq_false_iff_not] at *; omega))))
    | (apply WPL.cL (c_laws_szBindS _ _ ?g1 ?g2 ?g3); (case q => (repeat' (first | refine And.intro ?_ ?_ | intro _ | (with_reducible exact cleanOut_nil) | (refine Eqv.mk ?_; first | rfl | (simp -implicitDefEqProofs; done)) | (simp -implicitDefEqProofs; done) | (simp -implicitDefEqProofs; rfl) | rfl))); (case g1 => (first | assumption | omega | (simp only [decide_eq_true_eq, decide_eq_false_iff_not] at *; omega))); (case g2 => (first | assumption | omega | (simp only [decide_eq_true_eq, decide_eq_false_iff_not] at *; omega))); (case g3 => (first | assumption | omega | (simp only [decide_eq_true_eq, decide_eq_false_iff_not] at *; omega))))
    | ((first | refine WPc.rq tok rfl fun K hK => ?_ | refine WPL.rn tok _ (by simp [ahead, isFn]; rfl) fun K hK => ?_); simp -implicitDefEqProofs +contextual [-Int.not_le, -Int.not_lt, -Nat.not_le, -Nat.not_lt, -List.all_eq_true, -List.all_eq_false, -List.any_eq_true, -List.any_eq_false]; (repeat1' (first | apply hK | apply And.intro | intro _)) <;> clear hK K <;> (try dsimp only [List.drop]))
    | (refine WPc.region ?_; simp only [List.toList_toArray])
    | (refine WPc.cond (by simp [-Bool.not_eq_eq_eq_not]; rfl) (fun hq => ?_) (fun hq => ?_) <;> simp only [hq] <;> (try (exfalso; (simp only [decide_eq_true_eq, decide_eq_false_iff_not] at hq); omega))))
  all_goals (try simp only [decide_eq_true_eq, decide_eq_false_iff_not] at *)
  all_goals first
    | (exfalso; omega)
    | (simp only [AV.sc.injEq, Value.int.injEq, true_and]; omega)
theorem c_laws_szFrameS (l : List Fm) (left : Int) (h0 : 0 ≤ left) (h1 : left ≤ 1073741824) (hs : ∀ c, c ∈ l → c.tx) : Con PP 40 [.fz (l.map Fm.cs), .sc (.int .i64 left)] [] [] (fun r o => r = .sc (.int .i64 (szR left (costFmS l)))) := by
  refine Con.lenOf 0 Go.Proofs.Tryz.func40 (by kernel_rfl) (by kernel_rfl) rfl fun hlen => ?_
  simp at hlen
  refine Con.of tok (nt := 27) Go.Proofs.Tryz.func40 (by kernel_rfl) rfl rfl rfl (Nat.le_of_ble_eq_true rfl) fun G => ?_
  simp only [entSt, tmOf, List.append_nil, List.cons_append, List.nil_append]
  have e1 : IntKind.i64.wrap (left - l.length) = left - l.length := wrap64 (by omega) (by omega)
  refine go (L := _ ∧ _ ∧ True) (wa1 @e1) wb0 wb0 wb0 wb0 ⟨fun _ hq => ?_, fun _ hq => ?_, wb0⟩
  · rw [szR_no (by unfold costFmS; simp at hq; omega)]
  simp only [decide_eq_false_iff_not] at hq
  refine WPc.loopK (σ := Nat) (fun i => i ≤ l.length ∧ l.length + sumTo costFm l i ≤ left) (fun i => l.length - i) (fun i => [(5, .sc (.int .i64 i)), (1, .sc (.int .i64 (left - l.length - sumTo costFm l i)))])  [0] 0 (by simp [sumTo_zero]) (by simp [sumTo_zero]) (⟨by omega, by rw [sumTo_zero]; omega⟩) ?_
  rintro i ⟨hi, hle⟩ s hs
  simp at hs
  subst hs
  by_cases hlt : i < l.length
  · have hz := hs _ (List.getElem_mem hlt)
    have e3 := sumTo_next (f := costFm) hlt
    have e4 := sumTo_le costFm l (i + 1)
    have ee : costFm ⟨l[i].unit, l[i].node, l[i].vals, l[i].env⟩ = costFm l[i] := rfl
    refine go (L := _ ∧ _ ∧ True) (wa3 @Fm.cs.eq_1 @hlt @ee) (wb1 (fun v0 v1 v2 v3 v4 (h : _ ∧ _ ∧ _) => c_laws_szFrame ⟨v0, v1, v2, v3⟩ v4 h.1 h.2.1 h.2.2)) wb0 wb0 wb0 ⟨fun _ hq => ?_, fun _ hq => ?_, wb0⟩
    all_goals try rw [ee] at hq
    · simp only [decide_eq_true_eq] at hq
      have := szR_neg (by omega) hq
      rw [szR_no (by unfold costFmS; omega)]
    all_goals
      try simp only [decide_eq_false_iff_not] at hq
      have hle2 := szR_pos hq
      refine ⟨i + 1, ⟨⟨by omega, by omega⟩, by first | omega | (simp only; omega) | assumption⟩, rfl, rfl, ?_, ?_⟩ <;> simp (disch := omega) [wrap64, e3, ee, szR_ok hle2]
    all_goals (refine fit_int ?_; omega)
  · obtain rfl : i = l.length := by omega
    refine go (L := _ ∧ True) wb0 wb0 wb0 wb0 wb0 ⟨fun _ => ?_, wb0⟩
    rw [sumTo_all] at hle
    rw [szR_ok (by unfold costFmS; omega), sumTo_all]
    simp only [costFmS, AV.sc.injEq, Value.int.injEq, true_and]
    omega
theorem c_laws_szMachine (c : Mc) (left : Int) (h0 : 0 ≤ left) (h1 : left ≤ 1073741824) (hs : c.tx) : Con PP 10 [c.av, .sc (.int .i64 left)] [] [] (fun r o => r = .sc (.int .i64 (szR left (costMc c)))) := by
  have t_env := hs.env
  have t_val := hs.val
  have t_stack := hs.stack
  have hc : costMc c = costBdS c.env + c.val.s.size + costFmS c.stack := rfl
  have rt := szR_cases left (costMc c)
  refine Con.of tok (nt := 24) Go.Proofs.Tryz.func10 (by kernel_rfl) rfl rfl rfl (Nat.le_of_ble_eq_true rfl) fun G => ?_
  simp only [entSt, tmOf, List.append_nil, List.cons_append, List.nil_append, Mc.av]
  have r0 := szR_cases (left) (costBdS c.env)
  have r1 := szR_cases (szR (left) (costBdS c.env)) (c.val.s.size)
  have u1 := fun g1 g2 => c_laws_szValue c.val (szR (left) (costBdS c.env)) g1 g2 t_val
  simp only [V.av] at u1
  have r2 := szR_cases (szR (szR (left) (costBdS c.env)) (c.val.s.size)) (costFmS c.stack)
  repeat' (first
    | apply WPc.sq
    | (refine WPc.ret (endP.val (.inr rfl) rfl rfl (by simp; rfl) ?_))
    | apply WPc.skip
    | refine WPL.nil ?_
    | (apply WPL.cL (c_laws_szBindS _ _ ?g1 ?g2 ?g3); (case q => (repeat' (first | refine And.intro ?_ ?_ | intro _ | (with_reducible exact cleanOut_nil) | (refine Eqv.mk ?_; first | rfl | (simp -implicitDefEqProofs; done)) | (simp -implicitDefEqProofs; done) | (simp -implicitDefEqProofs; rfl) | rfl))); (case g1 => (first | assumption | omega | (simp only [decide_eq_true_eq, decide_eq_false_iff_not] at *; omega))); (case g2 => (first | assumption | omega | (simp only [decide_eq_true_eq, decide_eq_false_iff_not] at *; omega))); (case g3 => (first | assumption | omega | (simp only [decide_eq_true_eq, decide_eq_false_iff_not] at *; omega))))
    | (apply WPL.cL (u1 ?g1 ?g2); (case q => (repeat' (first | refine And.intro ?_ ?_ | intro _ | (with_reducible exact cleanOut_nil) | (refine Eqv.mk ?_; first | rfl | (simp -implicitDefEqProofs; done)) | (simp -implicitDefEqProofs; done) | (simp -implicitDefEqProofs; rfl) | rfl))); (case g1 => (first | assumption | omega | (simp only [decide_eq_true_eq, decide_eq_false_iff_not] at *; omega))); (case g2 => (first | assumption | omega | (simp only [decide_eq_true_eq, decide_eq_false_iff_not] at *; omega))))
    | (apply WPL.cL (c_laws_szFrameS _ _ ?g1 ?g2 ?g3); (case q => (repeat' (first | refine And.intro ?_ ?_ | intro _ | (with_reducible exact cleanOut_nil) | (refine Eqv.mk ?_; first | rfl | (simp -implicitDefEqProofs; done)) | (simp -implicitDefEqProofs; done) | (simp -implicitDefEqProofs; rfl) | rfl))); (case g1 => (first | assumption | omega | (simp only [decide_eq_true_eq, decide_eq_false_iff_not] at *; omega))); (case g2 => (first | assumption | omega | (simp only [decide_eq_true_eq, decide_eq_false_iff_not] at *; omega))); (case g3 => (first | assumption | omega | (simp only [decide_eq_true_eq, decide_eq_false_iff_not] at *; omega))))
    | ((first | refine WPc.rq tok rfl fun K hK => ?_ | refine WPL.rn tok _ (by simp [ahead, isFn]; rfl) fun K hK => ?_); simp -implicitDefEqProofs +contextual [-Int.not_le, -Int.not_lt, -Nat.not_le, -Nat.not_lt, -List.all_eq_true, -List.all_eq_false, -List.any_eq_true, -List.any_eq_false]; (repeat1' (first | apply hK | apply And.intro | intro _)) <;> clear hK K <;> (try dsimp only [List.drop]))
    | (refine WPc.region ?_; simp only [List.toList_toArray])
    | (refine WPc.cond (by simp [-Bool.not_eq_eq_eq_not]; rfl) (fun hq => ?_) (fun hq => ?_) <;> simp only [hq] <;> (try (exfalso; (simp only [decide_eq_true_eq, decide_eq_false_iff_not] at hq); omega))))
  all_goals (try simp only [decide_eq_true_eq, decide_eq_false_iff_not] at *)
  all_goals first
    | (exfalso; omega)
    | (simp only [AV.sc.injEq, Value.int.injEq, true_and]; omega)
end Go.Own
