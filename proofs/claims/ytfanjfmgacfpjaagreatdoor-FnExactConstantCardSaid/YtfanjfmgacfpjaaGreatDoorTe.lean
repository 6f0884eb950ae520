import Derived.Test.YtfanjfmgacfpjaaGreatDoorTd
/- Lemmas for the proof in the last text of this claim. -/
set_option linter.unusedVariables false
set_option linter.unusedSimpArgs false
set_option linter.unusedSectionVars false
set_option maxRecDepth 1000000
set_option maxHeartbeats 4000000
namespace Go.Own
attribute [local irreducible] WPc WPL WPS WPS1 WPS2 HAny endP
variable [Laid]
open Go.Lib Go.RowKit
theorem c_impl_ProgOk [F : Facts.Of] (p : Pg) (hs : ∀ c, c ∈ p.nodes → c.sm) (hr : ∀ c, c ∈ p.nodes → c.args.length ≤ 1000000000) : Con PP 73 [p.av] [] [] (fun r o => r = .sc (.bool (progOk p))) := by
  by_cases hN : inRange p.nodes.length 1 400 = true
  · have hN' := hN
    simp only [inRange, Bool.and_eq_true, decide_eq_true_eq] at hN'
    obtain ⟨n1, n2⟩ := hN'
    obtain ⟨m, hm⟩ : ∃ m, p.nodes.length = m + 1 := ⟨p.nodes.length - 1, by omega⟩
    have hw1 : IntKind.i64.wrap ((p.nodes.length : Int) - 1) = m := by rw [wrap64 (by omega) (by omega)]; omega
    by_cases hroot : p.root = (p.nodes.length : Int) - 1
    · have hroot' : (p.root = (m : Int)) = True := by simp only [eq_iff_iff, iff_true]; omega
      have hb1 : (8 : Int) * (p.nodes.length : Int) ≤ 281474976710656 := by omega
      have hb2 : (p.nodes.length : Int) ≤ 9223372036854775807 := by omega
      refine Con.of tok (nt := 77) Go.Proofs.Tryz.func73 (by kernel_rfl) rfl rfl rfl (Nat.le_of_ble_eq_true rfl) fun G => ?_
      simp only [entSt, tmOf, List.append_nil, List.cons_append, List.nil_append, Pg.av]
      repeat' (first
        | apply WPc.sq
        | apply WPc.block
        | apply WPc.skip
        | refine WPL.nil ?_
        | (apply WPL.cL (c_impl_inRange _ _ _); (case q => (repeat' (first | refine And.intro ?_ ?_ | intro _ | exact cleanOut_nil | (refine Eqv.mk ?_; first | rfl | (simp -implicitDefEqProofs [hN, hw1, hroot', hb1, hb2]; done)) | (simp -implicitDefEqProofs [hN, hw1, hroot', hb1, hb2]; done) | (simp -implicitDefEqProofs [hN, hw1, hroot', hb1, hb2]; rfl) | (simp; done) | (simp; rfl) | rfl))))
        | ((first | refine WPc.rq tok rfl fun K hK => ?_ | refine WPL.rn tok _ (by simp [ahead, isFn]; rfl) fun K hK => ?_); simp -implicitDefEqProofs +contextual [-Int.not_le, -Int.not_lt, -Nat.not_le, -Nat.not_lt, -List.all_eq_true, -List.all_eq_false, -List.any_eq_true, -List.any_eq_false, hN, hw1, hroot', hb1, hb2]; (repeat1' (first | apply hK | apply And.intro | intro _)) <;> clear hK K <;> (try dsimp only [List.drop]))
        | (refine WPc.region ?_; simp only [List.toList_toArray])
        | (refine WPc.condF ?_ ?_; (focus (simp; done))))
      refine WPc.loopV (σ := Nat) (fun i => i ≤ p.nodes.length ∧ (∀ j, j < i → okNode p.nodes j = true)) (fun i => p.nodes.length - i) (fun i => [(33, .sc (.int .i64 i))]) (fun i => [(29, 3, 1, (seenTo p.nodes i).map nC)]) [3, 4, 31, 32] 0 (by simp [seenTo_zero, nC]) (by simp [seenTo_zero, nC]) (by simp) ?_
      rintro i ⟨hi, hall⟩ s hs
      simp at hs
      subst hs
      by_cases hlt : i < p.nodes.length
      · have hz := hs _ (List.getElem_mem hlt)
        have hz' : Nd.sm ⟨p.nodes[i].k, p.nodes[i].n, p.nodes[i].s, p.nodes[i].names, p.nodes[i].args⟩ := hz
        have hra := hr _ (List.getElem_mem hlt)
        have ee : nodeOk ⟨p.nodes[i].k, p.nodes[i].n, p.nodes[i].s, p.nodes[i].names, p.nodes[i].args⟩ = nodeOk p.nodes[i] := rfl
        cases hno : nodeOk p.nodes[i] with
        | false =>
          rw [progOk_node hlt (by rw [okNode_eq hlt, hno]; rfl)]
          repeat' (first
            | apply WPc.sq
            | apply WPc.block
            | (refine WPc.ret (endP.val (.inr rfl) rfl rfl (by simp; rfl) ?_))
            | apply WPc.skip
            | refine WPL.nil ?_
            | (apply WPL.cL (c_impl_nodeOk ⟨_, _, _, _, _⟩ ?g1); (case q => (repeat' (first | refine And.intro ?_ ?_ | intro _ | exact cleanOut_nil | (refine Eqv.mk ?_; first | rfl | (simp -implicitDefEqProofs [Nd.cs, Nd.av, hlt, ee, hno]; done)) | (simp -implicitDefEqProofs [Nd.cs, Nd.av, hlt, ee, hno]; done) | (simp -implicitDefEqProofs [Nd.cs, Nd.av, hlt, ee, hno]; rfl) | (simp; done) | (simp; rfl) | rfl))); (case g1 => (first | assumption | omega)))
            | ((first | refine WPc.rq tok rfl fun K hK => ?_ | refine WPL.rn tok _ (by simp [ahead, isFn]; rfl) fun K hK => ?_); simp -implicitDefEqProofs +contextual [-Int.not_le, -Int.not_lt, -Nat.not_le, -Nat.not_lt, -List.all_eq_true, -List.all_eq_false, -List.any_eq_true, -List.any_eq_false, Nd.cs, Nd.av, hlt, ee, hno]; (repeat1' (first | apply hK | apply And.intro | intro _)) <;> clear hK K <;> (try dsimp only [List.drop]))
            | (refine WPc.region ?_; simp only [List.toList_toArray])
            | (refine WPc.condT ?_ ?_; (focus (simp; done))))
          all_goals rfl
        | true =>
          repeat' (first
            | apply WPc.sq
            | apply WPc.block
            | apply WPc.skip
            | refine WPL.nil ?_
            | (apply WPL.cL (c_impl_nodeOk ⟨_, _, _, _, _⟩ ?g1); (case q => (repeat' (first | refine And.intro ?_ ?_ | intro _ | exact cleanOut_nil | (refine Eqv.mk ?_; first | rfl | (simp -implicitDefEqProofs [Nd.cs, Nd.av, hlt, ee, hno]; done)) | (simp -implicitDefEqProofs [Nd.cs, Nd.av, hlt, ee, hno]; done) | (simp -implicitDefEqProofs [Nd.cs, Nd.av, hlt, ee, hno]; rfl) | (simp; done) | (simp; rfl) | rfl))); (case g1 => (first | assumption | omega)))
            | ((first | refine WPc.rq tok rfl fun K hK => ?_ | refine WPL.rn tok _ (by simp [ahead, isFn]; rfl) fun K hK => ?_); simp -implicitDefEqProofs +contextual [-Int.not_le, -Int.not_lt, -Nat.not_le, -Nat.not_lt, -List.all_eq_true, -List.all_eq_false, -List.any_eq_true, -List.any_eq_false, Nd.cs, Nd.av, hlt, ee, hno]; (repeat1' (first | apply hK | apply And.intro | intro _)) <;> clear hK K <;> (try dsimp only [List.drop]))
            | (refine WPc.region ?_; simp only [List.toList_toArray])
            | (refine WPc.condT ?_ ?_; (focus (simp; done)))
            | (refine WPc.condF ?_ ?_; (focus (simp; done))))
          refine WPc.loopV (σ := Nat) (fun k => k ≤ p.nodes[i].args.length ∧ (p.nodes[i].args.take k).all (fun a => inRange a 0 ((i : Int) - 1)) = true) (fun k => p.nodes[i].args.length - k) (fun k => [(44, .sc (.int .i64 k))]) (fun k => [(29, 3, 1, (bumps (seenTo p.nodes i) (p.nodes[i].args.take k)).map nC)]) [3, 4, 5, 31, 32, 33, 42, 43] 0 (by simp [bumps_zero, nC]) (by simp [bumps_zero, nC]) (by simp) ?_
          rintro k ⟨hk, hka⟩ s hs
          simp at hs
          subst hs
          by_cases hklt : k < p.nodes[i].args.length
          · have hv : p.nodes[i].args[k]? = some p.nodes[i].args[k] := List.getElem?_eq_getElem hklt
            have hwi : IntKind.i64.wrap ((i : Int) - 1) = i - 1 := wrap64 (by omega) (by omega)
            cases hin : inRange p.nodes[i].args[k] 0 ((i : Int) - 1) with
            | false =>
              rw [progOk_node hlt (by rw [okNode_eq hlt, argsOk, all_at hv hin, Bool.and_false])]
              repeat' (first
                | apply WPc.sq
                | apply WPc.block
                | (refine WPc.ret (endP.val (.inr rfl) rfl rfl (by simp; rfl) ?_))
                | apply WPc.skip
                | refine WPL.nil ?_
                | (apply WPL.cL (c_impl_inRange _ _ _); (case q => (repeat' (first | refine And.intro ?_ ?_ | intro _ | exact cleanOut_nil | (refine Eqv.mk ?_; first | rfl | (simp -implicitDefEqProofs [Nd.cs, nC, hklt, hwi, hin]; done)) | (simp -implicitDefEqProofs [Nd.cs, nC, hklt, hwi, hin]; done) | (simp -implicitDefEqProofs [Nd.cs, nC, hklt, hwi, hin]; rfl) | (simp; done) | (simp; rfl) | rfl))))
                | ((first | refine WPc.rq tok rfl fun K hK => ?_ | refine WPL.rn tok _ (by simp [ahead, isFn]; rfl) fun K hK => ?_); simp -implicitDefEqProofs +contextual [-Int.not_le, -Int.not_lt, -Nat.not_le, -Nat.not_lt, -List.all_eq_true, -List.all_eq_false, -List.any_eq_true, -List.any_eq_false, Nd.cs, nC, hklt, hwi, hin]; (repeat1' (first | apply hK | apply And.intro | intro _)) <;> clear hK K <;> (try dsimp only [List.drop]))
                | (refine WPc.region ?_; simp only [List.toList_toArray])
                | (refine WPc.condT ?_ ?_; (focus (simp; done))))
              all_goals rfl
            | true =>
              have hin' := hin
              simp only [inRange, Bool.and_eq_true, decide_eq_true_eq] at hin'
              obtain ⟨a0, a1⟩ := hin'
              have hbn := bnd_bumps (p.nodes[i].args.take k) (bnd_seen hr (show i ≤ 400 by omega))
              have hlen : (bumps (seenTo p.nodes i) (p.nodes[i].args.take k)).length = p.nodes.length := by simp
              have hnx := bumps_next (l := seenTo p.nodes i) hklt
              generalize bumps (seenTo p.nodes i) (p.nodes[i].args.take k) = L at *
              have a2 : p.nodes[i].args[k].toNat < L.length := by omega
              have a3 : p.nodes[i].args[k] < (L.length : Int) := by omega
              have a4 : p.nodes[i].args[k] < (p.nodes.length : Int) := by omega
              have a5 : p.nodes[i].args[k].toNat < p.nodes.length := by omega
              have hx := hbn _ (List.getElem_mem a2)
              have hwx : IntKind.i64.wrap (L[p.nodes[i].args[k].toNat] + 1) = L[p.nodes[i].args[k].toNat] + 1 := wrap64 (by omega) (by simp at hx; omega)
              have hmod := modify_nC a2
              repeat' (first
                | apply WPc.sq
                | apply WPc.block
                | apply WPc.skip
                | refine WPL.nil ?_
                | (apply WPL.cL (c_impl_inRange _ _ _); (case q => (repeat' (first | refine And.intro ?_ ?_ | intro _ | exact cleanOut_nil | (refine Eqv.mk ?_; first | rfl | (simp -implicitDefEqProofs [Nd.cs, nC, hklt, hwi, hin, a0, a2, a4, a5, hlen, hwx, hmod]; done)) | (simp -implicitDefEqProofs [Nd.cs, nC, hklt, hwi, hin, a0, a2, a4, a5, hlen, hwx, hmod]; done) | (simp -implicitDefEqProofs [Nd.cs, nC, hklt, hwi, hin, a0, a2, a4, a5, hlen, hwx, hmod]; rfl) | (simp; done) | (simp; rfl) | rfl))))
                | ((first | refine WPc.rq tok rfl fun K hK => ?_ | refine WPL.rn tok _ (by simp [ahead, isFn]; rfl) fun K hK => ?_); simp -implicitDefEqProofs +contextual [-Int.not_le, -Int.not_lt, -Nat.not_le, -Nat.not_lt, -List.all_eq_true, -List.all_eq_false, -List.any_eq_true, -List.any_eq_false, Nd.cs, nC, hklt, hwi, hin, a0, a2, a4, a5, hlen, hwx, hmod]; (repeat1' (first | apply hK | apply And.intro | intro _)) <;> clear hK K <;> (try dsimp only [List.drop]))
                | (refine WPc.region ?_; simp only [List.toList_toArray])
                | (refine WPc.condT ?_ ?_; (focus (simp; done)))
                | (refine WPc.condF ?_ ?_; (focus (simp; done))))
              refine ⟨k + 1, ⟨⟨hklt, all_next hv hin hka⟩, by first | omega | (simp only; omega) | assumption⟩, rfl, rfl, ?_, ?_⟩ <;> simp (disch := omega) [wrap64, hnx, hmod, bump, nC]
          · obtain rfl : k = p.nodes[i].args.length := by omega
            rw [List.take_length] at hka
            have hsn := seenTo_next hlt
            repeat' (first
              | apply WPc.sq
              | apply WPc.exit
              | (refine WPc.rq tok rfl fun K hK => ?_; simp -implicitDefEqProofs +contextual [-Int.not_le, -Int.not_lt, -Nat.not_le, -Nat.not_lt, -List.all_eq_true, -List.all_eq_false, -List.any_eq_true, -List.any_eq_false, hklt]; (repeat1' (first | apply hK | apply And.intro | intro _)) <;> clear hK K <;> (try dsimp only [List.drop]))
              | (refine WPc.condF ?_ ?_; (focus (simp; done))))
            have hok : okNode p.nodes i = true := by rw [okNode_eq hlt, hno, argsOk, hka]; rfl
            have hall2 : ∀ j, j < i + 1 → okNode p.nodes j = true := fun j hj => by
              rcases Nat.lt_succ_iff_lt_or_eq.1 hj with h | rfl
              · exact hall _ h
              · exact hok
            refine ⟨i + 1, ⟨⟨hlt, hall2⟩, by first | omega | (simp only; omega) | assumption⟩, rfl, rfl, ?_, ?_⟩ <;> simp (disch := omega) [wrap64, hsn, List.take_length]
      · obtain rfl : i = p.nodes.length := by omega
        have hlast := seen_last (show 0 < p.nodes.length by omega) hall p.nodes.length (Nat.le_refl _)
        have hlen : (seenTo p.nodes p.nodes.length).length = p.nodes.length := by simp
        have hno := fun (i : Nat) (hi : i < p.nodes.length - 1) (x : Int) => progOk_seen (p := p) hi (x := x)
        have hyes := progOk_yes (p := p) hN hroot hall
        generalize seenTo p.nodes p.nodes.length = S at *
        have hm1 : p.nodes.length - 1 = m := by omega
        rw [hm1] at hlast hyes
        have l0 : m < S.length := by omega
        have l1 : m ≤ p.nodes.length := by omega
        have l2 : (m : Int) ≤ (p.nodes.length : Int) := by omega
        have l3 : (m : Int) < (p.nodes.length : Int) := by omega
        have l4 : m < p.nodes.length := by omega
        have l5 : S[m] = 0 := by rw [List.getElem?_eq_getElem l0] at hlast; exact Option.some.inj hlast
        repeat' (first
          | apply WPc.sq
          | apply WPc.block
          | apply WPc.exit
          | (refine WPc.rq tok rfl fun K hK => ?_; simp -implicitDefEqProofs +contextual [-Int.not_le, -Int.not_lt, -Nat.not_le, -Nat.not_lt, -List.all_eq_true, -List.all_eq_false, -List.any_eq_true, -List.any_eq_false, l0, l1, l2, l3, l4, hlen]; (repeat1' (first | apply hK | apply And.intro | intro _)) <;> clear hK K <;> (try dsimp only [List.drop]))
          | (refine WPc.condF ?_ ?_; (focus (simp; done))))
        refine WPc.loopV (σ := Nat) (fun i => i ≤ m ∧ (S.take i).all (fun n => decide (n = 1)) = true) (fun i => m - i) (fun i => [(65, .sc (.int .i64 i))]) (fun i => [(29, 3, 1, S.map nC)]) [3, 4, 63, 64] 0 (by simp) (by simp) (by simp) ?_
        rintro i ⟨hi, hall1⟩ s hs
        simp at hs
        subst hs
        by_cases hlt2 : i < m
        · have hiS : i < S.length := by omega
          have hiN : i < p.nodes.length := by omega
          by_cases he : S[i] = 1
          · repeat' (first
              | apply WPc.sq
              | apply WPc.block
              | apply WPc.skip
              | (refine WPc.rq tok rfl fun K hK => ?_; simp -implicitDefEqProofs +contextual [-Int.not_le, -Int.not_lt, -Nat.not_le, -Nat.not_lt, -List.all_eq_true, -List.all_eq_false, -List.any_eq_true, -List.any_eq_false, nC, hlt2, hiS, hiN, he, hlen]; (repeat1' (first | apply hK | apply And.intro | intro _)) <;> clear hK K <;> (try dsimp only [List.drop]))
              | (refine WPc.condT ?_ ?_; (focus (simp; done)))
              | (refine WPc.condF ?_ ?_; (focus (simp; done))))
            refine ⟨i + 1, ⟨⟨hlt2, all_next (List.getElem?_eq_getElem hiS) (by simp [he]) hall1⟩, by first | omega | (simp only; omega) | assumption⟩, rfl, rfl, ?_, ?_⟩ <;> simp (disch := omega) [wrap64]
          · rw [hno i (by omega) _ (List.getElem?_eq_getElem hiS) he]
            repeat' (first
              | apply WPc.sq
              | apply WPc.block
              | (refine WPc.ret (endP.val (.inr rfl) rfl rfl (by simp; rfl) ?_))
              | apply WPc.skip
              | (refine WPc.rq tok rfl fun K hK => ?_; simp -implicitDefEqProofs +contextual [-Int.not_le, -Int.not_lt, -Nat.not_le, -Nat.not_lt, -List.all_eq_true, -List.all_eq_false, -List.any_eq_true, -List.any_eq_false, nC, hlt2, hiS, hiN, he, hlen]; (repeat1' (first | apply hK | apply And.intro | intro _)) <;> clear hK K <;> (try dsimp only [List.drop]))
              | (refine WPc.condT ?_ ?_; (focus (simp; done))))
            all_goals rfl
        · obtain rfl : i = m := by omega
          rw [hyes hall1]
          repeat' (first
            | apply WPc.sq
            | (refine WPc.ret (endP.val (.inr rfl) rfl rfl (by simp; rfl) ?_))
            | apply WPc.exit
            | (refine WPc.rq tok rfl fun K hK => ?_; simp -implicitDefEqProofs +contextual [-Int.not_le, -Int.not_lt, -Nat.not_le, -Nat.not_lt, -List.all_eq_true, -List.all_eq_false, -List.any_eq_true, -List.any_eq_false, nC, hlt2, l0, l1, l2, l3, l4, l5, hlen]; (repeat1' (first | apply hK | apply And.intro | intro _)) <;> clear hK K <;> (try dsimp only [List.drop]))
            | (refine WPc.condF ?_ ?_; (focus (simp; done))))
          all_goals rfl
    · have hroot' : (p.root = (m : Int)) = False := by simp only [eq_iff_iff, iff_false]; omega
      rw [progOk_root hroot]
      refine Con.of tok (nt := 77) Go.Proofs.Tryz.func73 (by kernel_rfl) rfl rfl rfl (Nat.le_of_ble_eq_true rfl) fun G => ?_
      simp only [entSt, tmOf, List.append_nil, List.cons_append, List.nil_append, Pg.av]
      repeat' (first
        | apply WPc.sq
        | (refine WPc.ret (endP.val (.inr rfl) rfl rfl (by simp; rfl) ?_))
        | refine WPL.nil ?_
        | (apply WPL.cL (c_impl_inRange _ _ _); (case q => (repeat' (first | refine And.intro ?_ ?_ | intro _ | exact cleanOut_nil | (refine Eqv.mk ?_; first | rfl | (simp -implicitDefEqProofs [hN, hw1, hroot']; done)) | (simp -implicitDefEqProofs [hN, hw1, hroot']; done) | (simp -implicitDefEqProofs [hN, hw1, hroot']; rfl) | (simp; done) | (simp; rfl) | rfl))))
        | ((first | refine WPc.rq tok rfl fun K hK => ?_ | refine WPL.rn tok _ (by simp [ahead, isFn]; rfl) fun K hK => ?_); simp -implicitDefEqProofs +contextual [-Int.not_le, -Int.not_lt, -Nat.not_le, -Nat.not_lt, -List.all_eq_true, -List.all_eq_false, -List.any_eq_true, -List.any_eq_false, hN, hw1, hroot']; (repeat1' (first | apply hK | apply And.intro | intro _)) <;> clear hK K <;> (try dsimp only [List.drop]))
        | (refine WPc.region ?_; simp only [List.toList_toArray])
        | (refine WPc.condT ?_ ?_; (focus (simp; done))))
      all_goals rfl
  · have hN' : inRange p.nodes.length 1 400 = false := by simpa using hN
    rw [progOk_len hN']
    refine Con.of tok (nt := 77) Go.Proofs.Tryz.func73 (by kernel_rfl) rfl rfl rfl (Nat.le_of_ble_eq_true rfl) fun G => ?_
    simp only [entSt, tmOf, List.append_nil, List.cons_append, List.nil_append, Pg.av]
    repeat' (first
      | apply WPc.sq
      | (refine WPc.ret (endP.val (.inr rfl) rfl rfl (by simp; rfl) ?_))
      | refine WPL.nil ?_
      | (apply WPL.cL (c_impl_inRange _ _ _); (case q => (repeat' (first | refine And.intro ?_ ?_ | intro _ | exact cleanOut_nil | (refine Eqv.mk ?_; first | rfl | (simp -implicitDefEqProofs [hN']; done)) | (simp -implicitDefEqProofs [hN']; done) | (simp -implicitDefEqProofs [hN']; rfl) | (simp; done) | (simp; rfl) | rfl))))
      | ((first | refine WPc.rq tok rfl fun K hK => ?_ | refine WPL.rn tok _ (by simp [ahead, isFn]; rfl) fun K hK => ?_); simp -implicitDefEqProofs +contextual [-Int.not_le, -Int.not_lt, -Nat.not_le, -Nat.not_lt, -List.all_eq_true, -List.all_eq_false, -List.any_eq_true, -List.any_eq_false, hN']; (repeat1' (first | apply hK | apply And.intro | intro _)) <;> clear hK K <;> (try dsimp only [List.drop]))
      | (refine WPc.region ?_; simp only [List.toList_toArray])
      | (refine WPc.condT ?_ ?_; (focus (simp; done))))
    all_goals rfl
end Go.Own
set_option maxRecDepth 1000000
set_option maxHeartbeats 4000000
namespace Go.Own
attribute [local irreducible] WPc WPL WPS WPS1 WPS2 HAny endP
variable [Laid]
open Go.Lib Go.RowKit
theorem c_spec_ProgOk (p : Pg) (hs : ∀ c, c ∈ p.nodes → c.sm) (hr : ∀ c, c ∈ p.nodes → c.args.length ≤ 1000000000) : Con PP 70 [p.av] [] [] (fun r o => r = .sc (.bool (progOk p))) := by
  by_cases hN : inRange p.nodes.length 1 400 = true
  · have hN' := hN
    simp only [inRange, Bool.and_eq_true, decide_eq_true_eq] at hN'
    obtain ⟨n1, n2⟩ := hN'
    obtain ⟨m, hm⟩ : ∃ m, p.nodes.length = m + 1 := ⟨p.nodes.length - 1, by omega⟩
    have hw1 : IntKind.i64.wrap ((p.nodes.length : Int) - 1) = m := by rw [wrap64 (by omega) (by omega)]; omega
    by_cases hroot : p.root = (p.nodes.length : Int) - 1
    · have hroot' : (p.root = (m : Int)) = True := by simp only [eq_iff_iff, iff_true]; omega
      have hb1 : (8 : Int) * (p.nodes.length : Int) ≤ 281474976710656 := by omega
      have hb2 : (p.nodes.length : Int) ≤ 9223372036854775807 := by omega
      refine Con.of tok (nt := 87) Go.Proofs.Tryz.func70 (by kernel_rfl) rfl rfl rfl (Nat.le_of_ble_eq_true rfl) fun G => ?_
      simp only [entSt, tmOf, List.append_nil, List.cons_append, List.nil_append, Pg.av]
      repeat' (first
        | apply WPc.sq
        | apply WPc.block
        | apply WPc.skip
        | refine WPL.nil ?_
        | (apply WPL.cL (c_spec_l1In _ _ _); (case q => (repeat' (first | refine And.intro ?_ ?_ | intro _ | exact cleanOut_nil | (refine Eqv.mk ?_; first | rfl | (simp -implicitDefEqProofs [hN, hw1, hroot', hb1, hb2]; done)) | (simp -implicitDefEqProofs [hN, hw1, hroot', hb1, hb2]; done) | (simp -implicitDefEqProofs [hN, hw1, hroot', hb1, hb2]; rfl) | (simp; done) | (simp; rfl) | rfl))))
        | ((first | refine WPc.rq tok rfl fun K hK => ?_ | refine WPL.rn tok _ (by simp [ahead, isFn]; rfl) fun K hK => ?_); simp -implicitDefEqProofs +contextual [-Int.not_le, -Int.not_lt, -Nat.not_le, -Nat.not_lt, -List.all_eq_true, -List.all_eq_false, -List.any_eq_true, -List.any_eq_false, hN, hw1, hroot', hb1, hb2]; (repeat1' (first | apply hK | apply And.intro | intro _)) <;> clear hK K <;> (try dsimp only [List.drop]))
        | (refine WPc.region ?_; simp only [List.toList_toArray])
        | (refine WPc.condF ?_ ?_; (focus (simp; done))))
      refine WPc.loopV (σ := Nat) (fun i => i ≤ p.nodes.length ∧ (∀ j, j < i → okNode p.nodes j = true)) (fun i => p.nodes.length - i) (fun i => [(4, .sc (.int .i64 i))]) (fun i => [(1, 54, 2, [[.fz (p.nodes.map Nd.cs), .sc (.int .i64 p.root)]]), (25, 3, 1, (seenTo p.nodes i).map nC)]) [1, 3] 0 (by simp [seenTo_zero, nC]) (by simp [seenTo_zero, nC]) (by simp) ?_
      rintro i ⟨hi, hall⟩ s hs
      simp at hs
      subst hs
      by_cases hlt : i < p.nodes.length
      · have hz := hs _ (List.getElem_mem hlt)
        have hz' : Nd.sm ⟨p.nodes[i].k, p.nodes[i].n, p.nodes[i].s, p.nodes[i].names, p.nodes[i].args⟩ := hz
        have hra := hr _ (List.getElem_mem hlt)
        have ee : nodeOk ⟨p.nodes[i].k, p.nodes[i].n, p.nodes[i].s, p.nodes[i].names, p.nodes[i].args⟩ = nodeOk p.nodes[i] := rfl
        cases hno : nodeOk p.nodes[i] with
        | false =>
          rw [progOk_node hlt (by rw [okNode_eq hlt, hno]; rfl)]
          repeat' (first
            | apply WPc.sq
            | apply WPc.block
            | (refine WPc.ret (endP.val (.inr rfl) rfl rfl (by simp; rfl) ?_))
            | apply WPc.skip
            | refine WPL.nil ?_
            | (apply WPL.cL (c_spec_l3Node ⟨_, _, _, _, _⟩ ?g1); (case q => (repeat' (first | refine And.intro ?_ ?_ | intro _ | exact cleanOut_nil | (refine Eqv.mk ?_; first | rfl | (simp -implicitDefEqProofs [Nd.cs, Nd.av, hlt, ee, hno]; done)) | (simp -implicitDefEqProofs [Nd.cs, Nd.av, hlt, ee, hno]; done) | (simp -implicitDefEqProofs [Nd.cs, Nd.av, hlt, ee, hno]; rfl) | (simp; done) | (simp; rfl) | rfl))); (case g1 => (first | assumption | omega)))
            | ((first | refine WPc.rq tok rfl fun K hK => ?_ | refine WPL.rn tok _ (by simp [ahead, isFn]; rfl) fun K hK => ?_); simp -implicitDefEqProofs +contextual [-Int.not_le, -Int.not_lt, -Nat.not_le, -Nat.not_lt, -List.all_eq_true, -List.all_eq_false, -List.any_eq_true, -List.any_eq_false, Nd.cs, Nd.av, hlt, ee, hno]; (repeat1' (first | apply hK | apply And.intro | intro _)) <;> clear hK K <;> (try dsimp only [List.drop]))
            | (refine WPc.region ?_; simp only [List.toList_toArray])
            | (refine WPc.condT ?_ ?_; (focus (simp; done))))
          all_goals rfl
        | true =>
          repeat' (first
            | apply WPc.sq
            | apply WPc.block
            | apply WPc.skip
            | refine WPL.nil ?_
            | (apply WPL.cL (c_spec_l3Node ⟨_, _, _, _, _⟩ ?g1); (case q => (repeat' (first | refine And.intro ?_ ?_ | intro _ | exact cleanOut_nil | (refine Eqv.mk ?_; first | rfl | (simp -implicitDefEqProofs [Nd.cs, Nd.av, hlt, ee, hno]; done)) | (simp -implicitDefEqProofs [Nd.cs, Nd.av, hlt, ee, hno]; done) | (simp -implicitDefEqProofs [Nd.cs, Nd.av, hlt, ee, hno]; rfl) | (simp; done) | (simp; rfl) | rfl))); (case g1 => (first | assumption | omega)))
            | ((first | refine WPc.rq tok rfl fun K hK => ?_ | refine WPL.rn tok _ (by simp [ahead, isFn]; rfl) fun K hK => ?_); simp -implicitDefEqProofs +contextual [-Int.not_le, -Int.not_lt, -Nat.not_le, -Nat.not_lt, -List.all_eq_true, -List.all_eq_false, -List.any_eq_true, -List.any_eq_false, Nd.cs, Nd.av, hlt, ee, hno]; (repeat1' (first | apply hK | apply And.intro | intro _)) <;> clear hK K <;> (try dsimp only [List.drop]))
            | (refine WPc.region ?_; simp only [List.toList_toArray])
            | (refine WPc.condT ?_ ?_; (focus (simp; done)))
            | (refine WPc.condF ?_ ?_; (focus (simp; done))))
          refine WPc.loopV (σ := Nat) (fun k => k ≤ p.nodes[i].args.length ∧ (p.nodes[i].args.take k).all (fun a => inRange a 0 ((i : Int) - 1)) = true) (fun k => p.nodes[i].args.length - k) (fun k => [(5, .sc (.int .i64 k))]) (fun k => [(1, 54, 2, [[.fz (p.nodes.map Nd.cs), .sc (.int .i64 p.root)]]), (25, 3, 1, (bumps (seenTo p.nodes i) (p.nodes[i].args.take k)).map nC)]) [1, 3, 4] 0 (by simp [bumps_zero, nC]) (by simp [bumps_zero, nC]) (by simp) ?_
          rintro k ⟨hk, hka⟩ s hs
          simp at hs
          subst hs
          by_cases hklt : k < p.nodes[i].args.length
          · have hv : p.nodes[i].args[k]? = some p.nodes[i].args[k] := List.getElem?_eq_getElem hklt
            cases hin : inRange p.nodes[i].args[k] 0 ((i : Int) - 1) with
            | false =>
              rw [progOk_node hlt (by rw [okNode_eq hlt, argsOk, all_at hv hin, Bool.and_false])]
              have hin' : p.nodes[i].args[k] < 0 ∨ (0 ≤ p.nodes[i].args[k] ∧ (i : Int) ≤ p.nodes[i].args[k]) := by
                simp only [inRange, Bool.and_eq_false_iff, decide_eq_false_iff_not] at hin; omega
              rcases hin' with hb | ⟨hb, hb2⟩
              · repeat' (first
                  | apply WPc.sq
                  | apply WPc.block
                  | (refine WPc.ret (endP.val (.inr rfl) rfl rfl (by simp; rfl) ?_))
                  | apply WPc.skip
                  | (refine WPc.rq tok rfl fun K hK => ?_; simp -implicitDefEqProofs +contextual [-Int.not_le, -Int.not_lt, -Nat.not_le, -Nat.not_lt, -List.all_eq_true, -List.all_eq_false, -List.any_eq_true, -List.any_eq_false, Nd.cs, nC, hlt, hklt, hb]; (repeat1' (first | apply hK | apply And.intro | intro _)) <;> clear hK K <;> (try dsimp only [List.drop]))
                  | (refine WPc.condT ?_ ?_; (focus (simp; done))))
                all_goals rfl
              · have hb' : ¬ p.nodes[i].args[k] < 0 := by omega
                repeat' (first
                  | apply WPc.sq
                  | apply WPc.block
                  | (refine WPc.ret (endP.val (.inr rfl) rfl rfl (by simp; rfl) ?_))
                  | apply WPc.skip
                  | (refine WPc.rq tok rfl fun K hK => ?_; simp -implicitDefEqProofs +contextual [-Int.not_le, -Int.not_lt, -Nat.not_le, -Nat.not_lt, -List.all_eq_true, -List.all_eq_false, -List.any_eq_true, -List.any_eq_false, Nd.cs, nC, hlt, hklt, hb', hb2]; (repeat1' (first | apply hK | apply And.intro | intro _)) <;> clear hK K <;> (try dsimp only [List.drop]))
                  | (refine WPc.condT ?_ ?_; (focus (simp; done))))
                all_goals rfl
            | true =>
              have hin' := hin
              simp only [inRange, Bool.and_eq_true, decide_eq_true_eq] at hin'
              obtain ⟨a0, a1⟩ := hin'
              have hbn := bnd_bumps (p.nodes[i].args.take k) (bnd_seen hr (show i ≤ 400 by omega))
              have hlen : (bumps (seenTo p.nodes i) (p.nodes[i].args.take k)).length = p.nodes.length := by simp
              have hnx := bumps_next (l := seenTo p.nodes i) hklt
              generalize bumps (seenTo p.nodes i) (p.nodes[i].args.take k) = L at *
              have b0 : ¬ p.nodes[i].args[k] < 0 := by omega
              have b1 : ¬ (i : Int) ≤ p.nodes[i].args[k] := by omega
              have a2 : p.nodes[i].args[k].toNat < L.length := by omega
              have a3 : p.nodes[i].args[k] < (L.length : Int) := by omega
              have a4 : p.nodes[i].args[k] < (p.nodes.length : Int) := by omega
              have a5 : p.nodes[i].args[k].toNat < p.nodes.length := by omega
              have hx := hbn _ (List.getElem_mem a2)
              have hwx : IntKind.i64.wrap (L[p.nodes[i].args[k].toNat] + 1) = L[p.nodes[i].args[k].toNat] + 1 := wrap64 (by omega) (by simp at hx; omega)
              have hmod := modify_nC a2
              repeat' (first
                | apply WPc.sq
                | apply WPc.block
                | apply WPc.skip
                | (refine WPc.rq tok rfl fun K hK => ?_; simp -implicitDefEqProofs +contextual [-Int.not_le, -Int.not_lt, -Nat.not_le, -Nat.not_lt, -List.all_eq_true, -List.all_eq_false, -List.any_eq_true, -List.any_eq_false, Nd.cs, nC, hlt, hklt, b0, b1, a0, a2, a4, a5, hlen, hwx, hmod]; (repeat1' (first | apply hK | apply And.intro | intro _)) <;> clear hK K <;> (try dsimp only [List.drop]))
                | (refine WPc.condT ?_ ?_; (focus (simp; done)))
                | (refine WPc.condF ?_ ?_; (focus (simp; done))))
              refine ⟨k + 1, ⟨⟨hklt, all_next hv hin hka⟩, by first | omega | (simp only; omega) | assumption⟩, rfl, rfl, ?_, ?_⟩ <;> simp (disch := omega) [wrap64, hnx, hmod, bump, nC]
          · obtain rfl : k = p.nodes[i].args.length := by omega
            rw [List.take_length] at hka
            have hsn := seenTo_next hlt
            repeat' (first
              | apply WPc.sq
              | apply WPc.exit
              | (refine WPc.rq tok rfl fun K hK => ?_; simp -implicitDefEqProofs +contextual [-Int.not_le, -Int.not_lt, -Nat.not_le, -Nat.not_lt, -List.all_eq_true, -List.all_eq_false, -List.any_eq_true, -List.any_eq_false, Nd.cs, nC, hlt, hklt]; (repeat1' (first | apply hK | apply And.intro | intro _)) <;> clear hK K <;> (try dsimp only [List.drop]))
              | (refine WPc.condF ?_ ?_; (focus (simp; done))))
            have hok : okNode p.nodes i = true := by rw [okNode_eq hlt, hno, argsOk, hka]; rfl
            have hall2 : ∀ j, j < i + 1 → okNode p.nodes j = true := fun j hj => by
              rcases Nat.lt_succ_iff_lt_or_eq.1 hj with h | rfl
              · exact hall _ h
              · exact hok
            refine ⟨i + 1, ⟨⟨hlt, hall2⟩, by first | omega | (simp only; omega) | assumption⟩, rfl, rfl, ?_, ?_⟩ <;> simp (disch := omega) [wrap64, hsn, List.take_length]
      · obtain rfl : i = p.nodes.length := by omega
        have hlast := seen_last (show 0 < p.nodes.length by omega) hall p.nodes.length (Nat.le_refl _)
        have hlen : (seenTo p.nodes p.nodes.length).length = p.nodes.length := by simp
        have hno := fun (i : Nat) (hi : i < p.nodes.length - 1) (x : Int) => progOk_seen (p := p) hi (x := x)
        have hyes := progOk_yes (p := p) hN hroot hall
        generalize seenTo p.nodes p.nodes.length = S at *
        have hm1 : p.nodes.length - 1 = m := by omega
        rw [hm1] at hlast hyes
        have l0 : m < S.length := by omega
        have l1 : m ≤ p.nodes.length := by omega
        have l2 : (m : Int) ≤ (p.nodes.length : Int) := by omega
        have l3 : (m : Int) < (p.nodes.length : Int) := by omega
        have l4 : m < p.nodes.length := by omega
        have l5 : S[m] = 0 := by rw [List.getElem?_eq_getElem l0] at hlast; exact Option.some.inj hlast
        repeat' (first
          | apply WPc.sq
          | apply WPc.block
          | apply WPc.exit
          | (refine WPc.rq tok rfl fun K hK => ?_; simp -implicitDefEqProofs +contextual [-Int.not_le, -Int.not_lt, -Nat.not_le, -Nat.not_lt, -List.all_eq_true, -List.all_eq_false, -List.any_eq_true, -List.any_eq_false, l0, l1, l2, l3, l4, hlen]; (repeat1' (first | apply hK | apply And.intro | intro _)) <;> clear hK K <;> (try dsimp only [List.drop]))
          | (refine WPc.condF ?_ ?_; (focus (simp; done))))
        refine WPc.loopV (σ := Nat) (fun i => i ≤ m ∧ (S.take i).all (fun n => decide (n = 1)) = true) (fun i => m - i) (fun i => [(7, .sc (.int .i64 i))]) (fun i => [(1, 54, 2, [[.fz (p.nodes.map Nd.cs), .sc (.int .i64 p.root)]]), (25, 3, 1, S.map nC)]) [3] 0 (by simp) (by simp) (by simp) ?_
        rintro i ⟨hi, hall1⟩ s hs
        simp at hs
        subst hs
        by_cases hlt2 : i < m
        · have hiS : i < S.length := by omega
          have hiN : i < p.nodes.length := by omega
          by_cases he : S[i] = 1
          · repeat' (first
              | apply WPc.sq
              | apply WPc.block
              | apply WPc.skip
              | (refine WPc.rq tok rfl fun K hK => ?_; simp -implicitDefEqProofs +contextual [-Int.not_le, -Int.not_lt, -Nat.not_le, -Nat.not_lt, -List.all_eq_true, -List.all_eq_false, -List.any_eq_true, -List.any_eq_false, nC, hlt2, hiS, hiN, he, hlen]; (repeat1' (first | apply hK | apply And.intro | intro _)) <;> clear hK K <;> (try dsimp only [List.drop]))
              | (refine WPc.condF ?_ ?_; (focus (simp; done)))
              | (refine WPc.cond (by simp [-Bool.not_eq_eq_eq_not]; rfl) (fun hq => ?_) (fun hq => ?_) <;> simp only [hq] <;> (try (exfalso; (simp only [decide_eq_true_eq, decide_eq_false_iff_not] at hq); omega))))
            refine ⟨i + 1, ⟨⟨hlt2, all_next (List.getElem?_eq_getElem hiS) (by simp [he]) hall1⟩, by first | omega | (simp only; omega) | assumption⟩, rfl, rfl, ?_, ?_⟩ <;> simp (disch := omega) [wrap64]
          · rw [hno i (by omega) _ (List.getElem?_eq_getElem hiS) he]
            repeat' (first
              | apply WPc.sq
              | apply WPc.block
              | (refine WPc.ret (endP.val (.inr rfl) rfl rfl (by simp; rfl) ?_))
              | apply WPc.skip
              | (refine WPc.rq tok rfl fun K hK => ?_; simp -implicitDefEqProofs +contextual [-Int.not_le, -Int.not_lt, -Nat.not_le, -Nat.not_lt, -List.all_eq_true, -List.all_eq_false, -List.any_eq_true, -List.any_eq_false, nC, hlt2, hiS, hiN, he, hlen]; (repeat1' (first | apply hK | apply And.intro | intro _)) <;> clear hK K <;> (try dsimp only [List.drop]))
              | (refine WPc.condT ?_ ?_; (focus (simp; done)))
              | (refine WPc.cond (by simp [-Bool.not_eq_eq_eq_not]; rfl) (fun hq => ?_) (fun hq => ?_) <;> simp only [hq] <;> (try (exfalso; (simp only [decide_eq_true_eq, decide_eq_false_iff_not] at hq); omega))))
            all_goals rfl
        · obtain rfl : i = m := by omega
          rw [hyes hall1]
          repeat' (first
            | apply WPc.sq
            | (refine WPc.ret (endP.val (.inr rfl) rfl rfl (by simp; rfl) ?_))
            | apply WPc.exit
            | (refine WPc.rq tok rfl fun K hK => ?_; simp -implicitDefEqProofs +contextual [-Int.not_le, -Int.not_lt, -Nat.not_le, -Nat.not_lt, -List.all_eq_true, -List.all_eq_false, -List.any_eq_true, -List.any_eq_false, nC, hlt2, l0, l1, l2, l3, l4, l5, hlen]; (repeat1' (first | apply hK | apply And.intro | intro _)) <;> clear hK K <;> (try dsimp only [List.drop]))
            | (refine WPc.cond (by simp [-Bool.not_eq_eq_eq_not]; rfl) (fun hq => ?_) (fun hq => ?_) <;> simp only [hq] <;> (try (exfalso; (simp only [decide_eq_true_eq, decide_eq_false_iff_not] at hq); omega))))
          all_goals rfl
    · have hroot' : (p.root = (m : Int)) = False := by simp only [eq_iff_iff, iff_false]; omega
      rw [progOk_root hroot]
      refine Con.of tok (nt := 87) Go.Proofs.Tryz.func70 (by kernel_rfl) rfl rfl rfl (Nat.le_of_ble_eq_true rfl) fun G => ?_
      simp only [entSt, tmOf, List.append_nil, List.cons_append, List.nil_append, Pg.av]
      repeat' (first
        | apply WPc.sq
        | (refine WPc.ret (endP.val (.inr rfl) rfl rfl (by simp; rfl) ?_))
        | refine WPL.nil ?_
        | (apply WPL.cL (c_spec_l1In _ _ _); (case q => (repeat' (first | refine And.intro ?_ ?_ | intro _ | exact cleanOut_nil | (refine Eqv.mk ?_; first | rfl | (simp -implicitDefEqProofs [hN, hw1, hroot']; done)) | (simp -implicitDefEqProofs [hN, hw1, hroot']; done) | (simp -implicitDefEqProofs [hN, hw1, hroot']; rfl) | (simp; done) | (simp; rfl) | rfl))))
        | ((first | refine WPc.rq tok rfl fun K hK => ?_ | refine WPL.rn tok _ (by simp [ahead, isFn]; rfl) fun K hK => ?_); simp -implicitDefEqProofs +contextual [-Int.not_le, -Int.not_lt, -Nat.not_le, -Nat.not_lt, -List.all_eq_true, -List.all_eq_false, -List.any_eq_true, -List.any_eq_false, hN, hw1, hroot']; (repeat1' (first | apply hK | apply And.intro | intro _)) <;> clear hK K <;> (try dsimp only [List.drop]))
        | (refine WPc.region ?_; simp only [List.toList_toArray])
        | (refine WPc.condT ?_ ?_; (focus (simp; done))))
      all_goals rfl
  · have hN' : inRange p.nodes.length 1 400 = false := by simpa using hN
    rw [progOk_len hN']
    refine Con.of tok (nt := 87) Go.Proofs.Tryz.func70 (by kernel_rfl) rfl rfl rfl (Nat.le_of_ble_eq_true rfl) fun G => ?_
    simp only [entSt, tmOf, List.append_nil, List.cons_append, List.nil_append, Pg.av]
    repeat' (first
      | apply WPc.sq
      | (refine WPc.ret (endP.val (.inr rfl) rfl rfl (by simp; rfl) ?_))
      | refine WPL.nil ?_
      | (apply WPL.cL (c_spec_l1In _ _ _); (case q => (repeat' (first | refine And.intro ?_ ?_ | intro _ | exact cleanOut_nil | (refine Eqv.mk ?_; first | rfl | (simp -implicitDefEqProofs [hN']; done)) | (simp -implicitDefEqProofs [hN']; done) | (simp -implicitDefEqProofs [hN']; rfl) | (simp; done) | (simp; rfl) | rfl))))
      | ((first | refine WPc.rq tok rfl fun K hK => ?_ | refine WPL.rn tok _ (by simp [ahead, isFn]; rfl) fun K hK => ?_); simp -implicitDefEqProofs +contextual [-Int.not_le, -Int.not_lt, -Nat.not_le, -Nat.not_lt, -List.all_eq_true, -List.all_eq_false, -List.any_eq_true, -List.any_eq_false, hN']; (repeat1' (first | apply hK | apply And.intro | intro _)) <;> clear hK K <;> (try dsimp only [List.drop]))
      | (refine WPc.region ?_; simp only [List.toList_toArray])
      | (refine WPc.condT ?_ ?_; (focus (simp; done))))
    all_goals rfl
end Go.Own
set_option maxRecDepth 1000000
set_option maxHeartbeats 4000000
namespace Go.Own
inductive T where
  | nd (k n : Int) (s : ByteArray) (names : List ByteArray) (kids : List T)
mutual
def T.size : T → Nat
  | .nd _ _ _ _ ks => sizeL ks + 1
def sizeL : List T → Nat
  | [] => 0
  | t :: ts => t.size + sizeL ts
end
theorem T.size_pos : ∀ t : T, 0 < t.size
  | .nd _ _ _ _ ks => by simp [T.size]
mutual
def Rep (ns : List Nd) (i : Int) : T → Prop
  | .nd k n s names ks => 0 ≤ i ∧ ∃ c, ns[i.toNat]? = some c ∧ c.k = k ∧ c.n = n ∧ c.s = s ∧ c.names = names ∧ (∀ a, a ∈ c.args → a < i) ∧ RepL ns c.args ks
def RepL (ns : List Nd) (is : List Int) : List T → Prop
  | [] => is = []
  | t :: ts => ∃ i js, is = i :: js ∧ Rep ns i t ∧ RepL ns js ts
end
mutual
theorem Rep.same {ns ms : List Nd} {b : Int} (h : ∀ j : Nat, (j : Int) < b → ms[j]? = ns[j]?) : ∀ {t : T} {i : Int}, i < b → Rep ns i t → Rep ms i t
  | .nd k n s names ks, i, hi, hr => by
    simp only [Rep] at hr ⊢
    obtain ⟨h0, c, hc, h1, h2, h3, h4, h5, h6⟩ := hr
    exact ⟨h0, c, (h i.toNat (by omega)).trans hc, h1, h2, h3, h4, h5, RepL.same h (fun a ha => by have := h5 a ha; omega) h6⟩
theorem RepL.same {ns ms : List Nd} {b : Int} (h : ∀ j : Nat, (j : Int) < b → ms[j]? = ns[j]?) : ∀ {ts : List T} {is : List Int}, (∀ i, i ∈ is → i < b) → RepL ns is ts → RepL ms is ts
  | [], is, _, hr => by simpa [RepL] using hr
  | t :: ts, is, hi, hr => by
    simp only [RepL] at hr ⊢
    obtain ⟨i, js, rfl, h1, h2⟩ := hr
    exact ⟨i, js, rfl, Rep.same h (hi i (by simp)) h1, RepL.same h (fun a ha => hi a (by simp [ha])) h2⟩
end
theorem Rep.lt {ns : List Nd} {i : Int} {t : T} (h : Rep ns i t) : 0 ≤ i ∧ i < ns.length := by
  cases t with
  | nd k n s names ks =>
    simp only [Rep] at h
    obtain ⟨h0, c, hc, _⟩ := h
    have := (List.getElem?_eq_some_iff.1 hc).1
    omega
theorem Rep.app {ns : List Nd} {i : Int} {t : T} (h : Rep ns i t) (ms : List Nd) : Rep (ns ++ ms) i t :=
  Rep.same (b := ns.length) (fun j hj => List.getElem?_append_left (by omega)) h.lt.2 h
theorem RepL.app {ns : List Nd} {ts : List T} : ∀ {is : List Int} (_ : RepL ns is ts) (ms : List Nd), RepL (ns ++ ms) is ts := by
  induction ts with
  | nil => intro is h ms; simpa [RepL] using h
  | cons t ts ih =>
    intro is h ms
    simp only [RepL] at h ⊢
    obtain ⟨i, js, rfl, h1, h2⟩ := h
    exact ⟨i, js, rfl, h1.app ms, ih h2 ms⟩
theorem RepL.len {ns : List Nd} : ∀ {ts : List T} {is : List Int}, RepL ns is ts → is.length = ts.length
  | [], is, h => by simp only [RepL] at h; subst h; rfl
  | t :: ts, is, h => by
    simp only [RepL] at h
    obtain ⟨i, js, rfl, h1, h2⟩ := h
    simp [RepL.len h2]
theorem RepL.get {ns : List Nd} : ∀ {ts : List T} {is : List Int} {k : Nat} {i : Int} {t : T}, RepL ns is ts → is[k]? = some i → ts[k]? = some t → Rep ns i t
  | [], is, k, i, t, h, h1, h2 => by simp at h2
  | u :: ts, is, k, i, t, h, h1, h2 => by
    simp only [RepL] at h
    obtain ⟨j, js, rfl, g1, g2⟩ := h
    cases k with
    | zero => simp at h1 h2; subst h1 h2; exact g1
    | succ k => exact g2.get (by simpa using h1) (by simpa using h2)
mutual
def serT : T → List Nd → List Nd
  | .nd k n s names ks, out => (serL ks out).2 ++ [⟨k, n, s, names, (serL ks out).1⟩]
def serL : List T → List Nd → List Int × List Nd
  | [], out => ([], out)
  | t :: ts, out => ((((serT t out).length : Int) - 1) :: (serL ts (serT t out)).1, (serL ts (serT t out)).2)
end
mutual
theorem serT_len : ∀ (t : T) (out : List Nd), (serT t out).length = out.length + t.size
  | .nd k n s names ks, out => by simp only [serT, List.length_append, List.length_cons, List.length_nil, serL_len ks out, T.size]; omega
theorem serL_len : ∀ (ts : List T) (out : List Nd), (serL ts out).2.length = out.length + sizeL ts
  | [], out => by simp [serL, sizeL]
  | t :: ts, out => by simp only [serL, serL_len ts, serT_len t, sizeL]; omega
end
theorem serL_snoc : ∀ (ts : List T) (t : T) (out : List Nd), serL (ts ++ [t]) out = ((serL ts out).1 ++ [((serT t (serL ts out).2).length : Int) - 1], serT t (serL ts out).2)
  | [], t, out => by simp [serL]
  | u :: ts, t, out => by simp only [List.cons_append, serL, serL_snoc ts t]
theorem sizeL_snoc : ∀ (ts : List T) (t : T), sizeL (ts ++ [t]) = sizeL ts + t.size
  | [], t => by simp [sizeL]
  | u :: ts, t => by simp only [List.cons_append, sizeL, sizeL_snoc ts t]; omega
theorem sizeL_mem {t : T} : ∀ {ts : List T}, t ∈ ts → t.size ≤ sizeL ts
  | u :: ts, h => by
    simp only [sizeL]
    rcases List.mem_cons.1 h with rfl | h
    · omega
    · have := sizeL_mem h; omega
theorem serL_args : ∀ (ts : List T) (out : List Nd), (serL ts out).1.length = ts.length
  | [], out => rfl
  | t :: ts, out => by simp [serL, serL_args ts]
end Go.Own
namespace Go.Own
variable {P : Program} {tt : Nat → Option TI} {st : St} [Laid]
theorem WPc.adoptK {c : Go.Code} {Φ : Exit → St → Prop} (t nid e k : Nat)
    (h : ∀ K : St → Prop, (∀ s, WPc P c s Φ → K s) → (t < st.nt ∧ lk st.tm t = .sc (.slice none 0 0) ∧ 0 < k ∧ below [nid] = true) ∧ K (adoptSt st t nid e k)) : WPc P c st Φ := by
  obtain ⟨⟨h1, h2, h3, h4⟩, h5⟩ := h (fun s => WPc P c s Φ) fun _ h => h
  exact WPc.adopt t nid e k h1 h2 h3 h4 h5
attribute [simp] adoptSt
variable {w0 : World} {β0 : Blk} {st' : St} {β : Blk} {a : Act} {w : World}
def unT (st : St) (t g : Nat) : Option (Value × St) :=
  match lk st.tm t with
  | .sc u => if st.nt ≤ g then some (u, { st with tm := putT st.tm t (lk st.tm g) }) else none
  | _ => none
theorem Rel.unT (hr : Rel w0 β0 st β a w) {t g : Nat} {u : Value} (h : Own.unT st t g = some (u, st')) (hG : st.G g = u) : Rel w0 β0 st' β a w := by
  unfold Own.unT at h
  split at h
  · rename_i u' hv
    split at h
    · rename_i hq
      simp only [Option.some.injEq, Prod.mk.injEq] at h
      obtain ⟨rfl, rfl⟩ := h
      refine ⟨hr.nt, hr.df, fun n => ?_, hr.ob, hr.uq, hr.lt, hr.fr, hr.old, hr.hs, hr.os, hr.tape, hr.output⟩
      have hnt := hr.nt
      simp only [lk_put]
      split
      · rename_i e
        subst e
        have hvr := hr.tm t
        rw [hv] at hvr
        have hg := hr.tm g
        have : a.tmps.getD g (st.G g) = u' := by
          rw [Array.getD_eq_getD_getElem?, Array.getElem?_eq_none (by omega)]
          simpa using hG
        rw [this] at hg
        rw [hvr.sc_inv]
        exact hg
      · exact hr.tm n
    · simp at h
  · simp at h
theorem WPL.utAt {ops : Array Oper} {l : List Oper} {Ψ : St → Prop} (d t g : Nat) (hd : dstOf l = some d)
    (h : ∀ K : St → Prop, (∀ s, WPL P ops l s Ψ → K s) → ∃ r : Value × St, Own.unT st t g = some r ∧ st.G g = r.1 ∧ K r.2) : WPL P ops l st Ψ := by
  obtain ⟨⟨v, s⟩, h1, h2, h3⟩ := h (fun s => WPL P ops l s Ψ) fun _ h => h
  exact fun w0 β0 β a w hr => h3 w0 β0 β a w (hr.sameB (Rel.unT hr.rel h1 h2))
structure OneV where
  v : Value
  one : v.oneCell' = true
attribute [simp] OneV.one
theorem WPL.ghAt {ops : Array Oper} {l : List Oper} {Ψ : St → Prop} (d t g i : Nat) (hd : dstOf l = some d) (hn : lk st.tm g = .un)
    (h : ∀ u : OneV, ∀ K : St → Prop, (∀ s, WPL P ops l s Ψ → K s) → ∃ s, Own.ghS st t g i u.v = some s ∧ K s) : WPL P ops l st Ψ := by
  intro w0 β0 β a w hr
  have hs : ∀ u, ∃ s, Own.ghS st t g i u = some s := fun u => by
    cases hv : Own.ghS st t g i u with
    | some s => exact ⟨s, rfl⟩
    | none =>
      exfalso
      obtain ⟨s, hs, _⟩ := h ⟨.bool true, rfl⟩ (fun s => WPL P ops l s Ψ) fun _ h => h
      unfold Own.ghS at hv hs
      split at hv
      · rename_i cs hl
        simp only [hl] at hs
        split at hv
        · rename_i v hi
          simp only [hi] at hs
          split at hv
          · simp at hv
          · rename_i hq; rw [if_neg hq] at hs; simp at hs
        · rename_i hi; simp [hi] at hs
      · rename_i hl
        split at hs
        · rename_i cs hl2; exact hl cs hl2
        · simp at hs
  have hs2 : ∃ f : Value → St, ∀ u, Own.ghS st t g i u = some (f u) := ⟨fun u => (hs u).choose, fun u => (hs u).choose_spec⟩
  obtain ⟨f, hf⟩ := hs2
  obtain ⟨u, h1, h2⟩ := hr.rel.ghS hf
  obtain ⟨s, h3, h4⟩ := h ⟨u, h1⟩ (fun s => WPL P ops l s Ψ) fun _ h => h
  rw [hf u] at h3
  injection h3 with h3
  rw [h3] at h2
  exact h4 w0 β0 β a w (hr.sameB h2)
theorem WPc.dropRg {Φ : Exit → St → Prop} {id : Nat} {ops : Array Oper} {b : Bool} {g : Nat} {G0 : Nat → Value} {u : Value} (hG : st.G = updG G0 g u) (h : WPc P (.region id ops b) { st with G := G0, tm := (g, .un) :: st.tm } Φ) : WPc P (.region id ops b) st Φ :=
  fun w0 β0 β a w hr => h w0 β0 β a w (hr.sameB (hr.rel.drop hG))
attribute [simp] unT
end Go.Own
set_option maxRecDepth 1000000
set_option maxHeartbeats 4000000
namespace Go.Own
attribute [local irreducible] WPc WPL WPS WPS1 WPS2 HAny endP
variable [Laid]
open Go.Lib Go.RowKit
def tidR (ns out : List Nd) : Root := (136, 2, [[.fz (ns.map Nd.cs), .sl 97 5 (out.map Nd.ow)]])
def okT (ns : List Nd) : Prop := ∀ c, c ∈ ns → c.names.length ≤ 1000000000 ∧ c.args.length ≤ 1000000000
theorem sizeL_app : ∀ (ts us : List T), sizeL (ts ++ us) = sizeL ts + sizeL us
  | [], us => by simp [sizeL]
  | t :: ts, us => by simp only [List.cons_append, sizeL, sizeL_app ts us]; omega
theorem put_rec : ∀ (m : Nat) (ns : List Nd) (t : T) (i : Int) (out : List Nd), t.size ≤ m → Rep ns i t → okT ns → out.length + t.size ≤ 1000000 →
    Con PP 116 [.ptr 0 2 [] 0 0, .sc (.int .i64 i)] [(0, tidR ns out)] [0] (fun r o => r = .sc (.int .i64 (((serT t out).length : Int) - 1)) ∧ o = [(0, tidR ns (serT t out))])
  | 0, ns, t, i, out, hm, _, _, _ => by have := t.size_pos; omega
  | m + 1, ns, .nd k n s names ks, i, out, hm, hr, hok, hb => by
    have ih := put_rec m ns
    simp only [Rep] at hr
    obtain ⟨h0, c, hc, e1, e2, e3, e4, e5, e6⟩ := hr
    obtain ⟨hlt, hce⟩ := List.getElem?_eq_some_iff.1 hc
    have hlt2 : i < (ns.length : Int) := by omega
    have hokc := hok c (List.mem_of_getElem? hc)
    have hln := e6.len
    refine Con.of tok (nt := 54) Go.Proofs.Tryz.func116 (by kernel_rfl) rfl rfl rfl (Nat.le_of_ble_eq_true rfl) fun G => ?_
    simp only [entSt, tmOf, List.append_nil, List.cons_append, List.nil_append, tidR]
    repeat' (first
      | apply WPc.sq
      | apply WPc.block
      | (refine WPc.rq tok rfl fun K hK => ?_; simp -implicitDefEqProofs +contextual [-Int.not_le, -Int.not_lt, -Nat.not_le, -Nat.not_lt, -List.all_eq_true, -List.all_eq_false, -List.any_eq_true, -List.any_eq_false, h0, hlt, hlt2, hce, Nd.cs]; (repeat1' (first | apply hK | apply And.intro | intro _)) <;> clear hK K <;> (try dsimp only [List.drop])))
    refine WPc.adoptK 6 900003 3 1 fun K hK => ?_
    simp -implicitDefEqProofs
    refine hK _ ?_; clear hK K
    refine WPc.loopV (σ := Nat) (fun j => j ≤ ks.length) (fun j => ks.length - j) (fun j => [(20, .sc (.int .i64 j)), (6, .sl 900003 1 [] 0 j)]) (fun j => [(0, 136, 2, [[.fz (ns.map Nd.cs), .sl 97 5 ((serL (ks.take j) out).2.map Nd.ow)]]), (900003, 3, 1, (serL (ks.take j) out).1.map nC), (5, 97, 5, [[.sc (.int .i64 c.k), .sc (.int .i64 c.n), .sc (.string c.s), .fz (c.names.map sC), .fz (c.args.map nC)]])]) [0, 5, 18, 19, 54] 0 (by simp [serL]) (by simp [serL]) (by simp) ?_
    rintro j hj s hs
    simp at hs
    subst hs
    by_cases hjl : j < ks.length
    · have hja : j < c.args.length := by omega
      have hrep := e6.get (List.getElem?_eq_getElem hja) (List.getElem?_eq_getElem hjl)
      have hsz := sizeL_mem (List.getElem_mem hjl)
      have hsn : serL (ks.take (j + 1)) out = serL (ks.take j ++ [ks[j]]) out := by rw [List.take_add_one, List.getElem?_eq_getElem hjl]; rfl
      rw [serL_snoc] at hsn
      have hzl : sizeL (ks.take (j + 1)) = sizeL (ks.take j) + ks[j].size := by rw [List.take_add_one, List.getElem?_eq_getElem hjl, Option.toList_some, sizeL_snoc]
      have hzz : sizeL (ks.take (j + 1)) ≤ sizeL ks := by
        conv => rhs; rw [← List.take_append_drop (j + 1) ks]
        rw [sizeL_app]; omega
      have hL := serL_len (ks.take j) out
      have hA := serL_args (ks.take j) out
      simp only [T.size] at hm hb
      have hcon := ih ks[j] c.args[j] (serL (ks.take j) out).2 (by omega) hrep hok (by omega)
      have hlA : (serL (ks.take j) out).1.length = j := by rw [hA]; simp; omega
      have hb1 : (j + 1) * 8 ≤ 140737488355328 := by omega
      have hb2 : j + 1 ≤ 9223372036854775807 := by omega
      repeat' (first
        | apply WPc.sq
        | apply WPc.block
        | apply WPc.skip
        | refine WPL.nil ?_
        | (apply WPL.cU hcon; (case q => (repeat' (first | refine And.intro ?_ ?_ | intro _ | exact cleanOut_nil | (refine Eqv.mk ?_; first | rfl | (simp -implicitDefEqProofs [nC, hjl, hja, hce, Nd.cs, hlA, hb1, hb2]; done)) | (simp -implicitDefEqProofs [nC, hjl, hja, hce, Nd.cs, hlA, hb1, hb2]; done) | (simp -implicitDefEqProofs [nC, hjl, hja, hce, Nd.cs, hlA, hb1, hb2]; rfl) | (simp; done) | (simp; rfl) | rfl))))
        | ((first | refine WPc.rq tok rfl fun K hK => ?_ | refine WPL.rn tok _ (by simp [ahead, isFn]; rfl) fun K hK => ?_); simp -implicitDefEqProofs +contextual [-Int.not_le, -Int.not_lt, -Nat.not_le, -Nat.not_lt, -List.all_eq_true, -List.all_eq_false, -List.any_eq_true, -List.any_eq_false, nC, hjl, hja, hce, Nd.cs, hlA, hb1, hb2]; (repeat1' (first | apply hK | apply And.intro | intro _)) <;> clear hK K <;> (try dsimp only [List.drop]))
        | (refine WPc.region ?_; simp only [List.toList_toArray])
        | (refine WPc.condT ?_ ?_; (focus (simp; done))))
      refine ⟨j + 1, ⟨hjl, by first | omega | (simp only; omega) | assumption⟩, rfl, rfl, ?_, ?_⟩ <;> simp (disch := omega) [wrap64, hsn, tidR, nC]
    · obtain rfl : j = ks.length := by omega
      have hL := serL_len ks out
      have hA := serL_args ks out
      simp only [T.size] at hm hb
      have hb1 : ((serL ks out).2.length + 1) * 80 ≤ 140737488355328 := by omega
      have hb2 : (serL ks out).2.length + 1 ≤ 9223372036854775807 := by omega
      repeat' (first
        | (refine WPS.detAt 44 5 500005 [] 0 3 ?_ (by decide) ?_; (focus (simp; done)); refine fun K hK => ?_; simp -implicitDefEqProofs +contextual [-Int.not_le, -Int.not_lt, -Nat.not_le, -Nat.not_lt, -List.all_eq_true, -List.all_eq_false, -List.any_eq_true, -List.any_eq_false, hjl, nC, Nd.cs, hA, hb1, hb2]; (repeat1' (first | apply hK | apply And.intro | intro _)) <;> clear hK K)
        | (refine WPS.detAt 44 5 600005 [] 0 4 ?_ (by decide) ?_; (focus (simp; done)); refine fun K hK => ?_; simp -implicitDefEqProofs +contextual [-Int.not_le, -Int.not_lt, -Nat.not_le, -Nat.not_lt, -List.all_eq_true, -List.all_eq_false, -List.any_eq_true, -List.any_eq_false, hjl, nC, Nd.cs, hA, hb1, hb2]; (repeat1' (first | apply hK | apply And.intro | intro _)) <;> clear hK K)
        | ((first | refine WPS.rnTo tok 44 _ (by simp; rfl) fun K hK => ?_ | refine WPc.rq tok rfl fun K hK => ?_ | refine WPL.rn tok _ (by simp [ahead, isFn]; rfl) fun K hK => ?_ | refine WPS.rn tok _ (by simp [aheadS]; rfl) fun K hK => ?_); simp -implicitDefEqProofs +contextual [-Int.not_le, -Int.not_lt, -Nat.not_le, -Nat.not_lt, -List.all_eq_true, -List.all_eq_false, -List.any_eq_true, -List.any_eq_false, hjl, nC, Nd.cs, hA, hb1, hb2]; (repeat1' (first | apply hK | apply And.intro | intro _)) <;> clear hK K <;> (try dsimp only [List.drop]))
        | apply WPc.sq
        | (apply WPc.ret; apply endP.sel (is := [0]) (he := .inr rfl); (case hs => rfl); (case hg => rfl); (case h => (simp; rfl)); (case hO => (simp; rfl)); (case hk => (simp; done)))
        | apply WPc.exit
        | refine WPL.nil ?_
        | (apply WPL.cU (c_slices_Clone_string _ ?g1); (case q => (repeat' (first | refine And.intro ?_ ?_ | intro _ | exact cleanOut_nil | (refine Eqv.mk ?_; first | rfl | (simp -implicitDefEqProofs [hjl, nC, Nd.cs, hA, hb1, hb2]; done)) | (simp -implicitDefEqProofs [hjl, nC, Nd.cs, hA, hb1, hb2]; done) | (simp -implicitDefEqProofs [hjl, nC, Nd.cs, hA, hb1, hb2]; rfl) | (simp; done) | (simp; rfl) | rfl))); (case g1 => (first | assumption | omega)))
        | (refine WPc.sched (id := 10) tok [(6, [5, 44, 500005, 600005]), (7, [0, 5, 44, 45, 500005, 600005]), (10, [0, 5, 44, 45, 500005, 600005])] [(0, [0, 5, 44, 45, 500005, 600005]), (1, [5, 44, 500005, 600005]), (2, [5, 44, 500005, 600005]), (3, [5, 44, 500005, 600005]), (4, [5, 44, 500005, 600005]), (5, []), (6, [5, 44, 500005, 600005]), (7, [0, 5, 44, 45, 500005, 600005]), (8, []), (9, []), (10, [0, 5, 44, 45, 500005, 600005])] (by kernel_rfl) ?_)
        | (refine WPS.nil ?_)
        | (refine WPS.eff tok fun K hK => ?_; simp -implicitDefEqProofs +contextual [-Int.not_le, -Int.not_lt, -Nat.not_le, -Nat.not_lt, -List.all_eq_true, -List.all_eq_false, -List.any_eq_true, -List.any_eq_false, hjl, nC, Nd.cs, hA, hb1, hb2]; (repeat1' (first | apply hK | apply And.intro | intro _)) <;> clear hK K)
        | (refine WPc.region ?_; simp only [List.toList_toArray])
        | (refine WPc.cond (by simp [-Bool.not_eq_eq_eq_not]; rfl) (fun hq => ?_) (fun hq => ?_) <;> simp only [hq] <;> (try (exfalso; (simp only [decide_eq_true_eq, decide_eq_false_iff_not] at hq); omega))))
      have hw : IntKind.i64.wrap ((serL ks out).2.length : Int) = (serL ks out).2.length := wrap64 (by omega) (by omega)
      subst e1 e2 e3 e4
      simp [serT, hw, Nd.ow]
theorem c_impl_tidy (ns : List Nd) (t : T) (i : Int) (hr : Rep ns i t) (hok : okT ns) (hb : t.size ≤ 1000000) :
    Con PP 77 [.fz (ns.map Nd.cs), .sc (.int .i64 i)] [] [] (fun r o => r = .agg [.sl 4 5 [(0, 0)] 0 (serT t []).length, .sc (.int .i64 (((serT t []).length : Int) - 1))] ∧ o = [(4, progB ⟨serT t [], ((serT t []).length : Int) - 1⟩)]) := by
  have hcon := put_rec t.size ns t i [] (Nat.le_refl _) hr hok (by simpa using hb)
  refine Con.of tok (nt := 15) Go.Proofs.Tryz.func77 (by kernel_rfl) rfl rfl rfl (Nat.le_of_ble_eq_true rfl) fun G => ?_
  simp only [entSt, tmOf, List.append_nil, List.cons_append, List.nil_append]
  repeat' (first
    | (refine WPc.region (id := 1) ?_; simp only [List.toList_toArray])
    | (refine WPL.detSt 14 5 900001 [] 0 1 ?_ ?_; (focus (simp; done)); refine fun K hK => ?_; simp -implicitDefEqProofs +contextual [-Int.not_le, -Int.not_lt, -Nat.not_le, -Nat.not_lt, -List.all_eq_true, -List.all_eq_false, -List.any_eq_true, -List.any_eq_false, tidR]; (repeat1' (first | apply hK | apply And.intro | intro _)) <;> clear hK K)
    | (refine WPL.rnToSt tok 14 _ (by simp [isFn]; rfl) fun K hK => ?_; simp -implicitDefEqProofs +contextual [-Int.not_le, -Int.not_lt, -Nat.not_le, -Nat.not_lt, -List.all_eq_true, -List.all_eq_false, -List.any_eq_true, -List.any_eq_false, tidR]; (repeat1' (first | apply hK | apply And.intro | intro _)) <;> clear hK K <;> (try dsimp only [List.drop]))
    | (refine WPL.adAt 5 8 1 900004 97 5 ?_ ?_; (focus (simp; done)); refine fun K hK => ?_; simp -implicitDefEqProofs +contextual [-Int.not_le, -Int.not_lt, -Nat.not_le, -Nat.not_lt, -List.all_eq_true, -List.all_eq_false, -List.any_eq_true, -List.any_eq_false, tidR]; (repeat1' (first | apply hK | apply And.intro | intro _)) <;> clear hK K)
    | ((first | refine WPL.rnTo tok 5 _ (by simp [isFn]; rfl) fun K hK => ?_ | refine WPc.rq tok rfl fun K hK => ?_ | refine WPL.rn tok _ (by simp [ahead, isFn]; rfl) fun K hK => ?_); simp -implicitDefEqProofs +contextual [-Int.not_le, -Int.not_lt, -Nat.not_le, -Nat.not_lt, -List.all_eq_true, -List.all_eq_false, -List.any_eq_true, -List.any_eq_false, tidR]; (repeat1' (first | apply hK | apply And.intro | intro _)) <;> clear hK K <;> (try dsimp only [List.drop]))
    | apply WPc.sq
    | (apply WPc.ret; apply endP.sel (is := [4]) (he := .inr rfl); (case hs => rfl); (case hg => rfl); (case h => (simp; rfl)); (case hO => (simp; rfl)); (case hk => (simp; done)))
    | refine WPL.nil ?_
    | (apply WPL.cU hcon; (case q => (repeat' (first | refine And.intro ?_ ?_ | intro _ | exact cleanOut_nil | (refine Eqv.mk ?_; first | rfl | (simp -implicitDefEqProofs [tidR]; done)) | (simp -implicitDefEqProofs [tidR]; done) | (simp -implicitDefEqProofs [tidR]; rfl) | (simp; done) | (simp; rfl) | rfl))))
    | (refine WPc.region ?_; simp only [List.toList_toArray]))
  exact ⟨rfl, rfl⟩
end Go.Own
set_option maxRecDepth 1000000
set_option maxHeartbeats 4000000
namespace Go.Own
attribute [local irreducible] WPc WPL WPS WPS1 WPS2 HAny endP
variable [Laid]
open Go.Lib Go.RowKit
def isConst (c : Nd) : Bool := inRange c.k 1 4
def valOf (c : Nd) : V := if c.k = 1 then ⟨1, c.n, zs⟩ else if c.k = 2 then ⟨2, c.n, zs⟩ else if c.k = 3 then ⟨3, 0, zs⟩ else ⟨4, 0, c.s⟩
def ndOf (v : V) : Nd := if v.k = 1 then ⟨1, v.n, zs, [], []⟩ else ⟨2, v.n, zs, [], []⟩
def Nd.nl (c : Nd) : AV := .agg [.sc (.int .i64 c.k), .sc (.int .i64 c.n), .sc (.string c.s), .sc (.slice none 0 0), .sc (.slice none 0 0)]
theorem c_impl_isConstant (c : Nd) : Con PP 68 [c.av] [] [] (fun r o => r = .sc (.bool (isConst c))) := by
  refine Con.of tok (nt := 6) Go.Proofs.Tryz.func68 (by kernel_rfl) rfl rfl rfl (Nat.le_of_ble_eq_true rfl) fun G => ?_
  simp only [entSt, tmOf, List.append_nil, List.cons_append, List.nil_append, Nd.av]
  repeat' (first
    | apply WPc.sq
    | (refine WPc.ret (endP.val (.inr rfl) rfl rfl (by simp; rfl) ?_))
    | refine WPL.nil ?_
    | (apply WPL.cL (c_impl_inRange _ _ _); (case q => (repeat' (first | refine And.intro ?_ ?_ | intro _ | exact cleanOut_nil | (refine Eqv.mk ?_; first | rfl | (simp -implicitDefEqProofs; done)) | (simp -implicitDefEqProofs; done) | (simp -implicitDefEqProofs; rfl) | rfl))))
    | ((first | refine WPc.rq tok rfl fun K hK => ?_ | refine WPL.rn tok _ (by simp [ahead, isFn]; rfl) fun K hK => ?_); simp -implicitDefEqProofs +contextual [-Int.not_le, -Int.not_lt, -Nat.not_le, -Nat.not_lt, -List.all_eq_true, -List.all_eq_false, -List.any_eq_true, -List.any_eq_false]; (repeat1' (first | apply hK | apply And.intro | intro _)) <;> clear hK K <;> (try dsimp only [List.drop]))
    | (refine WPc.region ?_; simp only [List.toList_toArray]))
  all_goals rfl
theorem c_spec_l24Const (c : Nd) : Con PP 66 [c.av] [] [] (fun r o => r = .sc (.bool (isConst c))) := by
  refine Con.of tok (nt := 11) Go.Proofs.Tryz.func66 (by kernel_rfl) rfl rfl rfl (Nat.le_of_ble_eq_true rfl) fun G => ?_
  simp only [entSt, tmOf, List.append_nil, List.cons_append, List.nil_append, Nd.av]
  repeat' (first
    | apply WPc.sq
    | (refine WPc.ret (endP.val (.inr rfl) rfl rfl (by simp; rfl) ?_))
    | refine WPL.nil ?_
    | (apply WPL.cL (c_spec_l1In _ _ _); (case q => (repeat' (first | refine And.intro ?_ ?_ | intro _ | exact cleanOut_nil | (refine Eqv.mk ?_; first | rfl | (simp -implicitDefEqProofs; done)) | (simp -implicitDefEqProofs; done) | (simp -implicitDefEqProofs; rfl) | rfl))))
    | ((first | refine WPc.rq tok rfl fun K hK => ?_ | refine WPL.rn tok _ (by simp [ahead, isFn]; rfl) fun K hK => ?_); simp -implicitDefEqProofs +contextual [-Int.not_le, -Int.not_lt, -Nat.not_le, -Nat.not_lt, -List.all_eq_true, -List.all_eq_false, -List.any_eq_true, -List.any_eq_false]; (repeat1' (first | apply hK | apply And.intro | intro _)) <;> clear hK K <;> (try dsimp only [List.drop]))
    | (refine WPc.region ?_; simp only [List.toList_toArray]))
  all_goals (simp_all [isConst, inRange]; try omega)
theorem c_impl_valueOfNode (c : Nd) : Con PP 135 [c.av] [] [] (fun r o => r = (valOf c).av) := by
  refine Con.of tok (nt := 21) Go.Proofs.Tryz.func135 (by kernel_rfl) rfl rfl rfl (Nat.le_of_ble_eq_true rfl) fun G => ?_
  simp only [entSt, tmOf, List.append_nil, List.cons_append, List.nil_append, Nd.av]
  repeat' (first
    | apply WPc.sq
    | apply WPc.block
    | (refine WPc.ret (endP.val (.inr rfl) rfl rfl (by simp; rfl) ?_))
    | apply WPc.skip
    | (refine WPc.rq tok rfl fun K hK => ?_; simp -implicitDefEqProofs +contextual [-Int.not_le, -Int.not_lt, -Nat.not_le, -Nat.not_lt, -List.all_eq_true, -List.all_eq_false, -List.any_eq_true, -List.any_eq_false]; (repeat1' (first | apply hK | apply And.intro | intro _)) <;> clear hK K <;> (try dsimp only [List.drop]))
    | (refine WPc.cond (by simp [-Bool.not_eq_eq_eq_not]; rfl) (fun hq => ?_) (fun hq => ?_) <;> simp only [hq] <;> (try (exfalso; (simp only [decide_eq_true_eq, decide_eq_false_iff_not] at hq); omega))))
  all_goals (simp_all [valOf, V.av])
theorem c_spec_l24Value (c : Nd) : Con PP 110 [c.av] [] [] (fun r o => r = (valOf c).av) := by
  refine Con.of tok (nt := 21) Go.Proofs.Tryz.func110 (by kernel_rfl) rfl rfl rfl (Nat.le_of_ble_eq_true rfl) fun G => ?_
  simp only [entSt, tmOf, List.append_nil, List.cons_append, List.nil_append, Nd.av]
  repeat' (first
    | apply WPc.sq
    | apply WPc.block
    | (refine WPc.ret (endP.val (.inr rfl) rfl rfl (by simp; rfl) ?_))
    | apply WPc.skip
    | (refine WPc.rq tok rfl fun K hK => ?_; simp -implicitDefEqProofs +contextual [-Int.not_le, -Int.not_lt, -Nat.not_le, -Nat.not_lt, -List.all_eq_true, -List.all_eq_false, -List.any_eq_true, -List.any_eq_false]; (repeat1' (first | apply hK | apply And.intro | intro _)) <;> clear hK K <;> (try dsimp only [List.drop]))
    | (refine WPc.cond (by simp [-Bool.not_eq_eq_eq_not]; rfl) (fun hq => ?_) (fun hq => ?_) <;> simp only [hq] <;> (try (exfalso; (simp only [decide_eq_true_eq, decide_eq_false_iff_not] at hq); omega))))
  all_goals (simp_all [valOf, V.av])
theorem c_impl_nodeOfValue (v : V) : Con PP 137 [v.av] [] [] (fun r o => r = (ndOf v).nl) := by
  refine Con.of tok (nt := 12) Go.Proofs.Tryz.func137 (by kernel_rfl) rfl rfl rfl (Nat.le_of_ble_eq_true rfl) fun G => ?_
  simp only [entSt, tmOf, List.append_nil, List.cons_append, List.nil_append, V.av]
  repeat' (first
    | apply WPc.sq
    | (refine WPc.ret (endP.val (.inr rfl) rfl rfl (by simp; rfl) ?_))
    | apply WPc.skip
    | (refine WPc.rq tok rfl fun K hK => ?_; simp -implicitDefEqProofs +contextual [-Int.not_le, -Int.not_lt, -Nat.not_le, -Nat.not_lt, -List.all_eq_true, -List.all_eq_false, -List.any_eq_true, -List.any_eq_false]; (repeat1' (first | apply hK | apply And.intro | intro _)) <;> clear hK K <;> (try dsimp only [List.drop]))
    | (refine WPc.cond (by simp [-Bool.not_eq_eq_eq_not]; rfl) (fun hq => ?_) (fun hq => ?_) <;> simp only [hq] <;> (try (exfalso; (simp only [decide_eq_true_eq, decide_eq_false_iff_not] at hq); omega))))
  all_goals (simp_all [ndOf, Nd.nl])
theorem c_spec_l24Node (v : V) : Con PP 131 [v.av] [] [] (fun r o => r = (ndOf v).nl) := by
  refine Con.of tok (nt := 12) Go.Proofs.Tryz.func131 (by kernel_rfl) rfl rfl rfl (Nat.le_of_ble_eq_true rfl) fun G => ?_
  simp only [entSt, tmOf, List.append_nil, List.cons_append, List.nil_append, V.av]
  repeat' (first
    | apply WPc.sq
    | (refine WPc.ret (endP.val (.inr rfl) rfl rfl (by simp; rfl) ?_))
    | apply WPc.skip
    | (refine WPc.rq tok rfl fun K hK => ?_; simp -implicitDefEqProofs +contextual [-Int.not_le, -Int.not_lt, -Nat.not_le, -Nat.not_lt, -List.all_eq_true, -List.all_eq_false, -List.any_eq_true, -List.any_eq_false]; (repeat1' (first | apply hK | apply And.intro | intro _)) <;> clear hK K <;> (try dsimp only [List.drop]))
    | (refine WPc.cond (by simp [-Bool.not_eq_eq_eq_not]; rfl) (fun hq => ?_) (fun hq => ?_) <;> simp only [hq] <;> (try (exfalso; (simp only [decide_eq_true_eq, decide_eq_false_iff_not] at hq); omega))))
  all_goals (simp_all [ndOf, Nd.nl])
def isDone (s : ByteArray) (a : List V) : Bool := if isNum s = true then decide ((arg a 0).k = 1) && decide ((arg a 1).k = 1) else decide (s = sNot) || decide (s = sNull) || decide (s = sPair) || decide (s = sEq)
theorem c_impl_isDone (s : ByteArray) (a : List V) (h : isNum s = true → 1 < a.length) : Con PP 136 [.sc (.string s), .fz (a.map V.cs)] [] [] (fun r o => r = .sc (.bool (isDone s a))) := by
  by_cases hn : isNum s = true
  · have h1 := h hn
    have h0 : 0 < a.length := by omega
    have h1' : (1 : Int) < (a.length : Int) := by omega
    have h0' : (0 : Int) < (a.length : Int) := by omega
    have ea : arg a 0 = a[0] := by simp [arg, h0]
    have eb : arg a 1 = a[1] := by simp [arg, h1]
    have e : isDone s a = (decide (a[0].k = 1) && decide (a[1].k = 1)) := by simp [isDone, hn, ea, eb]
    rw [e]
    simp only [isNum, Bool.or_eq_true, decide_eq_true_eq] at hn
    rcases hn with (((rfl | rfl) | rfl) | rfl) | rfl
    · refine Con.of tok (nt := 29) Go.Proofs.Tryz.func136 (by kernel_rfl) rfl rfl rfl (Nat.le_of_ble_eq_true rfl) fun G => ?_
      simp only [entSt, tmOf, List.append_nil, List.cons_append, List.nil_append]
      repeat' (first
        | apply WPc.sq
        | apply WPc.block
        | (refine WPc.ret (endP.val (.inr rfl) rfl rfl (by simp; rfl) ?_))
        | apply WPc.skip
        | (refine WPc.rq tok rfl fun K hK => ?_; simp -implicitDefEqProofs +contextual [-Int.not_le, -Int.not_lt, -Nat.not_le, -Nat.not_lt, -List.all_eq_true, -List.all_eq_false, -List.any_eq_true, -List.any_eq_false, V.cs, h0, h1, h0', h1']; (repeat1' (first | apply hK | apply And.intro | intro _)) <;> clear hK K <;> (try dsimp only [List.drop]))
        | (refine WPc.condT ?_ ?_; (focus (simp; done))))
      all_goals simp_all
    · refine Con.of tok (nt := 29) Go.Proofs.Tryz.func136 (by kernel_rfl) rfl rfl rfl (Nat.le_of_ble_eq_true rfl) fun G => ?_
      simp only [entSt, tmOf, List.append_nil, List.cons_append, List.nil_append]
      repeat' (first
        | apply WPc.sq
        | apply WPc.block
        | (refine WPc.ret (endP.val (.inr rfl) rfl rfl (by simp; rfl) ?_))
        | apply WPc.skip
        | (refine WPc.rq tok rfl fun K hK => ?_; simp -implicitDefEqProofs +contextual [-Int.not_le, -Int.not_lt, -Nat.not_le, -Nat.not_lt, -List.all_eq_true, -List.all_eq_false, -List.any_eq_true, -List.any_eq_false, V.cs, h0, h1, h0', h1']; (repeat1' (first | apply hK | apply And.intro | intro _)) <;> clear hK K <;> (try dsimp only [List.drop]))
        | (refine WPc.condT ?_ ?_; (focus (simp; done)))
        | (refine WPc.condF ?_ ?_; (focus (simp; done))))
      all_goals simp_all
    · refine Con.of tok (nt := 29) Go.Proofs.Tryz.func136 (by kernel_rfl) rfl rfl rfl (Nat.le_of_ble_eq_true rfl) fun G => ?_
      simp only [entSt, tmOf, List.append_nil, List.cons_append, List.nil_append]
      repeat' (first
        | apply WPc.sq
        | apply WPc.block
        | (refine WPc.ret (endP.val (.inr rfl) rfl rfl (by simp; rfl) ?_))
        | apply WPc.skip
        | (refine WPc.rq tok rfl fun K hK => ?_; simp -implicitDefEqProofs +contextual [-Int.not_le, -Int.not_lt, -Nat.not_le, -Nat.not_lt, -List.all_eq_true, -List.all_eq_false, -List.any_eq_true, -List.any_eq_false, V.cs, h0, h1, h0', h1']; (repeat1' (first | apply hK | apply And.intro | intro _)) <;> clear hK K <;> (try dsimp only [List.drop]))
        | (refine WPc.condT ?_ ?_; (focus (simp; done)))
        | (refine WPc.condF ?_ ?_; (focus (simp; done))))
      all_goals simp_all
    · refine Con.of tok (nt := 29) Go.Proofs.Tryz.func136 (by kernel_rfl) rfl rfl rfl (Nat.le_of_ble_eq_true rfl) fun G => ?_
      simp only [entSt, tmOf, List.append_nil, List.cons_append, List.nil_append]
      repeat' (first
        | apply WPc.sq
        | apply WPc.block
        | (refine WPc.ret (endP.val (.inr rfl) rfl rfl (by simp; rfl) ?_))
        | apply WPc.skip
        | (refine WPc.rq tok rfl fun K hK => ?_; simp -implicitDefEqProofs +contextual [-Int.not_le, -Int.not_lt, -Nat.not_le, -Nat.not_lt, -List.all_eq_true, -List.all_eq_false, -List.any_eq_true, -List.any_eq_false, V.cs, h0, h1, h0', h1']; (repeat1' (first | apply hK | apply And.intro | intro _)) <;> clear hK K <;> (try dsimp only [List.drop]))
        | (refine WPc.condT ?_ ?_; (focus (simp; done)))
        | (refine WPc.condF ?_ ?_; (focus (simp; done))))
      all_goals simp_all
    · refine Con.of tok (nt := 29) Go.Proofs.Tryz.func136 (by kernel_rfl) rfl rfl rfl (Nat.le_of_ble_eq_true rfl) fun G => ?_
      simp only [entSt, tmOf, List.append_nil, List.cons_append, List.nil_append]
      repeat' (first
        | apply WPc.sq
        | apply WPc.block
        | (refine WPc.ret (endP.val (.inr rfl) rfl rfl (by simp; rfl) ?_))
        | (refine WPc.rq tok rfl fun K hK => ?_; simp -implicitDefEqProofs +contextual [-Int.not_le, -Int.not_lt, -Nat.not_le, -Nat.not_lt, -List.all_eq_true, -List.all_eq_false, -List.any_eq_true, -List.any_eq_false, V.cs, h0, h1, h0', h1']; (repeat1' (first | apply hK | apply And.intro | intro _)) <;> clear hK K <;> (try dsimp only [List.drop]))
        | (refine WPc.condT ?_ ?_; (focus (simp; done)))
        | (refine WPc.condF ?_ ?_; (focus (simp; done))))
      all_goals simp_all
  · have e : isDone s a = (decide (s = sNot) || decide (s = sNull) || decide (s = sPair) || decide (s = sEq)) := by simp [isDone, hn]
    rw [e]
    simp only [isNum, Bool.or_eq_true, decide_eq_true_eq, not_or] at hn
    obtain ⟨⟨⟨⟨n1, n2⟩, n3⟩, n4⟩, n5⟩ := hn
    refine Con.of tok (nt := 29) Go.Proofs.Tryz.func136 (by kernel_rfl) rfl rfl rfl (Nat.le_of_ble_eq_true rfl) fun G => ?_
    simp only [entSt, tmOf, List.append_nil, List.cons_append, List.nil_append]
    repeat' (first
      | apply WPc.sq
      | apply WPc.block
      | (refine WPc.ret (endP.val (.inr rfl) rfl rfl (by simp; rfl) ?_))
      | apply WPc.skip
      | (refine WPc.rq tok rfl fun K hK => ?_; simp -implicitDefEqProofs +contextual [-Int.not_le, -Int.not_lt, -Nat.not_le, -Nat.not_lt, -List.all_eq_true, -List.all_eq_false, -List.any_eq_true, -List.any_eq_false, n1, n2, n3, n4, n5]; (repeat1' (first | apply hK | apply And.intro | intro _)) <;> clear hK K <;> (try dsimp only [List.drop]))
      | (refine WPc.condT ?_ ?_; (focus (simp; done)))
      | (refine WPc.condF ?_ ?_; (focus (simp; done)))
      | (refine WPc.cond (by simp [-Bool.not_eq_eq_eq_not]; rfl) (fun hq => ?_) (fun hq => ?_) <;> simp only [hq] <;> (try (exfalso; (simp only [decide_eq_true_eq, decide_eq_false_iff_not] at hq); omega))))
    all_goals (simp_all [sNot, sNull, sPair, sEq])
end Go.Own
set_option maxRecDepth 1000000
set_option maxHeartbeats 4000000
namespace Go.Own
attribute [local irreducible] WPc WPL WPS WPS1 WPS2 HAny endP
variable [Laid]
open Go.Lib Go.RowKit
def nilH : Root := (24, 1, [[.sc (.slice none 0 0)]])
theorem prim_nil1 (s : ByteArray) (a : List V) (h0 : 0 < a.length) (hs : s = sNot ∨ s = sNull ∨ s = sPair) : Con PP 49 [.ptr 0 1 [] 0 0, .sc (.string s), .fz (a.map V.cs)] [(0, nilH)] [0] (fun r o => r = .tup [(primV [] s (arg a 0) (arg a 1)).1.av, .sc (.int .i64 (primV [] s (arg a 0) (arg a 1)).2)] ∧ o = [(0, nilH)]) := by
  have ea : arg a 0 = a[0] := by simp [arg, h0]
  have h0' : (0 : Int) < (a.length : Int) := by omega
  rw [ea]
  rcases hs with rfl | rfl | rfl
  · refine Con.of tok (nt := 74) Go.Proofs.Tryz.func49 (by kernel_rfl) rfl rfl rfl (Nat.le_of_ble_eq_true rfl) fun G => ?_
    simp only [entSt, tmOf, List.append_nil, List.cons_append, List.nil_append, nilH, sNot]
    repeat' (first
      | apply WPc.sq
      | apply WPc.block
      | (apply WPc.ret; apply endP.sel (is := [0]) (he := .inr rfl); (case hs => rfl); (case hg => rfl); (case h => (simp; rfl)); (case hO => (simp; rfl)); (case hk => (simp; done)))
      | refine WPL.nil ?_
      | (apply WPL.cL (c_impl_boolOf _); (case q => (repeat' (first | refine And.intro ?_ ?_ | intro _ | exact cleanOut_nil | (refine Eqv.mk ?_; first | rfl | (simp -implicitDefEqProofs [V.cs, V.av, h0, h0', boolV]; done)) | (simp -implicitDefEqProofs [V.cs, V.av, h0, h0', boolV]; done) | (simp -implicitDefEqProofs [V.cs, V.av, h0, h0', boolV]; rfl) | (simp; done) | (simp; rfl) | rfl))))
      | (apply WPL.cL (c_impl_Truth ⟨_, _, _⟩); (case q => (repeat' (first | refine And.intro ?_ ?_ | intro _ | exact cleanOut_nil | (refine Eqv.mk ?_; first | rfl | (simp -implicitDefEqProofs [V.cs, V.av, h0, h0', boolV]; done)) | (simp -implicitDefEqProofs [V.cs, V.av, h0, h0', boolV]; done) | (simp -implicitDefEqProofs [V.cs, V.av, h0, h0', boolV]; rfl) | (simp; done) | (simp; rfl) | rfl))))
      | ((first | refine WPc.rq tok rfl fun K hK => ?_ | refine WPL.rn tok _ (by simp [ahead, isFn]; rfl) fun K hK => ?_); simp -implicitDefEqProofs +contextual [-Int.not_le, -Int.not_lt, -Nat.not_le, -Nat.not_lt, -List.all_eq_true, -List.all_eq_false, -List.any_eq_true, -List.any_eq_false, V.cs, V.av, h0, h0', boolV]; (repeat1' (first | apply hK | apply And.intro | intro _)) <;> clear hK K <;> (try dsimp only [List.drop]))
      | (refine WPc.region ?_; simp only [List.toList_toArray])
      | (refine WPc.condT ?_ ?_; (focus (simp; done)))
      | (refine WPc.condF ?_ ?_; (focus (simp; done))))
    all_goals (simp_all [primV, sCar, sCdr, sNull, sPair, sNot, sEq, sCons, V.av, boolV])
  · refine Con.of tok (nt := 74) Go.Proofs.Tryz.func49 (by kernel_rfl) rfl rfl rfl (Nat.le_of_ble_eq_true rfl) fun G => ?_
    simp only [entSt, tmOf, List.append_nil, List.cons_append, List.nil_append, nilH, sNull]
    repeat' (first
      | apply WPc.sq
      | apply WPc.block
      | (apply WPc.ret; apply endP.sel (is := [0]) (he := .inr rfl); (case hs => rfl); (case hg => rfl); (case h => (simp; rfl)); (case hO => (simp; rfl)); (case hk => (simp; done)))
      | refine WPL.nil ?_
      | (apply WPL.cL (c_impl_boolOf _); (case q => (repeat' (first | refine And.intro ?_ ?_ | intro _ | exact cleanOut_nil | (refine Eqv.mk ?_; first | rfl | (simp -implicitDefEqProofs [V.cs, V.av, h0, h0', boolV]; done)) | (simp -implicitDefEqProofs [V.cs, V.av, h0, h0', boolV]; done) | (simp -implicitDefEqProofs [V.cs, V.av, h0, h0', boolV]; rfl) | (simp; done) | (simp; rfl) | rfl))))
      | ((first | refine WPc.rq tok rfl fun K hK => ?_ | refine WPL.rn tok _ (by simp [ahead, isFn]; rfl) fun K hK => ?_); simp -implicitDefEqProofs +contextual [-Int.not_le, -Int.not_lt, -Nat.not_le, -Nat.not_lt, -List.all_eq_true, -List.all_eq_false, -List.any_eq_true, -List.any_eq_false, V.cs, V.av, h0, h0', boolV]; (repeat1' (first | apply hK | apply And.intro | intro _)) <;> clear hK K <;> (try dsimp only [List.drop]))
      | (refine WPc.region ?_; simp only [List.toList_toArray])
      | (refine WPc.condT ?_ ?_; (focus (simp; done)))
      | (refine WPc.condF ?_ ?_; (focus (simp; done))))
    all_goals (simp_all [primV, sCar, sCdr, sNull, sPair, sNot, sEq, sCons, V.av, boolV])
  · refine Con.of tok (nt := 74) Go.Proofs.Tryz.func49 (by kernel_rfl) rfl rfl rfl (Nat.le_of_ble_eq_true rfl) fun G => ?_
    simp only [entSt, tmOf, List.append_nil, List.cons_append, List.nil_append, nilH, sPair]
    repeat' (first
      | apply WPc.sq
      | apply WPc.block
      | (apply WPc.ret; apply endP.sel (is := [0]) (he := .inr rfl); (case hs => rfl); (case hg => rfl); (case h => (simp; rfl)); (case hO => (simp; rfl)); (case hk => (simp; done)))
      | refine WPL.nil ?_
      | (apply WPL.cL (c_impl_boolOf _); (case q => (repeat' (first | refine And.intro ?_ ?_ | intro _ | exact cleanOut_nil | (refine Eqv.mk ?_; first | rfl | (simp -implicitDefEqProofs [V.cs, V.av, h0, h0', boolV]; done)) | (simp -implicitDefEqProofs [V.cs, V.av, h0, h0', boolV]; done) | (simp -implicitDefEqProofs [V.cs, V.av, h0, h0', boolV]; rfl) | (simp; done) | (simp; rfl) | rfl))))
      | ((first | refine WPc.rq tok rfl fun K hK => ?_ | refine WPL.rn tok _ (by simp [ahead, isFn]; rfl) fun K hK => ?_); simp -implicitDefEqProofs +contextual [-Int.not_le, -Int.not_lt, -Nat.not_le, -Nat.not_lt, -List.all_eq_true, -List.all_eq_false, -List.any_eq_true, -List.any_eq_false, V.cs, V.av, h0, h0', boolV]; (repeat1' (first | apply hK | apply And.intro | intro _)) <;> clear hK K <;> (try dsimp only [List.drop]))
      | (refine WPc.region ?_; simp only [List.toList_toArray])
      | (refine WPc.condT ?_ ?_; (focus (simp; done)))
      | (refine WPc.condF ?_ ?_; (focus (simp; done))))
    all_goals (simp_all [primV, sCar, sCdr, sNull, sPair, sNot, sEq, sCons, V.av, boolV])
theorem prim_nil2 (s : ByteArray) (a : List V) (h1 : 1 < a.length) (hs : isNum s = true ∨ s = sEq) : Con PP 49 [.ptr 0 1 [] 0 0, .sc (.string s), .fz (a.map V.cs)] [(0, nilH)] [0] (fun r o => r = .tup [(primV [] s (arg a 0) (arg a 1)).1.av, .sc (.int .i64 (primV [] s (arg a 0) (arg a 1)).2)] ∧ o = [(0, nilH)]) := by
  have h0 : 0 < a.length := by omega
  have ea : arg a 0 = a[0] := by simp [arg, h0]
  have eb : arg a 1 = a[1] := by simp [arg, h1]
  have h0' : (0 : Int) < (a.length : Int) := by omega
  have h1' : (1 : Int) < (a.length : Int) := by omega
  rw [ea, eb]
  rcases hs with hn | rfl
  · have n1 : decide (s = ⟨#[99, 97, 114]⟩) = false := by simp; rintro rfl; revert hn; decide
    have n2 : decide (s = ⟨#[99, 100, 114]⟩) = false := by simp; rintro rfl; revert hn; decide
    have n3 : decide (s = ⟨#[110, 117, 108, 108, 63]⟩) = false := by simp; rintro rfl; revert hn; decide
    have n4 : decide (s = ⟨#[112, 97, 105, 114, 63]⟩) = false := by simp; rintro rfl; revert hn; decide
    have n5 : decide (s = ⟨#[110, 111, 116]⟩) = false := by simp; rintro rfl; revert hn; decide
    have n6 : decide (s = ⟨#[101, 113, 63]⟩) = false := by simp; rintro rfl; revert hn; decide
    have n7 : decide (s = ⟨#[99, 111, 110, 115]⟩) = false := by simp; rintro rfl; revert hn; decide
    refine Con.of tok (nt := 74) Go.Proofs.Tryz.func49 (by kernel_rfl) rfl rfl rfl (Nat.le_of_ble_eq_true rfl) fun G => ?_
    simp only [entSt, tmOf, List.append_nil, List.cons_append, List.nil_append, nilH]
    repeat' (first
      | apply WPc.sq
      | apply WPc.block
      | (apply WPc.ret; apply endP.sel (is := [0]) (he := .inr rfl); (case hs => rfl); (case hg => rfl); (case h => (simp; rfl)); (case hO => (simp; rfl)); (case hk => (simp; done)))
      | apply WPc.skip
      | (apply WPS.cL (hc := (c_impl_arith _ ⟨_, _, _⟩ ⟨_, _, _⟩)); (case ho => exact rfl); (case q => (repeat' (first | refine And.intro ?_ ?_ | intro _ | exact cleanOut_nil | (refine Eqv.mk ?_; first | rfl | (simp -implicitDefEqProofs [V.cs, V.av, h0, h0', h1, h1', n1, n2, n3, n4, n5, n6, n7]; done)) | (simp -implicitDefEqProofs [V.cs, V.av, h0, h0', h1, h1', n1, n2, n3, n4, n5, n6, n7]; done) | (simp -implicitDefEqProofs [V.cs, V.av, h0, h0', h1, h1', n1, n2, n3, n4, n5, n6, n7]; rfl) | (simp; done) | (simp; rfl) | rfl))))
      | ((first | refine WPc.rq tok rfl fun K hK => ?_ | refine WPS.rn tok _ (by simp [aheadS]; rfl) fun K hK => ?_); simp -implicitDefEqProofs +contextual [-Int.not_le, -Int.not_lt, -Nat.not_le, -Nat.not_lt, -List.all_eq_true, -List.all_eq_false, -List.any_eq_true, -List.any_eq_false, V.cs, V.av, h0, h0', h1, h1', n1, n2, n3, n4, n5, n6, n7]; (repeat1' (first | apply hK | apply And.intro | intro _)) <;> clear hK K <;> (try dsimp only [List.drop]))
      | (refine WPc.sched (id := 17) tok [(8, [6, 71, 1071, 2071])] [(0, []), (1, []), (2, []), (3, []), (4, []), (5, []), (6, []), (7, []), (8, [6, 71, 1071, 2071]), (9, [])] (by kernel_rfl) ?_)
      | (refine WPS.nil ?_)
      | (refine WPS.eff tok fun K hK => ?_; simp -implicitDefEqProofs +contextual [-Int.not_le, -Int.not_lt, -Nat.not_le, -Nat.not_lt, -List.all_eq_true, -List.all_eq_false, -List.any_eq_true, -List.any_eq_false, V.cs, V.av, h0, h0', h1, h1', n1, n2, n3, n4, n5, n6, n7]; (repeat1' (first | apply hK | apply And.intro | intro _)) <;> clear hK K)
      | (refine WPc.condF ?_ ?_; (focus (simp; done))))
    all_goals (simp_all [primV, sCar, sCdr, sNull, sPair, sNot, sEq, sCons, V.av, boolV])
  · refine Con.of tok (nt := 74) Go.Proofs.Tryz.func49 (by kernel_rfl) rfl rfl rfl (Nat.le_of_ble_eq_true rfl) fun G => ?_
    simp only [entSt, tmOf, List.append_nil, List.cons_append, List.nil_append, nilH, sEq]
    repeat' (first
      | apply WPc.sq
      | apply WPc.block
      | (apply WPc.ret; apply endP.sel (is := [0]) (he := .inr rfl); (case hs => rfl); (case hg => rfl); (case h => (simp; rfl)); (case hO => (simp; rfl)); (case hk => (simp; done)))
      | (apply WPS.cL (hc := (c_impl_boolOf _)); (case ho => exact rfl); (case q => (repeat' (first | refine And.intro ?_ ?_ | intro _ | exact cleanOut_nil | (refine Eqv.mk ?_; first | rfl | (simp -implicitDefEqProofs [V.cs, V.av, h0, h0', h1, h1', boolV]; done)) | (simp -implicitDefEqProofs [V.cs, V.av, h0, h0', h1, h1', boolV]; done) | (simp -implicitDefEqProofs [V.cs, V.av, h0, h0', h1, h1', boolV]; rfl) | (simp; done) | (simp; rfl) | rfl))))
      | ((first | refine WPc.rq tok rfl fun K hK => ?_ | refine WPS.rn tok _ (by simp [aheadS]; rfl) fun K hK => ?_); simp -implicitDefEqProofs +contextual [-Int.not_le, -Int.not_lt, -Nat.not_le, -Nat.not_lt, -List.all_eq_true, -List.all_eq_false, -List.any_eq_true, -List.any_eq_false, V.cs, V.av, h0, h0', h1, h1', boolV]; (repeat1' (first | apply hK | apply And.intro | intro _)) <;> clear hK K <;> (try dsimp only [List.drop]))
      | (refine WPc.sched (id := 14) tok [(6, [6, 56, 1056, 2056])] [(0, []), (1, []), (2, []), (3, []), (4, []), (5, []), (6, [6, 56, 1056, 2056]), (7, [])] (by kernel_rfl) ?_)
      | (refine WPS.nil ?_)
      | (refine WPS.eff tok fun K hK => ?_; simp -implicitDefEqProofs +contextual [-Int.not_le, -Int.not_lt, -Nat.not_le, -Nat.not_lt, -List.all_eq_true, -List.all_eq_false, -List.any_eq_true, -List.any_eq_false, V.cs, V.av, h0, h0', h1, h1', boolV]; (repeat1' (first | apply hK | apply And.intro | intro _)) <;> clear hK K)
      | (refine WPc.condT ?_ ?_; (focus (simp; done)))
      | (refine WPc.condF ?_ ?_; (focus (simp; done))))
    all_goals (simp_all [primV, sCar, sCdr, sNull, sPair, sNot, sEq, sCons, V.av, boolV])
end Go.Own
set_option maxRecDepth 1000000
set_option maxHeartbeats 4000000
namespace Go.Own
attribute [local irreducible] WPc WPL WPS WPS1 WPS2 HAny endP
variable [Laid]
open Go.Lib Go.RowKit
def folR (ns : List Nd) (wh : List Int) : Root := (105, 2, [[.sl 97 5 (ns.map Nd.ow), .sl 3 1 (wh.map nC)]])
def nd0 : Nd := ⟨0, 0, zs, [], []⟩
def ndAt (ns : List Nd) (a : Int) : Nd := ns[a.toNat]?.getD nd0
theorem ndAt_eq {ns : List Nd} {a : Int} (h : a.toNat < ns.length) : ndAt ns a = ns[a.toNat] := by simp [ndAt, h]
def valsOf (ns : List Nd) (xs : List Int) : List V := xs.map fun a => valOf (ndAt ns a)
def inBd (ns : List Nd) (xs : List Int) : Prop := ∀ a, a ∈ xs → 0 ≤ a ∧ a < ns.length
def primC (s : ByteArray) (vs : List V) : Option V :=
  if vs.length = 0 then none else if isDone s vs = true then (if (primV [] s (arg vs 0) (arg vs 1)).2 = 0 then some (primV [] s (arg vs 0) (arg vs 1)).1 else none) else none
def allC (ns : List Nd) (xs : List Int) : Bool := xs.all fun a => isConst (ndAt ns a)
def primM (ns : List Nd) (i : Nat) (c : Nd) : List Nd :=
  if allC ns c.args = true then match primC c.s (valsOf ns c.args) with
    | some v => ns.set i (ndOf v)
    | none => ns
  else ns
theorem modify_set {ns : List Nd} {i : Nat} {c : Nd} {g : List C → List C} (hg : ∀ d : Nd, g d.ow = c.ow) : (ns.map Nd.ow).modify i g = (ns.set i c).map Nd.ow := by
  apply List.ext_getElem?
  intro j
  rw [List.getElem?_modify, List.getElem?_map, List.getElem?_map, List.getElem?_set]
  by_cases hij : i = j
  · subst hij
    by_cases hlt : i < ns.length
    · simp [hlt, hg]
    · simp [hlt]
  · simp only [hij, if_false]
    cases ns[j]? <;> rfl
theorem ndOf_nil (v : V) : (ndOf v).names = [] ∧ (ndOf v).args = [] := by unfold ndOf; split <;> exact ⟨rfl, rfl⟩
theorem set_five {ns : List Nd} {i : Nat} {c : Nd} (h : c.names = [] ∧ c.args = []) : ((((((ns.map Nd.ow).modify i fun r => r.set 0 (.sc (.int .i64 c.k))).modify i fun r => r.set 1 (.sc (.int .i64 c.n))).modify i fun r => r.set 2 (.sc (.string c.s))).modify i fun r => r.set 3 (.sl 9 1 [])).modify i fun r => r.set 4 (.sl 3 1 [])) = (ns.set i c).map Nd.ow := by
  rw [List.modify_modify_eq, List.modify_modify_eq, List.modify_modify_eq, List.modify_modify_eq]
  refine modify_set fun d => ?_
  simp [Nd.ow, Function.comp, h.1, h.2]
theorem c_impl_fprim (ns : List Nd) (wh : List Int) (i : Nat) (hi : i < ns.length) (hb : inBd ns ns[i].args) (h2 : isNum ns[i].s = true ∨ ns[i].s = sEq → 1 < ns[i].args.length) (hl : ns[i].args.length ≤ 1000000000) : Con PP 113 [.ptr 0 2 [] 0 0, .sc (.int .i64 i)] [(0, folR ns wh)] [0] (fun r o => r = .tup [] ∧ o = [(0, folR (primM ns i ns[i]) wh)]) := by
  have hi' : (i : Int) < (ns.length : Int) := by omega
  refine Con.of tok (nt := 73) Go.Proofs.Tryz.func113 (by kernel_rfl) rfl rfl rfl (Nat.le_of_ble_eq_true rfl) fun G => ?_
  simp only [entSt, tmOf, List.append_nil, List.cons_append, List.nil_append, folR]
  repeat' (first
    | (refine WPc.region (id := 0) ?_; simp only [List.toList_toArray])
    | (refine WPc.region (id := 2) ?_; simp only [List.toList_toArray])
    | (refine WPL.ghAt 4 17 2926 3 ?_ ?_ ?_; (focus (simp; done)); (focus (simp; done)); refine fun u3 K hK => ?_; simp -implicitDefEqProofs +contextual [-Int.not_le, -Int.not_lt, -Nat.not_le, -Nat.not_lt, -List.all_eq_true, -List.all_eq_false, -List.any_eq_true, -List.any_eq_false, hi, hi', Nd.ow]; (repeat1' (first | apply hK | apply And.intro | intro _)) <;> clear hK K)
    | (refine WPL.ghAt 4 17 2927 4 ?_ ?_ ?_; (focus (simp; done)); (focus (simp; done)); refine fun u4 K hK => ?_; simp -implicitDefEqProofs +contextual [-Int.not_le, -Int.not_lt, -Nat.not_le, -Nat.not_lt, -List.all_eq_true, -List.all_eq_false, -List.any_eq_true, -List.any_eq_false, hi, hi', Nd.ow]; (repeat1' (first | apply hK | apply And.intro | intro _)) <;> clear hK K)
    | (refine WPL.utAt 20 19 2927 ?_ ?_; (focus (simp; done)); refine fun K hK => ?_; simp -implicitDefEqProofs +contextual [-Int.not_le, -Int.not_lt, -Nat.not_le, -Nat.not_lt, -List.all_eq_true, -List.all_eq_false, -List.any_eq_true, -List.any_eq_false, hi, hi', Nd.ow]; (repeat1' (first | apply hK | apply And.intro | intro _)) <;> clear hK K)
    | ((first | refine WPL.rnTo tok 20 _ (by simp [isFn]; rfl) fun K hK => ?_ | refine WPL.rnTo tok 4 _ (by simp [isFn]; rfl) fun K hK => ?_ | refine WPc.rq tok rfl fun K hK => ?_ | refine WPL.rn tok _ (by simp [ahead, isFn]; rfl) fun K hK => ?_); simp -implicitDefEqProofs +contextual [-Int.not_le, -Int.not_lt, -Nat.not_le, -Nat.not_lt, -List.all_eq_true, -List.all_eq_false, -List.any_eq_true, -List.any_eq_false, hi, hi', Nd.ow]; (repeat1' (first | apply hK | apply And.intro | intro _)) <;> clear hK K <;> (try dsimp only [List.drop]))
    | apply WPc.sq
    | apply WPc.block
    | refine WPL.nil ?_)
  refine WPc.adoptK 5 900003 29 3 fun K hK => ?_
  simp -implicitDefEqProofs
  refine hK _ ?_; clear hK K
  refine WPc.loopV (σ := Nat) (fun j => j ≤ ns[i].args.length ∧ allC ns (ns[i].args.take j) = true) (fun j => ns[i].args.length - j) (fun j => [(21, .sc (.int .i64 j)), (5, .sl 900003 3 [] 0 j)]) (fun j => [(0, 105, 2, [[.sl 97 5 (ns.map Nd.ow), .sl 3 1 (wh.map nC)]]), (4, 97, 5, [[.sc (.int .i64 ns[i].k), .sc (.int .i64 ns[i].n), .sc (.string ns[i].s), .sc u3.v, .sc u4.v]]), (900003, 29, 3, (valsOf ns (ns[i].args.take j)).map V.cs)]) [0, 1, 4, 19, 20, 73] 0 (by simp [valsOf]) (by simp [valsOf]) (by simp [allC]) ?_
  rintro j ⟨hj, hall⟩ s hs
  simp at hs
  subst hs
  by_cases hjl : j < ns[i].args.length
  · obtain ⟨a0, a1⟩ := hb _ (List.getElem_mem hjl)
    have a2 : ns[i].args[j].toNat < ns.length := by omega
    have ee : ndAt ns ns[i].args[j] = ns[ns[i].args[j].toNat] := ndAt_eq a2
    have e1 : isConst ⟨ns[ns[i].args[j].toNat].k, ns[ns[i].args[j].toNat].n, ns[ns[i].args[j].toNat].s, ns[ns[i].args[j].toNat].names, ns[ns[i].args[j].toNat].args⟩ = isConst ns[ns[i].args[j].toNat] := rfl
    have e2 : valOf ⟨ns[ns[i].args[j].toNat].k, ns[ns[i].args[j].toNat].n, ns[ns[i].args[j].toNat].s, ns[ns[i].args[j].toNat].names, ns[ns[i].args[j].toNat].args⟩ = valOf ns[ns[i].args[j].toNat] := rfl
    have hv : ns[i].args[j]? = some ns[i].args[j] := List.getElem?_eq_getElem hjl
    have hlv : (valsOf ns (ns[i].args.take j)).length = j := by simp [valsOf]; omega
    have hb1 : (j + 1) * 32 ≤ 140737488355328 := by omega
    have hb2 : j + 1 ≤ 9223372036854775807 := by omega
    cases hcst : isConst ns[ns[i].args[j].toNat] with
    | false =>
      have hno : allC ns ns[i].args = false := all_at hv (by rw [ee]; exact hcst)
      have hM : primM ns i ns[i] = ns := by simp [primM, hno]
      rw [hM]
      repeat' (first
        | (refine WPc.dropR rfl ?_; dsimp only)
        | apply WPc.sq
        | apply WPc.block
        | (apply WPc.ret; apply endP.sel (is := [0]) (he := .inr rfl); (case hs => rfl); (case hg => rfl); (case h => (simp; rfl)); (case hO => (simp; rfl)); (case hk => (simp; done)))
        | apply WPc.skip
        | refine WPL.nil ?_
        | (apply WPL.cL (c_impl_isConstant ⟨_, _, _, _, _⟩); (case q => (repeat' (first | refine And.intro ?_ ?_ | intro _ | exact cleanOut_nil | (refine Eqv.mk ?_; first | rfl | (simp -implicitDefEqProofs [hi, hi', Nd.ow, nC, hjl, a0, a1, a2, e1, hcst]; done)) | (simp -implicitDefEqProofs [hi, hi', Nd.ow, nC, hjl, a0, a1, a2, e1, hcst]; done) | (simp -implicitDefEqProofs [hi, hi', Nd.ow, nC, hjl, a0, a1, a2, e1, hcst]; rfl) | (simp; done) | (simp; rfl) | rfl))))
        | ((first | refine WPc.rq tok rfl fun K hK => ?_ | refine WPL.rn tok _ (by simp [ahead, isFn]; rfl) fun K hK => ?_); simp -implicitDefEqProofs +contextual [-Int.not_le, -Int.not_lt, -Nat.not_le, -Nat.not_lt, -List.all_eq_true, -List.all_eq_false, -List.any_eq_true, -List.any_eq_false, hi, hi', Nd.ow, nC, hjl, a0, a1, a2, e1, hcst]; (repeat1' (first | apply hK | apply And.intro | intro _)) <;> clear hK K <;> (try dsimp only [List.drop]))
        | (refine WPc.region ?_; simp only [List.toList_toArray])
        | (refine WPc.condT ?_ ?_; (focus (simp; done))))
      all_goals exact ⟨rfl, rfl⟩
    | true =>
      have hnx : valsOf ns (ns[i].args.take (j + 1)) = valsOf ns (ns[i].args.take j) ++ [valOf ns[ns[i].args[j].toNat]] := by
        rw [valsOf, List.take_add_one, hv, Option.toList_some, List.map_append, List.map_cons, List.map_nil, ee]; rfl
      repeat' (first
        | apply WPc.sq
        | apply WPc.block
        | apply WPc.skip
        | refine WPL.nil ?_
        | (apply WPL.cL (c_impl_isConstant ⟨_, _, _, _, _⟩); (case q => (repeat' (first | refine And.intro ?_ ?_ | intro _ | exact cleanOut_nil | (refine Eqv.mk ?_; first | rfl | (simp -implicitDefEqProofs [hi, hi', Nd.ow, nC, hjl, a0, a1, a2, e1, e2, hcst, hlv, hb1, hb2, V.av, V.cs]; done)) | (simp -implicitDefEqProofs [hi, hi', Nd.ow, nC, hjl, a0, a1, a2, e1, e2, hcst, hlv, hb1, hb2, V.av, V.cs]; done) | (simp -implicitDefEqProofs [hi, hi', Nd.ow, nC, hjl, a0, a1, a2, e1, e2, hcst, hlv, hb1, hb2, V.av, V.cs]; rfl) | (simp; done) | (simp; rfl) | rfl))))
        | (apply WPL.cL (c_impl_valueOfNode ⟨_, _, _, _, _⟩); (case q => (repeat' (first | refine And.intro ?_ ?_ | intro _ | exact cleanOut_nil | (refine Eqv.mk ?_; first | rfl | (simp -implicitDefEqProofs [hi, hi', Nd.ow, nC, hjl, a0, a1, a2, e1, e2, hcst, hlv, hb1, hb2, V.av, V.cs]; done)) | (simp -implicitDefEqProofs [hi, hi', Nd.ow, nC, hjl, a0, a1, a2, e1, e2, hcst, hlv, hb1, hb2, V.av, V.cs]; done) | (simp -implicitDefEqProofs [hi, hi', Nd.ow, nC, hjl, a0, a1, a2, e1, e2, hcst, hlv, hb1, hb2, V.av, V.cs]; rfl) | (simp; done) | (simp; rfl) | rfl))))
        | ((first | refine WPc.rq tok rfl fun K hK => ?_ | refine WPL.rn tok _ (by simp [ahead, isFn]; rfl) fun K hK => ?_); simp -implicitDefEqProofs +contextual [-Int.not_le, -Int.not_lt, -Nat.not_le, -Nat.not_lt, -List.all_eq_true, -List.all_eq_false, -List.any_eq_true, -List.any_eq_false, hi, hi', Nd.ow, nC, hjl, a0, a1, a2, e1, e2, hcst, hlv, hb1, hb2, V.av, V.cs]; (repeat1' (first | apply hK | apply And.intro | intro _)) <;> clear hK K <;> (try dsimp only [List.drop]))
        | (refine WPc.region ?_; simp only [List.toList_toArray])
        | (refine WPc.condT ?_ ?_; (focus (simp; done)))
        | (refine WPc.condF ?_ ?_; (focus (simp; done))))
      refine ⟨j + 1, ⟨⟨hjl, all_next hv (by rw [ee]; exact hcst) hall⟩, by first | omega | (simp only; omega) | assumption⟩, rfl, rfl, ?_, ?_⟩ <;> simp (disch := omega) [wrap64, hnx, V.cs]
  · obtain rfl : j = ns[i].args.length := by omega
    rw [List.take_length] at hall
    have hlv : (valsOf ns ns[i].args).length = ns[i].args.length := by simp [valsOf]
    have hdz : dzLL (List.take ns[i].args.length ((valsOf ns ns[i].args).map V.cs)) = (valsOf ns ns[i].args).map V.cs := by rw [List.take_of_length_le (by simp [hlv]), dz_V]
    have hq2 : isNum ns[i].s = true → 1 < (valsOf ns ns[i].args).length := fun h => by rw [hlv]; exact h2 (.inl h)
    by_cases hz : ns[i].args.length = 0
    · have hM : primM ns i ns[i] = ns := by simp [primM, hall, primC, hlv, hz]
      have hz' : ns[i].args = [] := List.eq_nil_of_length_eq_zero hz
      rw [hM]
      repeat' (first
        | (refine WPc.dropR rfl ?_; dsimp only)
        | apply WPc.sq
        | (apply WPc.ret; apply endP.sel (is := [0]) (he := .inr rfl); (case hs => rfl); (case hg => rfl); (case h => (simp; rfl)); (case hO => (simp; rfl)); (case hk => (simp; done)))
        | apply WPc.exit
        | refine WPL.nil ?_
        | (refine WPL.call0f ?_ ?_ ?_; (focus (simp; done)); (focus (simp; done)))
        | ((first | refine WPc.rq tok rfl fun K hK => ?_ | refine WPL.rn tok _ (by simp [ahead, isFn]; rfl) fun K hK => ?_); simp -implicitDefEqProofs +contextual [-Int.not_le, -Int.not_lt, -Nat.not_le, -Nat.not_lt, -List.all_eq_true, -List.all_eq_false, -List.any_eq_true, -List.any_eq_false, hi, hi', hlv, hz, hz']; (repeat1' (first | apply hK | apply And.intro | intro _)) <;> clear hK K <;> (try dsimp only [List.drop]))
        | (refine WPc.region ?_; simp only [List.toList_toArray])
        | (refine WPc.condT ?_ ?_; (focus (simp; done)))
        | (refine WPc.condF ?_ ?_; (focus (simp; done))))
      all_goals exact ⟨rfl, rfl⟩
    · have hz' : ns[i].args ≠ [] := fun e => hz (by rw [e]; rfl)
      cases hd : isDone ns[i].s (valsOf ns ns[i].args) with
      | false =>
        have hM : primM ns i ns[i] = ns := by simp [primM, hall, primC, hd]
        rw [hM]
        repeat' (first
          | (refine WPc.dropR rfl ?_; dsimp only)
          | apply WPc.sq
          | (apply WPc.ret; apply endP.sel (is := [0]) (he := .inr rfl); (case hs => rfl); (case hg => rfl); (case h => (simp; rfl)); (case hO => (simp; rfl)); (case hk => (simp; done)))
          | apply WPc.exit
          | refine WPL.nil ?_
          | (apply WPL.cL (c_impl_isDone _ _ ?g1); (case q => (repeat' (first | refine And.intro ?_ ?_ | intro _ | exact cleanOut_nil | (refine Eqv.mk ?_; first | rfl | (simp -implicitDefEqProofs [hi, hi', hlv, hz, hz', hd, hdz]; done)) | (simp -implicitDefEqProofs [hi, hi', hlv, hz, hz', hd, hdz]; done) | (simp -implicitDefEqProofs [hi, hi', hlv, hz, hz', hd, hdz]; rfl) | (simp; done) | (simp; rfl) | rfl))); (case g1 => (first | assumption | omega)))
          | ((first | refine WPc.rq tok rfl fun K hK => ?_ | refine WPL.rn tok _ (by simp [ahead, isFn]; rfl) fun K hK => ?_); simp -implicitDefEqProofs +contextual [-Int.not_le, -Int.not_lt, -Nat.not_le, -Nat.not_lt, -List.all_eq_true, -List.all_eq_false, -List.any_eq_true, -List.any_eq_false, hi, hi', hlv, hz, hz', hd, hdz]; (repeat1' (first | apply hK | apply And.intro | intro _)) <;> clear hK K <;> (try dsimp only [List.drop]))
          | (refine WPc.region ?_; simp only [List.toList_toArray])
          | (refine WPc.condT ?_ ?_; (focus (simp; done)))
          | (refine WPc.condF ?_ ?_; (focus (simp; done))))
        all_goals exact ⟨rfl, rfl⟩
      | true =>
        have hcon : Con PP 49 [.ptr 0 1 [] 0 0, .sc (.string ns[i].s), .fz ((valsOf ns ns[i].args).map V.cs)] [(0, nilH)] [0] (fun r o => r = .tup [(primV [] ns[i].s (arg (valsOf ns ns[i].args) 0) (arg (valsOf ns ns[i].args) 1)).1.av, .sc (.int .i64 (primV [] ns[i].s (arg (valsOf ns ns[i].args) 0) (arg (valsOf ns ns[i].args) 1)).2)] ∧ o = [(0, nilH)]) := by
          by_cases hn : isNum ns[i].s = true
          · exact prim_nil2 _ _ (hq2 hn) (.inl hn)
          · have hd' := hd
            unfold isDone at hd'
            rw [if_neg hn] at hd'
            simp only [Bool.or_eq_true, decide_eq_true_eq] at hd'
            rcases hd' with ((h | h) | h) | h
            · exact prim_nil1 _ _ (by rw [hlv]; omega) (.inl h)
            · exact prim_nil1 _ _ (by rw [hlv]; omega) (.inr (.inl h))
            · exact prim_nil1 _ _ (by rw [hlv]; omega) (.inr (.inr h))
            · exact prim_nil2 _ _ (by rw [hlv]; exact h2 (.inr h)) (.inr h)
        simp only [nilH] at hcon
        by_cases hcode : (primV [] ns[i].s (arg (valsOf ns ns[i].args) 0) (arg (valsOf ns ns[i].args) 1)).2 = 0
        · have hM : primM ns i ns[i] = ns.set i (ndOf (primV [] ns[i].s (arg (valsOf ns ns[i].args) 0) (arg (valsOf ns ns[i].args) 1)).1) := by simp [primM, hall, primC, hd, hcode, hlv, hz]
          rw [hM]
          repeat' (first
            | (refine WPc.dropRg (id := 11) rfl ?_; dsimp only)
            | (refine WPS.adAt 72 71 3 900005 9 1 ?_ ?_; (focus (simp; done)); refine fun K hK => ?_; simp -implicitDefEqProofs +contextual [-Int.not_le, -Int.not_lt, -Nat.not_le, -Nat.not_lt, -List.all_eq_true, -List.all_eq_false, -List.any_eq_true, -List.any_eq_false, hi, hi', hlv, hz, hz', hd, hdz, hcode, V.av, Nd.nl, Nd.ow]; (repeat1' (first | apply hK | apply And.intro | intro _)) <;> clear hK K)
            | (refine WPS.adAt 72 71 4 900006 3 1 ?_ ?_; (focus (simp; done)); refine fun K hK => ?_; simp -implicitDefEqProofs +contextual [-Int.not_le, -Int.not_lt, -Nat.not_le, -Nat.not_lt, -List.all_eq_true, -List.all_eq_false, -List.any_eq_true, -List.any_eq_false, hi, hi', hlv, hz, hz', hd, hdz, hcode, V.av, Nd.nl, Nd.ow]; (repeat1' (first | apply hK | apply And.intro | intro _)) <;> clear hK K)
            | apply WPc.sq
            | apply WPc.skip
            | apply WPc.exit
            | refine WPL.nil ?_
            | (apply WPL.cL (c_impl_isDone _ _ ?g1); (case q => (repeat' (first | refine And.intro ?_ ?_ | intro _ | exact cleanOut_nil | (refine Eqv.mk ?_; first | rfl | (simp -implicitDefEqProofs [hi, hi', hlv, hz, hz', hd, hdz, hcode, V.av, Nd.nl, Nd.ow]; done)) | (simp -implicitDefEqProofs [hi, hi', hlv, hz, hz', hd, hdz, hcode, V.av, Nd.nl, Nd.ow]; done) | (simp -implicitDefEqProofs [hi, hi', hlv, hz, hz', hd, hdz, hcode, V.av, Nd.nl, Nd.ow]; rfl) | (simp; done) | (simp; rfl) | rfl))); (case g1 => (first | assumption | omega)))
            | (apply WPL.cU hcon; (case q => (repeat' (first | refine And.intro ?_ ?_ | intro _ | exact cleanOut_nil | (refine Eqv.mk ?_; first | rfl | (simp -implicitDefEqProofs [hi, hi', hlv, hz, hz', hd, hdz, hcode, V.av, Nd.nl, Nd.ow]; done)) | (simp -implicitDefEqProofs [hi, hi', hlv, hz, hz', hd, hdz, hcode, V.av, Nd.nl, Nd.ow]; done) | (simp -implicitDefEqProofs [hi, hi', hlv, hz, hz', hd, hdz, hcode, V.av, Nd.nl, Nd.ow]; rfl) | (simp; done) | (simp; rfl) | rfl))))
            | (apply WPS.cL (hc := (c_impl_nodeOfValue ⟨_, _, _⟩)); (case ho => exact rfl); (case q => (repeat' (first | refine And.intro ?_ ?_ | intro _ | exact cleanOut_nil | (refine Eqv.mk ?_; first | rfl | (simp -implicitDefEqProofs [hi, hi', hlv, hz, hz', hd, hdz, hcode, V.av, Nd.nl, Nd.ow]; done)) | (simp -implicitDefEqProofs [hi, hi', hlv, hz, hz', hd, hdz, hcode, V.av, Nd.nl, Nd.ow]; done) | (simp -implicitDefEqProofs [hi, hi', hlv, hz, hz', hd, hdz, hcode, V.av, Nd.nl, Nd.ow]; rfl) | (simp; done) | (simp; rfl) | rfl))))
            | ((first | refine WPc.rq tok rfl fun K hK => ?_ | refine WPL.rn tok _ (by simp [ahead, isFn]; rfl) fun K hK => ?_ | refine WPS.rn tok _ (by simp [aheadS]; rfl) fun K hK => ?_); simp -implicitDefEqProofs +contextual [-Int.not_le, -Int.not_lt, -Nat.not_le, -Nat.not_lt, -List.all_eq_true, -List.all_eq_false, -List.any_eq_true, -List.any_eq_false, hi, hi', hlv, hz, hz', hd, hdz, hcode, V.av, Nd.nl, Nd.ow]; (repeat1' (first | apply hK | apply And.intro | intro _)) <;> clear hK K <;> (try dsimp only [List.drop]))
            | (refine WPc.sched (id := 12) tok [(8, [0, 71, 900005, 900006])] [(0, []), (1, []), (2, []), (3, []), (4, []), (5, []), (6, []), (7, []), (8, [0, 71, 900005, 900006])] (by kernel_rfl) ?_)
            | (refine WPS.nil ?_)
            | (refine WPS.eff tok fun K hK => ?_; simp -implicitDefEqProofs +contextual [-Int.not_le, -Int.not_lt, -Nat.not_le, -Nat.not_lt, -List.all_eq_true, -List.all_eq_false, -List.any_eq_true, -List.any_eq_false, hi, hi', hlv, hz, hz', hd, hdz, hcode, V.av, Nd.nl, Nd.ow]; (repeat1' (first | apply hK | apply And.intro | intro _)) <;> clear hK K)
            | (refine WPc.region ?_; simp only [List.toList_toArray])
            | (refine WPc.condT ?_ ?_; (focus (simp; done)))
            | (refine WPc.condF ?_ ?_; (focus (simp; done)))
            | (apply endP.sel (is := [0]) (he := .inl rfl); (case hs => rfl); (case hg => rfl); (case h => (simp; rfl)); (case hO => (simp; rfl)); (case hk => (simp; done))))
          exact ⟨rfl, by rw [← set_five (ndOf_nil _)]⟩
        · have hM : primM ns i ns[i] = ns := by simp [primM, hall, primC, hd, hcode]
          rw [hM]
          repeat' (first
            | (refine WPc.dropRg (id := 11) rfl ?_; dsimp only)
            | apply WPc.sq
            | apply WPc.skip
            | apply WPc.exit
            | refine WPL.nil ?_
            | (apply WPL.cL (c_impl_isDone _ _ ?g1); (case q => (repeat' (first | refine And.intro ?_ ?_ | intro _ | exact cleanOut_nil | (refine Eqv.mk ?_; first | rfl | (simp -implicitDefEqProofs [hi, hi', hlv, hz, hz', hd, hdz, hcode, V.av, Nd.nl]; done)) | (simp -implicitDefEqProofs [hi, hi', hlv, hz, hz', hd, hdz, hcode, V.av, Nd.nl]; done) | (simp -implicitDefEqProofs [hi, hi', hlv, hz, hz', hd, hdz, hcode, V.av, Nd.nl]; rfl) | (simp; done) | (simp; rfl) | rfl))); (case g1 => (first | assumption | omega)))
            | (apply WPL.cU hcon; (case q => (repeat' (first | refine And.intro ?_ ?_ | intro _ | exact cleanOut_nil | (refine Eqv.mk ?_; first | rfl | (simp -implicitDefEqProofs [hi, hi', hlv, hz, hz', hd, hdz, hcode, V.av, Nd.nl]; done)) | (simp -implicitDefEqProofs [hi, hi', hlv, hz, hz', hd, hdz, hcode, V.av, Nd.nl]; done) | (simp -implicitDefEqProofs [hi, hi', hlv, hz, hz', hd, hdz, hcode, V.av, Nd.nl]; rfl) | (simp; done) | (simp; rfl) | rfl))))
            | ((first | refine WPc.rq tok rfl fun K hK => ?_ | refine WPL.rn tok _ (by simp [ahead, isFn]; rfl) fun K hK => ?_); simp -implicitDefEqProofs +contextual [-Int.not_le, -Int.not_lt, -Nat.not_le, -Nat.not_lt, -List.all_eq_true, -List.all_eq_false, -List.any_eq_true, -List.any_eq_false, hi, hi', hlv, hz, hz', hd, hdz, hcode, V.av, Nd.nl]; (repeat1' (first | apply hK | apply And.intro | intro _)) <;> clear hK K <;> (try dsimp only [List.drop]))
            | (refine WPc.region ?_; simp only [List.toList_toArray])
            | (refine WPc.condF ?_ ?_; (focus (simp; done)))
            | (apply endP.sel (is := [0]) (he := .inl rfl); (case hs => rfl); (case hg => rfl); (case h => (simp; rfl)); (case hO => (simp; rfl)); (case hk => (simp; done))))
          all_goals exact ⟨rfl, rfl⟩
end Go.Own
namespace Go.Own
variable {P : Program} {tt : Nat → Option TI} {st st1 : St} {w0 : World} {β0 : Blk} {st' : St} {β : Blk} {a : Act} {w : World} {o : Oper} [Laid]
theorem VR.sl_det (uq : ∀ b b' x, β b = some x → β b' = some x → b = b') {id k off len : Nat} {path : Pth} {u u' : Value} (h : VR β w (.sl id k path off len) u) (h' : VR β w (.sl id k path off len) u') : u = u' := by
  cases h with
  | sl _ _ _ _ _ b cap t cur h0 hb hh hs ho =>
    cases h' with
    | sl _ _ _ _ _ b2 cap2 t2 cur2 h02 hb2 hh2 hs2 ho2 =>
      obtain rfl := uq b b2 _ hb hb2
      rw [hh] at hh2
      injection hh2 with hh2
      injection hh2 with e1 e2
      subst e1
      have : cap = cap2 := Nat.eq_of_mul_eq_mul_right h0 (hs.symm.trans hs2)
      subst this
      rfl
    | slN _ _ _ h02 hb2 => exact absurd hb (hb2 b)
  | slN _ _ _ h0 hb =>
    cases h' with
    | sl _ _ _ _ _ b2 cap2 t2 cur2 h02 hb2 hh2 hs2 ho2 => exact absurd hb2 (hb b2)
    | slN => rfl
theorem nav_upd {ep kp0 i j : Nat} {row : List (List C)} {x : C} : ∀ (p : Pth) (e k : Nat) (es : List (List C)), nav e k es p = some (ep, kp0, row) → nav e k (updP es p (setCell i j x)) p = some (ep, kp0, setCell i j x row) := by
  intro p
  induction p with
  | nil => intro e k es h; simp only [nav, Option.some.injEq, Prod.mk.injEq] at h; obtain ⟨rfl, rfl, rfl⟩ := h; rfl
  | cons y p ih =>
    intro e k es h
    obtain ⟨y1, y2⟩ := y
    obtain ⟨r1, e5, k5, xs5, g1, g2, g3⟩ := nav_cons h
    have := ih _ _ _ g3
    simp only [updP, nav, List.getElem?_modify, if_true, g1, Option.map_eq_map, Option.map_some, Option.bind_some, g2]
    exact this
theorem fill1_G {id i j : Nat} {p : Pth} {v : AV} (h : fill1 st id p i j v = some st') : st'.G = st.G := by
  unfold fill1 at h
  split at h
  · simp at h
  · split at h
    · simp at h
    · split at h
      · split at h
        · split at h
          · injection h with h; subst h; rfl
          · simp at h
        · injection h with h; subst h; rfl
        · split at h
          · split at h
            · injection h with h; subst h; rfl
            · simp at h
          · simp at h
        · simp at h
      · simp at h
theorem sound_storeK (tok : TOk P tt) {t t0 : Nat} {p x : Operand} {id k sid sk len i j : Nat} {q : Pth} (hd : o.dst = none) (ho : o.op = .store t p x) (hp : ev st p = .ptr id k q i j) (hx : ev st x = .sl sid sk [] 0 len)
    (ht : lk st.tm t0 = .sl sid sk [] 0 len) (ht2 : t0 < st.nt) (hv : storeA tt st t (ev st p) (ev st x) = some st1) :
    Sound P o st .un { st1 with tm := (t0, .sl id sk (q ++ [(i, j)]) 0 len) :: st1.tm } (rids (ev st p) ++ rids (ev st x)) := by
  intro w0 β0 β a w hr K Q hK
  have hv0 := hv
  unfold storeA at hv
  split at hv
  · simp at hv
  · rename_i ti hti
    rw [hp] at hv
    simp only at hv
    split at hv
    · rename_i e k' row hrow
      split at hv
      · rename_i hcond
        obtain ⟨rfl, hl, hagg⟩ := hcond
        have hpv := hr.ev p
        rw [hp] at hpv
        obtain ⟨b, t', cur0, h1, h2, h3⟩ := hpv.ptr_inv
        rw [hx] at hv hl
        simp only [cellsA] at hv hl
        have hvx := hr.ev x
        rw [hx] at hvx
        have hvt := hr.tm t0
        rw [ht] at hvt
        have hsame : a.tmps.getD t0 (st.G t0) = a.eval x := VR.sl_det hr.uq hvt hvx
        have hk : ∀ e k es ep kp' row', lo st.ob id = some (e, k, es) → nav e k es q = some (ep, kp', row') → kp' = k' := fun e1 k1 es1 ep1 kp1 row1 q1 q2 => by
          simp only [rowA, q1] at hrow
          rw [q2] at hrow
          injection hrow with hrow; injection hrow with _ hrow; injection hrow with hrow _
        have hf : fill1 st id q i j (.sl sid sk [] 0 len) = some st1 := by
          simp only [fillL, AV.hitsL, if_true, Option.bind_some] at hv
          cases hx1 : fill1 st id q i j (.sl sid sk [] 0 len) with
          | none => rw [hx1] at hv; simp at hv
          | some s => rw [hx1] at hv; simpa using hv
        obtain ⟨cur, t1, g1, g2⟩ := fill1_cell hr hf h1 hk
        have hone : (a.eval x).oneCell' = true := by
          have := (slV_of_vr hvx).2.one
          exact this
        have hc : OneCell w (w.setCell ⟨b, i * k' + j, none⟩ (a.eval x)) b t1 (i * k' + j) cur (cur.setIfInBounds (i * k' + j) (a.eval x)) (a.eval x) := OneCell.store g1 g2
        obtain ⟨β1, r1, r2, r3, r4, r5⟩ := fill1_rel hr hf hvx h1 hk hc
        have hnew : VR β1 (w.setCell ⟨b, i * k' + j, none⟩ (a.eval x)) (.sl id sk (q ++ [(i, j)]) 0 len) (a.eval x) := by
          have hf2 := hf
          obtain ⟨e1, k1, es1, ep1, kp1, row1, q1, q2, q3, q4⟩ := fill1_at hf
          obtain rfl := hk _ _ _ _ _ _ q1 q2
          unfold fill1 at hf2
          rw [q1] at hf2
          simp only [q2, q3, q4, and_self, if_true] at hf2
          split at hf2
          · rename_i se sk' ses hls
            split at hf2
            · rename_i hq
              obtain ⟨n1, n2, n3⟩ := hq
              injection hf2 with hf2
              have hrow1 : rowA st1 id q = some (ep1, kp1, setCell i j (.sl se sk ses) row1) := by
                rw [← hf2]
                simp only [rowA, lo_put, if_true]
                exact nav_upd q _ _ _ q2
              obtain ⟨cap, cur2, s1, s2, s3, s4, s5⟩ := rowA_at r1.uq r1.ob hrow1 r3
              have hcc := hc.hh'
              rw [s1] at hcc
              injection hcc with hcc
              injection hcc with hcc _
              obtain ⟨r0, hr0⟩ : ∃ r0, row1[i]? = some r0 := ⟨_, List.getElem?_eq_getElem q4⟩
              have hr1 : (setCell i j (.sl se sk ses) row1)[i]? = some (r0.set j (.sl se sk ses)) := by
                simp only [setCell, List.getElem?_modify, hr0, if_true]
                rfl
              have hlen : (r0.set j (C.sl se sk ses)).length = kp1 := s4 _ (List.mem_of_getElem? hr1)
              have hj1 : (r0.set j (C.sl se sk ses))[j]? = some (.sl se sk ses) := by
                rw [List.length_set] at hlen
                rw [List.getElem?_set, if_pos rfl, if_pos (by omega)]
              obtain ⟨u, hu1, hu2⟩ := s5 i j _ _ hr1 hj1
              have hu3 := hc.hu
              rw [← hcc] at hu3
              rw [hu1] at hu3
              injection hu3 with hu3
              subst hu3
              rw [n3]
              exact vr_of_slV hu2.1 hu2.2
            · simp at hf2
          · simp at hf2
        have hcell : w.cell? ⟨b, i * k' + j, none⟩ = some (cur[i * k' + j]'g2) := by rw [cell_of_row w b _ cur t1 (0, 0) g1]; simp [g2]
        have hfrz : w.frozen? ⟨b, i * k' + j, none⟩ = false := frozen_of_row w b _ cur t1 g1
        have hsz : (a.eval x).cells.size = ti.size := by
          have hvr := cells_vr hvx (by simp) (by simp) (by simp)
          have := hvr.1
          simp only [cellsA] at this
          rw [← hl, ← this]; simp
        have hcs : (a.eval x).cells.toList = [a.eval x] := by
          have hc1 : ∀ u : Value, u.oneCell' = true → Value.cells u = #[u] := fun u h => by cases u <;> first | rfl | (simp [Value.oneCell'] at h; done)
          rw [hc1 _ hone]
        have s1 : (storeCells ⟨b, i * k' + j, none⟩ (a.eval x).cells.toList 0).run P w = .ok () (w.setCell ⟨b, i * k' + j, none⟩ (a.eval x)) := by
          rw [hcs]
          simp only [storeCells, Sem.run_bind, add_plain, Nat.add_zero, run_store P w _ (a.eval x) .plain hone, hcell, hfrz, Bool.false_eq_true, if_false, Result.andThen_ok, Sem.run_pure]
        unfold Oper.wp
        have hrun : (execOp a.eval o).run P w = .ok .skip (w.setCell ⟨b, i * k' + j, none⟩ (a.eval x)) := by
          simp [execOp, ho, h3, Instr.storeAt, Instr.sureAddr, storeVar, tok.sizeOf hti, hsz, s1]
        rw [hrun]
        refine hK β1 undef _ ?_ (.un _) (r5.mono (by rw [hp, hx]; simp [rids])) (by rw [hc.size]; omega)
        refine ⟨r1.nt, r1.df, fun n => ?_, r1.ob, r1.uq, r1.lt, r1.fr, r1.old, r1.hs, r1.os, r1.tape, r1.output⟩
        simp only [lk]
        split
        · rename_i e
          subst e
          have hG : st1.G = st.G := fill1_G hf
          rw [hG, hsame]
          exact hnew
        · exact r1.tm n
      · simp at hv
    · simp at hv
def stKeepS (tt : Nat → Option TI) (st : St) (ty : Nat) (p x : Operand) (t0 : Nat) : Option St := match ev st p with
  | .ptr id k q i j => match ev st x with
    | .sl sid sk [] 0 len => match lk st.tm t0 with
      | .sl sid' sk' [] 0 len' => if sid' = sid ∧ sk' = sk ∧ len' = len ∧ t0 < st.nt ∧ below (rids (.ptr id k q i j) ++ rids (.sl sid sk [] 0 len)) = true then
          (storeA tt st ty (.ptr id k q i j) (.sl sid sk [] 0 len)).map fun s => { s with tm := (t0, .sl id sk (q ++ [(i, j)]) 0 len) :: s.tm } else none
      | _ => none
    | _ => none
  | _ => none
theorem WPL.stKp (tok : TOk P tt) {ops : Array Oper} {l : List Oper} {Ψ : St → Prop} {ty tid : TypeId} {p x : Operand} {pos : String} {af : Array Edge} (t0 : Nat)
    (h : ∀ K : St → Prop, (∀ s, WPL P ops l s Ψ → K s) → ∃ s, stKeepS tt st ty p x t0 = some s ∧ K s) :
    WPL P ops ({ dst := none, op := .store ty p x, type := tid, pos := pos, after := af, guard := none } :: l) st Ψ := by
  obtain ⟨s, h1, h2⟩ := h (fun s => WPL P ops l s Ψ) fun _ h => h
  unfold stKeepS at h1
  split at h1
  · rename_i id k q i j hp
    split at h1
    · rename_i sid sk len hx
      split at h1
      · rename_i sid' sk' len' ht
        split at h1
        · rename_i hq
          obtain ⟨rfl, rfl, rfl, ht2, hb⟩ := hq
          rw [Option.map_eq_some_iff] at h1
          obtain ⟨s1, hs1, rfl⟩ := h1
          refine WPL.stp (Ψ' := fun s => s = _) (T := rids (ev st p) ++ rids (ev st x)) rfl (fun w0 β0 β a w hr Q => ?_) fun s hs => by rw [hs]; exact h2
          refine sound_storeK tok rfl rfl hp hx ht ht2 (by rw [hp, hx]; exact hs1) w0 β0 β a w hr.rel _ _ fun β' u w' hr' hv hf hs => ?_
          exact ⟨_, β', rfl, hr.next hr' hf (by rw [hp, hx]; exact hb), hf, hs⟩
        · simp at h1
      · simp at h1
    · simp at h1
  · simp at h1
attribute [simp] stKeepS
end Go.Own
set_option maxRecDepth 1000000
set_option maxHeartbeats 4000000
namespace Go.Own
attribute [local irreducible] WPc WPL WPS WPS1 WPS2 HAny endP valOf
variable [Laid]
open Go.Lib Go.RowKit
def choiceM (ns : List Nd) (wh : List Int) (i : Nat) (c : Nd) : List Int :=
  if isConst (ndAt ns (c.args.getD 0 0)) = true then wh.set i (if truth (valOf (ndAt ns (c.args.getD 0 0))) = true then c.args.getD 1 0 else c.args.getD 2 0) else wh
theorem modify_nCs {l : List Int} {i : Nat} {x : Int} : (l.map nC).modify i (fun r => r.set 0 (.sc (.int .i64 x))) = (l.set i x).map nC := by
  apply List.ext_getElem?
  intro j
  rw [List.getElem?_modify, List.getElem?_map, List.getElem?_map, List.getElem?_set]
  by_cases hij : i = j
  · subst hij
    by_cases hlt : i < l.length
    · simp [hlt, nC]
    · simp [hlt]
  · simp only [hij, if_false]
    cases l[j]? <;> rfl
theorem c_impl_choice (ns : List Nd) (wh : List Int) (i : Nat) (hi : i < ns.length) (hw : i < wh.length) (hb : inBd ns ns[i].args) (h3 : ns[i].args.length = 3) : Con PP 115 [.ptr 0 2 [] 0 0, .sc (.int .i64 i)] [(0, folR ns wh)] [0] (fun r o => r = .tup [] ∧ o = [(0, folR ns (choiceM ns wh i ns[i]))]) := by
  have hi' : (i : Int) < (ns.length : Int) := by omega
  have hw' : (i : Int) < (wh.length : Int) := by omega
  have j0 : 0 < ns[i].args.length := by omega
  have j1 : 1 < ns[i].args.length := by omega
  have j2 : 2 < ns[i].args.length := by omega
  have k0 : (0 : Int) < (ns[i].args.length : Int) := by omega
  have k1 : (1 : Int) < (ns[i].args.length : Int) := by omega
  have k2 : (2 : Int) < (ns[i].args.length : Int) := by omega
  obtain ⟨a0, a1⟩ := hb _ (List.getElem_mem j0)
  have a2 : ns[i].args[0].toNat < ns.length := by omega
  have ee : ndAt ns (ns[i].args.getD 0 0) = ns[ns[i].args[0].toNat] := by rw [List.getD_eq_getElem?_getD, List.getElem?_eq_getElem j0]; exact ndAt_eq a2
  have f1 : ns[i].args.getD 1 0 = ns[i].args[1] := by rw [List.getD_eq_getElem?_getD, List.getElem?_eq_getElem j1]; rfl
  have f2 : ns[i].args.getD 2 0 = ns[i].args[2] := by rw [List.getD_eq_getElem?_getD, List.getElem?_eq_getElem j2]; rfl
  have e1 : isConst ⟨ns[ns[i].args[0].toNat].k, ns[ns[i].args[0].toNat].n, ns[ns[i].args[0].toNat].s, ns[ns[i].args[0].toNat].names, ns[ns[i].args[0].toNat].args⟩ = isConst ns[ns[i].args[0].toNat] := rfl
  have e2 : valOf ⟨ns[ns[i].args[0].toNat].k, ns[ns[i].args[0].toNat].n, ns[ns[i].args[0].toNat].s, ns[ns[i].args[0].toNat].names, ns[ns[i].args[0].toNat].args⟩ = valOf ns[ns[i].args[0].toNat] := rfl
  have e3 : V.mk (valOf ns[ns[i].args[0].toNat]).k (valOf ns[ns[i].args[0].toNat]).n (valOf ns[ns[i].args[0].toNat]).s = valOf ns[ns[i].args[0].toNat] := rfl
  cases hc : isConst ns[ns[i].args[0].toNat] with
  | false =>
    have hM : choiceM ns wh i ns[i] = wh := by unfold choiceM; rw [ee, hc]; rfl
    rw [hM]
    refine Con.of tok (nt := 53) Go.Proofs.Tryz.func115 (by kernel_rfl) rfl rfl rfl (Nat.le_of_ble_eq_true rfl) fun G => ?_
    simp only [entSt, tmOf, List.append_nil, List.cons_append, List.nil_append, folR]
    repeat' (first
      | apply WPc.sq
      | (apply WPc.ret; apply endP.sel (is := [0]) (he := .inr rfl); (case hs => rfl); (case hg => rfl); (case h => (simp; rfl)); (case hO => (simp; rfl)); (case hk => (simp; done)))
      | (apply WPS.cL (hc := (c_impl_isConstant ⟨_, _, _, _, _⟩)); (case ho => exact rfl); (case q => (repeat' (first | refine And.intro ?_ ?_ | intro _ | exact cleanOut_nil | (refine Eqv.mk ?_; first | rfl | (simp -implicitDefEqProofs [hi, hi', Nd.ow, nC, j0, k0, a0, a1, a2, e1, hc]; done)) | (simp -implicitDefEqProofs [hi, hi', Nd.ow, nC, j0, k0, a0, a1, a2, e1, hc]; done) | (simp -implicitDefEqProofs [hi, hi', Nd.ow, nC, j0, k0, a0, a1, a2, e1, hc]; rfl) | (simp; done) | (simp; rfl) | rfl))))
      | ((first | refine WPc.rq tok rfl fun K hK => ?_ | refine WPS.rn tok _ (by simp [aheadS]; rfl) fun K hK => ?_); simp -implicitDefEqProofs +contextual [-Int.not_le, -Int.not_lt, -Nat.not_le, -Nat.not_lt, -List.all_eq_true, -List.all_eq_false, -List.any_eq_true, -List.any_eq_false, hi, hi', Nd.ow, nC, j0, k0, a0, a1, a2, e1, hc]; (repeat1' (first | apply hK | apply And.intro | intro _)) <;> clear hK K <;> (try dsimp only [List.drop]))
      | (refine WPc.sched (id := 1) tok [] [(0, []), (1, []), (2, []), (3, []), (4, []), (5, []), (6, []), (7, []), (8, []), (9, []), (10, [])] (by kernel_rfl) ?_)
      | (refine WPS.nil ?_)
      | (refine WPc.condT ?_ ?_; (focus (simp; done))))
    all_goals exact ⟨rfl, rfl⟩
  | true =>
    have hM : choiceM ns wh i ns[i] = wh.set i (if truth (valOf ns[ns[i].args[0].toNat]) = true then ns[i].args[1] else ns[i].args[2]) := by unfold choiceM; rw [ee, hc, f1, f2]; rfl
    rw [hM]
    cases ht : truth (valOf ns[ns[i].args[0].toNat]) with
    | false =>
      refine Con.of tok (nt := 53) Go.Proofs.Tryz.func115 (by kernel_rfl) rfl rfl rfl (Nat.le_of_ble_eq_true rfl) fun G => ?_
      simp only [entSt, tmOf, List.append_nil, List.cons_append, List.nil_append, folR]
      repeat' (first
        | apply WPc.sq
        | apply WPc.skip
        | (apply WPS.cL (hc := (c_impl_Truth ⟨_, _, _⟩)); (case ho => exact rfl); (case q => (repeat' (first | refine And.intro ?_ ?_ | intro _ | exact cleanOut_nil | (refine Eqv.mk ?_; first | rfl | (simp -implicitDefEqProofs [hi, hi', hw, hw', Nd.ow, nC, j0, j1, j2, k0, k1, k2, a0, a1, a2, e1, e2, e3, hc, ht, V.av]; done)) | (simp -implicitDefEqProofs [hi, hi', hw, hw', Nd.ow, nC, j0, j1, j2, k0, k1, k2, a0, a1, a2, e1, e2, e3, hc, ht, V.av]; done) | (simp -implicitDefEqProofs [hi, hi', hw, hw', Nd.ow, nC, j0, j1, j2, k0, k1, k2, a0, a1, a2, e1, e2, e3, hc, ht, V.av]; rfl) | (simp; done) | (simp; rfl) | rfl))))
        | (apply WPS.cL (hc := (c_impl_isConstant ⟨_, _, _, _, _⟩)); (case ho => exact rfl); (case q => (repeat' (first | refine And.intro ?_ ?_ | intro _ | exact cleanOut_nil | (refine Eqv.mk ?_; first | rfl | (simp -implicitDefEqProofs [hi, hi', hw, hw', Nd.ow, nC, j0, j1, j2, k0, k1, k2, a0, a1, a2, e1, e2, e3, hc, ht, V.av]; done)) | (simp -implicitDefEqProofs [hi, hi', hw, hw', Nd.ow, nC, j0, j1, j2, k0, k1, k2, a0, a1, a2, e1, e2, e3, hc, ht, V.av]; done) | (simp -implicitDefEqProofs [hi, hi', hw, hw', Nd.ow, nC, j0, j1, j2, k0, k1, k2, a0, a1, a2, e1, e2, e3, hc, ht, V.av]; rfl) | (simp; done) | (simp; rfl) | rfl))))
        | (apply WPS.cL (hc := (c_impl_valueOfNode ⟨_, _, _, _, _⟩)); (case ho => exact rfl); (case q => (repeat' (first | refine And.intro ?_ ?_ | intro _ | exact cleanOut_nil | (refine Eqv.mk ?_; first | rfl | (simp -implicitDefEqProofs [hi, hi', hw, hw', Nd.ow, nC, j0, j1, j2, k0, k1, k2, a0, a1, a2, e1, e2, e3, hc, ht, V.av]; done)) | (simp -implicitDefEqProofs [hi, hi', hw, hw', Nd.ow, nC, j0, j1, j2, k0, k1, k2, a0, a1, a2, e1, e2, e3, hc, ht, V.av]; done) | (simp -implicitDefEqProofs [hi, hi', hw, hw', Nd.ow, nC, j0, j1, j2, k0, k1, k2, a0, a1, a2, e1, e2, e3, hc, ht, V.av]; rfl) | (simp; done) | (simp; rfl) | rfl))))
        | ((first | refine WPc.rq tok rfl fun K hK => ?_ | refine WPS.rn tok _ (by simp [aheadS]; rfl) fun K hK => ?_); simp -implicitDefEqProofs +contextual [-Int.not_le, -Int.not_lt, -Nat.not_le, -Nat.not_lt, -List.all_eq_true, -List.all_eq_false, -List.any_eq_true, -List.any_eq_false, hi, hi', hw, hw', Nd.ow, nC, j0, j1, j2, k0, k1, k2, a0, a1, a2, e1, e2, e3, hc, ht, V.av]; (repeat1' (first | apply hK | apply And.intro | intro _)) <;> clear hK K <;> (try dsimp only [List.drop]))
        | (refine WPc.sched (id := 1) tok [] [(0, []), (1, []), (2, []), (3, []), (4, []), (5, []), (6, []), (7, []), (8, []), (9, []), (10, [])] (by kernel_rfl) ?_)
        | (refine WPc.sched (id := 2) tok [(9, [0])] [(0, []), (1, []), (2, []), (3, []), (4, []), (5, []), (6, []), (7, []), (8, []), (9, [0])] (by kernel_rfl) ?_)
        | (refine WPc.sched (id := 3) tok [] [(0, []), (1, []), (2, []), (3, []), (4, []), (5, []), (6, []), (7, []), (8, []), (9, []), (10, [])] (by kernel_rfl) ?_)
        | (refine WPc.sched (id := 4) tok [(9, [0])] [(0, []), (1, []), (2, []), (3, []), (4, []), (5, []), (6, []), (7, []), (8, []), (9, [0])] (by kernel_rfl) ?_)
        | (refine WPS.nil ?_)
        | (refine WPS.eff tok fun K hK => ?_; simp -implicitDefEqProofs +contextual [-Int.not_le, -Int.not_lt, -Nat.not_le, -Nat.not_lt, -List.all_eq_true, -List.all_eq_false, -List.any_eq_true, -List.any_eq_false, hi, hi', hw, hw', Nd.ow, nC, j0, j1, j2, k0, k1, k2, a0, a1, a2, e1, e2, e3, hc, ht, V.av]; (repeat1' (first | apply hK | apply And.intro | intro _)) <;> clear hK K)
        | (refine WPc.condF ?_ ?_; (focus (simp; done)))
        | (refine WPc.cond (by simp [-Bool.not_eq_eq_eq_not]; rfl) (fun hq => ?_) (fun hq => ?_) <;> simp only [hq] <;> (try (exfalso; (simp only [decide_eq_true_eq, decide_eq_false_iff_not] at hq); omega)))
        | (apply endP.sel (is := [0]) (he := .inl rfl); (case hs => rfl); (case hg => rfl); (case h => (simp; rfl)); (case hO => (simp; rfl)); (case hk => (simp; done))))
      all_goals first
        | (exfalso; rw [e3, ht] at hq; exact Bool.noConfusion hq)
        | exact ⟨rfl, by rw [modify_nCs, modify_nCs]; simp⟩
        | exact ⟨rfl, by rw [modify_nCs]; simp⟩
    | true =>
      refine Con.of tok (nt := 53) Go.Proofs.Tryz.func115 (by kernel_rfl) rfl rfl rfl (Nat.le_of_ble_eq_true rfl) fun G => ?_
      simp only [entSt, tmOf, List.append_nil, List.cons_append, List.nil_append, folR]
      repeat' (first
        | apply WPc.sq
        | apply WPc.skip
        | (apply WPS.cL (hc := (c_impl_Truth ⟨_, _, _⟩)); (case ho => exact rfl); (case q => (repeat' (first | refine And.intro ?_ ?_ | intro _ | exact cleanOut_nil | (refine Eqv.mk ?_; first | rfl | (simp -implicitDefEqProofs [hi, hi', hw, hw', Nd.ow, nC, j0, j1, j2, k0, k1, k2, a0, a1, a2, e1, e2, e3, hc, ht, V.av]; done)) | (simp -implicitDefEqProofs [hi, hi', hw, hw', Nd.ow, nC, j0, j1, j2, k0, k1, k2, a0, a1, a2, e1, e2, e3, hc, ht, V.av]; done) | (simp -implicitDefEqProofs [hi, hi', hw, hw', Nd.ow, nC, j0, j1, j2, k0, k1, k2, a0, a1, a2, e1, e2, e3, hc, ht, V.av]; rfl) | (simp; done) | (simp; rfl) | rfl))))
        | (apply WPS.cL (hc := (c_impl_isConstant ⟨_, _, _, _, _⟩)); (case ho => exact rfl); (case q => (repeat' (first | refine And.intro ?_ ?_ | intro _ | exact cleanOut_nil | (refine Eqv.mk ?_; first | rfl | (simp -implicitDefEqProofs [hi, hi', hw, hw', Nd.ow, nC, j0, j1, j2, k0, k1, k2, a0, a1, a2, e1, e2, e3, hc, ht, V.av]; done)) | (simp -implicitDefEqProofs [hi, hi', hw, hw', Nd.ow, nC, j0, j1, j2, k0, k1, k2, a0, a1, a2, e1, e2, e3, hc, ht, V.av]; done) | (simp -implicitDefEqProofs [hi, hi', hw, hw', Nd.ow, nC, j0, j1, j2, k0, k1, k2, a0, a1, a2, e1, e2, e3, hc, ht, V.av]; rfl) | (simp; done) | (simp; rfl) | rfl))))
        | (apply WPS.cL (hc := (c_impl_valueOfNode ⟨_, _, _, _, _⟩)); (case ho => exact rfl); (case q => (repeat' (first | refine And.intro ?_ ?_ | intro _ | exact cleanOut_nil | (refine Eqv.mk ?_; first | rfl | (simp -implicitDefEqProofs [hi, hi', hw, hw', Nd.ow, nC, j0, j1, j2, k0, k1, k2, a0, a1, a2, e1, e2, e3, hc, ht, V.av]; done)) | (simp -implicitDefEqProofs [hi, hi', hw, hw', Nd.ow, nC, j0, j1, j2, k0, k1, k2, a0, a1, a2, e1, e2, e3, hc, ht, V.av]; done) | (simp -implicitDefEqProofs [hi, hi', hw, hw', Nd.ow, nC, j0, j1, j2, k0, k1, k2, a0, a1, a2, e1, e2, e3, hc, ht, V.av]; rfl) | (simp; done) | (simp; rfl) | rfl))))
        | ((first | refine WPc.rq tok rfl fun K hK => ?_ | refine WPS.rn tok _ (by simp [aheadS]; rfl) fun K hK => ?_); simp -implicitDefEqProofs +contextual [-Int.not_le, -Int.not_lt, -Nat.not_le, -Nat.not_lt, -List.all_eq_true, -List.all_eq_false, -List.any_eq_true, -List.any_eq_false, hi, hi', hw, hw', Nd.ow, nC, j0, j1, j2, k0, k1, k2, a0, a1, a2, e1, e2, e3, hc, ht, V.av]; (repeat1' (first | apply hK | apply And.intro | intro _)) <;> clear hK K <;> (try dsimp only [List.drop]))
        | (refine WPc.sched (id := 1) tok [] [(0, []), (1, []), (2, []), (3, []), (4, []), (5, []), (6, []), (7, []), (8, []), (9, []), (10, [])] (by kernel_rfl) ?_)
        | (refine WPc.sched (id := 2) tok [(9, [0])] [(0, []), (1, []), (2, []), (3, []), (4, []), (5, []), (6, []), (7, []), (8, []), (9, [0])] (by kernel_rfl) ?_)
        | (refine WPc.sched (id := 3) tok [] [(0, []), (1, []), (2, []), (3, []), (4, []), (5, []), (6, []), (7, []), (8, []), (9, []), (10, [])] (by kernel_rfl) ?_)
        | (refine WPc.sched (id := 4) tok [(9, [0])] [(0, []), (1, []), (2, []), (3, []), (4, []), (5, []), (6, []), (7, []), (8, []), (9, [0])] (by kernel_rfl) ?_)
        | (refine WPS.nil ?_)
        | (refine WPS.eff tok fun K hK => ?_; simp -implicitDefEqProofs +contextual [-Int.not_le, -Int.not_lt, -Nat.not_le, -Nat.not_lt, -List.all_eq_true, -List.all_eq_false, -List.any_eq_true, -List.any_eq_false, hi, hi', hw, hw', Nd.ow, nC, j0, j1, j2, k0, k1, k2, a0, a1, a2, e1, e2, e3, hc, ht, V.av]; (repeat1' (first | apply hK | apply And.intro | intro _)) <;> clear hK K)
        | (refine WPc.condF ?_ ?_; (focus (simp; done)))
        | (refine WPc.cond (by simp [-Bool.not_eq_eq_eq_not]; rfl) (fun hq => ?_) (fun hq => ?_) <;> simp only [hq] <;> (try (exfalso; (simp only [decide_eq_true_eq, decide_eq_false_iff_not] at hq); omega)))
        | (apply endP.sel (is := [0]) (he := .inl rfl); (case hs => rfl); (case hg => rfl); (case h => (simp; rfl)); (case hO => (simp; rfl)); (case hk => (simp; done))))
      all_goals first
        | (exfalso; rw [e3, ht] at hq; exact Bool.noConfusion hq)
        | exact ⟨rfl, by rw [modify_nCs, modify_nCs]; simp⟩
        | exact ⟨rfl, by rw [modify_nCs]; simp⟩
def keepAt (ns : List Nd) (xs : List Int) (k : Nat) : Bool := decide (k + 1 = xs.length) || !isConst (ndAt ns (xs.getD k 0))
def seqTo (ns : List Nd) (xs : List Int) (j : Nat) : List Int := ((List.range j).filter (keepAt ns xs)).map fun k => xs.getD k 0
theorem seqTo_zero (ns : List Nd) (xs : List Int) : seqTo ns xs 0 = [] := rfl
theorem seqTo_next {ns : List Nd} {xs : List Int} {j : Nat} : seqTo ns xs (j + 1) = seqTo ns xs j ++ (if keepAt ns xs j = true then [xs.getD j 0] else []) := by
  rw [seqTo, List.range_succ, List.filter_append, List.map_append]
  congr 1
  by_cases h : keepAt ns xs j = true <;> simp [h, List.filter_cons]
theorem seqTo_len (ns : List Nd) (xs : List Int) (j : Nat) : (seqTo ns xs j).length ≤ j := by
  rw [seqTo, List.length_map]; exact Nat.le_trans (List.length_filter_le _ _) (by simp)
def seqN (ns : List Nd) (c : Nd) : Nd := { c with args := seqTo ns c.args c.args.length }
def seqW (ns : List Nd) (wh : List Int) (i : Nat) (c : Nd) : List Int := if (seqTo ns c.args c.args.length).length = 1 then wh.set i ((seqTo ns c.args c.args.length).getD 0 0) else wh
theorem c_impl_seq (ns : List Nd) (wh : List Int) (i : Nat) (hi : i < ns.length) (hw : i < wh.length) (hb : inBd ns ns[i].args) (h2 : 2 ≤ ns[i].args.length) (hl : ns[i].args.length ≤ 1000000000) : Con PP 114 [.ptr 0 2 [] 0 0, .sc (.int .i64 i)] [(0, folR ns wh)] [0] (fun r o => r = .tup [] ∧ o = [(0, folR (ns.set i (seqN ns ns[i])) (seqW ns wh i ns[i]))]) := by
  have hi' : (i : Int) < (ns.length : Int) := by omega
  have hw' : (i : Int) < (wh.length : Int) := by omega
  obtain ⟨m, hm⟩ : ∃ m, ns[i].args.length = m + 1 := ⟨ns[i].args.length - 1, by omega⟩
  have hw1 : IntKind.i64.wrap ((ns[i].args.length : Int) - 1) = m := by rw [wrap64 (by omega) (by omega)]; omega
  refine Con.of tok (nt := 71) Go.Proofs.Tryz.func114 (by kernel_rfl) rfl rfl rfl (Nat.le_of_ble_eq_true rfl) fun G => ?_
  simp only [entSt, tmOf, List.append_nil, List.cons_append, List.nil_append, folR]
  repeat' (first
    | apply WPc.sq
    | apply WPc.block
    | (refine WPc.rq tok rfl fun K hK => ?_; simp -implicitDefEqProofs +contextual [-Int.not_le, -Int.not_lt, -Nat.not_le, -Nat.not_lt, -List.all_eq_true, -List.all_eq_false, -List.any_eq_true, -List.any_eq_false, hi, hi', Nd.ow, hw1]; (repeat1' (first | apply hK | apply And.intro | intro _)) <;> clear hK K <;> (try dsimp only [List.drop])))
  refine WPc.adoptK 4 900003 3 1 fun K hK => ?_
  simp -implicitDefEqProofs
  refine hK _ ?_; clear hK K
  refine WPc.loopV (σ := Nat) (fun j => j ≤ ns[i].args.length) (fun j => ns[i].args.length - j) (fun j => [(27, .sc (.int .i64 j)), (4, .sl 900003 1 [] 0 (seqTo ns ns[i].args j).length)]) (fun j => [(0, 105, 2, [[.sl 97 5 (ns.map Nd.ow), .sl 3 1 (wh.map nC)]]), (900003, 3, 1, (seqTo ns ns[i].args j).map nC)]) [0, 1, 5, 25, 26, 71] 0 (by simp [seqTo_zero]) (by simp [seqTo_zero]) (Nat.zero_le _) ?_
  rintro j hj s hs
  simp at hs
  subst hs
  by_cases hjl : j < ns[i].args.length
  · obtain ⟨a0, a1⟩ := hb _ (List.getElem_mem hjl)
    have a2 : ns[i].args[j].toNat < ns.length := by omega
    have eg : ns[i].args.getD j 0 = ns[i].args[j] := by rw [List.getD_eq_getElem?_getD, List.getElem?_eq_getElem hjl]; rfl
    have ee : ndAt ns (ns[i].args.getD j 0) = ns[ns[i].args[j].toNat] := by rw [eg]; exact ndAt_eq a2
    have e1 : isConst ⟨ns[ns[i].args[j].toNat].k, ns[ns[i].args[j].toNat].n, ns[ns[i].args[j].toNat].s, ns[ns[i].args[j].toNat].names, ns[ns[i].args[j].toNat].args⟩ = isConst ns[ns[i].args[j].toNat] := rfl
    have hsl := seqTo_len ns ns[i].args j
    have hb1 : ((seqTo ns ns[i].args j).length + 1) * 8 ≤ 140737488355328 := by omega
    have hb2 : (seqTo ns ns[i].args j).length + 1 ≤ 9223372036854775807 := by omega
    have hnx := seqTo_next (ns := ns) (xs := ns[i].args) (j := j)
    by_cases hjm : j = m
    · have hjm' : ((j : Int) = (m : Int)) = True := by simp [hjm]
      have hk : keepAt ns ns[i].args j = true := by simp [keepAt, hm, hjm]
      rw [hk, if_pos rfl, eg] at hnx
      repeat' (first
        | apply WPc.sq
        | apply WPc.block
        | apply WPc.skip
        | refine WPL.nil ?_
        | (refine WPL.call0f ?_ ?_ ?_; (focus (simp; done)); (focus (simp; done)))
        | ((first | refine WPc.rq tok rfl fun K hK => ?_ | refine WPL.rn tok _ (by simp [ahead, isFn]; rfl) fun K hK => ?_); simp -implicitDefEqProofs +contextual [-Int.not_le, -Int.not_lt, -Nat.not_le, -Nat.not_lt, -List.all_eq_true, -List.all_eq_false, -List.any_eq_true, -List.any_eq_false, hi, hi', Nd.ow, nC, hjl, a0, a1, a2, e1, hjm', hb1, hb2]; (repeat1' (first | apply hK | apply And.intro | intro _)) <;> clear hK K <;> (try dsimp only [List.drop]))
        | (refine WPc.region ?_; simp only [List.toList_toArray])
        | (refine WPc.condT ?_ ?_; (focus (simp; done))))
      refine ⟨j + 1, ⟨hjl, by first | omega | (simp only; omega) | assumption⟩, rfl, rfl, ?_, ?_⟩ <;> simp (disch := omega) [wrap64, hnx, nC]
    · have hjm' : ((j : Int) = (m : Int)) = False := by simp; omega
      cases hc : isConst ns[ns[i].args[j].toNat] with
      | true =>
        have hk : keepAt ns ns[i].args j = false := by rw [keepAt, ee, hc]; simp; omega
        rw [hk] at hnx
        simp only [Bool.false_eq_true, if_false, List.append_nil] at hnx
        repeat' (first
          | apply WPc.sq
          | apply WPc.block
          | apply WPc.skip
          | refine WPL.nil ?_
          | (apply WPL.cL (c_impl_isConstant ⟨_, _, _, _, _⟩); (case q => (repeat' (first | refine And.intro ?_ ?_ | intro _ | exact cleanOut_nil | (refine Eqv.mk ?_; first | rfl | (simp -implicitDefEqProofs [hi, hi', Nd.ow, nC, hjl, a0, a1, a2, e1, hjm', hc, hb1, hb2]; done)) | (simp -implicitDefEqProofs [hi, hi', Nd.ow, nC, hjl, a0, a1, a2, e1, hjm', hc, hb1, hb2]; done) | (simp -implicitDefEqProofs [hi, hi', Nd.ow, nC, hjl, a0, a1, a2, e1, hjm', hc, hb1, hb2]; rfl) | (simp; done) | (simp; rfl) | rfl))))
          | ((first | refine WPc.rq tok rfl fun K hK => ?_ | refine WPL.rn tok _ (by simp [ahead, isFn]; rfl) fun K hK => ?_); simp -implicitDefEqProofs +contextual [-Int.not_le, -Int.not_lt, -Nat.not_le, -Nat.not_lt, -List.all_eq_true, -List.all_eq_false, -List.any_eq_true, -List.any_eq_false, hi, hi', Nd.ow, nC, hjl, a0, a1, a2, e1, hjm', hc, hb1, hb2]; (repeat1' (first | apply hK | apply And.intro | intro _)) <;> clear hK K <;> (try dsimp only [List.drop]))
          | (refine WPc.region ?_; simp only [List.toList_toArray])
          | (refine WPc.condT ?_ ?_; (focus (simp; done)))
          | (refine WPc.condF ?_ ?_; (focus (simp; done))))
        refine ⟨j + 1, ⟨hjl, by first | omega | (simp only; omega) | assumption⟩, rfl, rfl, ?_, ?_⟩ <;> simp (disch := omega) [wrap64, hnx, nC]
      | false =>
        have hk : keepAt ns ns[i].args j = true := by rw [keepAt, ee, hc]; simp
        rw [hk, if_pos rfl, eg] at hnx
        repeat' (first
          | apply WPc.sq
          | apply WPc.block
          | apply WPc.skip
          | refine WPL.nil ?_
          | (apply WPL.cL (c_impl_isConstant ⟨_, _, _, _, _⟩); (case q => (repeat' (first | refine And.intro ?_ ?_ | intro _ | exact cleanOut_nil | (refine Eqv.mk ?_; first | rfl | (simp -implicitDefEqProofs [hi, hi', Nd.ow, nC, hjl, a0, a1, a2, e1, hjm', hc, hb1, hb2]; done)) | (simp -implicitDefEqProofs [hi, hi', Nd.ow, nC, hjl, a0, a1, a2, e1, hjm', hc, hb1, hb2]; done) | (simp -implicitDefEqProofs [hi, hi', Nd.ow, nC, hjl, a0, a1, a2, e1, hjm', hc, hb1, hb2]; rfl) | (simp; done) | (simp; rfl) | rfl))))
          | ((first | refine WPc.rq tok rfl fun K hK => ?_ | refine WPL.rn tok _ (by simp [ahead, isFn]; rfl) fun K hK => ?_); simp -implicitDefEqProofs +contextual [-Int.not_le, -Int.not_lt, -Nat.not_le, -Nat.not_lt, -List.all_eq_true, -List.all_eq_false, -List.any_eq_true, -List.any_eq_false, hi, hi', Nd.ow, nC, hjl, a0, a1, a2, e1, hjm', hc, hb1, hb2]; (repeat1' (first | apply hK | apply And.intro | intro _)) <;> clear hK K <;> (try dsimp only [List.drop]))
          | (refine WPc.region ?_; simp only [List.toList_toArray])
          | (refine WPc.condT ?_ ?_; (focus (simp; done))))
        refine ⟨j + 1, ⟨hjl, by first | omega | (simp only; omega) | assumption⟩, rfl, rfl, ?_, ?_⟩ <;> simp (disch := omega) [wrap64, hnx, nC]
  · obtain rfl : j = ns[i].args.length := by omega
    have hset : (ns.map Nd.ow).modify i (fun r => r.set 4 (.sl 3 1 ((seqTo ns ns[i].args ns[i].args.length).map nC))) = (ns.set i (seqN ns ns[i])).map Nd.ow := by
      apply List.ext_getElem?
      intro k
      rw [List.getElem?_modify, List.getElem?_map, List.getElem?_map, List.getElem?_set]
      by_cases hik : i = k
      · subst hik; simp [hi, Nd.ow, seqN]
      · simp only [hik, if_false]; cases ns[k]? <;> rfl
    by_cases h1 : (seqTo ns ns[i].args ns[i].args.length).length = 1
    · have h1' : (((seqTo ns ns[i].args ns[i].args.length).length : Int) = 1) = True := by simp [h1]
      have h0 : 0 < (seqTo ns ns[i].args ns[i].args.length).length := by omega
      have h0' : (0 : Int) < ((seqTo ns ns[i].args ns[i].args.length).length : Int) := by omega
      have hM : seqW ns wh i ns[i] = wh.set i (seqTo ns ns[i].args ns[i].args.length)[0] := by
        rw [seqW, if_pos h1, List.getD_eq_getElem?_getD, List.getElem?_eq_getElem h0]; rfl
      rw [hM]
      repeat' (first
        | (refine WPc.region (id := 8) ?_; simp only [List.toList_toArray])
        | (refine WPL.stKp (x := .tmp 56) tok 4 ?_; refine fun K hK => ?_; simp -implicitDefEqProofs +contextual [-Int.not_le, -Int.not_lt, -Nat.not_le, -Nat.not_lt, -List.all_eq_true, -List.all_eq_false, -List.any_eq_true, -List.any_eq_false, hi, hi', hw, hw', Nd.ow, nC, h1', h0, h0']; (repeat1' (first | apply hK | apply And.intro | intro _)) <;> clear hK K)
        | (refine WPL.rnToSt tok 56 _ (by simp [isFn]; rfl) fun K hK => ?_; simp -implicitDefEqProofs +contextual [-Int.not_le, -Int.not_lt, -Nat.not_le, -Nat.not_lt, -List.all_eq_true, -List.all_eq_false, -List.any_eq_true, -List.any_eq_false, hi, hi', hw, hw', Nd.ow, nC, h1', h0, h0']; (repeat1' (first | apply hK | apply And.intro | intro _)) <;> clear hK K <;> (try dsimp only [List.drop]))
        | apply WPc.sq
        | apply WPc.exit
        | refine WPL.nil ?_
        | ((first | refine WPc.rq tok rfl fun K hK => ?_ | refine WPS.rn tok _ (by simp [aheadS]; rfl) fun K hK => ?_); simp -implicitDefEqProofs +contextual [-Int.not_le, -Int.not_lt, -Nat.not_le, -Nat.not_lt, -List.all_eq_true, -List.all_eq_false, -List.any_eq_true, -List.any_eq_false, hi, hi', hw, hw', Nd.ow, nC, h1', h0, h0']; (repeat1' (first | apply hK | apply And.intro | intro _)) <;> clear hK K <;> (try dsimp only [List.drop]))
        | (refine WPc.sched (id := 10) tok [(9, [0, 49])] [(0, []), (1, []), (2, []), (3, []), (4, []), (5, []), (6, []), (7, []), (8, []), (9, [0, 49])] (by kernel_rfl) ?_)
        | (refine WPS.nil ?_)
        | (refine WPS.eff tok fun K hK => ?_; simp -implicitDefEqProofs +contextual [-Int.not_le, -Int.not_lt, -Nat.not_le, -Nat.not_lt, -List.all_eq_true, -List.all_eq_false, -List.any_eq_true, -List.any_eq_false, hi, hi', hw, hw', Nd.ow, nC, h1', h0, h0']; (repeat1' (first | apply hK | apply And.intro | intro _)) <;> clear hK K)
        | (refine WPc.condT ?_ ?_; (focus (simp; done)))
        | (refine WPc.condF ?_ ?_; (focus (simp; done)))
        | (apply endP.sel (is := [0]) (he := .inl rfl); (case hs => rfl); (case hg => rfl); (case h => (simp; rfl)); (case hO => (simp; rfl)); (case hk => (simp; done))))
      all_goals exact ⟨rfl, by rw [hset, modify_nCs]⟩
    · have h1' : (((seqTo ns ns[i].args ns[i].args.length).length : Int) = 1) = False := by simp; omega
      have hM : seqW ns wh i ns[i] = wh := by rw [seqW, if_neg h1]
      rw [hM]
      repeat' (first
        | (refine WPc.region (id := 8) ?_; simp only [List.toList_toArray])
        | (refine WPL.stKp (x := .tmp 56) tok 4 ?_; refine fun K hK => ?_; simp -implicitDefEqProofs +contextual [-Int.not_le, -Int.not_lt, -Nat.not_le, -Nat.not_lt, -List.all_eq_true, -List.all_eq_false, -List.any_eq_true, -List.any_eq_false, hi, hi', Nd.ow, nC, h1']; (repeat1' (first | apply hK | apply And.intro | intro _)) <;> clear hK K)
        | (refine WPL.rnToSt tok 56 _ (by simp [isFn]; rfl) fun K hK => ?_; simp -implicitDefEqProofs +contextual [-Int.not_le, -Int.not_lt, -Nat.not_le, -Nat.not_lt, -List.all_eq_true, -List.all_eq_false, -List.any_eq_true, -List.any_eq_false, hi, hi', Nd.ow, nC, h1']; (repeat1' (first | apply hK | apply And.intro | intro _)) <;> clear hK K <;> (try dsimp only [List.drop]))
        | apply WPc.sq
        | apply WPc.skip
        | apply WPc.exit
        | refine WPL.nil ?_
        | (refine WPc.rq tok rfl fun K hK => ?_; simp -implicitDefEqProofs +contextual [-Int.not_le, -Int.not_lt, -Nat.not_le, -Nat.not_lt, -List.all_eq_true, -List.all_eq_false, -List.any_eq_true, -List.any_eq_false, hi, hi', Nd.ow, nC, h1']; (repeat1' (first | apply hK | apply And.intro | intro _)) <;> clear hK K <;> (try dsimp only [List.drop]))
        | (refine WPc.condF ?_ ?_; (focus (simp; done)))
        | (apply endP.sel (is := [0]) (he := .inl rfl); (case hs => rfl); (case hg => rfl); (case h => (simp; rfl)); (case hO => (simp; rfl)); (case hk => (simp; done))))
      all_goals exact ⟨rfl, by rw [hset]⟩
end Go.Own
set_option maxRecDepth 1000000
set_option maxHeartbeats 4000000
namespace Go.Own
attribute [local irreducible] WPc WPL WPS WPS1 WPS2 HAny endP valOf
variable [Laid]
open Go.Lib Go.RowKit
def whAt (wh : List Int) (a : Int) : Int := wh.getD a.toNat 0
def mapTo (wh xs : List Int) (j : Nat) : List Int := (xs.take j).map (whAt wh) ++ xs.drop j
def mapN (wh : List Int) (c : Nd) (j : Nat) : Nd := { c with args := mapTo wh c.args j }
theorem mapTo_len {wh xs : List Int} {j : Nat} (hj : j ≤ xs.length) : (mapTo wh xs j).length = xs.length := by simp [mapTo]; omega
theorem mapTo_zero (wh xs : List Int) : mapTo wh xs 0 = xs := by simp [mapTo]
theorem mapTo_get {wh xs : List Int} {j : Nat} (hj : j < xs.length) : (mapTo wh xs j)[j]? = some xs[j] := by
  rw [mapTo, List.getElem?_append_right (by simp; omega)]
  simp [Nat.min_eq_left (Nat.le_of_lt hj), hj]
theorem mapTo_next {wh xs : List Int} {j : Nat} (hj : j < xs.length) : (mapTo wh xs j).set j (whAt wh xs[j]) = mapTo wh xs (j + 1) := by
  apply List.ext_getElem?
  intro k
  rw [List.getElem?_set]
  by_cases hk : j = k
  · subst hk
    rw [if_pos rfl, if_pos (by rw [mapTo_len (by omega)]; exact hj), mapTo, List.getElem?_append_left (by simp; omega)]
    simp [hj]
  · rw [if_neg hk]
    unfold mapTo
    by_cases hlt : k < j
    · rw [List.getElem?_append_left (by simp; omega), List.getElem?_append_left (by simp; omega)]
      simp [hlt, show k < j + 1 by omega]
    · rw [List.getElem?_append_right (by simp; omega), List.getElem?_append_right (by simp; omega)]
      simp [Nat.min_eq_left (Nat.le_of_lt hj), Nat.min_eq_left (Nat.succ_le_of_lt hj)]
      rw [show j + (k - j) = k by omega, show j + 1 + (k - (j + 1)) = k by omega]
theorem modSet {α : Type} {l : List α} {i : Nat} {g : α → α} {r : α} : (l.set i r).modify i g = l.set i (g r) := by
  apply List.ext_getElem?
  intro k
  rw [List.getElem?_modify, List.getElem?_set, List.getElem?_set]
  by_cases hik : i = k
  · subst hik
    by_cases hlt : i < l.length
    · simp [hlt]
    · simp [hlt]
  · simp [hik]
def nodeM (ns : List Nd) (wh : List Int) (i : Nat) (c : Nd) : List Nd × List Int :=
  if c.k = 9 then (primM (ns.set i c) i c, wh) else if c.k = 11 then ((ns.set i c).set i (seqN (ns.set i c) c), seqW (ns.set i c) wh i c) else if c.k = 6 then (ns.set i c, choiceM (ns.set i c) wh i c) else (ns.set i c, wh)
def mapA (wh : List Int) (c : Nd) : Nd := { c with args := c.args.map (whAt wh) }
theorem c_impl_node (ns : List Nd) (wh : List Int) (i : Nat) (hi : i < ns.length) (hw : i < wh.length) (hb : ∀ a, a ∈ ns[i].args → 0 ≤ a ∧ a < wh.length) (hwb : ∀ a, a ∈ wh → 0 ≤ a ∧ a < ns.length) (hl : ns[i].args.length ≤ 1000000000) (h9 : ns[i].k = 9 → isNum ns[i].s = true ∨ ns[i].s = sEq → 1 < ns[i].args.length) (h6 : ns[i].k = 6 → ns[i].args.length = 3) (h11 : ns[i].k = 11 → 2 ≤ ns[i].args.length) : Con PP 76 [.ptr 0 2 [] 0 0, .sc (.int .i64 i)] [(0, folR ns wh)] [0] (fun r o => r = .tup [] ∧ o = [(0, folR (nodeM ns wh i (mapA wh ns[i])).1 (nodeM ns wh i (mapA wh ns[i])).2)]) := by
  have hi' : (i : Int) < (ns.length : Int) := by omega
  have h0set : ns.set i (mapN wh ns[i] 0) = ns := by
    have : mapN wh ns[i] 0 = ns[i] := by simp [mapN, mapTo_zero]
    rw [this, List.set_getElem_self]
  refine Con.of tok (nt := 61) Go.Proofs.Tryz.func76 (by kernel_rfl) rfl rfl rfl (Nat.le_of_ble_eq_true rfl) fun G => ?_
  simp only [entSt, tmOf, List.append_nil, List.cons_append, List.nil_append, folR]
  repeat' (first
    | apply WPc.sq
    | apply WPc.block
    | (refine WPc.rq tok rfl fun K hK => ?_; simp -implicitDefEqProofs +contextual [-Int.not_le, -Int.not_lt, -Nat.not_le, -Nat.not_lt, -List.all_eq_true, -List.all_eq_false, -List.any_eq_true, -List.any_eq_false, hi, hi', Nd.ow]; (repeat1' (first | apply hK | apply And.intro | intro _)) <;> clear hK K <;> (try dsimp only [List.drop])))
  refine WPc.loopV (σ := Nat) (fun j => j ≤ ns[i].args.length) (fun j => ns[i].args.length - j) (fun j => [(15, .sc (.int .i64 j))]) (fun j => [(0, 105, 2, [[.sl 97 5 ((ns.set i (mapN wh ns[i] j)).map Nd.ow), .sl 3 1 (wh.map nC)]])]) [0, 1, 13, 14, 61] 0 (by simp [h0set]) (by simp [h0set]) (Nat.zero_le _) ?_
  rintro j hj s hs
  simp at hs
  subst hs
  by_cases hjl : j < ns[i].args.length
  · obtain ⟨a0, a1⟩ := hb _ (List.getElem_mem hjl)
    have a2 : ns[i].args[j].toNat < wh.length := by omega
    have hlm := mapTo_len (wh := wh) hj
    have hjm : j < (mapTo wh ns[i].args j).length := by omega
    have hgm : (mapTo wh ns[i].args j)[j] = ns[i].args[j] := by
      have := mapTo_get (wh := wh) hjl
      rw [List.getElem?_eq_getElem hjm] at this
      exact Option.some.inj this
    repeat' (first
      | apply WPc.sq
      | apply WPc.block
      | apply WPc.skip
      | ((first | refine WPc.rq tok rfl fun K hK => ?_ | refine WPS.rn tok _ (by simp [aheadS]; rfl) fun K hK => ?_); simp -implicitDefEqProofs +contextual [-Int.not_le, -Int.not_lt, -Nat.not_le, -Nat.not_lt, -List.all_eq_true, -List.all_eq_false, -List.any_eq_true, -List.any_eq_false, hi, hi', Nd.ow, nC, mapN, hjl, hjm, hgm, hlm, a0, a1, a2]; (repeat1' (first | apply hK | apply And.intro | intro _)) <;> clear hK K <;> (try dsimp only [List.drop]))
      | (refine WPc.sched (id := 3) tok [(17, [0])] [(0, []), (1, []), (2, []), (3, []), (4, []), (5, []), (6, []), (7, []), (8, []), (9, []), (10, []), (11, []), (12, []), (13, []), (14, []), (15, []), (16, []), (17, [0])] (by kernel_rfl) ?_)
      | (refine WPS.nil ?_)
      | (refine WPS.eff tok fun K hK => ?_; simp -implicitDefEqProofs +contextual [-Int.not_le, -Int.not_lt, -Nat.not_le, -Nat.not_lt, -List.all_eq_true, -List.all_eq_false, -List.any_eq_true, -List.any_eq_false, hi, hi', Nd.ow, nC, mapN, hjl, hjm, hgm, hlm, a0, a1, a2]; (repeat1' (first | apply hK | apply And.intro | intro _)) <;> clear hK K)
      | (refine WPc.condT ?_ ?_; (focus (simp; done))))
    refine ⟨j + 1, ⟨hjl, by omega⟩, rfl, rfl, ?_, ?_⟩
    · simp [wrap64 (show -9223372036854775808 ≤ (j : Int) + 1 by omega) (show (j : Int) + 1 ≤ 9223372036854775807 by omega)]
    · simp
      rw [modSet]
      have : mapN wh ns[i] (j + 1) = { ns[i] with args := (mapTo wh ns[i].args j).set j wh[ns[i].args[j].toNat] } := by
        rw [mapN, ← mapTo_next hjl, whAt, List.getD_eq_getElem?_getD, List.getElem?_eq_getElem a2]; rfl
      rw [this]
      simp [Nd.ow, modify_nCs]
  · obtain rfl : j = ns[i].args.length := by omega
    have hcm : mapN wh ns[i] ns[i].args.length = mapA wh ns[i] := by simp [mapN, mapTo, mapA]
    rw [hcm]
    obtain ⟨c, hc⟩ : ∃ c, c = mapA wh ns[i] := ⟨_, rfl⟩
    have ck : c.k = ns[i].k := by rw [hc]; rfl
    have cs : c.s = ns[i].s := by rw [hc]; rfl
    have cl : c.args.length = ns[i].args.length := by rw [hc]; simp [mapA]
    have cb : ∀ a, a ∈ c.args → 0 ≤ a ∧ a < ns.length := by
      intro a ha
      rw [hc] at ha
      obtain ⟨b, hb1, rfl⟩ := List.mem_map.1 ha
      obtain ⟨b0, b1⟩ := hb b hb1
      have b2 : b.toNat < wh.length := by omega
      have : whAt wh b = wh[b.toNat] := by rw [whAt, List.getD_eq_getElem?_getD, List.getElem?_eq_getElem b2]; rfl
      rw [this]
      exact hwb _ (List.getElem_mem b2)
    rw [← hc]
    obtain ⟨ns', hns⟩ : ∃ ns', ns' = ns.set i c := ⟨_, rfl⟩
    have hin : i < ns'.length := by rw [hns]; simpa using hi
    have hini : (i : Int) < (ns'.length : Int) := by omega
    have hgi : ns'[i] = c := by subst hns; simp
    have hbn : inBd ns' ns'[i].args := by rw [hgi]; intro a ha; have := cb a ha; rw [hns]; simpa using this
    have hkc : ns'[i].k = c.k := by rw [hgi]
    have hst : (List.map Nd.ow ns).set i c.ow = List.map Nd.ow ns' := by rw [hns]; simp
    unfold nodeM
    rw [hst, ← hns]
    by_cases k9 : c.k = 9
    · have u1 := c_impl_fprim ns' wh i hin hbn (by rw [hgi, cs, cl]; exact h9 (by rw [← ck]; exact k9)) (by rw [hgi, cl]; exact hl)
      rw [hgi] at u1
      simp only [folR] at u1
      rw [if_pos k9]
      repeat' (first
        | apply WPc.sq
        | apply WPc.block
        | apply WPc.exit
        | refine WPL.nil ?_
        | (apply WPL.cU u1; (case q => (repeat' (first | refine And.intro ?_ ?_ | intro _ | exact cleanOut_nil | (refine Eqv.mk ?_; first | rfl | (simp -implicitDefEqProofs [hin, hini, Nd.ow, hkc, k9]; done)) | (simp -implicitDefEqProofs [hin, hini, Nd.ow, hkc, k9]; done) | (simp -implicitDefEqProofs [hin, hini, Nd.ow, hkc, k9]; rfl) | (simp; done) | (simp; rfl) | rfl))))
        | ((first | refine WPc.rq tok rfl fun K hK => ?_ | refine WPL.rn tok _ (by simp [ahead, isFn]; rfl) fun K hK => ?_); simp -implicitDefEqProofs +contextual [-Int.not_le, -Int.not_lt, -Nat.not_le, -Nat.not_lt, -List.all_eq_true, -List.all_eq_false, -List.any_eq_true, -List.any_eq_false, hin, hini, Nd.ow, hkc, k9]; (repeat1' (first | apply hK | apply And.intro | intro _)) <;> clear hK K <;> (try dsimp only [List.drop]))
        | (refine WPc.region ?_; simp only [List.toList_toArray])
        | (refine WPc.condT ?_ ?_; (focus (simp; done)))
        | (refine WPc.condF ?_ ?_; (focus (simp; done)))
        | (apply endP.sel (is := [0]) (he := .inl rfl); (case hs => rfl); (case hg => rfl); (case h => (simp; rfl)); (case hO => (simp; rfl)); (case hk => (simp; done))))
      all_goals exact ⟨rfl, rfl⟩
    · rw [if_neg k9]
      by_cases k11 : c.k = 11
      · have u1 := c_impl_seq ns' wh i hin hw hbn (by rw [hgi, cl]; exact h11 (by rw [← ck]; exact k11)) (by rw [hgi, cl]; exact hl)
        rw [hgi] at u1
        simp only [folR] at u1
        rw [if_pos k11]
        repeat' (first
          | apply WPc.sq
          | apply WPc.block
          | apply WPc.exit
          | refine WPL.nil ?_
          | (apply WPL.cU u1; (case q => (repeat' (first | refine And.intro ?_ ?_ | intro _ | exact cleanOut_nil | (refine Eqv.mk ?_; first | rfl | (simp -implicitDefEqProofs [hin, hini, Nd.ow, hkc, k9, k11]; done)) | (simp -implicitDefEqProofs [hin, hini, Nd.ow, hkc, k9, k11]; done) | (simp -implicitDefEqProofs [hin, hini, Nd.ow, hkc, k9, k11]; rfl) | (simp; done) | (simp; rfl) | rfl))))
          | ((first | refine WPc.rq tok rfl fun K hK => ?_ | refine WPL.rn tok _ (by simp [ahead, isFn]; rfl) fun K hK => ?_); simp -implicitDefEqProofs +contextual [-Int.not_le, -Int.not_lt, -Nat.not_le, -Nat.not_lt, -List.all_eq_true, -List.all_eq_false, -List.any_eq_true, -List.any_eq_false, hin, hini, Nd.ow, hkc, k9, k11]; (repeat1' (first | apply hK | apply And.intro | intro _)) <;> clear hK K <;> (try dsimp only [List.drop]))
          | (refine WPc.region ?_; simp only [List.toList_toArray])
          | (refine WPc.condT ?_ ?_; (focus (simp; done)))
          | (refine WPc.condF ?_ ?_; (focus (simp; done)))
          | (apply endP.sel (is := [0]) (he := .inl rfl); (case hs => rfl); (case hg => rfl); (case h => (simp; rfl)); (case hO => (simp; rfl)); (case hk => (simp; done))))
        all_goals exact ⟨rfl, by simp [Nd.ow]⟩
      · rw [if_neg k11]
        by_cases k6 : c.k = 6
        · have u1 := c_impl_choice ns' wh i hin hw hbn (by rw [hgi, cl]; exact h6 (by rw [← ck]; exact k6))
          rw [hgi] at u1
          simp only [folR] at u1
          rw [if_pos k6]
          repeat' (first
            | apply WPc.sq
            | apply WPc.block
            | apply WPc.exit
            | refine WPL.nil ?_
            | (apply WPL.cU u1; (case q => (repeat' (first | refine And.intro ?_ ?_ | intro _ | exact cleanOut_nil | (refine Eqv.mk ?_; first | rfl | (simp -implicitDefEqProofs [hin, hini, Nd.ow, hkc, k9, k11, k6]; done)) | (simp -implicitDefEqProofs [hin, hini, Nd.ow, hkc, k9, k11, k6]; done) | (simp -implicitDefEqProofs [hin, hini, Nd.ow, hkc, k9, k11, k6]; rfl) | (simp; done) | (simp; rfl) | rfl))))
            | ((first | refine WPc.rq tok rfl fun K hK => ?_ | refine WPL.rn tok _ (by simp [ahead, isFn]; rfl) fun K hK => ?_); simp -implicitDefEqProofs +contextual [-Int.not_le, -Int.not_lt, -Nat.not_le, -Nat.not_lt, -List.all_eq_true, -List.all_eq_false, -List.any_eq_true, -List.any_eq_false, hin, hini, Nd.ow, hkc, k9, k11, k6]; (repeat1' (first | apply hK | apply And.intro | intro _)) <;> clear hK K <;> (try dsimp only [List.drop]))
            | (refine WPc.region ?_; simp only [List.toList_toArray])
            | (refine WPc.condT ?_ ?_; (focus (simp; done)))
            | (refine WPc.condF ?_ ?_; (focus (simp; done)))
            | (apply endP.sel (is := [0]) (he := .inl rfl); (case hs => rfl); (case hg => rfl); (case h => (simp; rfl)); (case hO => (simp; rfl)); (case hk => (simp; done))))
          all_goals exact ⟨rfl, rfl⟩
        · rw [if_neg k6]
          repeat' (first
            | apply WPc.sq
            | apply WPc.block
            | apply WPc.skip
            | apply WPc.exit
            | (refine WPc.rq tok rfl fun K hK => ?_; simp -implicitDefEqProofs +contextual [-Int.not_le, -Int.not_lt, -Nat.not_le, -Nat.not_lt, -List.all_eq_true, -List.all_eq_false, -List.any_eq_true, -List.any_eq_false, hin, hini, Nd.ow, hkc, k9, k11, k6]; (repeat1' (first | apply hK | apply And.intro | intro _)) <;> clear hK K <;> (try dsimp only [List.drop]))
            | (refine WPc.condF ?_ ?_; (focus (simp; done)))
            | (apply endP.sel (is := [0]) (he := .inl rfl); (case hs => rfl); (case hg => rfl); (case h => (simp; rfl)); (case hO => (simp; rfl)); (case hk => (simp; done))))
          all_goals exact ⟨rfl, rfl⟩
end Go.Own
namespace Go.Own
variable {P : Program} {tt : Nat → Option TI} {st st' : St} {w0 : World} {β0 : Blk} {β : Blk} {a : Act} {w : World} [Laid]
theorem detG_some {id nid g i j : Nat} {path : Pth} {u v : Value} {s : St} (h : detG st id nid g path i j u = some s) : ∃ s', detG st id nid g path i j v = some s' ∧ ∃ k1 len, lk s'.tm g = .sl nid k1 [] 0 len ∧ s'.G g = v ∧ st.nt ≤ g := by
  unfold detG at h
  split at h
  · rename_i e k es h1
    split at h
    · rename_i ep kp row h2
      split at h
      · rename_i e1 k1 xs h3
        split at h
        · rename_i hq
          exact ⟨{ st with G := updG st.G g v, tm := (g, .sl nid k1 [] 0 xs.length) :: renT id nid (path ++ [(i, j)]) st.tm, ob := putO (putO st.ob nid (e1, k1, xs)) id (e, k, updP es path (setCell i j (.sc v))) }, by unfold detG; rw [h1]; simp only [h2, h3]; rw [if_pos hq], k1, xs.length, by simp [lk], by simp [updG], hq.2.2.2⟩
        · simp at h
      · simp at h
    · simp at h
  · simp at h
@[simp] theorem updG_same (G : Nat → Value) (g : Nat) (u : Value) : updG G g u g = u := by simp [updG]
theorem WPc.detgc {c : Go.Code} {Φ : Exit → St → Prop} (id nid g : Nat) (path : Pth) (i j : Nat)
    (h : ∀ u : OneV, ∀ K : St → Prop, (∀ s, WPc P c s Φ → K s) → ∃ s, Own.detG st id nid g path i j u.v = some s ∧ K s) : WPc P c st Φ := by
  intro w0 β0 β a w hr
  obtain ⟨s0, hs0, _⟩ := h ⟨.bool true, rfl⟩ (fun s => WPc P c s Φ) fun _ h => h
  have hs : ∀ u, ∃ s, Own.detG st id nid g path i j u = some s := fun u => by
    obtain ⟨s', h1, _⟩ := detG_some (v := u) hs0
    exact ⟨s', h1⟩
  have hs2 : ∃ f : Value → St, ∀ u, Own.detG st id nid g path i j u = some (f u) := ⟨fun u => (hs u).choose, fun u => (hs u).choose_spec⟩
  obtain ⟨f, hf⟩ := hs2
  obtain ⟨u, β', h1, h2, h3, h4⟩ := hr.rel.detG hf
  have hone : u.oneCell' = true := by
    obtain ⟨s', e1, k1, len, e2, e3, e4⟩ := detG_some (v := u) hs0
    rw [hf u] at e1
    injection e1 with e1
    subst e1
    have hg := h1.tm g
    rw [e2] at hg
    have : a.tmps.getD g ((f u).G g) = u := by
      have hnt := hr.rel.nt
      rw [Array.getD_eq_getD_getElem?, Array.getElem?_eq_none (by omega), e3]
      rfl
    rw [this] at hg
    exact (slV_of_vr hg).2.one
  obtain ⟨s, h5, h6⟩ := h ⟨u, hone⟩ (fun s => WPc P c s Φ) fun _ h => h
  rw [hf u] at h5
  injection h5 with h5
  rw [h5] at h1
  exact h6 w0 β0 β' a w (hr.next h1 h2 (below2 h3 h4))
theorem WPc.attRet {Φ : Exit → St → Prop} (id nid g : Nat) (path : Pth) (i j : Nat) {G0 : Nat → Value} {u : Value} (hG : st.G = updG G0 g u)
    (h : ∀ K : St → Prop, (∀ s, WPc P .ret s Φ → K s) → ∃ s, Own.attS st id nid g path i j G0 = some (u, s) ∧ K s) : WPc P .ret st Φ := by
  intro w0 β0 β a w hr
  obtain ⟨s, h1, h2⟩ := h (fun s => WPc P .ret s Φ) fun _ h => h
  obtain ⟨β', g1, g2, g3, g4⟩ := hr.rel.attS hG h1
  exact h2 w0 β0 β' a w (hr.next g1 g2 (below2 g3 g4))
theorem Gst.ut {t g : Nat} {r : Value × St} (h1 : Own.unT st t g = some r) (h2 : st.G g = r.1) : Gst st r.2 := fun w0 β0 β a w hr => by
  obtain ⟨v, s⟩ := r
  exact ⟨β, hr.sameB (Rel.unT hr.rel h1 h2), fun _ _ h => h⟩
theorem WPS.utAt {ops : Array Oper} {l : List (Nat × List Nat)} {Ψ : St → Prop} (d t g : Nat) (hd : dstS ops l = some d)
    (h : ∀ K : St → Prop, (∀ s, WPS P ops l s Ψ → K s) → ∃ r : Value × St, Own.unT st t g = some r ∧ st.G g = r.1 ∧ K r.2) : WPS P ops l st Ψ := by
  obtain ⟨r, h1, h2, h3⟩ := h (fun s => WPS P ops l s Ψ) fun _ h => h
  exact WPS.gst (Gst.ut h1 h2) h3
theorem Stp.nilEqS (tok : TOk P tt) {o : Oper} {t t2 e e1 k1 id k len : Nat} {x : Operand} {xs : List (List C)} (ho : o.op = .binOp .eql t x (.const (.slice none 0 0)) t2) (hk : kd tt t = some (.slice e)) (hx : ev st x = .sl id k [] 0 len) (hl : lo st.ob id = some (e1, k1, xs)) (hne : xs ≠ []) (hd : dstOk st o = true) :
    Stp P o st [] (fun s => s = putSt st o.dst (.sc (.bool false))) := by
  intro w0 β0 β a w hr Q
  obtain ⟨d, g1, rfl⟩ := tok.kd hk
  have hv := hr.rel.ev x
  rw [hx] at hv
  obtain ⟨h0, hrow⟩ := hr.rel.ob id e1 k1 xs hl [] e1 k1 xs rfl
  have : ∃ p n c, a.eval x = .slice (some p) n c := by
    rcases hrow with ⟨hnil, _⟩ | ⟨b, cap, cur, hb, hrest⟩
    · exact absurd hnil hne
    · generalize a.eval x = u at hv
      cases hv with
      | sl _ _ _ _ _ b cap t cur h0 hb hh hs ho => exact ⟨_, _, _, rfl⟩
      | slN _ _ _ h0 hb2 => exact absurd hb (hb2 b)
  obtain ⟨p, n, c, h1⟩ := this
  have hrun : (execOp a.eval o).run P w = .ok (.value (.bool false)) w := by
    have e1 : (Op.equal t (.slice (some p) n c) (.slice none 0 0)).run P w = .ok (some p).isNone w := run_eqNil g1 9999 (some p) n c
    have hy : a.eval (.const (.slice none 0 0)) = .slice none 0 0 := rfl
    simp [execOp, ho, h1, hy, eqGuard, binOp, e1]
  unfold Oper.wp
  rw [hrun]
  exact ⟨_, β, rfl, hr.put (dst_lt hd) (.sc _), .refl, Nat.le_refl _⟩
def stHdS (d : Nat) (ops : Array Oper) : List (Nat × List Nat) → Bool
  | [] => false
  | (k, _) :: _ => match ops[k]? with
    | some o => stOp d o.op
    | none => false
theorem WPS.detSt {ops : Array Oper} {l : List (Nat × List Nat)} {Ψ : St → Prop} (d id nid : Nat) (path : Pth) (i j : Nat) (hd : stHdS d ops l = true) (hn : (nid - 500000) % 100000 = id ∧ 500000 ≤ nid ∧ nid < 900000)
    (h : ∀ K : St → Prop, (∀ s, WPS P ops l s Ψ → K s) → ∃ s, Own.detS st id nid path i j = some s ∧ K s) : WPS P ops l st Ψ := by
  obtain ⟨s, h1, h2⟩ := h (fun s => WPS P ops l s Ψ) fun _ h => h
  intro te listed e1 e2 w0 β0 β a w hr
  obtain ⟨p, g1, g3, g4⟩ := hr.rel.detS2 h1
  refine wpAnyF_anti _ _ a w ?_ (h2 te listed e1 e2 w0 β0 _ a w (hr.next g1 parted_fr (below2 g3 g4)))
  rintro e b ⟨q1, q2⟩
  refine ⟨q1, fun id' p hb hm => ?_⟩
  simp only [parted] at hb
  split at hb
  · simp at hb
  · rename_i i0 p0 hp
    split at hb
    · simp at hb
    · split at hb
      · rename_i hc
        injection hb with hb
        injection hb with hb hb2
        subst hb
        have := tied_at (schedF_tied e2) (n := nid) (by omega) (by omega) e hm
        rw [hn.1] at this
        exact q2 _ _ hp (hc.1 ▸ this)
      · injection hb with hb
        injection hb with hb hb2
        exact q2 _ _ hp (hb ▸ hm)
attribute [simp] detG attS stHdS
theorem WPc.renC {c : Go.Code} {Φ : Exit → St → Prop} (id nid : Nat)
    (h : ∀ K : St → Prop, (∀ s, WPc P c s Φ → K s) → ∃ s, Own.renS st id nid = some s ∧ K s) : WPc P c st Φ := by
  obtain ⟨s, h1, h2⟩ := h (fun s => WPc P c s Φ) fun _ h => h
  intro w0 β0 β a w hr
  obtain ⟨β', g1, g2, g3, g4⟩ := hr.rel.renS h1
  exact h2 w0 β0 β' a w (hr.next g1 g2 (below2 g3 g4))
theorem WPc.renRg {Φ : Exit → St → Prop} {r : Nat} {ops : Array Oper} {b : Bool} (id nid : Nat)
    (h : ∀ K : St → Prop, (∀ s, WPc P (.region r ops b) s Φ → K s) → ∃ s, Own.renS st id nid = some s ∧ K s) : WPc P (.region r ops b) st Φ := WPc.renC id nid h
theorem WPL.scAt {ops : Array Oper} {l : List Oper} {Ψ : St → Prop} (d t : Nat) {id k off len : Nat} {path : Pth} (hd : dstOf l = some d) (hv : lk st.tm t = .sl id k path off len)
    (h : ∀ q c, ∀ K : St → Prop, (∀ s, WPL P ops l s Ψ → K s) → K { st with tm := (t, .sc (.slice q len c)) :: st.tm }) : WPL P ops l st Ψ := by
  intro w0 β0 β a w hr
  have hvr := hr.rel.tm t
  rw [hv] at hvr
  have : ∃ q c, a.tmps.getD t (st.G t) = .slice q len c := by
    generalize a.tmps.getD t (st.G t) = u at hvr
    cases hvr with
    | sl _ _ _ _ _ b cap t cur h0 hb hh hs ho => exact ⟨_, _, rfl⟩
    | slN _ _ _ h0 hb2 => exact ⟨_, _, rfl⟩
  obtain ⟨q, c, hu⟩ := this
  refine h q c (fun s => WPL P ops l s Ψ) (fun _ h => h) w0 β0 β a w (hr.sameB ?_)
  have hq := hr.rel
  refine ⟨hq.nt, hq.df, fun n => ?_, hq.ob, hq.uq, hq.lt, hq.fr, hq.old, hq.hs, hq.os, hq.tape, hq.output⟩
  simp only [lk]
  split
  · rename_i e
    subst e
    rw [hu]
    exact .sc _
  · exact hq.tm n
def lenScS (tt : Nat → Option TI) (st : St) (d x t : Nat) : Option St := match kd tt t, ev st (.tmp x) with
  | some (.slice _), .sc (.slice _ n _) => if d < st.nt then some (putSt st (some d) (.sc (.int .i64 n))) else none
  | _, _ => none
theorem WPL.lenSc (tok : TOk P tt) {ops : Array Oper} {l : List Oper} {Ψ : St → Prop} {d x t tid : Nat} {pos : String} {af : Array Edge}
    (h : ∀ K : St → Prop, (∀ s, WPL P ops l s Ψ → K s) → ∃ s, lenScS tt st d x t = some s ∧ K s) :
    WPL P ops ({ dst := some d, op := .call { callee := .builtin .len, args := #[.tmp x], argTypes := #[t] }, type := tid, pos := pos, after := af, guard := none } :: l) st Ψ := by
  obtain ⟨s, h1, h2⟩ := h (fun s => WPL P ops l s Ψ) fun _ h => h
  unfold lenScS at h1
  split at h1
  · rename_i e q n c hk hx
    split at h1
    · rename_i hd
      injection h1 with h1
      subst h1
      refine WPL.stp (Ψ' := fun s => s = putSt st (some d) (.sc (.int .i64 n))) (T := []) rfl (fun w0 β0 β a w hr Q => ?_) fun s hs => by rw [hs]; exact h2
      obtain ⟨d', g1, rfl⟩ := tok.kd hk
      have hv := hr.rel.ev (.tmp x)
      rw [hx] at hv
      have h1 : a.eval (.tmp x) = .slice q n c := hv.sc_inv
      unfold Oper.wp
      have hrun : (execOp a.eval { dst := some d, op := .call { callee := .builtin .len, args := #[.tmp x], argTypes := #[t] }, type := tid, pos := pos, after := af, guard := none }).run P w = .ok (.value (.int .i64 n)) w := by
        simp [execOp, resolve, invoke, builtin, h1, Builtin.len_, run_underlying g1, goInt]
      rw [hrun]
      exact ⟨_, β, rfl, hr.put (fun e he => by injection he with he; omega) (.sc _), .refl, Nat.le_refl _⟩
    · simp at h1
  · simp at h1
attribute [simp] lenScS
end Go.Own
set_option maxRecDepth 1000000
set_option maxHeartbeats 4000000
namespace Go.Own
attribute [local irreducible] WPc WPL WPS WPS1 WPS2 HAny endP valOf
variable [Laid]
open Go.Lib Go.RowKit
theorem c_slices_Clone_Node (h : List Nd) (hb : h.length * 80 ≤ 140737488355328) : Con PP 74 [.fz (h.map Nd.cs)] [] [] (fun r o => r = .sl 5 5 [] 0 h.length ∧ o = [(5, 97, 5, h.map Nd.cs)]) := by
  refine Con.of tok (nt := 8) Go.Proofs.Tryz.func74 (by kernel_rfl) rfl rfl rfl (Nat.le_of_ble_eq_true rfl) fun G => ?_
  simp only [entSt, tmOf, List.append_nil, List.cons_append, List.nil_append]
  refine WPc.len 0 (by simp; rfl) fun hlen => ?_
  simp at hlen
  apply WPc.sq
  refine WPc.rk tok fun K hK => ?_; simp -implicitDefEqProofs; refine hK _ ?_; clear hK
  apply WPc.sq
  apply WPc.sq
  refine WPc.region ?_; simp only [List.toList_toArray]
  refine WPL.rk tok 1 fun K hK => ?_; simp -implicitDefEqProofs; refine hK _ ?_; clear hK
  refine WPL.stp rfl (Stp.nilEq (e := 97) tok rfl rfl (by simp; rfl) (by simp)) ?_
  rintro _ ⟨b, hnil, rfl⟩
  refine WPL.nil ?_
  refine WPc.cond (b := b) (by simp) (fun h1 => ?_) (fun h1 => ?_)
  · have hh : h = [] := by
      cases h with
      | nil => rfl
      | cons c cs => have := hnil (by simp); rw [this] at h1; cases h1
    subst hh
    apply WPc.sq
    refine WPc.rk tok fun K hK => ?_; simp -implicitDefEqProofs; refine hK _ ?_; clear hK
    refine WPc.adopt 2 5 97 5 (by simp [putSt]) (by simp [putSt]) (by decide) (by simp) ?_
    refine WPc.ret (by unfold endP; exact ⟨.inr rfl, rfl, rfl, _, _, [(5, 97, 5, [])], by simp [adoptSt, putSt, putT]; rfl, by simp, ⟨⟨[], by simp [adoptSt, putSt, putT], .inl rfl⟩, trivial⟩, ⟨rfl, rfl⟩, by simp⟩)
  · apply WPc.skip
    refine WPc.sq (WPc.rk tok fun K hK => ?_)
    have hb2 : (h.length : Int) ≤ 9223372036854775807 := by omega
    simp -implicitDefEqProofs [Nd.len, hb, hlen, hb2]
    refine hK _ ?_; clear hK
    refine WPc.ret (by unfold endP; exact ⟨.inr rfl, rfl, rfl, .sl 5 5 [] 0 h.length, .sl 5 5 [] 0 h.length, [(5, 97, 5, h.map Nd.cs)], by simp, by simp, ⟨⟨h.map Nd.cs, by simp, .inl rfl⟩, trivial⟩, ⟨rfl, rfl⟩, by simp⟩)
theorem c_slices_Clone_int (h : List Int) (hb : h.length * 8 ≤ 140737488355328) : Con PP 112 [.fz (h.map nC)] [] [] (fun r o => r = .sl 5 1 [] 0 h.length ∧ o = [(5, 3, 1, h.map nC)]) := by
  refine Con.of tok (nt := 8) Go.Proofs.Tryz.func112 (by kernel_rfl) rfl rfl rfl (Nat.le_of_ble_eq_true rfl) fun G => ?_
  simp only [entSt, tmOf, List.append_nil, List.cons_append, List.nil_append]
  refine WPc.len 0 (by simp; rfl) fun hlen => ?_
  simp at hlen
  apply WPc.sq
  refine WPc.rk tok fun K hK => ?_; simp -implicitDefEqProofs; refine hK _ ?_; clear hK
  apply WPc.sq
  apply WPc.sq
  refine WPc.region ?_; simp only [List.toList_toArray]
  refine WPL.rk tok 1 fun K hK => ?_; simp -implicitDefEqProofs; refine hK _ ?_; clear hK
  refine WPL.stp rfl (Stp.nilEq (e := 3) tok rfl rfl (by simp; rfl) (by simp)) ?_
  rintro _ ⟨b, hnil, rfl⟩
  refine WPL.nil ?_
  refine WPc.cond (b := b) (by simp) (fun h1 => ?_) (fun h1 => ?_)
  · have hh : h = [] := by
      cases h with
      | nil => rfl
      | cons c cs => have := hnil (by simp); rw [this] at h1; cases h1
    subst hh
    apply WPc.sq
    refine WPc.rk tok fun K hK => ?_; simp -implicitDefEqProofs; refine hK _ ?_; clear hK
    refine WPc.adopt 2 5 3 1 (by simp [putSt]) (by simp [putSt]) (by decide) (by simp) ?_
    refine WPc.ret (by unfold endP; exact ⟨.inr rfl, rfl, rfl, _, _, [(5, 3, 1, [])], by simp [adoptSt, putSt, putT]; rfl, by simp, ⟨⟨[], by simp [adoptSt, putSt, putT], .inl rfl⟩, trivial⟩, ⟨rfl, rfl⟩, by simp⟩)
  · apply WPc.skip
    refine WPc.sq (WPc.rk tok fun K hK => ?_)
    have hb2 : (h.length : Int) ≤ 9223372036854775807 := by omega
    simp -implicitDefEqProofs [nC.len, hb, hlen, hb2]
    refine hK _ ?_; clear hK
    refine WPc.ret (by unfold endP; exact ⟨.inr rfl, rfl, rfl, .sl 5 1 [] 0 h.length, .sl 5 1 [] 0 h.length, [(5, 3, 1, h.map nC)], by simp, by simp, ⟨⟨h.map nC, by simp, .inl rfl⟩, trivial⟩, ⟨rfl, rfl⟩, by simp⟩)
theorem c_slices_Clone_NodeM (h : List Nd) (h0 : 0 < h.length) (hb : h.length * 80 ≤ 140737488355328) : Con PP 74 [.sl 0 5 [] 0 h.length] [(0, nodesR h)] [] (fun r o => r = .sl 5 5 [] 0 h.length ∧ o = [(5, nodesR h)]) := by
  have hne : ¬ h = [] := fun e => by rw [e] at h0; simp at h0
  have hm : plainAll (h.map Nd.ow) = false := by
    cases h with
    | nil => simp at h0
    | cons c cs => rfl
  refine Con.of tok (nt := 8) Go.Proofs.Tryz.func74 (by kernel_rfl) rfl rfl rfl (Nat.le_of_ble_eq_true rfl) fun G => ?_
  simp only [entSt, tmOf, List.append_nil, List.cons_append, List.nil_append, nodesR]
  apply WPc.sq
  refine WPc.rk tok fun K hK => ?_; simp -implicitDefEqProofs; refine hK _ ?_; clear hK
  apply WPc.sq
  apply WPc.sq
  refine WPc.region ?_; simp only [List.toList_toArray]
  refine WPL.rk tok 1 fun K hK => ?_; simp -implicitDefEqProofs; refine hK _ ?_; clear hK
  refine WPL.stp rfl (Stp.nilEqS (e := 97) tok rfl rfl (by simp; exact ⟨rfl, rfl, rfl⟩) (by simp; exact ⟨rfl, rfl, rfl⟩) (by simpa using hne) (by simp)) ?_
  rintro _ rfl
  refine WPL.nil ?_
  simp -implicitDefEqProofs
  have hb2 : h.length ≤ 9223372036854775807 := by omega
  repeat' (first
    | apply WPc.sq
    | (apply WPc.ret; apply endP.sel (is := [5]) (he := .inr rfl); (case hs => rfl); (case hg => rfl); (case h => (simp; rfl)); (case hO => (simp; rfl)); (case hk => (simp; done)))
    | apply WPc.skip
    | (refine WPc.rq tok rfl fun K hK => ?_; simp -implicitDefEqProofs +contextual [-Int.not_le, -Int.not_lt, -Nat.not_le, -Nat.not_lt, -List.all_eq_true, -List.all_eq_false, -List.any_eq_true, -List.any_eq_false, hne, h0, hm, hb, hb2, nodesR]; (repeat1' (first | apply hK | apply And.intro | intro _)) <;> clear hK K <;> (try dsimp only [List.drop]))
    | (refine WPc.condF ?_ ?_; (focus (simp; done))))
  all_goals exact ⟨rfl, rfl⟩
def mixN (h : List Nd) (i : Nat) : List (List C) := (h.take i).map Nd.ow ++ (h.drop i).map Nd.cs
theorem mixN_len (h : List Nd) (i : Nat) : (mixN h i).length = h.length := by simp [mixN]; omega
theorem mixN_get {h : List Nd} {i : Nat} (hi : i < h.length) : (mixN h i)[i]? = some h[i].cs := by
  unfold mixN
  rw [List.getElem?_append_right (by simp; omega)]
  simp [Nat.min_eq_left (Nat.le_of_lt hi), hi]
theorem mixN_ge {h : List Nd} {i : Nat} (hi : i < h.length) (p : i < (mixN h i).length) : (mixN h i)[i] = h[i].cs := by
  have := mixN_get hi
  rw [List.getElem?_eq_getElem p] at this
  exact Option.some.inj this
theorem mixN_zero (h : List Nd) : mixN h 0 = h.map Nd.cs := by simp [mixN]
theorem mixN_all (h : List Nd) : mixN h h.length = h.map Nd.ow := by simp [mixN]
theorem mixN_next {h : List Nd} {i : Nat} (hi : i < h.length) :
    ((mixN h i).modify i fun r => r.set 3 (.sl 9 1 (h[i].names.map sC))).modify i (fun r => r.set 4 (.sl 3 1 (h[i].args.map nC))) = mixN h (i + 1) := by
  apply List.ext_getElem?
  intro j
  simp only [List.getElem?_modify]
  by_cases hj : i = j
  · subst hj
    rw [mixN_get hi]
    have : (mixN h (i + 1))[i]? = some h[i].ow := by
      unfold mixN
      rw [List.getElem?_append_left (by simp; omega)]
      simp [hi]
    rw [this]
    simp [Nd.cs, Nd.ow]
  · simp only [hj, if_false]
    simp only [Option.map_eq_map, Option.map_id']
    unfold mixN
    by_cases hlt : j < i
    · rw [List.getElem?_append_left (by simp; omega), List.getElem?_append_left (by simp; omega)]
      simp [hlt, show j < i + 1 by omega]
    · rw [List.getElem?_append_right (by simp; omega), List.getElem?_append_right (by simp; omega)]
      simp [Nat.min_eq_left (Nat.le_of_lt hi), Nat.min_eq_left (show i + 1 ≤ h.length by omega)]
      congr 1
      congr 1
      omega
theorem c_impl_copyProg (p : Pg) (h1 : p.nodes.length ≤ 1000000000) (h2 : ∀ c, c ∈ p.nodes → c.rm) : Con PP 75 [p.av] [] [] (fun r o => r = .agg [.sl 2 5 [(0, 0)] 0 p.nodes.length, .sc (.int .i64 p.root)] ∧ o = [(2, progB p)]) := by
  refine Con.of tok (nt := 35) Go.Proofs.Tryz.func75 (by kernel_rfl) rfl rfl rfl (Nat.le_of_ble_eq_true rfl) fun G => ?_
  simp only [entSt, tmOf, List.append_nil, List.cons_append, List.nil_append, Pg.av]
  repeat' (first
    | apply WPc.sq
    | apply WPc.block
    | refine WPL.nil ?_
    | (apply WPL.cU (c_slices_Clone_Node _ ?g1); (case q => (repeat' (first | refine And.intro ?_ ?_ | intro _ | exact cleanOut_nil | (refine Eqv.mk ?_; first | rfl | (simp -implicitDefEqProofs; done)) | (simp -implicitDefEqProofs; done) | (simp -implicitDefEqProofs; rfl) | rfl))); (case g1 => omega))
    | ((first | refine WPc.rq tok rfl fun K hK => ?_ | refine WPL.rn tok _ (by simp [ahead, isFn]; rfl) fun K hK => ?_); simp -implicitDefEqProofs +contextual [-Int.not_le, -Int.not_lt, -Nat.not_le, -Nat.not_lt, -List.all_eq_true, -List.all_eq_false, -List.any_eq_true, -List.any_eq_false]; (repeat1' (first | apply hK | apply And.intro | intro _)) <;> clear hK K <;> (try dsimp only [List.drop]))
    | (refine WPc.region ?_; simp only [List.toList_toArray]))
  refine WPc.detgc 1 900001 42 [] 0 0 fun u0 K hK => ?_
  simp -implicitDefEqProofs
  refine hK _ ?_; clear hK K
  refine WPc.loopV (σ := Nat) (fun i => i ≤ p.nodes.length) (fun i => p.nodes.length - i) (fun i => [(12, .sc (.int .i64 i))]) (fun i => [(1, 54, 2, [[.sc u0.v, .sc (.int .i64 p.root)]]), (900001, 97, 5, mixN p.nodes i), (2, 54, 2, [[.sc (.slice none 0 0), .sc (.int .i64 0)]])]) [1, 2, 10, 11, 42] 0 (by simp [mixN_zero]) (by simp [mixN_zero]) (Nat.zero_le _) ?_
  rintro i hi s hs
  simp at hs
  subst hs
  by_cases hlt : i < p.nodes.length
  · have hr := h2 _ (List.getElem_mem hlt)
    have hr1 := hr.names
    have hr2 := hr.args
    have hg := mixN_ge hlt
    have hl := mixN_len p.nodes i
    have hn := mixN_next hlt
    repeat' (first
      | (refine WPS.utAt 29 18 42 ?_ ?_; (focus (simp; done)); refine fun K hK => ?_; simp -implicitDefEqProofs +contextual [-Int.not_le, -Int.not_lt, -Nat.not_le, -Nat.not_lt, -List.all_eq_true, -List.all_eq_false, -List.any_eq_true, -List.any_eq_false, hg, hl, Nd.cs, hlt]; (repeat1' (first | apply hK | apply And.intro | intro _)) <;> clear hK K)
      | (refine WPS.utAt 31 21 42 ?_ ?_; (focus (simp; done)); refine fun K hK => ?_; simp -implicitDefEqProofs +contextual [-Int.not_le, -Int.not_lt, -Nat.not_le, -Nat.not_lt, -List.all_eq_true, -List.all_eq_false, -List.any_eq_true, -List.any_eq_false, hg, hl, Nd.cs, hlt]; (repeat1' (first | apply hK | apply And.intro | intro _)) <;> clear hK K)
      | apply WPc.sq
      | apply WPc.block
      | apply WPc.skip
      | (apply WPS.cU (hc := (c_slices_Clone_string _ ?g1)); (case ho => exact rfl); (case q => (repeat' (first | refine And.intro ?_ ?_ | intro _ | exact cleanOut_nil | (refine Eqv.mk ?_; first | rfl | (simp -implicitDefEqProofs [hg, hl, Nd.cs, hlt]; done)) | (simp -implicitDefEqProofs [hg, hl, Nd.cs, hlt]; done) | (simp -implicitDefEqProofs [hg, hl, Nd.cs, hlt]; rfl) | (simp; done) | (simp; rfl) | rfl))); (case g1 => omega))
      | (apply WPS.cU (hc := (c_slices_Clone_int _ ?g1)); (case ho => exact rfl); (case q => (repeat' (first | refine And.intro ?_ ?_ | intro _ | exact cleanOut_nil | (refine Eqv.mk ?_; first | rfl | (simp -implicitDefEqProofs [hg, hl, Nd.cs, hlt]; done)) | (simp -implicitDefEqProofs [hg, hl, Nd.cs, hlt]; done) | (simp -implicitDefEqProofs [hg, hl, Nd.cs, hlt]; rfl) | (simp; done) | (simp; rfl) | rfl))); (case g1 => omega))
      | ((first | refine WPc.rq tok rfl fun K hK => ?_ | refine WPS.rn tok _ (by simp [aheadS]; rfl) fun K hK => ?_); simp -implicitDefEqProofs +contextual [-Int.not_le, -Int.not_lt, -Nat.not_le, -Nat.not_lt, -List.all_eq_true, -List.all_eq_false, -List.any_eq_true, -List.any_eq_false, hg, hl, Nd.cs, hlt]; (repeat1' (first | apply hK | apply And.intro | intro _)) <;> clear hK K <;> (try dsimp only [List.drop]))
      | (refine WPc.sched (id := 5) tok [(8, [25, 1025, 2025]), (11, [28, 1028, 2028]), (14, [25, 1025, 2025, 900001]), (17, [28, 1028, 2028, 900001])] [(0, [25, 28, 1025, 1028, 2025, 2028]), (1, [25, 28, 1025, 1028, 2025, 2028]), (2, [25, 28, 1025, 1028, 2025, 2028]), (3, [25, 28, 1025, 1028, 2025, 2028, 900001]), (4, [25, 28, 1025, 1028, 2025, 2028, 900001]), (5, [25, 28, 1025, 1028, 2025, 2028, 900001]), (6, []), (7, []), (9, [25, 1025, 2025]), (10, [25, 1025, 2025]), (8, [25, 1025, 2025]), (11, [28, 1028, 2028]), (12, []), (13, []), (14, [25, 1025, 2025, 900001]), (15, []), (16, []), (17, [28, 1028, 2028, 900001])] (by kernel_rfl) ?_)
      | (refine WPS.nil ?_)
      | (refine WPS.eff tok fun K hK => ?_; simp -implicitDefEqProofs +contextual [-Int.not_le, -Int.not_lt, -Nat.not_le, -Nat.not_lt, -List.all_eq_true, -List.all_eq_false, -List.any_eq_true, -List.any_eq_false, hg, hl, Nd.cs, hlt]; (repeat1' (first | apply hK | apply And.intro | intro _)) <;> clear hK K)
      | (refine WPc.condT ?_ ?_; (focus (simp; done))))
    refine ⟨i + 1, ⟨hlt, by first | omega | (simp only; omega) | assumption⟩, rfl, rfl, ?_, ?_⟩ <;> simp (disch := omega) [wrap64, hn]
  · obtain rfl : i = p.nodes.length := by omega
    repeat' (first
      | (refine WPc.attRet 2 900001 42 [] 0 0 rfl fun K hK => ?_; simp -implicitDefEqProofs +contextual [-Int.not_le, -Int.not_lt, -Nat.not_le, -Nat.not_lt, -List.all_eq_true, -List.all_eq_false, -List.any_eq_true, -List.any_eq_false, mixN_len, mixN_all]; (repeat1' (first | apply hK | apply And.intro | intro _)) <;> clear hK K)
      | apply WPc.sq
      | (apply WPc.ret; apply endP.sel (is := [2]) (he := .inr rfl); (case hs => rfl); (case hg => rfl); (case h => (simp; rfl)); (case hO => (simp; rfl)); (case hk => (simp; done)))
      | apply WPc.exit
      | (refine WPc.rq tok rfl fun K hK => ?_; simp -implicitDefEqProofs +contextual [-Int.not_le, -Int.not_lt, -Nat.not_le, -Nat.not_lt, -List.all_eq_true, -List.all_eq_false, -List.any_eq_true, -List.any_eq_false, mixN_len, mixN_all]; (repeat1' (first | apply hK | apply And.intro | intro _)) <;> clear hK K <;> (try dsimp only [List.drop]))
      | (refine WPc.condF ?_ ?_; (focus (simp; done))))
    exact ⟨rfl, rfl⟩
end Go.Own
set_option maxRecDepth 1000000
set_option maxHeartbeats 4000000
namespace Go.Own
attribute [local irreducible] WPc WPL WPS WPS1 WPS2 HAny endP valOf
variable [Laid]
open Go.Lib Go.RowKit
def foldS (ns : List Nd) : Nat → List Nd × List Int
  | 0 => (ns, [])
  | i + 1 => nodeM (foldS ns i).1 ((foldS ns i).2 ++ [(i : Int)]) i (mapA ((foldS ns i).2 ++ [(i : Int)]) (ndAt (foldS ns i).1 i))
structure RdOk (a : List Nd) (w : List Int) (i : Nat) : Prop where
  hi : i < a.length
  hw : i < w.length
  hb : ∀ x, x ∈ (ndAt a i).args → 0 ≤ x ∧ x < w.length
  hwb : ∀ x, x ∈ w → 0 ≤ x ∧ x < a.length
  hl : (ndAt a i).args.length ≤ 1000000000
  h9 : (ndAt a i).k = 9 → isNum (ndAt a i).s = true ∨ (ndAt a i).s = sEq → 1 < (ndAt a i).args.length
  h6 : (ndAt a i).k = 6 → (ndAt a i).args.length = 3
  h11 : (ndAt a i).k = 11 → 2 ≤ (ndAt a i).args.length
theorem node_con {a : List Nd} {w : List Int} {i : Nat} (h : RdOk a w i) : Con PP 76 [.ptr 0 2 [] 0 0, .sc (.int .i64 i)] [(0, folR a w)] [0] (fun r o => r = .tup [] ∧ o = [(0, folR (nodeM a w i (mapA w (ndAt a i))).1 (nodeM a w i (mapA w (ndAt a i))).2)]) := by
  have e : ndAt a (i : Int) = a[i]'h.hi := ndAt_eq (a := (i : Int)) (by simpa using h.hi)
  obtain ⟨hi, hw, hb, hwb, hl, h9, h6, h11⟩ := h
  rw [e] at hb hl h9 h6 h11
  rw [e]
  exact c_impl_node a w i hi hw hb hwb hl h9 h6 h11
theorem c_impl_Fold [F : Facts.Of] (p : Pg) (hs : ∀ c, c ∈ p.nodes → c.sm) (h2 : ∀ c, c ∈ p.nodes → c.rm) (hok : progOk p = true) (h0 : 0 < p.nodes.length) (hN : p.nodes.length ≤ 1000000) (hrt : 0 ≤ p.root ∧ p.root < p.nodes.length)
    (hF : ∀ i, i < p.nodes.length → RdOk (foldS p.nodes i).1 ((foldS p.nodes i).2 ++ [(i : Int)]) i) (hL1 : ∀ i, i ≤ p.nodes.length → (foldS p.nodes i).1.length = p.nodes.length) (hL2 : ∀ i, i ≤ p.nodes.length → (foldS p.nodes i).2.length = i)
    (t : T) (hT : Rep (foldS p.nodes p.nodes.length).1 (whAt (foldS p.nodes p.nodes.length).2 p.root) t) (hO : okT (foldS p.nodes p.nodes.length).1) (hS : t.size ≤ 1000000) :
    Con PP 30 [p.av] [] [] (fun r o => r = .agg [.sl 2 5 [(0, 0)] 0 (serT t []).length, .sc (.int .i64 (((serT t []).length : Int) - 1))] ∧ o = [(2, progB ⟨serT t [], ((serT t []).length : Int) - 1⟩)]) := by
  have ep : progOk ⟨p.nodes, p.root⟩ = true := hok
  have hr1 : ∀ c, c ∈ p.nodes → c.args.length ≤ 1000000000 := fun c hc => (h2 c hc).args
  have hb0 : p.nodes.length * 80 ≤ 140737488355328 := by omega
  have u1 := c_impl_ProgOk p hs hr1
  rw [hok] at u1
  have u2 := c_impl_copyProg p (by omega) h2
  have u3 := c_slices_Clone_NodeM p.nodes h0 hb0
  simp only [Pg.av] at u1 u2
  refine Con.of tok (nt := 38) Go.Proofs.Tryz.func30 (by kernel_rfl) rfl rfl rfl (Nat.le_of_ble_eq_true rfl) fun G => ?_
  simp only [entSt, tmOf, List.append_nil, List.cons_append, List.nil_append, Pg.av]
  repeat' (first
    | (refine WPL.detAt 12 10 900002 [] 0 0 ?_ ?_; (focus (simp; done)); refine fun K hK => ?_; simp -implicitDefEqProofs +contextual [-Int.not_le, -Int.not_lt, -Nat.not_le, -Nat.not_lt, -List.all_eq_true, -List.all_eq_false, -List.any_eq_true, -List.any_eq_false, h0, ep, progB, nodesR]; (repeat1' (first | apply hK | apply And.intro | intro _)) <;> clear hK K)
    | (refine WPL.adAt 3 13 1 900004 3 1 ?_ ?_; (focus (simp; done)); refine fun K hK => ?_; simp -implicitDefEqProofs +contextual [-Int.not_le, -Int.not_lt, -Nat.not_le, -Nat.not_lt, -List.all_eq_true, -List.all_eq_false, -List.any_eq_true, -List.any_eq_false, h0, ep, progB, nodesR]; (repeat1' (first | apply hK | apply And.intro | intro _)) <;> clear hK K)
    | ((first | refine WPL.rnTo tok 12 _ (by simp [isFn]; rfl) fun K hK => ?_ | refine WPL.rnTo tok 3 _ (by simp [isFn]; rfl) fun K hK => ?_ | refine WPc.rq tok rfl fun K hK => ?_ | refine WPL.rn tok _ (by simp [ahead, isFn]; rfl) fun K hK => ?_); simp -implicitDefEqProofs +contextual [-Int.not_le, -Int.not_lt, -Nat.not_le, -Nat.not_lt, -List.all_eq_true, -List.all_eq_false, -List.any_eq_true, -List.any_eq_false, h0, ep, progB, nodesR]; (repeat1' (first | apply hK | apply And.intro | intro _)) <;> clear hK K <;> (try dsimp only [List.drop]))
    | apply WPc.sq
    | apply WPc.block
    | apply WPc.skip
    | refine WPL.nil ?_
    | (apply WPL.cL (c_impl_ProgOk ⟨_, _⟩ ?g1 ?g2); (case q => (repeat' (first | refine And.intro ?_ ?_ | intro _ | exact cleanOut_nil | (refine Eqv.mk ?_; first | rfl | (simp -implicitDefEqProofs [h0, ep, progB, nodesR]; done)) | (simp -implicitDefEqProofs [h0, ep, progB, nodesR]; done) | (simp -implicitDefEqProofs [h0, ep, progB, nodesR]; rfl) | (simp; done) | (simp; rfl) | rfl))); (case g1 => (first | assumption | omega)); (case g2 => (first | assumption | omega)))
    | (apply WPL.cU u2; (case q => (repeat' (first | refine And.intro ?_ ?_ | intro _ | exact cleanOut_nil | (refine Eqv.mk ?_; first | rfl | (simp -implicitDefEqProofs [h0, ep, progB, nodesR]; done)) | (simp -implicitDefEqProofs [h0, ep, progB, nodesR]; done) | (simp -implicitDefEqProofs [h0, ep, progB, nodesR]; rfl) | (simp; done) | (simp; rfl) | rfl))))
    | (apply WPL.cU u3; (case q => (repeat' (first | refine And.intro ?_ ?_ | intro _ | exact cleanOut_nil | (refine Eqv.mk ?_; first | rfl | (simp -implicitDefEqProofs [h0, ep, progB, nodesR]; done)) | (simp -implicitDefEqProofs [h0, ep, progB, nodesR]; done) | (simp -implicitDefEqProofs [h0, ep, progB, nodesR]; rfl) | (simp; done) | (simp; rfl) | rfl))))
    | (refine WPc.region ?_; simp only [List.toList_toArray])
    | (refine WPc.condF ?_ ?_; (focus (simp; done))))
  refine WPc.loopV (σ := Nat) (fun i => i ≤ p.nodes.length) (fun i => p.nodes.length - i) (fun i => [(17, .sc (.int .i64 i))]) (fun i => [(3, 105, 2, [[.sl 97 5 ((foldS p.nodes i).1.map Nd.ow), .sl 3 1 ((foldS p.nodes i).2.map nC)]]), (2, 54, 2, [[.sc (.slice none 0 0), .sc (.int .i64 0)]]), (1, 54, 2, [[.fz (p.nodes.map Nd.cs), .sc (.int .i64 p.root)]])]) [1, 2, 3, 16] 0 (by simp [foldS]) (by simp [foldS]) (Nat.zero_le _) ?_
  rintro i hi s hs
  simp at hs
  subst hs
  by_cases hlt : i < p.nodes.length
  · have hf := hF i hlt
    have l1 := hL1 i hi
    have l2 := hL2 i hi
    have hnx : foldS p.nodes (i + 1) = nodeM (foldS p.nodes i).1 ((foldS p.nodes i).2 ++ [(i : Int)]) i (mapA ((foldS p.nodes i).2 ++ [(i : Int)]) (ndAt (foldS p.nodes i).1 i)) := rfl
    have hb1 : (i + 1) * 8 ≤ 140737488355328 := by omega
    have hb2 : i + 1 ≤ 9223372036854775807 := by omega
    generalize foldS p.nodes i = fs at hf l1 l2 hnx ⊢
    obtain ⟨a, w⟩ := fs
    dsimp only at hf l1 l2 hnx ⊢
    have u4 := node_con hf
    rw [← hnx] at u4
    simp only [folR, List.map_append, List.map_cons, List.map_nil, nC] at u4
    repeat' (first
      | apply WPc.sq
      | apply WPc.block
      | apply WPc.skip
      | refine WPL.nil ?_
      | (apply WPL.cU u4; (case q => (repeat' (first | refine And.intro ?_ ?_ | intro _ | exact cleanOut_nil | (refine Eqv.mk ?_; first | rfl | (simp -implicitDefEqProofs [hlt, l1, l2, nC, hb1, hb2]; done)) | (simp -implicitDefEqProofs [hlt, l1, l2, nC, hb1, hb2]; done) | (simp -implicitDefEqProofs [hlt, l1, l2, nC, hb1, hb2]; rfl) | (simp; done) | (simp; rfl) | rfl))))
      | ((first | refine WPc.rq tok rfl fun K hK => ?_ | refine WPL.rn tok _ (by simp [ahead, isFn]; rfl) fun K hK => ?_); simp -implicitDefEqProofs +contextual [-Int.not_le, -Int.not_lt, -Nat.not_le, -Nat.not_lt, -List.all_eq_true, -List.all_eq_false, -List.any_eq_true, -List.any_eq_false, hlt, l1, l2, nC, hb1, hb2]; (repeat1' (first | apply hK | apply And.intro | intro _)) <;> clear hK K <;> (try dsimp only [List.drop]))
      | (refine WPc.region ?_; simp only [List.toList_toArray])
      | (refine WPc.condT ?_ ?_; (focus (simp; done))))
    refine ⟨i + 1, ⟨hlt, by first | omega | (simp only; omega) | assumption⟩, rfl, rfl, ?_, ?_⟩ <;> simp (disch := omega) [wrap64, nC]
  · obtain rfl : i = p.nodes.length := by omega
    have l1 := hL1 _ (Nat.le_refl _)
    have l2 := hL2 _ (Nat.le_refl _)
    have u5 := c_impl_tidy (foldS p.nodes p.nodes.length).1 t _ hT hO hS
    generalize foldS p.nodes p.nodes.length = fs at l1 l2 hT hO u5 ⊢
    obtain ⟨a, w⟩ := fs
    dsimp only at l1 l2 hT hO u5 ⊢
    obtain ⟨r0, r1⟩ := hrt
    have r2 : p.root.toNat < w.length := by omega
    have r3 : p.root < (w.length : Int) := by omega
    have r4 : whAt w p.root = w[p.root.toNat] := by rw [whAt, List.getD_eq_getElem?_getD, List.getElem?_eq_getElem r2]; rfl
    rw [r4] at u5
    repeat' (first
      | (refine WPS.detSt 37 37 500037 [] 0 0 ?_ (by decide) ?_; (focus (simp; done)); refine fun K hK => ?_; simp -implicitDefEqProofs +contextual [-Int.not_le, -Int.not_lt, -Nat.not_le, -Nat.not_lt, -List.all_eq_true, -List.all_eq_false, -List.any_eq_true, -List.any_eq_false, r0, r2, r3, nC, progB, nodesR]; (repeat1' (first | apply hK | apply And.intro | intro _)) <;> clear hK K)
      | apply WPc.sq
      | (apply WPc.ret; apply endP.sel (is := [2]) (he := .inr rfl); (case hs => rfl); (case hg => rfl); (case h => (simp; rfl)); (case hO => (simp; rfl)); (case hk => (simp; done)))
      | apply WPc.exit
      | (apply WPS.cU (hc := u5); (case ho => exact rfl); (case q => (repeat' (first | refine And.intro ?_ ?_ | intro _ | exact cleanOut_nil | (refine Eqv.mk ?_; first | rfl | (simp -implicitDefEqProofs [r0, r2, r3, nC, progB, nodesR]; done)) | (simp -implicitDefEqProofs [r0, r2, r3, nC, progB, nodesR]; done) | (simp -implicitDefEqProofs [r0, r2, r3, nC, progB, nodesR]; rfl) | (simp; done) | (simp; rfl) | rfl))))
      | ((first | refine WPc.rq tok rfl fun K hK => ?_ | refine WPS.rn tok _ (by simp [aheadS]; rfl) fun K hK => ?_); simp -implicitDefEqProofs +contextual [-Int.not_le, -Int.not_lt, -Nat.not_le, -Nat.not_lt, -List.all_eq_true, -List.all_eq_false, -List.any_eq_true, -List.any_eq_false, r0, r2, r3, nC, progB, nodesR]; (repeat1' (first | apply hK | apply And.intro | intro _)) <;> clear hK K <;> (try dsimp only [List.drop]))
      | (refine WPc.sched (id := 10) tok [(8, [37, 1037, 2037]), (9, [2, 37, 1037, 2037, 500037])] [(0, []), (1, []), (2, []), (3, []), (4, []), (5, []), (6, []), (7, []), (8, [37, 1037, 2037]), (9, [2, 37, 1037, 2037, 500037])] (by kernel_rfl) ?_)
      | (refine WPS.nil ?_)
      | (refine WPS.eff tok fun K hK => ?_; simp -implicitDefEqProofs +contextual [-Int.not_le, -Int.not_lt, -Nat.not_le, -Nat.not_lt, -List.all_eq_true, -List.all_eq_false, -List.any_eq_true, -List.any_eq_false, r0, r2, r3, nC, progB, nodesR]; (repeat1' (first | apply hK | apply And.intro | intro _)) <;> clear hK K)
      | (refine WPc.condF ?_ ?_; (focus (simp; done))))
    exact ⟨rfl, rfl⟩
end Go.Own
set_option maxRecDepth 1000000
set_option maxHeartbeats 4000000
namespace Go.Own
attribute [local irreducible] WPc WPL WPS WPS1 WPS2 HAny endP valOf
variable [Laid]
open Go.Lib Go.RowKit
theorem tidyS_rec : ∀ (m : Nat) (p : Pg) (t : T) (i : Int) (out : List Nd), t.size ≤ m → Rep p.nodes i t → okT p.nodes → out.length + t.size ≤ 1000000 →
    Con PP 72 [p.av, .sc (.int .i64 i), .sl 0 5 [] 0 out.length] [(0, nodesR out)] [] (fun r o => r = .sl 900009 5 [] 0 (serT t out).length ∧ o = [(900009, nodesR (serT t out))])
  | 0, p, t, i, out, hm, _, _, _ => by have := t.size_pos; omega
  | m + 1, p, .nd k n s names ks, i, out, hm, hr, hok, hb => by
    have ih := tidyS_rec m p
    simp only [Rep] at hr
    obtain ⟨h0, c, hc, e1, e2, e3, e4, e5, e6⟩ := hr
    obtain ⟨hlt, hce⟩ := List.getElem?_eq_some_iff.1 hc
    have hlt2 : i < (p.nodes.length : Int) := by omega
    have hokc := hok c (List.mem_of_getElem? hc)
    have hln := e6.len
    refine Con.of tok (nt := 52) Go.Proofs.Tryz.func72 (by kernel_rfl) rfl rfl rfl (Nat.le_of_ble_eq_true rfl) fun G => ?_
    simp only [entSt, tmOf, List.append_nil, List.cons_append, List.nil_append, nodesR, Pg.av]
    repeat' (first
      | apply WPc.sq
      | apply WPc.block
      | (refine WPc.rq tok rfl fun K hK => ?_; simp -implicitDefEqProofs +contextual [-Int.not_le, -Int.not_lt, -Nat.not_le, -Nat.not_lt, -List.all_eq_true, -List.all_eq_false, -List.any_eq_true, -List.any_eq_false, h0, hlt, hlt2, hce, Nd.cs]; (repeat1' (first | apply hK | apply And.intro | intro _)) <;> clear hK K <;> (try dsimp only [List.drop])))
    refine WPc.renC 0 900002 fun K hK => ?_
    simp -implicitDefEqProofs
    refine hK _ ?_; clear hK K
    refine WPc.renC 15 900003 fun K hK => ?_
    simp -implicitDefEqProofs
    refine hK _ ?_; clear hK K
    refine WPc.loopV (σ := Nat) (fun j => j ≤ ks.length) (fun j => ks.length - j) (fun j => [(9, .sc (.int .i64 j)), (2, .sl 900002 5 [] 0 (serL (ks.take j) out).2.length), (8, .sl 900003 1 [] 0 j)]) (fun j => [(900002, 97, 5, (serL (ks.take j) out).2.map Nd.ow), (900003, 3, 1, (serL (ks.take j) out).1.map nC), (7, 97, 5, [[.sc (.int .i64 c.k), .sc (.int .i64 c.n), .sc (.string c.s), .fz (c.names.map sC), .fz (c.args.map nC)]]), (3, 54, 2, [[.fz (p.nodes.map Nd.cs), .sc (.int .i64 p.root)]])]) [3, 7] 0 (by simp [serL]) (by simp [serL]) (by simp) ?_
    rintro j hj s hs
    simp at hs
    subst hs
    by_cases hjl : j < ks.length
    · have hja : j < c.args.length := by omega
      have hja' : (j : Int) < (c.args.length : Int) := by omega
      have hrep := e6.get (List.getElem?_eq_getElem hja) (List.getElem?_eq_getElem hjl)
      have hsz := sizeL_mem (List.getElem_mem hjl)
      have hsn : serL (ks.take (j + 1)) out = serL (ks.take j ++ [ks[j]]) out := by rw [List.take_add_one, List.getElem?_eq_getElem hjl]; rfl
      rw [serL_snoc] at hsn
      have hzl : sizeL (ks.take (j + 1)) = sizeL (ks.take j) + ks[j].size := by rw [List.take_add_one, List.getElem?_eq_getElem hjl, Option.toList_some, sizeL_snoc]
      have hzz : sizeL (ks.take (j + 1)) ≤ sizeL ks := by
        conv => rhs; rw [← List.take_append_drop (j + 1) ks]
        rw [sizeL_app]; omega
      have hL := serL_len (ks.take j) out
      have hA := serL_args (ks.take j) out
      have hT := serT_len ks[j] (serL (ks.take j) out).2
      simp only [T.size] at hm hb
      have hcon := ih ks[j] c.args[j] (serL (ks.take j) out).2 (by omega) hrep hok (by omega)
      simp only [nodesR, Pg.av] at hcon
      have hlA : (serL (ks.take j) out).1.length = j := by rw [hA]; simp; omega
      have hb1 : (j + 1) * 8 ≤ 140737488355328 := by omega
      have hb2 : j + 1 ≤ 9223372036854775807 := by omega
      have hb3 : ((serT ks[j] (serL (ks.take j) out).2).length : Int) ≤ 9223372036854775807 := by omega
      have hw : IntKind.i64.wrap (((serT ks[j] (serL (ks.take j) out).2).length : Int) - 1) = ((serT ks[j] (serL (ks.take j) out).2).length : Int) - 1 := wrap64 (by omega) (by omega)
      repeat' (first
        | (refine WPc.renRg (r := 7) 30 900002 fun K hK => ?_; simp -implicitDefEqProofs +contextual [-Int.not_le, -Int.not_lt, -Nat.not_le, -Nat.not_lt, -List.all_eq_true, -List.all_eq_false, -List.any_eq_true, -List.any_eq_false, nC, hjl, hja, hja', hce, Nd.cs, hlA, hb1, hb2, hb3, hw]; (repeat1' (first | apply hK | apply And.intro | intro _)) <;> clear hK K)
        | apply WPc.sq
        | apply WPc.block
        | apply WPc.skip
        | (apply WPS.cU (hc := hcon); (case ho => exact rfl); (case q => (repeat' (first | refine And.intro ?_ ?_ | intro _ | exact cleanOut_nil | (refine Eqv.mk ?_; first | rfl | (simp -implicitDefEqProofs [nC, hjl, hja, hja', hce, Nd.cs, hlA, hb1, hb2, hb3, hw]; done)) | (simp -implicitDefEqProofs [nC, hjl, hja, hja', hce, Nd.cs, hlA, hb1, hb2, hb3, hw]; done) | (simp -implicitDefEqProofs [nC, hjl, hja, hja', hce, Nd.cs, hlA, hb1, hb2, hb3, hw]; rfl) | (simp; done) | (simp; rfl) | rfl))))
        | ((first | refine WPc.rq tok rfl fun K hK => ?_ | refine WPS.rn tok _ (by simp [aheadS]; rfl) fun K hK => ?_); simp -implicitDefEqProofs +contextual [-Int.not_le, -Int.not_lt, -Nat.not_le, -Nat.not_lt, -List.all_eq_true, -List.all_eq_false, -List.any_eq_true, -List.any_eq_false, nC, hjl, hja, hja', hce, Nd.cs, hlA, hb1, hb2, hb3, hw]; (repeat1' (first | apply hK | apply And.intro | intro _)) <;> clear hK K <;> (try dsimp only [List.drop]))
        | (refine WPc.sched (id := 6) tok [(7, [30, 1030, 2030, 900002])] [(0, []), (1, []), (2, []), (3, []), (4, []), (5, []), (6, []), (7, [30, 1030, 2030, 900002]), (8, [])] (by kernel_rfl) ?_)
        | (refine WPS.nil ?_)
        | (refine WPc.condT ?_ ?_; (focus (simp; done))))
      refine ⟨j + 1, ⟨hjl, by first | omega | (simp only; omega) | assumption⟩, rfl, rfl, ?_, ?_⟩ <;> simp (disch := omega) [wrap64, hsn, nC]
    · obtain rfl : j = ks.length := by omega
      have hL := serL_len ks out
      have hA := serL_args ks out
      simp only [T.size] at hm hb
      have hb1 : ((serL ks out).2.length + 1) * 80 ≤ 140737488355328 := by omega
      have hb2 : (serL ks out).2.length + 1 ≤ 9223372036854775807 := by omega
      have hb3 : c.names.length * 16 ≤ 140737488355328 := by omega
      have hb4 : c.names.length ≤ 9223372036854775807 := by omega
      repeat' (first
        | (refine WPc.renR 900002 900009 fun K hK => ?_; simp -implicitDefEqProofs +contextual [-Int.not_le, -Int.not_lt, -Nat.not_le, -Nat.not_lt, -List.all_eq_true, -List.all_eq_false, -List.any_eq_true, -List.any_eq_false, hjl, nC, Nd.cs, hA, hb1, hb2, hb3, hb4]; (repeat1' (first | apply hK | apply And.intro | intro _)) <;> clear hK K)
        | apply WPc.sq
        | (apply WPc.ret; apply endP.sel (is := [900009]) (he := .inr rfl); (case hs => rfl); (case hg => rfl); (case h => (simp; rfl)); (case hO => (simp; rfl)); (case hk => (simp; done)))
        | apply WPc.exit
        | ((first | refine WPc.rq tok rfl fun K hK => ?_ | refine WPS.rn tok _ (by simp [aheadS]; rfl) fun K hK => ?_); simp -implicitDefEqProofs +contextual [-Int.not_le, -Int.not_lt, -Nat.not_le, -Nat.not_lt, -List.all_eq_true, -List.all_eq_false, -List.any_eq_true, -List.any_eq_false, hjl, nC, Nd.cs, hA, hb1, hb2, hb3, hb4]; (repeat1' (first | apply hK | apply And.intro | intro _)) <;> clear hK K <;> (try dsimp only [List.drop]))
        | (refine WPc.sched (id := 8) tok [(7, [44]), (10, [44, 47]), (13, [44, 47, 50, 900003]), (14, [44, 47, 50, 51, 900002, 900003])] [(0, [44, 47, 50, 900003]), (1, [44, 47]), (2, [44, 47]), (3, [44, 47]), (4, [44, 47]), (5, [44, 47]), (6, [44, 47]), (8, [44]), (9, [44]), (11, [44, 47]), (7, [44]), (10, [44, 47]), (12, []), (13, [44, 47, 50, 900003]), (14, [44, 47, 50, 51, 900002, 900003]), (15, [])] (by kernel_rfl) ?_)
        | (refine WPS.nil ?_)
        | (refine WPS.eff tok fun K hK => ?_; simp -implicitDefEqProofs +contextual [-Int.not_le, -Int.not_lt, -Nat.not_le, -Nat.not_lt, -List.all_eq_true, -List.all_eq_false, -List.any_eq_true, -List.any_eq_false, hjl, nC, Nd.cs, hA, hb1, hb2, hb3, hb4]; (repeat1' (first | apply hK | apply And.intro | intro _)) <;> clear hK K)
        | (refine WPc.cond (by simp [-Bool.not_eq_eq_eq_not]; rfl) (fun hq => ?_) (fun hq => ?_) <;> simp only [hq] <;> (try (exfalso; (simp only [decide_eq_true_eq, decide_eq_false_iff_not] at hq); omega))))
      subst e1 e2 e3 e4
      simp [serT, Nd.ow]
end Go.Own
set_option maxRecDepth 1000000
set_option maxHeartbeats 4000000
namespace Go.Own
attribute [local irreducible] WPc WPL WPS WPS1 WPS2 HAny endP valOf
variable [Laid]
open Go.Lib Go.RowKit
def wKn : List ByteArray := [⟨#[43]⟩, ⟨#[45]⟩, ⟨#[42]⟩, ⟨#[60]⟩, ⟨#[61]⟩, ⟨#[110, 111, 116]⟩, ⟨#[110, 117, 108, 108, 63]⟩, ⟨#[112, 97, 105, 114, 63]⟩, ⟨#[101, 113, 63]⟩]
theorem c_spec_l3In_kn (s : ByteArray) : Con PP 130 [.fz [[.sc (.string ⟨#[43]⟩)], [.sc (.string ⟨#[45]⟩)], [.sc (.string ⟨#[42]⟩)], [.sc (.string ⟨#[60]⟩)], [.sc (.string ⟨#[61]⟩)], [.sc (.string ⟨#[110, 111, 116]⟩)], [.sc (.string ⟨#[110, 117, 108, 108, 63]⟩)], [.sc (.string ⟨#[112, 97, 105, 114, 63]⟩)], [.sc (.string ⟨#[101, 113, 63]⟩)]], .sc (.string s)] [] [] (fun r o => r = .sc (.bool (isW wKn s))) := c_spec_l3In wKn s
def knV (c : Nd) (ns : List Nd) (xs : List Int) : V × Int := l7V [] c.s (arg (valsOf ns xs) 0) (arg (valsOf ns xs) 1)
def knY (c : Nd) (ns : List Nd) (xs : List Int) : Bool := decide (c.k = 9) && isW wKn c.s && allC ns xs
def knR (c : Nd) (ns : List Nd) (xs : List Int) : AV := if knY c ns xs = true then .tup [(ndOf (knV c ns xs).1).nl, .sc (.bool (decide ((knV c ns xs).2 = 0)))] else .tup [c.av, .sc (.bool false)]
theorem l24Known_con (c : Nd) (ns : List Nd) (xs : List Int) (hb : inBd ns xs) (hl : xs.length ≤ 1000000000) (h1 : knY c ns xs = true → c.s ∈ uns → 0 < xs.length) (h2 : knY c ns xs = true → c.s ∉ uns → 1 < xs.length) :
    Con PP 109 [c.av, .fz (ns.map Nd.cs), .fz (xs.map nC)] [] [] (fun r o => r = knR c ns xs) := by
  refine Con.of tok (nt := 61) Go.Proofs.Tryz.func109 (by kernel_rfl) rfl rfl rfl (Nat.le_of_ble_eq_true rfl) fun G => ?_
  simp only [entSt, tmOf, List.append_nil, List.cons_append, List.nil_append, Nd.av]
  by_cases hk : c.k = 9
  · have hk' : (c.k = 9) = True := by simp [hk]
    cases hw : isW wKn c.s with
    | false =>
      have hR : knR c ns xs = .tup [c.av, .sc (.bool false)] := by simp [knR, knY, hw]
      rw [hR]
      repeat' (first
        | apply WPc.sq
        | (refine WPc.ret (endP.val (.inr rfl) rfl rfl (by simp; rfl) ?_))
        | refine WPL.nil ?_
        | (apply WPL.cL (c_spec_l3In_kn _); (case q => (repeat' (first | refine And.intro ?_ ?_ | intro _ | exact cleanOut_nil | (refine Eqv.mk ?_; first | rfl | (simp -implicitDefEqProofs [hk, hk', hw]; done)) | (simp -implicitDefEqProofs [hk, hk', hw]; done) | (simp -implicitDefEqProofs [hk, hk', hw]; rfl) | (simp; done) | (simp; rfl) | rfl))))
        | ((first | refine WPc.rq tok rfl fun K hK => ?_ | refine WPL.rn tok _ (by simp [ahead, isFn]; rfl) fun K hK => ?_); simp -implicitDefEqProofs +contextual [-Int.not_le, -Int.not_lt, -Nat.not_le, -Nat.not_lt, -List.all_eq_true, -List.all_eq_false, -List.any_eq_true, -List.any_eq_false, hk, hk', hw]; (repeat1' (first | apply hK | apply And.intro | intro _)) <;> clear hK K <;> (try dsimp only [List.drop]))
        | (refine WPc.region ?_; simp only [List.toList_toArray])
        | (refine WPc.condT ?_ ?_; (focus (simp; done))))
      simp [hk, Nd.av]
    | true =>
      repeat' (first
        | apply WPc.sq
        | apply WPc.block
        | apply WPc.skip
        | refine WPL.nil ?_
        | (apply WPL.cL (c_spec_l3In_kn _); (case q => (repeat' (first | refine And.intro ?_ ?_ | intro _ | exact cleanOut_nil | (refine Eqv.mk ?_; first | rfl | (simp -implicitDefEqProofs [hk, hk', hw]; done)) | (simp -implicitDefEqProofs [hk, hk', hw]; done) | (simp -implicitDefEqProofs [hk, hk', hw]; rfl) | (simp; done) | (simp; rfl) | rfl))))
        | ((first | refine WPc.rq tok rfl fun K hK => ?_ | refine WPL.rn tok _ (by simp [ahead, isFn]; rfl) fun K hK => ?_); simp -implicitDefEqProofs +contextual [-Int.not_le, -Int.not_lt, -Nat.not_le, -Nat.not_lt, -List.all_eq_true, -List.all_eq_false, -List.any_eq_true, -List.any_eq_false, hk, hk', hw]; (repeat1' (first | apply hK | apply And.intro | intro _)) <;> clear hK K <;> (try dsimp only [List.drop]))
        | (refine WPc.region ?_; simp only [List.toList_toArray])
        | (refine WPc.condF ?_ ?_; (focus (simp; done))))
      refine WPc.renC 25 900003 fun K hK => ?_
      simp -implicitDefEqProofs
      refine hK _ ?_; clear hK K
      refine WPc.loopV (σ := Nat) (fun j => j ≤ xs.length ∧ allC ns (xs.take j) = true) (fun j => xs.length - j) (fun j => [(9, .sc (.int .i64 j)), (8, .sl 900003 3 [] 0 j)]) (fun j => [(900003, 29, 3, (valsOf ns (xs.take j)).map V.cs), (3, 97, 5, [[.sc (.int .i64 9), .sc (.int .i64 c.n), .sc (.string c.s), .fz (c.names.map sC), .fz (c.args.map nC)]]), (6, 97, 5, [[.sc (.int .i64 0), .sc (.int .i64 0), .sc (.string ⟨#[]⟩), .sc (.slice none 0 0), .sc (.slice none 0 0)]])]) [1, 2, 3, 6] 0 (by simp [valsOf]) (by simp [valsOf]) (by simp [allC]) ?_
      rintro j ⟨hj, hall⟩ s hs
      simp at hs
      subst hs
      by_cases hjl : j < xs.length
      · obtain ⟨a0, a1⟩ := hb _ (List.getElem_mem hjl)
        have a2 : xs[j].toNat < ns.length := by omega
        have hjl' : (j : Int) < (xs.length : Int) := by omega
        have ee : ndAt ns xs[j] = ns[xs[j].toNat] := ndAt_eq a2
        have e1 : isConst ⟨ns[xs[j].toNat].k, ns[xs[j].toNat].n, ns[xs[j].toNat].s, ns[xs[j].toNat].names, ns[xs[j].toNat].args⟩ = isConst ns[xs[j].toNat] := rfl
        have e2 : valOf ⟨ns[xs[j].toNat].k, ns[xs[j].toNat].n, ns[xs[j].toNat].s, ns[xs[j].toNat].names, ns[xs[j].toNat].args⟩ = valOf ns[xs[j].toNat] := rfl
        have hv : xs[j]? = some xs[j] := List.getElem?_eq_getElem hjl
        have hlv : (valsOf ns (xs.take j)).length = j := by simp [valsOf]; omega
        have hb1 : (j + 1) * 32 ≤ 140737488355328 := by omega
        have hb2 : j + 1 ≤ 9223372036854775807 := by omega
        cases hcst : isConst ns[xs[j].toNat] with
        | false =>
          have hno : allC ns xs = false := all_at hv (by rw [ee]; exact hcst)
          have hR : knR c ns xs = .tup [c.av, .sc (.bool false)] := by simp [knR, knY, hno]
          rw [hR]
          repeat' (first
            | apply WPc.sq
            | apply WPc.block
            | (refine WPc.ret (endP.val (.inr rfl) rfl rfl (by simp; rfl) ?_))
            | apply WPc.skip
            | refine WPL.nil ?_
            | (apply WPL.cL (c_spec_l24Const ⟨_, _, _, _, _⟩); (case q => (repeat' (first | refine And.intro ?_ ?_ | intro _ | exact cleanOut_nil | (refine Eqv.mk ?_; first | rfl | (simp -implicitDefEqProofs [hk', Nd.cs, nC, hjl, hjl', a0, a1, a2, e1, hcst]; done)) | (simp -implicitDefEqProofs [hk', Nd.cs, nC, hjl, hjl', a0, a1, a2, e1, hcst]; done) | (simp -implicitDefEqProofs [hk', Nd.cs, nC, hjl, hjl', a0, a1, a2, e1, hcst]; rfl) | (simp; done) | (simp; rfl) | rfl))))
            | ((first | refine WPc.rq tok rfl fun K hK => ?_ | refine WPL.rn tok _ (by simp [ahead, isFn]; rfl) fun K hK => ?_); simp -implicitDefEqProofs +contextual [-Int.not_le, -Int.not_lt, -Nat.not_le, -Nat.not_lt, -List.all_eq_true, -List.all_eq_false, -List.any_eq_true, -List.any_eq_false, hk', Nd.cs, nC, hjl, hjl', a0, a1, a2, e1, hcst]; (repeat1' (first | apply hK | apply And.intro | intro _)) <;> clear hK K <;> (try dsimp only [List.drop]))
            | (refine WPc.region ?_; simp only [List.toList_toArray])
            | (refine WPc.condT ?_ ?_; (focus (simp; done))))
          simp [hk, Nd.av]
        | true =>
          have hnx : valsOf ns (xs.take (j + 1)) = valsOf ns (xs.take j) ++ [valOf ns[xs[j].toNat]] := by
            rw [valsOf, List.take_add_one, hv, Option.toList_some, List.map_append, List.map_cons, List.map_nil, ee]; rfl
          repeat' (first
            | apply WPc.sq
            | apply WPc.block
            | apply WPc.skip
            | refine WPL.nil ?_
            | (apply WPL.cL (c_spec_l24Const ⟨_, _, _, _, _⟩); (case q => (repeat' (first | refine And.intro ?_ ?_ | intro _ | exact cleanOut_nil | (refine Eqv.mk ?_; first | rfl | (simp -implicitDefEqProofs [hk', Nd.cs, nC, hjl, hjl', a0, a1, a2, e1, e2, hcst, hlv, hb1, hb2, V.av, V.cs]; done)) | (simp -implicitDefEqProofs [hk', Nd.cs, nC, hjl, hjl', a0, a1, a2, e1, e2, hcst, hlv, hb1, hb2, V.av, V.cs]; done) | (simp -implicitDefEqProofs [hk', Nd.cs, nC, hjl, hjl', a0, a1, a2, e1, e2, hcst, hlv, hb1, hb2, V.av, V.cs]; rfl) | (simp; done) | (simp; rfl) | rfl))))
            | (apply WPL.cL (c_spec_l24Value ⟨_, _, _, _, _⟩); (case q => (repeat' (first | refine And.intro ?_ ?_ | intro _ | exact cleanOut_nil | (refine Eqv.mk ?_; first | rfl | (simp -implicitDefEqProofs [hk', Nd.cs, nC, hjl, hjl', a0, a1, a2, e1, e2, hcst, hlv, hb1, hb2, V.av, V.cs]; done)) | (simp -implicitDefEqProofs [hk', Nd.cs, nC, hjl, hjl', a0, a1, a2, e1, e2, hcst, hlv, hb1, hb2, V.av, V.cs]; done) | (simp -implicitDefEqProofs [hk', Nd.cs, nC, hjl, hjl', a0, a1, a2, e1, e2, hcst, hlv, hb1, hb2, V.av, V.cs]; rfl) | (simp; done) | (simp; rfl) | rfl))))
            | ((first | refine WPc.rq tok rfl fun K hK => ?_ | refine WPL.rn tok _ (by simp [ahead, isFn]; rfl) fun K hK => ?_); simp -implicitDefEqProofs +contextual [-Int.not_le, -Int.not_lt, -Nat.not_le, -Nat.not_lt, -List.all_eq_true, -List.all_eq_false, -List.any_eq_true, -List.any_eq_false, hk', Nd.cs, nC, hjl, hjl', a0, a1, a2, e1, e2, hcst, hlv, hb1, hb2, V.av, V.cs]; (repeat1' (first | apply hK | apply And.intro | intro _)) <;> clear hK K <;> (try dsimp only [List.drop]))
            | (refine WPc.region ?_; simp only [List.toList_toArray])
            | (refine WPc.condT ?_ ?_; (focus (simp; done)))
            | (refine WPc.condF ?_ ?_; (focus (simp; done))))
          refine ⟨j + 1, ⟨⟨hjl, all_next hv (by rw [ee]; exact hcst) hall⟩, by first | omega | (simp only; omega) | assumption⟩, rfl, rfl, ?_, ?_⟩ <;> simp (disch := omega) [wrap64, hnx, V.cs]
      · obtain rfl : j = xs.length := by omega
        rw [List.take_length] at hall
        have hy : knY c ns xs = true := by simp [knY, hk, hw, hall]
        have hR : knR c ns xs = .tup [(ndOf (knV c ns xs).1).nl, .sc (.bool (decide ((knV c ns xs).2 = 0)))] := by simp [knR, hy]
        have hlv : (valsOf ns xs).length = xs.length := by simp [valsOf]
        have hdz : dzLL (List.take xs.length ((valsOf ns xs).map V.cs)) = (valsOf ns xs).map V.cs := by rw [List.take_of_length_le (by simp [hlv]), dz_V]
        have hmem := isW_mem hw
        have hcar : c.s ≠ sCar ∧ c.s ≠ sCdr ∧ c.s ≠ sCons := by
          refine ⟨?_, ?_, ?_⟩ <;> (intro e; rw [e] at hmem; simp only [wKn, List.mem_cons, List.not_mem_nil, or_false] at hmem; rcases hmem with h | h | h | h | h | h | h | h | h <;> exact absurd h (by decide))
        have hcon : Con PP 52 [.sl 0 6 [] 0 0, .sc (.string c.s), .fz ((valsOf ns xs).map V.cs)] [(0, (88, 6, []))] [] (fun r o => r = .tup [.sl 0 6 [] 0 0, (knV c ns xs).1.av, .sc (.int .i64 (knV c ns xs).2)] ∧ o = [(0, (88, 6, []))]) := by
          by_cases hs : c.s ∈ uns
          · have g0 : 0 < (valsOf ns xs).length := by rw [hlv]; exact h1 hy hs
            have := c_spec_l7Prim1 [] c.s (valsOf ns xs) (by simp) g0 hs (fun h => by rcases h with h | h <;> simp_all)
            have e0 : (valsOf ns xs)[0] = arg (valsOf ns xs) 0 := by simp [arg, g0]
            have e1 : l7V [] c.s (arg (valsOf ns xs) 0) noV = knV c ns xs := by
              have hs' := hs
              simp only [uns, List.mem_cons, List.not_mem_nil, or_false] at hs'
              unfold knV
              rcases hs' with e | e | e | e | e <;> (rw [e]; rfl)
            rw [e0, e1] at this
            exact this
          · have g1 : 1 < (valsOf ns xs).length := by rw [hlv]; exact h2 hy hs
            have := c_spec_l7Prim2 [] c.s (valsOf ns xs) (by simp) g1 ⟨hcar.1, hcar.2.1⟩
            have e0 : (valsOf ns xs)[0] = arg (valsOf ns xs) 0 := by simp [arg, show 0 < (valsOf ns xs).length by omega]
            have e1 : (valsOf ns xs)[1] = arg (valsOf ns xs) 1 := by simp [arg, g1]
            have e2 : l7H [] c.s (arg (valsOf ns xs) 0) (arg (valsOf ns xs) 1) = [] := by simp [l7H, hcar.2.2]
            rw [e0, e1, e2] at this
            exact this
        rw [hR]
        have e3 : V.mk (knV c ns xs).1.k (knV c ns xs).1.n (knV c ns xs).1.s = (knV c ns xs).1 := rfl
        repeat' (first
          | apply WPc.sq
          | (refine WPc.ret (endP.val (.inr rfl) rfl rfl (by simp; rfl) ?_))
          | apply WPc.exit
          | refine WPL.nil ?_
          | (apply WPL.cU hcon; (case q => (repeat' (first | refine And.intro ?_ ?_ | intro _ | exact cleanOut_nil | (refine Eqv.mk ?_; first | rfl | (simp -implicitDefEqProofs [hlv, hdz, V.av, Nd.nl, e3]; done)) | (simp -implicitDefEqProofs [hlv, hdz, V.av, Nd.nl, e3]; done) | (simp -implicitDefEqProofs [hlv, hdz, V.av, Nd.nl, e3]; rfl) | (simp; done) | (simp; rfl) | rfl))))
          | (apply WPL.cL (c_spec_l24Node ⟨_, _, _⟩); (case q => (repeat' (first | refine And.intro ?_ ?_ | intro _ | exact cleanOut_nil | (refine Eqv.mk ?_; first | rfl | (simp -implicitDefEqProofs [hlv, hdz, V.av, Nd.nl, e3]; done)) | (simp -implicitDefEqProofs [hlv, hdz, V.av, Nd.nl, e3]; done) | (simp -implicitDefEqProofs [hlv, hdz, V.av, Nd.nl, e3]; rfl) | (simp; done) | (simp; rfl) | rfl))))
          | ((first | refine WPc.rq tok rfl fun K hK => ?_ | refine WPL.rn tok _ (by simp [ahead, isFn]; rfl) fun K hK => ?_); simp -implicitDefEqProofs +contextual [-Int.not_le, -Int.not_lt, -Nat.not_le, -Nat.not_lt, -List.all_eq_true, -List.all_eq_false, -List.any_eq_true, -List.any_eq_false, hlv, hdz, V.av, Nd.nl, e3]; (repeat1' (first | apply hK | apply And.intro | intro _)) <;> clear hK K <;> (try dsimp only [List.drop]))
          | (refine WPc.region ?_; simp only [List.toList_toArray])
          | (refine WPc.condF ?_ ?_; (focus (simp; done))))
        rfl
  · have hk' : (c.k = 9) = False := by simp [hk]
    have hR : knR c ns xs = .tup [c.av, .sc (.bool false)] := by simp [knR, knY, hk]
    rw [hR]
    repeat' (first
      | apply WPc.sq
      | (refine WPc.ret (endP.val (.inr rfl) rfl rfl (by simp; rfl) ?_))
      | refine WPL.nil ?_
      | (refine WPL.call0f ?_ ?_ ?_; (focus (simp; done)); (focus (simp; done)))
      | ((first | refine WPc.rq tok rfl fun K hK => ?_ | refine WPL.rn tok _ (by simp [ahead, isFn]; rfl) fun K hK => ?_); simp -implicitDefEqProofs +contextual [-Int.not_le, -Int.not_lt, -Nat.not_le, -Nat.not_lt, -List.all_eq_true, -List.all_eq_false, -List.any_eq_true, -List.any_eq_false, hk, hk']; (repeat1' (first | apply hK | apply And.intro | intro _)) <;> clear hK K <;> (try dsimp only [List.drop]))
      | (refine WPc.region ?_; simp only [List.toList_toArray])
      | (refine WPc.condT ?_ ?_; (focus (simp; done))))
    rfl
theorem l24Known_no (c : Nd) (ns : List Nd) (xs : List Int) (hb : inBd ns xs) (hl : xs.length ≤ 1000000000) (hy : knY c ns xs = false) :
    Con PP 109 [c.av, .fz (ns.map Nd.cs), .fz (xs.map nC)] [] [] (fun r o => ∃ y : OneV × OneV, True ∧ r = .tup [.agg [.sc (.int .i64 c.k), .sc (.int .i64 c.n), .sc (.string c.s), .sc y.1.v, .sc y.2.v], .sc (.bool false)] ∧ o = []) := by
  refine Con.of tok (nt := 61) Go.Proofs.Tryz.func109 (by kernel_rfl) rfl rfl rfl (Nat.le_of_ble_eq_true rfl) fun G => ?_
  simp only [entSt, tmOf, List.append_nil, List.cons_append, List.nil_append, Nd.av]
  by_cases hk : c.k = 9
  · have hk' : (c.k = 9) = True := by simp [hk]
    cases hw : isW wKn c.s with
    | false =>
      repeat' (first
        | (refine WPc.region (id := 0) ?_; simp only [List.toList_toArray])
        | (refine WPL.ghAt 3 0 2064 3 ?_ ?_ ?_; (focus (simp; done)); (focus (simp; done)); refine fun u3 K hK => ?_; simp -implicitDefEqProofs +contextual [-Int.not_le, -Int.not_lt, -Nat.not_le, -Nat.not_lt, -List.all_eq_true, -List.all_eq_false, -List.any_eq_true, -List.any_eq_false, hk, hk', hw]; (repeat1' (first | apply hK | apply And.intro | intro _)) <;> clear hK K)
        | (refine WPL.ghAt 3 0 2065 4 ?_ ?_ ?_; (focus (simp; done)); (focus (simp; done)); refine fun u4 K hK => ?_; simp -implicitDefEqProofs +contextual [-Int.not_le, -Int.not_lt, -Nat.not_le, -Nat.not_lt, -List.all_eq_true, -List.all_eq_false, -List.any_eq_true, -List.any_eq_false, hk, hk', hw]; (repeat1' (first | apply hK | apply And.intro | intro _)) <;> clear hK K)
        | (refine WPc.dropR rfl ?_; dsimp only)
        | apply WPc.sq
        | (refine WPc.ret (endP.val (.inr rfl) rfl rfl (by simp; rfl) ?_))
        | refine WPL.nil ?_
        | (apply WPL.cL (c_spec_l3In_kn _); (case q => (repeat' (first | refine And.intro ?_ ?_ | intro _ | exact cleanOut_nil | (refine Eqv.mk ?_; first | rfl | (simp -implicitDefEqProofs [hk, hk', hw]; done)) | (simp -implicitDefEqProofs [hk, hk', hw]; done) | (simp -implicitDefEqProofs [hk, hk', hw]; rfl) | (simp; done) | (simp; rfl) | rfl))))
        | ((first | refine WPc.rq tok rfl fun K hK => ?_ | refine WPL.rn tok _ (by simp [ahead, isFn]; rfl) fun K hK => ?_); simp -implicitDefEqProofs +contextual [-Int.not_le, -Int.not_lt, -Nat.not_le, -Nat.not_lt, -List.all_eq_true, -List.all_eq_false, -List.any_eq_true, -List.any_eq_false, hk, hk', hw]; (repeat1' (first | apply hK | apply And.intro | intro _)) <;> clear hK K <;> (try dsimp only [List.drop]))
        | (refine WPc.region ?_; simp only [List.toList_toArray])
        | (refine WPc.condT ?_ ?_; (focus (simp; done))))
      exact ⟨(u3, u4), trivial, by simp [hk], rfl⟩
    | true =>
      repeat' (first
        | (refine WPc.region (id := 0) ?_; simp only [List.toList_toArray])
        | (refine WPL.ghAt 3 0 2064 3 ?_ ?_ ?_; (focus (simp; done)); (focus (simp; done)); refine fun u3 K hK => ?_; simp -implicitDefEqProofs +contextual [-Int.not_le, -Int.not_lt, -Nat.not_le, -Nat.not_lt, -List.all_eq_true, -List.all_eq_false, -List.any_eq_true, -List.any_eq_false, hk, hk', hw]; (repeat1' (first | apply hK | apply And.intro | intro _)) <;> clear hK K)
        | (refine WPL.ghAt 3 0 2065 4 ?_ ?_ ?_; (focus (simp; done)); (focus (simp; done)); refine fun u4 K hK => ?_; simp -implicitDefEqProofs +contextual [-Int.not_le, -Int.not_lt, -Nat.not_le, -Nat.not_lt, -List.all_eq_true, -List.all_eq_false, -List.any_eq_true, -List.any_eq_false, hk, hk', hw]; (repeat1' (first | apply hK | apply And.intro | intro _)) <;> clear hK K)
        | apply WPc.sq
        | apply WPc.block
        | apply WPc.skip
        | refine WPL.nil ?_
        | (apply WPL.cL (c_spec_l3In_kn _); (case q => (repeat' (first | refine And.intro ?_ ?_ | intro _ | exact cleanOut_nil | (refine Eqv.mk ?_; first | rfl | (simp -implicitDefEqProofs [hk, hk', hw]; done)) | (simp -implicitDefEqProofs [hk, hk', hw]; done) | (simp -implicitDefEqProofs [hk, hk', hw]; rfl) | (simp; done) | (simp; rfl) | rfl))))
        | ((first | refine WPc.rq tok rfl fun K hK => ?_ | refine WPL.rn tok _ (by simp [ahead, isFn]; rfl) fun K hK => ?_); simp -implicitDefEqProofs +contextual [-Int.not_le, -Int.not_lt, -Nat.not_le, -Nat.not_lt, -List.all_eq_true, -List.all_eq_false, -List.any_eq_true, -List.any_eq_false, hk, hk', hw]; (repeat1' (first | apply hK | apply And.intro | intro _)) <;> clear hK K <;> (try dsimp only [List.drop]))
        | (refine WPc.region ?_; simp only [List.toList_toArray])
        | (refine WPc.condF ?_ ?_; (focus (simp; done))))
      refine WPc.renC 25 900003 fun K hK => ?_
      simp -implicitDefEqProofs
      refine hK _ ?_; clear hK K
      refine WPc.loopV (σ := Nat) (fun j => j ≤ xs.length ∧ allC ns (xs.take j) = true) (fun j => xs.length - j) (fun j => [(9, .sc (.int .i64 j)), (8, .sl 900003 3 [] 0 j)]) (fun j => [(900003, 29, 3, (valsOf ns (xs.take j)).map V.cs), (3, 97, 5, [[.sc (.int .i64 9), .sc (.int .i64 c.n), .sc (.string c.s), .sc u3.v, .sc u4.v]]), (6, 97, 5, [[.sc (.int .i64 0), .sc (.int .i64 0), .sc (.string ⟨#[]⟩), .sc (.slice none 0 0), .sc (.slice none 0 0)]])]) [1, 2, 3, 6] 0 (by simp [valsOf]) (by simp [valsOf]) (by simp [allC]) ?_
      rintro j ⟨hj, hall⟩ s hs
      simp at hs
      subst hs
      by_cases hjl : j < xs.length
      · obtain ⟨a0, a1⟩ := hb _ (List.getElem_mem hjl)
        have a2 : xs[j].toNat < ns.length := by omega
        have hjl' : (j : Int) < (xs.length : Int) := by omega
        have ee : ndAt ns xs[j] = ns[xs[j].toNat] := ndAt_eq a2
        have e1 : isConst ⟨ns[xs[j].toNat].k, ns[xs[j].toNat].n, ns[xs[j].toNat].s, ns[xs[j].toNat].names, ns[xs[j].toNat].args⟩ = isConst ns[xs[j].toNat] := rfl
        have e2 : valOf ⟨ns[xs[j].toNat].k, ns[xs[j].toNat].n, ns[xs[j].toNat].s, ns[xs[j].toNat].names, ns[xs[j].toNat].args⟩ = valOf ns[xs[j].toNat] := rfl
        have hv : xs[j]? = some xs[j] := List.getElem?_eq_getElem hjl
        have hlv : (valsOf ns (xs.take j)).length = j := by simp [valsOf]; omega
        have hb1 : (j + 1) * 32 ≤ 140737488355328 := by omega
        have hb2 : j + 1 ≤ 9223372036854775807 := by omega
        cases hcst : isConst ns[xs[j].toNat] with
        | false =>
          have hno : allC ns xs = false := all_at hv (by rw [ee]; exact hcst)
          repeat' (first
            | (refine WPc.dropR rfl ?_; dsimp only)
            | apply WPc.sq
            | apply WPc.block
            | (refine WPc.ret (endP.val (.inr rfl) rfl rfl (by simp; rfl) ?_))
            | apply WPc.skip
            | refine WPL.nil ?_
            | (apply WPL.cL (c_spec_l24Const ⟨_, _, _, _, _⟩); (case q => (repeat' (first | refine And.intro ?_ ?_ | intro _ | exact cleanOut_nil | (refine Eqv.mk ?_; first | rfl | (simp -implicitDefEqProofs [hk', Nd.cs, nC, hjl, hjl', a0, a1, a2, e1, hcst]; done)) | (simp -implicitDefEqProofs [hk', Nd.cs, nC, hjl, hjl', a0, a1, a2, e1, hcst]; done) | (simp -implicitDefEqProofs [hk', Nd.cs, nC, hjl, hjl', a0, a1, a2, e1, hcst]; rfl) | (simp; done) | (simp; rfl) | rfl))))
            | ((first | refine WPc.rq tok rfl fun K hK => ?_ | refine WPL.rn tok _ (by simp [ahead, isFn]; rfl) fun K hK => ?_); simp -implicitDefEqProofs +contextual [-Int.not_le, -Int.not_lt, -Nat.not_le, -Nat.not_lt, -List.all_eq_true, -List.all_eq_false, -List.any_eq_true, -List.any_eq_false, hk', Nd.cs, nC, hjl, hjl', a0, a1, a2, e1, hcst]; (repeat1' (first | apply hK | apply And.intro | intro _)) <;> clear hK K <;> (try dsimp only [List.drop]))
            | (refine WPc.region ?_; simp only [List.toList_toArray])
            | (refine WPc.condT ?_ ?_; (focus (simp; done))))
          exact ⟨(u3, u4), trivial, by simp [hk], rfl⟩
        | true =>
          have hnx : valsOf ns (xs.take (j + 1)) = valsOf ns (xs.take j) ++ [valOf ns[xs[j].toNat]] := by
            rw [valsOf, List.take_add_one, hv, Option.toList_some, List.map_append, List.map_cons, List.map_nil, ee]; rfl
          repeat' (first
            | apply WPc.sq
            | apply WPc.block
            | apply WPc.skip
            | refine WPL.nil ?_
            | (apply WPL.cL (c_spec_l24Const ⟨_, _, _, _, _⟩); (case q => (repeat' (first | refine And.intro ?_ ?_ | intro _ | exact cleanOut_nil | (refine Eqv.mk ?_; first | rfl | (simp -implicitDefEqProofs [hk', Nd.cs, nC, hjl, hjl', a0, a1, a2, e1, e2, hcst, hlv, hb1, hb2, V.av, V.cs]; done)) | (simp -implicitDefEqProofs [hk', Nd.cs, nC, hjl, hjl', a0, a1, a2, e1, e2, hcst, hlv, hb1, hb2, V.av, V.cs]; done) | (simp -implicitDefEqProofs [hk', Nd.cs, nC, hjl, hjl', a0, a1, a2, e1, e2, hcst, hlv, hb1, hb2, V.av, V.cs]; rfl) | (simp; done) | (simp; rfl) | rfl))))
            | (apply WPL.cL (c_spec_l24Value ⟨_, _, _, _, _⟩); (case q => (repeat' (first | refine And.intro ?_ ?_ | intro _ | exact cleanOut_nil | (refine Eqv.mk ?_; first | rfl | (simp -implicitDefEqProofs [hk', Nd.cs, nC, hjl, hjl', a0, a1, a2, e1, e2, hcst, hlv, hb1, hb2, V.av, V.cs]; done)) | (simp -implicitDefEqProofs [hk', Nd.cs, nC, hjl, hjl', a0, a1, a2, e1, e2, hcst, hlv, hb1, hb2, V.av, V.cs]; done) | (simp -implicitDefEqProofs [hk', Nd.cs, nC, hjl, hjl', a0, a1, a2, e1, e2, hcst, hlv, hb1, hb2, V.av, V.cs]; rfl) | (simp; done) | (simp; rfl) | rfl))))
            | ((first | refine WPc.rq tok rfl fun K hK => ?_ | refine WPL.rn tok _ (by simp [ahead, isFn]; rfl) fun K hK => ?_); simp -implicitDefEqProofs +contextual [-Int.not_le, -Int.not_lt, -Nat.not_le, -Nat.not_lt, -List.all_eq_true, -List.all_eq_false, -List.any_eq_true, -List.any_eq_false, hk', Nd.cs, nC, hjl, hjl', a0, a1, a2, e1, e2, hcst, hlv, hb1, hb2, V.av, V.cs]; (repeat1' (first | apply hK | apply And.intro | intro _)) <;> clear hK K <;> (try dsimp only [List.drop]))
            | (refine WPc.region ?_; simp only [List.toList_toArray])
            | (refine WPc.condT ?_ ?_; (focus (simp; done)))
            | (refine WPc.condF ?_ ?_; (focus (simp; done))))
          refine ⟨j + 1, ⟨⟨hjl, all_next hv (by rw [ee]; exact hcst) hall⟩, by first | omega | (simp only; omega) | assumption⟩, rfl, rfl, ?_, ?_⟩ <;> simp (disch := omega) [wrap64, hnx, V.cs]
      · obtain rfl : j = xs.length := by omega
        rw [List.take_length] at hall
        simp [knY, hk, hw, hall] at hy
  · have hk' : (c.k = 9) = False := by simp [hk]
    repeat' (first
      | (refine WPc.region (id := 0) ?_; simp only [List.toList_toArray])
      | (refine WPL.ghAt 3 0 2064 3 ?_ ?_ ?_; (focus (simp; done)); (focus (simp; done)); refine fun u3 K hK => ?_; simp -implicitDefEqProofs +contextual [-Int.not_le, -Int.not_lt, -Nat.not_le, -Nat.not_lt, -List.all_eq_true, -List.all_eq_false, -List.any_eq_true, -List.any_eq_false, hk, hk']; (repeat1' (first | apply hK | apply And.intro | intro _)) <;> clear hK K)
      | (refine WPL.ghAt 3 0 2065 4 ?_ ?_ ?_; (focus (simp; done)); (focus (simp; done)); refine fun u4 K hK => ?_; simp -implicitDefEqProofs +contextual [-Int.not_le, -Int.not_lt, -Nat.not_le, -Nat.not_lt, -List.all_eq_true, -List.all_eq_false, -List.any_eq_true, -List.any_eq_false, hk, hk']; (repeat1' (first | apply hK | apply And.intro | intro _)) <;> clear hK K)
      | (refine WPc.dropR rfl ?_; dsimp only)
      | apply WPc.sq
      | (refine WPc.ret (endP.val (.inr rfl) rfl rfl (by simp; rfl) ?_))
      | refine WPL.nil ?_
      | (refine WPL.call0f ?_ ?_ ?_; (focus (simp; done)); (focus (simp; done)))
      | ((first | refine WPc.rq tok rfl fun K hK => ?_ | refine WPL.rn tok _ (by simp [ahead, isFn]; rfl) fun K hK => ?_); simp -implicitDefEqProofs +contextual [-Int.not_le, -Int.not_lt, -Nat.not_le, -Nat.not_lt, -List.all_eq_true, -List.all_eq_false, -List.any_eq_true, -List.any_eq_false, hk, hk']; (repeat1' (first | apply hK | apply And.intro | intro _)) <;> clear hK K <;> (try dsimp only [List.drop]))
      | (refine WPc.region ?_; simp only [List.toList_toArray])
      | (refine WPc.condT ?_ ?_; (focus (simp; done))))
    exact ⟨(u3, u4), trivial, rfl, rfl⟩
end Go.Own
namespace Go.Own
open Go.Lib Go.RowKit
def spN (c : Nd) (out : List Nd) (xs : List Int) : List Nd × Int :=
  if knY c out xs = true ∧ (knV c out xs).2 = 0 then (out ++ [ndOf (knV c out xs).1], out.length)
  else if c.k = 6 ∧ isConst (ndAt out (xs.getD 0 0)) = true then (out, if truth (valOf (ndAt out (xs.getD 0 0))) = true then xs.getD 1 0 else xs.getD 2 0)
  else if c.k = 11 then (if (seqTo out xs xs.length).length = 1 then (out, (seqTo out xs xs.length).getD 0 0) else (out ++ [{ c with args := seqTo out xs xs.length }], out.length))
  else (out ++ [{ c with args := xs }], out.length)
mutual
def spT : T → List Nd → List Nd × Int
  | .nd k n s names ks, out => spN ⟨k, n, s, names, []⟩ (spL ks out).1 (spL ks out).2
def spL : List T → List Nd → List Nd × List Int
  | [], out => (out, [])
  | t :: ts, out => ((spL ts (spT t out).1).1, (spT t out).2 :: (spL ts (spT t out).1).2)
end
mutual
def T.wf : T → Prop
  | .nd k n s names ks => (k = 9 → isW wKn s = true → (s ∈ uns → 0 < ks.length) ∧ (s ∉ uns → 1 < ks.length)) ∧ (k = 6 → ks.length = 3) ∧ (k = 11 → 2 ≤ ks.length) ∧ wfL ks
def wfL : List T → Prop
  | [] => True
  | t :: ts => t.wf ∧ wfL ts
end
theorem spL_snoc : ∀ (ts : List T) (t : T) (out : List Nd), spL (ts ++ [t]) out = ((spT t (spL ts out).1).1, (spL ts out).2 ++ [(spT t (spL ts out).1).2])
  | [], t, out => by simp [spL]
  | u :: ts, t, out => by simp only [List.cons_append, spL, spL_snoc ts t]
theorem spL_len : ∀ (ts : List T) (out : List Nd), (spL ts out).2.length = ts.length
  | [], out => by simp [spL]
  | u :: ts, out => by simp only [spL, List.length_cons, spL_len ts]
theorem wfL_mem {t : T} : ∀ {ts : List T}, wfL ts → t ∈ ts → t.wf
  | u :: ts, h, hm => by
    simp only [wfL] at h
    rcases List.mem_cons.1 hm with rfl | hm
    · exact h.1
    · exact wfL_mem h.2 hm
theorem spN_app (c : Nd) (out : List Nd) (xs : List Int) : ∃ e : List Nd, (spN c out xs).1 = out ++ e ∧ e.length ≤ 1 := by
  unfold spN
  split
  · exact ⟨_, rfl, by simp⟩
  · split
    · exact ⟨[], by simp, by simp⟩
    · split
      · split
        · exact ⟨[], by simp, by simp⟩
        · exact ⟨_, rfl, by simp⟩
      · exact ⟨_, rfl, by simp⟩
mutual
theorem spT_app : ∀ (t : T) (out : List Nd), ∃ e : List Nd, (spT t out).1 = out ++ e ∧ e.length ≤ t.size
  | .nd k n s names ks, out => by
    obtain ⟨e1, h1, h2⟩ := spL_app ks out
    obtain ⟨e2, h3, h4⟩ := spN_app ⟨k, n, s, names, []⟩ (spL ks out).1 (spL ks out).2
    refine ⟨e1 ++ e2, ?_, ?_⟩
    · rw [spT, h3, h1, List.append_assoc]
    · simp only [T.size, List.length_append]; omega
theorem spL_app : ∀ (ts : List T) (out : List Nd), ∃ e : List Nd, (spL ts out).1 = out ++ e ∧ e.length ≤ sizeL ts
  | [], out => ⟨[], by simp [spL], by simp⟩
  | t :: ts, out => by
    obtain ⟨e1, h1, h2⟩ := spT_app t out
    obtain ⟨e2, h3, h4⟩ := spL_app ts (spT t out).1
    refine ⟨e1 ++ e2, ?_, ?_⟩
    · rw [spL]; simp only; rw [h3, h1, List.append_assoc]
    · simp only [sizeL, List.length_append]; omega
end
theorem spT_len (t : T) (out : List Nd) : out.length ≤ (spT t out).1.length ∧ (spT t out).1.length ≤ out.length + t.size := by
  obtain ⟨e, h1, h2⟩ := spT_app t out
  rw [h1, List.length_append]; omega
theorem spL_len1 (ts : List T) (out : List Nd) : out.length ≤ (spL ts out).1.length ∧ (spL ts out).1.length ≤ out.length + sizeL ts := by
  obtain ⟨e, h1, h2⟩ := spL_app ts out
  rw [h1, List.length_append]; omega
theorem getD_bd {out : List Nd} {xs : List Int} {k : Nat} (h : inBd out xs) (hk : k < xs.length) : 0 ≤ xs.getD k 0 ∧ xs.getD k 0 < out.length := by
  rw [List.getD_eq_getElem?_getD, List.getElem?_eq_getElem hk]; exact h _ (List.getElem_mem hk)
theorem seqTo_mem {out : List Nd} {xs : List Int} {j : Nat} (hj : j ≤ xs.length) {x : Int} (h : x ∈ seqTo out xs j) : x ∈ xs := by
  unfold seqTo at h
  obtain ⟨k, hk, rfl⟩ := List.mem_map.1 h
  have := List.mem_range.1 (List.mem_filter.1 hk).1
  rw [List.getD_eq_getElem?_getD, List.getElem?_eq_getElem (by omega)]
  exact List.getElem_mem _
theorem spN_lt {c : Nd} {out : List Nd} {xs : List Int} (hb : inBd out xs) (h6 : c.k = 6 → xs.length = 3) : 0 ≤ (spN c out xs).2 ∧ (spN c out xs).2 < (spN c out xs).1.length := by
  unfold spN
  split
  · simp; omega
  · split
    · rename_i h
      have := h6 h.1
      dsimp only
      split <;> exact getD_bd hb (by omega)
    · split
      · split
        · rename_i h1
          have h0 : 0 < (seqTo out xs xs.length).length := by omega
          have := seqTo_mem (Nat.le_refl _) (List.getElem_mem h0)
          dsimp only
          rw [List.getD_eq_getElem?_getD, List.getElem?_eq_getElem h0]
          exact hb _ this
        · simp; omega
      · simp; omega
theorem inBd.app {out e : List Nd} {xs : List Int} (h : inBd out xs) : inBd (out ++ e) xs := fun a ha => by
  have := h a ha
  rw [List.length_append]; omega
mutual
theorem spT_lt : ∀ (t : T) (out : List Nd), t.wf → 0 ≤ (spT t out).2 ∧ (spT t out).2 < (spT t out).1.length
  | .nd k n s names ks, out, h => by
    simp only [T.wf] at h
    rw [spT]
    exact spN_lt (spL_bd ks out h.2.2.2) (fun e => by rw [spL_len]; exact h.2.1 e)
theorem spL_bd : ∀ (ts : List T) (out : List Nd), wfL ts → inBd (spL ts out).1 (spL ts out).2
  | [], out, h => by simp [spL, inBd]
  | t :: ts, out, h => by
    simp only [wfL] at h
    have h1 := spT_lt t out h.1
    have h2 := spL_bd ts (spT t out).1 h.2
    have h3 := (spL_len1 ts (spT t out).1).1
    rw [spL]
    intro a ha
    simp only [List.mem_cons] at ha
    rcases ha with rfl | ha
    · dsimp only; omega
    · exact h2 a ha
end
end Go.Own
set_option maxRecDepth 100000
namespace Go.Own
variable [Laid]
open Go.Lib Go.RowKit
def T.hd : T → Nd | .nd k n s names _ => ⟨k, n, s, names, []⟩
def T.ks : T → List T | .nd _ _ _ _ ks => ks
def t0 : T := .nd 0 0 zs [] []
def lf (c : Nd) : T := .nd c.k c.n c.s c.names []
def kAt (ks : List T) (i : Nat) : T := ks.getD i t0
def allK (ks : List T) : Bool := ks.all fun t => isConst t.hd
def valsK (ks : List T) : List V := ks.map fun t => valOf t.hd
def knT (h : Nd) (ks : List T) : Option V := if h.k = 9 ∧ allK ks = true then primC h.s (valsK ks) else none
def keepK (ks : List T) (k : Nat) : Bool := decide (k + 1 = ks.length) || !isConst (kAt ks k).hd
def seqK (ks : List T) : List T := ((List.range ks.length).filter (keepK ks)).map (kAt ks)
def foldN (h : Nd) (ks : List T) : T :=
  match knT h ks with
  | some v => lf (ndOf v)
  | none =>
    if h.k = 6 ∧ isConst (kAt ks 0).hd = true then (if truth (valOf (kAt ks 0).hd) = true then kAt ks 1 else kAt ks 2)
    else if h.k = 11 then (if (seqK ks).length = 1 then kAt (seqK ks) 0 else .nd h.k h.n h.s h.names (seqK ks))
    else .nd h.k h.n h.s h.names ks
mutual
def foldT : T → T
  | .nd k n s names ks => foldN ⟨k, n, s, names, []⟩ (foldL ks)
def foldL : List T → List T
  | [] => []
  | t :: ts => foldT t :: foldL ts
end
theorem Rep.at {ns : List Nd} {i : Int} {t : T} (h : Rep ns i t) : isConst (ndAt ns i) = isConst t.hd ∧ valOf (ndAt ns i) = valOf t.hd := by
  cases t with
  | nd k n s names ks =>
    simp only [Rep] at h
    obtain ⟨h0, c, hc, rfl, rfl, rfl, rfl, _⟩ := h
    have : ndAt ns i = c := by simp [ndAt, hc]
    rw [this]
    exact ⟨rfl, rfl⟩
theorem RepL.all {ns : List Nd} : ∀ {ks : List T} {xs : List Int}, RepL ns xs ks → allC ns xs = allK ks ∧ valsOf ns xs = valsK ks
  | [], xs, h => by simp only [RepL] at h; subst h; exact ⟨rfl, rfl⟩
  | t :: ts, xs, h => by
    simp only [RepL] at h
    obtain ⟨i, js, rfl, h1, h2⟩ := h
    have a := h1.at
    have b := RepL.all h2
    refine ⟨?_, ?_⟩
    · simp only [allC, allK, List.all_cons, a.1]; congr 1; exact b.1
    · simp only [valsOf, valsK, List.map_cons, a.2]; congr 1; exact b.2
theorem RepL.getD {ns : List Nd} {ks : List T} {xs : List Int} (h : RepL ns xs ks) {k : Nat} (hk : k < ks.length) : Rep ns (xs.getD k 0) (kAt ks k) := by
  have hl := h.len
  have e1 : xs[k]? = some (xs.getD k 0) := by rw [List.getD_eq_getElem?_getD, List.getElem?_eq_getElem (by omega)]; rfl
  have e2 : ks[k]? = some (kAt ks k) := by rw [kAt, List.getD_eq_getElem?_getD, List.getElem?_eq_getElem hk]; rfl
  exact h.get e1 e2
theorem RepL.bd {ns : List Nd} {ks : List T} {xs : List Int} (h : RepL ns xs ks) : inBd ns xs := by
  intro a ha
  obtain ⟨k, hk, rfl⟩ := List.mem_iff_getElem.1 ha
  have hl := h.len
  have := (h.getD (k := k) (by omega)).lt
  rw [List.getD_eq_getElem?_getD, List.getElem?_eq_getElem hk] at this
  exact this
theorem RepL.map {ns : List Nd} {f : Nat → Int} {g : Nat → T} : ∀ {l : List Nat}, (∀ k, k ∈ l → Rep ns (f k) (g k)) → RepL ns (l.map f) (l.map g)
  | [], _ => rfl
  | k :: l, h => ⟨f k, l.map f, rfl, h k (by simp), RepL.map fun j hj => h j (by simp [hj])⟩
theorem RepL.seq {ns : List Nd} {ks : List T} {xs : List Int} (h : RepL ns xs ks) : RepL ns (seqTo ns xs xs.length) (seqK ks) := by
  have hl := h.len
  have : (List.range xs.length).filter (keepAt ns xs) = (List.range ks.length).filter (keepK ks) := by
    rw [hl]
    refine List.filter_congr fun k hk => ?_
    have hk := List.mem_range.1 hk
    rw [keepAt, keepK, hl, (h.getD hk).at.1]
  rw [seqTo, seqK, this]
  exact RepL.map fun k hk => h.getD (List.mem_range.1 (List.mem_filter.1 hk).1)
theorem isW_no {ws : List ByteArray} {s : ByteArray} (h : isW ws s = false) : s ∉ ws := fun hm => by
  unfold isW at h
  rw [List.any_eq_false] at h
  exact h s hm (by simp)
theorem arith_no {s : ByteArray} {a b : V} (h : ¬ (a.k = 1 ∧ b.k = 1)) : (arithV s a b).2 ≠ 0 := by
  unfold arithV; rw [if_neg h]; simp
theorem kn_eq {s : ByteArray} {vs : List V} (hw : isW wKn s = true) (hl : (s ∈ uns → 0 < vs.length) ∧ (s ∉ uns → 1 < vs.length)) :
    primC s vs = if (l7V [] s (arg vs 0) (arg vs 1)).2 = 0 then some (l7V [] s (arg vs 0) (arg vs 1)).1 else none := by
  have h0 : ¬ vs.length = 0 := by
    by_cases h : s ∈ uns
    · have := hl.1 h; omega
    · have := hl.2 h; omega
  have e : l7V [] s (arg vs 0) (arg vs 1) = primV [] s (arg vs 0) (arg vs 1) := by
    by_cases h : s ∈ uns
    · exact l7V_eq1 h
    · refine l7V_eq ?_
      have := isW_mem hw
      simp only [wKn, List.mem_cons, List.not_mem_nil, or_false] at this
      simp only [uns, sCar, sCdr, sNull, sPair, sNot, List.mem_cons, List.not_mem_nil, or_false] at h
      simp only [w2, List.mem_cons, List.not_mem_nil, or_false]
      rcases this with h1 | h1 | h1 | h1 | h1 | h1 | h1 | h1 | h1 <;> simp_all
  rw [e, primC, if_neg h0]
  have hm := isW_mem hw
  by_cases hd : isDone s vs = true
  · rw [if_pos hd]
  · rw [if_neg hd, if_neg]
    unfold isDone at hd
    simp only [wKn, List.mem_cons, List.not_mem_nil, or_false] at hm
    by_cases hn : isNum s = true
    · rw [if_pos hn] at hd
      have hd' : ¬ ((arg vs 0).k = 1 ∧ (arg vs 1).k = 1) := by simpa using hd
      have := arith_no (s := s) hd'
      have ep : primV [] s (arg vs 0) (arg vs 1) = arithV s (arg vs 0) (arg vs 1) := by
        rcases hm with h1 | h1 | h1 | h1 | h1 | h1 | h1 | h1 | h1 <;> subst h1 <;> first | (simp [primV, sCar, sCdr, sNull, sPair, sNot, sEq, sCons]; done) | (simp [isNum] at hn)
      rw [ep]; exact this
    · exfalso
      rw [if_neg hn] at hd
      rcases hm with h1 | h1 | h1 | h1 | h1 | h1 | h1 | h1 | h1 <;> subst h1 <;> simp [isNum, sNot, sNull, sPair, sEq] at hn hd
theorem kn_no {s : ByteArray} {vs : List V} (hw : isW wKn s = false) : primC s vs = none := by
  have hm := isW_no hw
  simp only [wKn, List.mem_cons, List.not_mem_nil, or_false, not_or] at hm
  obtain ⟨m1, m2, m3, m4, m5, m6, m7, m8, m9⟩ := hm
  have hn : isNum s = false := by simp [isNum, *]
  have hd : isDone s vs = false := by simp [isDone, hn, sNot, sNull, sPair, sEq, *]
  simp [primC, hd]
def arOk (h : Nd) (n : Nat) : Prop := (h.k = 9 → isW wKn h.s = true → (h.s ∈ uns → 0 < n) ∧ (h.s ∉ uns → 1 < n)) ∧ (h.k = 6 → n = 3) ∧ (h.k = 11 → 2 ≤ n)
theorem valsK_len (ks : List T) : (valsK ks).length = ks.length := by simp [valsK]
theorem kn_spec {h : Nd} {ns : List Nd} {xs : List Int} {ks : List T} (hr : RepL ns xs ks) (ha : arOk h ks.length) :
    knT h ks = if knY h ns xs = true ∧ (knV h ns xs).2 = 0 then some (knV h ns xs).1 else none := by
  obtain ⟨r1, r2⟩ := hr.all
  by_cases hy : h.k = 9 ∧ allK ks = true
  · rw [knT, if_pos hy]
    cases hw : isW wKn h.s with
    | false =>
      have : knY h ns xs = false := by simp [knY, hw]
      rw [kn_no hw, if_neg (by simp [this])]
    | true =>
      have : knY h ns xs = true := by simp [knY, hw, r1, hy.1, hy.2]
      rw [kn_eq hw (by rw [valsK_len]; exact ha.1 hy.1 hw), ← r2]
      simp only [this, true_and]
      rfl
  · rw [knT, if_neg hy, if_neg]
    intro h2
    have := h2.1
    simp only [knY, Bool.and_eq_true, decide_eq_true_eq, r1] at this
    exact hy ⟨this.1.1, this.2⟩
theorem rep_put {ns : List Nd} {c : Nd} {ks : List T} (hr : RepL ns c.args ks) : Rep (ns ++ [c]) ns.length (.nd c.k c.n c.s c.names ks) := by
  simp only [Rep]
  refine ⟨by omega, c, by simp, rfl, rfl, rfl, rfl, fun a ha => (hr.bd a ha).2, hr.app _⟩
theorem spN_rep {h : Nd} {ns : List Nd} {xs : List Int} {ks : List T} (hr : RepL ns xs ks) (ha : arOk h ks.length) : Rep (spN h ns xs).1 (spN h ns xs).2 (foldN h ks) := by
  have hl := hr.len
  unfold spN foldN
  rw [kn_spec hr ha]
  by_cases hy : knY h ns xs = true ∧ (knV h ns xs).2 = 0
  · rw [if_pos hy, if_pos hy]
    have hn := ndOf_nil (knV h ns xs).1
    refine rep_put ?_
    rw [hn.2]
    rfl
  · rw [if_neg hy, if_neg hy]
    dsimp only
    by_cases h6 : h.k = 6
    · have h3 : ks.length = 3 := ha.2.1 h6
      have a0 := (hr.getD (k := 0) (by omega)).at
      rw [a0.1, a0.2]
      by_cases hc : isConst (kAt ks 0).hd = true
      · have n1 : h.k = 6 ∧ isConst (kAt ks 0).hd = true := ⟨h6, hc⟩
        simp only [if_pos n1]
        split
        · exact hr.getD (k := 1) (by omega)
        · exact hr.getD (k := 2) (by omega)
      · have n1 : ¬ (h.k = 6 ∧ isConst (kAt ks 0).hd = true) := fun e => hc e.2
        have n2 : ¬ h.k = 11 := by omega
        simp only [if_neg n1, if_neg n2]
        exact rep_put (c := { h with args := xs }) hr
    · have n1 : ¬ (h.k = 6 ∧ isConst (ndAt ns (xs.getD 0 0)) = true) := fun e => h6 e.1
      have n2 : ¬ (h.k = 6 ∧ isConst (kAt ks 0).hd = true) := fun e => h6 e.1
      simp only [if_neg n1, if_neg n2]
      by_cases h11 : h.k = 11
      · simp only [if_pos h11]
        have hs := hr.seq
        rw [hs.len]
        split
        · exact hs.getD (by omega)
        · exact rep_put (c := { h with args := seqTo ns xs xs.length }) hs
      · simp only [if_neg h11]
        exact rep_put (c := { h with args := xs }) hr
mutual
theorem spT_rep : ∀ (t : T) (out : List Nd), t.wf → Rep (spT t out).1 (spT t out).2 (foldT t)
  | .nd k n s names ks, out, h => by
    simp only [T.wf] at h
    rw [spT, foldT]
    have hr := spL_rep ks out h.2.2.2
    refine spN_rep hr ?_
    have hl : (foldL ks).length = ks.length := by rw [← hr.len, spL_len]
    rw [hl]
    exact ⟨fun h9 hw => h.1 h9 hw, h.2.1, h.2.2.1⟩
theorem spL_rep : ∀ (ts : List T) (out : List Nd), wfL ts → RepL (spL ts out).1 (spL ts out).2 (foldL ts)
  | [], out, h => by simp [spL, foldL, RepL]
  | t :: ts, out, h => by
    simp only [wfL] at h
    rw [spL, foldL]
    obtain ⟨e, he, _⟩ := spL_app ts (spT t out).1
    refine ⟨_, _, rfl, ?_, spL_rep ts (spT t out).1 h.2⟩
    dsimp only
    rw [he]
    exact (spT_rep t out h.1).app e
end
theorem set_same {α : Type} {l : List α} {i j : Nat} {c : α} (h : j ≠ i) : (l.set i c)[j]? = l[j]? := by
  rw [List.getElem?_set, if_neg (by omega)]
theorem rep_set {ns : List Nd} {i : Nat} {c : Nd} {ks : List T} (hi : i < ns.length) (hr : RepL ns c.args ks) (hb : ∀ a, a ∈ c.args → a < i) : Rep (ns.set i c) i (.nd c.k c.n c.s c.names ks) := by
  simp only [Rep]
  refine ⟨by omega, c, by simp [hi], rfl, rfl, rfl, rfl, hb, ?_⟩
  exact RepL.same (b := i) (fun j hj => set_same (by omega)) hb hr
theorem whAt_set {w : List Int} {i : Nat} {x : Int} (hi : i < w.length) : whAt (w.set i x) i = x := by simp [whAt, hi]
structure Step (a : List Nd) (w : List Int) (i : Nat) (t : T) (r : List Nd × List Int) : Prop where
  rep : Rep r.1 (whAt r.2 i) t
  le : whAt r.2 i ≤ i
  la : r.1.length = a.length
  lw : r.2.length = w.length
  oa : ∀ j, j ≠ i → r.1[j]? = a[j]?
  ow : ∀ j, j ≠ i → r.2[j]? = w[j]?
theorem nodeM_step {a : List Nd} {w : List Int} {i : Nat} {c : Nd} {ks : List T} (hi : i < a.length) (hw : i < w.length) (hwi : whAt w i = i) (hr : RepL a c.args ks) (hb : ∀ x, x ∈ c.args → x < i) (ha : arOk c ks.length) :
    Step a w i (foldN { c with args := [] } ks) (nodeM a w i c) := by
  have hl := hr.len
  have hs : RepL (a.set i c) c.args ks := RepL.same (b := i) (fun j hj => set_same (by omega)) hb hr
  have hown : Step a w i (.nd c.k c.n c.s c.names ks) (a.set i c, w) := ⟨by rw [hwi]; exact rep_set hi hr hb, by rw [hwi]; omega, by simp, rfl, fun j hj => set_same hj, fun j hj => rfl⟩
  have hg : ∀ {k : Nat}, k < ks.length → c.args.getD k 0 < i := fun {k} hk => by
    rw [List.getD_eq_getElem?_getD, List.getElem?_eq_getElem (show k < c.args.length by omega)]
    exact hb _ (List.getElem_mem _)
  obtain ⟨r1, r2⟩ := hs.all
  unfold nodeM foldN knT
  by_cases h9 : c.k = 9
  · rw [if_pos h9]
    unfold primM
    rw [r1, r2]
    by_cases hk : allK ks = true
    · rw [if_pos hk, if_pos ⟨h9, hk⟩]
      dsimp only
      cases primC c.s (valsK ks) with
      | none =>
        dsimp only
        rw [if_neg (by omega), if_neg (by omega)]
        exact hown
      | some v =>
        dsimp only
        have hn := ndOf_nil v
        refine ⟨?_, by dsimp only; rw [hwi]; omega, by simp, rfl, fun j hj => ?_, fun j hj => rfl⟩
        · dsimp only
          rw [hwi]
          refine rep_set (by simpa using hi) (by rw [hn.2]; rfl) (by rw [hn.2]; simp)
        · dsimp only
          rw [set_same hj, set_same hj]
    · rw [if_neg hk, if_neg (by simp [hk])]
      dsimp only
      rw [if_neg (by omega), if_neg (by omega)]
      exact hown
  · rw [if_neg h9, if_neg (by simp [h9])]
    dsimp only
    by_cases h11 : c.k = 11
    · rw [if_pos h11, if_neg (by omega), if_pos h11]
      have hq := hs.seq
      have hqb : ∀ x, x ∈ seqTo (a.set i c) c.args c.args.length → x < i := fun x hx => hb x (seqTo_mem (Nat.le_refl _) hx)
      have h2 : (a.set i c).set i (seqN (a.set i c) c) = a.set i (seqN (a.set i c) c) := by simp
      unfold seqW
      rw [h2, hq.len]
      have hq' : RepL a (seqTo (a.set i c) c.args c.args.length) (seqK ks) := RepL.same (b := i) (fun j hj => (set_same (by omega)).symm) hqb hq
      split
      · rename_i h1
        have hx := List.getElem_mem (l := seqTo (a.set i c) c.args c.args.length) (n := 0) (by rw [hq.len]; omega)
        have e : (seqTo (a.set i c) c.args c.args.length).getD 0 0 < i := by
          rw [List.getD_eq_getElem?_getD, List.getElem?_eq_getElem (by rw [hq.len]; omega)]
          exact hqb _ hx
        refine ⟨?_, ?_, by simp, by simp, fun j hj => set_same hj, fun j hj => set_same hj⟩
        · dsimp only
          rw [whAt_set hw]
          exact Rep.same (b := i) (fun j hj => set_same (by omega)) e (hq'.getD (by omega))
        · dsimp only
          rw [whAt_set hw]; omega
      · refine ⟨?_, by dsimp only; rw [hwi]; omega, by simp, rfl, fun j hj => set_same hj, fun j hj => rfl⟩
        dsimp only
        rw [hwi]
        exact rep_set (c := seqN (a.set i c) c) hi hq' hqb
    · simp only [if_neg h11]
      by_cases h6 : c.k = 6
      · rw [if_pos h6]
        have h3 : ks.length = 3 := ha.2.1 h6
        have a0 := (hs.getD (k := 0) (by omega)).at
        unfold choiceM
        rw [a0.1, a0.2]
        by_cases hc : isConst (kAt ks 0).hd = true
        · rw [if_pos ⟨h6, hc⟩, if_pos hc]
          refine ⟨?_, ?_, by simp, by simp, fun j hj => set_same hj, fun j hj => set_same hj⟩
          · dsimp only
            rw [whAt_set hw]
            split
            · exact hs.getD (k := 1) (by omega)
            · exact hs.getD (k := 2) (by omega)
          · dsimp only
            rw [whAt_set hw]
            split
            · have := hg (k := 1) (by omega); omega
            · have := hg (k := 2) (by omega); omega
        · rw [if_neg (by simp [hc]), if_neg hc]
          exact hown
      · rw [if_neg h6, if_neg (by simp [h6])]
        exact hown
end Go.Own
set_option maxRecDepth 100000
namespace Go.Own
variable [Laid]
open Go.Lib Go.RowKit
def trN (c : Nd) (ts : List T) : T := .nd c.k c.n c.s c.names (c.args.map fun a => kAt ts a.toNat)
def trs (ns : List Nd) : Nat → List T
  | 0 => []
  | i + 1 => trs ns i ++ [trN (ndAt ns i) (trs ns i)]
@[simp] theorem trs_len (ns : List Nd) : ∀ i, (trs ns i).length = i
  | 0 => rfl
  | i + 1 => by simp [trs, trs_len ns i]
theorem kAt_app {ts us : List T} {j : Nat} (h : j < ts.length) : kAt (ts ++ us) j = kAt ts j := by
  rw [kAt, kAt, List.getD_eq_getElem?_getD, List.getD_eq_getElem?_getD, List.getElem?_append_left h]
theorem trs_get {ns : List Nd} {j : Nat} : ∀ {i : Nat}, j < i → kAt (trs ns i) j = kAt (trs ns (j + 1)) j
  | i + 1, h => by
    by_cases e : j = i
    · subst e; rfl
    · rw [trs, kAt_app (by simp; omega)]
      exact trs_get (by omega)
theorem trs_last (ns : List Nd) (i : Nat) : kAt (trs ns (i + 1)) i = trN (ndAt ns i) (trs ns i) := by
  rw [trs, kAt, List.getD_eq_getElem?_getD, List.getElem?_append_right (by simp)]
  simp
structure PW (ns : List Nd) : Prop where
  bd : ∀ i, i < ns.length → ∀ a, a ∈ (ndAt ns i).args → 0 ≤ a ∧ a < i
  ar : ∀ i, i < ns.length → arOk (ndAt ns i) (ndAt ns i).args.length
theorem repL_kids {ns : List Nd} {ts : List T} : ∀ {xs : List Int}, (∀ a, a ∈ xs → Rep ns a (kAt ts a.toNat)) → RepL ns xs (xs.map fun a => kAt ts a.toNat)
  | [], _ => rfl
  | a :: xs, h => ⟨a, xs, rfl, h a (by simp), repL_kids fun b hb => h b (by simp [hb])⟩
theorem trs_rep {ns : List Nd} (hw : PW ns) : ∀ (i : Nat), i ≤ ns.length → ∀ j, j < i → Rep ns j (kAt (trs ns i) j)
  | 0, _, j, h => by omega
  | i + 1, hi, j, h => by
    rw [trs_get h]
    by_cases e : j = i
    · subst e
      rw [trs_last]
      simp only [trN, Rep]
      have hc : ns[((j : Nat) : Int).toNat]? = some (ndAt ns j) := by simp [ndAt, show j < ns.length by omega]
      have hb := hw.bd j (by omega)
      refine ⟨by omega, _, hc, rfl, rfl, rfl, rfl, fun a ha => (hb a ha).2, repL_kids fun a ha => ?_⟩
      have := hb a ha
      have e : a = ((a.toNat : Nat) : Int) := by omega
      have := trs_rep hw j (by omega) a.toNat (by omega)
      rw [← e] at this
      exact this
    · have := trs_rep hw i (by omega) j (by omega)
      rwa [trs_get (show j < i by omega)] at this
theorem wfL_map {f : Int → T} : ∀ {xs : List Int}, (∀ a, a ∈ xs → (f a).wf) → wfL (xs.map f)
  | [], _ => trivial
  | a :: xs, h => ⟨h a (by simp), wfL_map fun b hb => h b (by simp [hb])⟩
theorem trs_wf {ns : List Nd} (hw : PW ns) : ∀ (i : Nat), i ≤ ns.length → ∀ j, j < i → (kAt (trs ns i) j).wf
  | 0, _, j, h => by omega
  | i + 1, hi, j, h => by
    rw [trs_get h]
    by_cases e : j = i
    · subst e
      rw [trs_last]
      have ha := hw.ar j (by omega)
      simp only [trN, T.wf]
      have hb := hw.bd j (by omega)
      refine ⟨by simpa using ha.1, by simpa using ha.2.1, by simpa using ha.2.2, wfL_map fun a h => ?_⟩
      have := hb a h
      exact trs_wf hw j (by omega) a.toNat (by omega)
    · have := trs_wf hw i (by omega) j (by omega)
      rwa [trs_get (show j < i by omega)] at this
def dot : List Int → List Nat → Int
  | x :: xs, s :: ss => x * s + dot xs ss
  | _, _ => 0
def szs (ts : List T) : List Nat := ts.map T.size
theorem dot_zero : ∀ (n : Nat) (ss : List Nat), dot (List.replicate n 0) ss = 0
  | 0, ss => by simp [dot]
  | n + 1, [] => by simp [List.replicate_succ, dot]
  | n + 1, s :: ss => by simp [List.replicate_succ, dot, dot_zero n ss]
theorem dot_bump : ∀ (l : List Int) (ss : List Nat) (k : Nat), k < l.length → k < ss.length → dot (l.modify k (· + 1)) ss = dot l ss + (ss.getD k 0 : Nat)
  | x :: l, s :: ss, 0, _, _ => by simp [dot, Int.add_mul]; omega
  | x :: l, s :: ss, k + 1, h1, h2 => by
    have := dot_bump l ss k (by simpa using h1) (by simpa using h2)
    simp only [List.modify_succ_cons, dot, this, List.getD_cons_succ]
    omega
theorem dot_bumps (ss : List Nat) : ∀ (xs : List Int) (l : List Int), (∀ a, a ∈ xs → a.toNat < l.length ∧ a.toNat < ss.length) → dot (bumps l xs) ss = dot l ss + ((xs.map fun a => ss.getD a.toNat 0).sum : Nat)
  | [], l, _ => by simp [bumps]
  | a :: xs, l, h => by
    have h1 := h a (by simp)
    have := dot_bumps ss xs (bump l a) fun b hb => by rw [bump_len]; exact h b (by simp [hb])
    rw [bumps, List.foldl_cons]
    rw [bumps] at this
    rw [this, bump, dot_bump l ss _ h1.1 h1.2]
    simp only [List.map_cons, List.sum_cons]
    omega
theorem dot_ones : ∀ (l : List Int) (ss : List Nat), l.length = ss.length → (∀ x, x ∈ l → x = 1) → dot l ss = (ss.sum : Nat)
  | [], [], _, _ => rfl
  | x :: l, s :: ss, h, h1 => by
    have := dot_ones l ss (by simpa using h) fun y hy => h1 y (by simp [hy])
    rw [dot, this, h1 x (by simp), List.sum_cons]
    omega
theorem dot_app : ∀ (l m : List Int) (ss tt : List Nat), l.length = ss.length → dot (l ++ m) (ss ++ tt) = dot l ss + dot m tt
  | [], m, [], tt, _ => by simp [dot]
  | x :: l, m, s :: ss, tt, h => by
    have := dot_app l m ss tt (by simpa using h)
    simp only [List.cons_append, dot, this]
    omega
theorem sizeL_map {f : Int → T} : ∀ (xs : List Int), sizeL (xs.map f) = (xs.map fun a => (f a).size).sum
  | [] => rfl
  | a :: xs => by simp only [List.map_cons, sizeL, List.sum_cons, sizeL_map xs]
theorem szs_get {ts : List T} {k : Nat} (h : k < ts.length) : (szs ts).getD k 0 = (kAt ts k).size := by
  rw [szs, kAt, List.getD_eq_getElem?_getD, List.getD_eq_getElem?_getD, List.getElem?_map, List.getElem?_eq_getElem h]
  rfl
theorem szs_sum {ns : List Nd} (hw : PW ns) : ∀ i, i ≤ ns.length → ((szs (trs ns i)).sum : Int) = i + dot (seenTo ns i) (szs (trs ns ns.length))
  | 0, _ => by rw [seenTo_zero, dot_zero]; rfl
  | i + 1, hi => by
    have ih := szs_sum hw i (by omega)
    have hb := hw.bd i (by omega)
    have e : ns[i] = ndAt ns i := by simp [ndAt, show i < ns.length by omega]
    rw [seenTo_next (show i < ns.length by omega), e, dot_bumps _ _ _ fun a ha => by have := hb a ha; simp [szs]; omega]
    have hs : (szs (trs ns (i + 1))).sum = (szs (trs ns i)).sum + (((ndAt ns i).args.map fun a => (szs (trs ns ns.length)).getD a.toNat 0).sum + 1) := by
      rw [trs]
      simp only [szs, List.map_append, List.sum_append, List.map_cons, List.map_nil, List.sum_cons, List.sum_nil, trN, T.size, sizeL_map]
      have : ((ndAt ns i).args.map fun a => (kAt (trs ns i) a.toNat).size) = (ndAt ns i).args.map fun a => ((trs ns ns.length).map T.size).getD a.toNat 0 := by
        refine List.map_congr_left fun a ha => ?_
        have := hb a ha
        have e2 := szs_get (ts := trs ns ns.length) (k := a.toNat) (by simp; omega)
        rw [szs] at e2
        rw [e2, trs_get (show a.toNat < i by omega), trs_get (show a.toNat < ns.length by omega)]
      rw [this]
      omega
    rw [hs]
    omega
theorem progOk_seen_all {p : Pg} (h : progOk p = true) : ∀ x, x ∈ (seenTo p.nodes p.nodes.length).take (p.nodes.length - 1) → x = 1 := by
  simp only [progOk, Bool.and_eq_true] at h
  intro x hx
  have := List.all_eq_true.1 h.2 x hx
  simpa using this
theorem ndAt_nat {ns : List Nd} {i : Nat} (h : i < ns.length) : ndAt ns i = ns[i] := by simp [ndAt, h]
theorem progOk_get {p : Pg} (h : progOk p = true) {i : Nat} (hi : i < p.nodes.length) : nodeOk (ndAt p.nodes i) = true ∧ ∀ a, a ∈ (ndAt p.nodes i).args → 0 ≤ a ∧ a < i := by
  simp only [progOk, Bool.and_eq_true] at h
  have := List.all_eq_true.1 h.1.2 i (List.mem_range.2 hi)
  rw [okNode_eq hi, Bool.and_eq_true] at this
  rw [ndAt_nat hi]
  refine ⟨this.1, fun a ha => ?_⟩
  have := List.all_eq_true.1 this.2 a ha
  simp only [inRange, Bool.and_eq_true, decide_eq_true_eq] at this
  omega
theorem nodeOk_ar {c : Nd} (h : nodeOk c = true) : arOk c c.args.length := by
  unfold nodeOk at h
  refine ⟨fun h9 hw => ?_, fun h6 => ?_, fun h11 => ?_⟩
  · simp only [h9] at h
    rw [if_neg (by decide), if_neg (by decide), if_neg (by decide), if_neg (by decide), if_neg (by decide), if_neg (by decide), if_neg (by decide), if_neg (by decide), if_pos trivial] at h
    have hm := isW_mem hw
    simp only [wKn, List.mem_cons, List.not_mem_nil, or_false] at hm
    have hp : arity c.s = c.args.length := by
      unfold primOk at h
      rw [if_neg, if_neg, if_neg] at h
      · simp only [Bool.and_eq_true, decide_eq_true_eq] at h; exact h.1.2
      all_goals (rcases hm with e | e | e | e | e | e | e | e | e <;> rw [e] <;> decide)
    refine ⟨fun hs => ?_, fun hs => ?_⟩
    · have : arity c.s = 1 ∨ c.s = sCar ∨ c.s = sCdr := by
        simp only [uns, List.mem_cons, List.not_mem_nil, or_false] at hs
        rcases hs with e | e | e | e | e
        · exact .inr (.inl e)
        · exact .inr (.inr e)
        all_goals (left; rw [e]; decide +kernel)
      rcases this with e | e | e
      · omega
      · rcases hm with e2 | e2 | e2 | e2 | e2 | e2 | e2 | e2 | e2 <;> rw [e2] at e <;> simp [sCar] at e
      · rcases hm with e2 | e2 | e2 | e2 | e2 | e2 | e2 | e2 | e2 <;> rw [e2] at e <;> simp [sCdr] at e
    · have : arity c.s = 2 := by
        rcases hm with e | e | e | e | e | e | e | e | e
        all_goals first
          | (rw [e]; decide +kernel)
          | (exfalso; rw [e] at hs; exact hs (by simp [uns, sNull, sPair, sNot]))
      omega
  · simp only [h6] at h
    have : ((c.n = 0 ∧ c.s = zs) ∧ c.names = []) ∧ c.args.length = 3 := by simpa using h
    exact this.2
  · simp only [h11] at h
    have : ((c.n = 0 ∧ c.s = zs) ∧ c.names = []) ∧ 2 ≤ c.args.length := by simpa using h
    exact this.2
theorem pw_of {p : Pg} (h : progOk p = true) : PW p.nodes := ⟨fun i hi => (progOk_get h hi).2, fun i hi => nodeOk_ar (progOk_get h hi).1⟩
theorem progOk_pos {p : Pg} (h : progOk p = true) : 0 < p.nodes.length ∧ p.nodes.length ≤ 400 ∧ p.root = (p.nodes.length : Int) - 1 := by
  simp only [progOk, Bool.and_eq_true, inRange, decide_eq_true_eq] at h
  omega
def Pg.tree (p : Pg) : T := kAt (trs p.nodes p.nodes.length) (p.nodes.length - 1)
theorem tree_rep {p : Pg} (h : progOk p = true) : Rep p.nodes p.root p.tree ∧ p.tree.wf := by
  obtain ⟨h1, h2, h3⟩ := progOk_pos h
  have e : p.root = ((p.nodes.length - 1 : Nat) : Int) := by omega
  rw [e]
  exact ⟨trs_rep (pw_of h) _ (Nat.le_refl _) _ (by omega), trs_wf (pw_of h) _ (Nat.le_refl _) _ (by omega)⟩
theorem tree_size {p : Pg} (h : progOk p = true) : p.tree.size = p.nodes.length := by
  obtain ⟨h1, h2, h3⟩ := progOk_pos h
  have hw := pw_of h
  obtain ⟨m, hm⟩ : ∃ m, p.nodes.length = m + 1 := ⟨p.nodes.length - 1, by omega⟩
  have hs := szs_sum hw (m + 1) (by omega)
  have hl : (seenTo p.nodes p.nodes.length).length = m + 1 := by simp [hm]
  have hlast := seen_last h1 (fun i hi => by
    have := progOk_get h hi
    rw [ndAt_nat hi] at this
    rw [okNode_eq hi, this.1, Bool.true_and]
    refine List.all_eq_true.2 fun a ha => ?_
    have := this.2 a ha
    simp only [inRange, Bool.and_eq_true, decide_eq_true_eq]; omega) _ (Nat.le_refl p.nodes.length)
  have hsplit : seenTo p.nodes p.nodes.length = (seenTo p.nodes p.nodes.length).take m ++ [0] := by
    have hd : (seenTo p.nodes p.nodes.length).drop m = [0] := by
      have h5 : m < (seenTo p.nodes p.nodes.length).length := by omega
      rw [List.drop_eq_getElem_cons h5, List.drop_eq_nil_of_le (by omega)]
      rw [show p.nodes.length - 1 = m by omega, List.getElem?_eq_getElem h5] at hlast
      injection hlast with hlast
      rw [hlast]
    conv => lhs; rw [← List.take_append_drop m (seenTo p.nodes p.nodes.length), hd]
  have hts : trs p.nodes (m + 1) = trs p.nodes m ++ [trN (ndAt p.nodes m) (trs p.nodes m)] := rfl
  have htr : p.tree = trN (ndAt p.nodes m) (trs p.nodes m) := by
    rw [Pg.tree, show p.nodes.length - 1 = m by omega, hm, trs_last]
  rw [hm] at hsplit
  rw [hm, hsplit, hts] at hs
  have e1 : szs (trs p.nodes m ++ [trN (ndAt p.nodes m) (trs p.nodes m)]) = szs (trs p.nodes m) ++ [(trN (ndAt p.nodes m) (trs p.nodes m)).size] := by simp [szs]
  rw [e1, dot_app _ _ _ _ (by simp [szs, hm]), dot_ones _ _ (by simp [szs, hm])] at hs
  · simp only [List.sum_append, List.sum_cons, List.sum_nil, dot] at hs
    rw [htr, hm]
    omega
  · intro x hx
    have := progOk_seen_all h x
    rw [show p.nodes.length - 1 = m by omega, hm] at this
    exact this hx
end Go.Own
