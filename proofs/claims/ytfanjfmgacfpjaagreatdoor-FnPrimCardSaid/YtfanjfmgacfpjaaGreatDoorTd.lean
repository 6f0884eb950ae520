import Derived.Test.YtfanjfmgacfpjaaGreatDoorTc
/- Lemmas for the proof in the last text of this claim. -/
set_option linter.unusedVariables false
set_option linter.unusedSimpArgs false
set_option linter.unusedSectionVars false
set_option maxRecDepth 1000000
set_option maxHeartbeats 4000000
namespace Go.Own
attribute [local irreducible] WPc WPL WPS WPS1 WPS2 HAny endP
variable [Laid]
open Go.Lib Go.RowKit
def isNum (s : ByteArray) : Bool := decide (s = ⟨#[43]⟩) || decide (s = ⟨#[45]⟩) || decide (s = ⟨#[42]⟩) || decide (s = ⟨#[60]⟩) || decide (s = ⟨#[61]⟩)
def l7H (h : List Cl) (s : ByteArray) (a b : V) : List Cl := if s = sCons then allocH h (consC [a, b]) else h
def l7V (h : List Cl) (s : ByteArray) (a b : V) : V × Int :=
  if isNum s = true then (if a.k = 1 ∧ b.k = 1 then numsV s a.n b.n else (noV, 2))
  else if s = sCons then allocV h 5 else if s = sCar then partV h a 0 else if s = sCdr then partV h a 1 else if s = sNull then (boolV (decide (a.k = 3)), 0)
  else if s = sPair then (boolV (decide (a.k = 5)), 0) else if s = sNot then (boolV (!truth a), 0) else (boolV (a.eqb b), 0)
theorem c_spec_l7Prim1 (h : List Cl) (s : ByteArray) (a : List V) (h1 : h.length ≤ 1000000000) (h0 : 0 < a.length) (hs : s ∈ uns) (h4 : s = sCar ∨ s = sCdr → okPair h a[0]) : Con PP 52 [.sl 0 6 [] 0 h.length, .sc (.string s), .fz (a.map V.cs)] [(0, heapR h)] [] (fun r o => r = .tup [.sl 0 6 [] 0 h.length, (l7V h s a[0] noV).1.av, .sc (.int .i64 (l7V h s a[0] noV).2)] ∧ o = [(0, heapR h)]) := by
  simp only [uns, List.mem_cons, List.not_mem_nil, or_false] at hs
  rcases hs with rfl | rfl | rfl | rfl | rfl
  · have hp := h4 (.inl rfl)
    by_cases hk : a[0].k = 5
    · obtain ⟨g0, hlt, hv⟩ := hp hk
      have hv0 : 0 < h[a[0].n.toNat].vals.length := by omega
      have hv2 : (1 : Int) < (h[a[0].n.toNat].vals.length : Int) := by omega
      have hlt2 : a[0].n < (h.length : Int) := by omega
      have hk' : (a[0].k = 5) = True := by simp [hk]
      have e1 : (partV h a[0] 0).1 = h[a[0].n.toNat].vals[0] := by simp [partV, partAt, hk, hlt, hv, hv0]
      have e2 : (partV h a[0] 0).2 = 0 := by simp [partV, hk]
      refine Con.of tok (nt := 141) Go.Proofs.Tryz.func52 (by kernel_rfl) rfl rfl rfl (Nat.le_of_ble_eq_true rfl) fun G => ?_
      simp only [entSt, tmOf, List.append_nil, List.cons_append, List.nil_append, heapR, sCar]
      repeat' (first
        | apply WPc.sq
        | apply WPc.block
        | (refine WPc.ret (endP.own [(0, heapR h)] (.inr rfl) rfl rfl (by simp; rfl) ?_ ?_ (by simp)))
        | apply WPc.skip
        | (refine WPc.rq tok rfl fun K hK => ?_; simp -implicitDefEqProofs +contextual [-Int.not_le, -Int.not_lt, -Nat.not_le, -Nat.not_lt, -List.all_eq_true, -List.all_eq_false, -List.any_eq_true, -List.any_eq_false, V.cs, V.av, h0, boolV, g0, hlt, hlt2, hv, hv0, hv2, hk', Cl.ow]; (fail_if_success guard_target =ₛ False); (repeat' (first | refine hK _ ?_ | refine And.intro ?_ ?_ | intro _)) <;> clear hK K)
        | (refine WPc.sched (id := 21) tok [(12, [0, 7, 65])] [(0, []), (1, []), (2, []), (3, []), (4, []), (5, []), (6, []), (7, []), (8, []), (9, []), (10, []), (11, []), (12, [0, 7, 65]), (13, [])] (by kernel_rfl) ?_)
        | (refine WPS.nil ?_)
        | (refine WPS.rn tok _ (by simp [aheadS]; rfl) fun K hK => ?_; simp -implicitDefEqProofs +contextual [-Int.not_le, -Int.not_lt, -Nat.not_le, -Nat.not_lt, -List.all_eq_true, -List.all_eq_false, -List.any_eq_true, -List.any_eq_false, V.cs, V.av, h0, boolV, g0, hlt, hlt2, hv, hv0, hv2, hk', Cl.ow]; (fail_if_success guard_target =ₛ False); (repeat' (first | refine hK _ ?_ | refine And.intro ?_ ?_ | intro _)) <;> clear hK K <;> (try simp only [Nat.reduceAdd, List.drop_succ_cons, List.drop_zero]))
        | (refine WPS.eff tok fun K hK => ?_; simp -implicitDefEqProofs +contextual [-Int.not_le, -Int.not_lt, -Nat.not_le, -Nat.not_lt, -List.all_eq_true, -List.all_eq_false, -List.any_eq_true, -List.any_eq_false, V.cs, V.av, h0, boolV, g0, hlt, hlt2, hv, hv0, hv2, hk', Cl.ow]; (fail_if_success guard_target =ₛ False); (repeat' (first | refine hK _ ?_ | refine And.intro ?_ ?_ | intro _)) <;> clear hK K)
        | (refine WPc.condT ?_ ?_; (focus (simp; done)))
        | (refine WPc.condF ?_ ?_; (focus (simp; done))))
      all_goals (clear h4 hp; simp_all [heapR, l7V, isNum, sCar, sCdr, sNull, sPair, sNot, sEq, sCons, V.av, boolV, noV])
    · have hk' : (a[0].k = 5) = False := by simp [hk]
      refine Con.of tok (nt := 141) Go.Proofs.Tryz.func52 (by kernel_rfl) rfl rfl rfl (Nat.le_of_ble_eq_true rfl) fun G => ?_
      simp only [entSt, tmOf, List.append_nil, List.cons_append, List.nil_append, heapR, sCar]
      repeat' (first
        | apply WPc.sq
        | apply WPc.block
        | (refine WPc.ret (endP.own [(0, heapR h)] (.inr rfl) rfl rfl (by simp; rfl) ?_ ?_ (by simp)))
        | apply WPc.skip
        | (refine WPc.rq tok rfl fun K hK => ?_; simp -implicitDefEqProofs +contextual [-Int.not_le, -Int.not_lt, -Nat.not_le, -Nat.not_lt, -List.all_eq_true, -List.all_eq_false, -List.any_eq_true, -List.any_eq_false, V.cs, V.av, h0, boolV, hk']; (fail_if_success guard_target =ₛ False); (repeat' (first | refine hK _ ?_ | refine And.intro ?_ ?_ | intro _)) <;> clear hK K)
        | (refine WPc.condT ?_ ?_; (focus (simp; done)))
        | (refine WPc.condF ?_ ?_; (focus (simp; done))))
      all_goals (clear h4 hp; simp_all [heapR, l7V, partV, isNum, sCar, sCdr, sNull, sPair, sNot, sEq, sCons, V.av, boolV, noV])
  · have hp := h4 (.inr rfl)
    by_cases hk : a[0].k = 5
    · obtain ⟨g0, hlt, hv⟩ := hp hk
      have hv0 : 0 < h[a[0].n.toNat].vals.length := by omega
      have hv2 : (1 : Int) < (h[a[0].n.toNat].vals.length : Int) := by omega
      have hlt2 : a[0].n < (h.length : Int) := by omega
      have hk' : (a[0].k = 5) = True := by simp [hk]
      have e1 : (partV h a[0] 1).1 = h[a[0].n.toNat].vals[1] := by simp [partV, partAt, hk, hlt, hv, hv0]
      have e2 : (partV h a[0] 1).2 = 0 := by simp [partV, hk]
      refine Con.of tok (nt := 141) Go.Proofs.Tryz.func52 (by kernel_rfl) rfl rfl rfl (Nat.le_of_ble_eq_true rfl) fun G => ?_
      simp only [entSt, tmOf, List.append_nil, List.cons_append, List.nil_append, heapR, sCdr]
      repeat' (first
        | apply WPc.sq
        | apply WPc.block
        | (refine WPc.ret (endP.own [(0, heapR h)] (.inr rfl) rfl rfl (by simp; rfl) ?_ ?_ (by simp)))
        | apply WPc.skip
        | (refine WPc.rq tok rfl fun K hK => ?_; simp -implicitDefEqProofs +contextual [-Int.not_le, -Int.not_lt, -Nat.not_le, -Nat.not_lt, -List.all_eq_true, -List.all_eq_false, -List.any_eq_true, -List.any_eq_false, V.cs, V.av, h0, boolV, g0, hlt, hlt2, hv, hv0, hv2, hk', Cl.ow]; (fail_if_success guard_target =ₛ False); (repeat' (first | refine hK _ ?_ | refine And.intro ?_ ?_ | intro _)) <;> clear hK K)
        | (refine WPc.sched (id := 22) tok [(12, [0, 7, 65])] [(0, []), (1, []), (2, []), (3, []), (4, []), (5, []), (6, []), (7, []), (8, []), (9, []), (10, []), (11, []), (12, [0, 7, 65]), (13, [])] (by kernel_rfl) ?_)
        | (refine WPS.nil ?_)
        | (refine WPS.rn tok _ (by simp [aheadS]; rfl) fun K hK => ?_; simp -implicitDefEqProofs +contextual [-Int.not_le, -Int.not_lt, -Nat.not_le, -Nat.not_lt, -List.all_eq_true, -List.all_eq_false, -List.any_eq_true, -List.any_eq_false, V.cs, V.av, h0, boolV, g0, hlt, hlt2, hv, hv0, hv2, hk', Cl.ow]; (fail_if_success guard_target =ₛ False); (repeat' (first | refine hK _ ?_ | refine And.intro ?_ ?_ | intro _)) <;> clear hK K <;> (try simp only [Nat.reduceAdd, List.drop_succ_cons, List.drop_zero]))
        | (refine WPS.eff tok fun K hK => ?_; simp -implicitDefEqProofs +contextual [-Int.not_le, -Int.not_lt, -Nat.not_le, -Nat.not_lt, -List.all_eq_true, -List.all_eq_false, -List.any_eq_true, -List.any_eq_false, V.cs, V.av, h0, boolV, g0, hlt, hlt2, hv, hv0, hv2, hk', Cl.ow]; (fail_if_success guard_target =ₛ False); (repeat' (first | refine hK _ ?_ | refine And.intro ?_ ?_ | intro _)) <;> clear hK K)
        | (refine WPc.condT ?_ ?_; (focus (simp; done)))
        | (refine WPc.condF ?_ ?_; (focus (simp; done))))
      all_goals (clear h4 hp; simp_all [heapR, l7V, isNum, sCar, sCdr, sNull, sPair, sNot, sEq, sCons, V.av, boolV, noV])
    · have hk' : (a[0].k = 5) = False := by simp [hk]
      refine Con.of tok (nt := 141) Go.Proofs.Tryz.func52 (by kernel_rfl) rfl rfl rfl (Nat.le_of_ble_eq_true rfl) fun G => ?_
      simp only [entSt, tmOf, List.append_nil, List.cons_append, List.nil_append, heapR, sCdr]
      repeat' (first
        | apply WPc.sq
        | apply WPc.block
        | (refine WPc.ret (endP.own [(0, heapR h)] (.inr rfl) rfl rfl (by simp; rfl) ?_ ?_ (by simp)))
        | (refine WPc.rq tok rfl fun K hK => ?_; simp -implicitDefEqProofs +contextual [-Int.not_le, -Int.not_lt, -Nat.not_le, -Nat.not_lt, -List.all_eq_true, -List.all_eq_false, -List.any_eq_true, -List.any_eq_false, V.cs, V.av, h0, boolV, hk']; (fail_if_success guard_target =ₛ False); (repeat' (first | refine hK _ ?_ | refine And.intro ?_ ?_ | intro _)) <;> clear hK K)
        | (refine WPc.condT ?_ ?_; (focus (simp; done)))
        | (refine WPc.condF ?_ ?_; (focus (simp; done))))
      all_goals (clear h4 hp; simp_all [heapR, l7V, partV, isNum, sCar, sCdr, sNull, sPair, sNot, sEq, sCons, V.av, boolV, noV])
  · refine Con.of tok (nt := 141) Go.Proofs.Tryz.func52 (by kernel_rfl) rfl rfl rfl (Nat.le_of_ble_eq_true rfl) fun G => ?_
    simp only [entSt, tmOf, List.append_nil, List.cons_append, List.nil_append, heapR, sNull]
    repeat' (first
      | apply WPc.sq
      | apply WPc.block
      | (refine WPc.ret (endP.own [(0, heapR h)] (.inr rfl) rfl rfl (by simp; rfl) ?_ ?_ (by simp)))
      | refine WPL.nil ?_
      | (apply WPL.callL (c_spec_l7Bool _); (case hd => (simp; done)); (case hl => (first | (simp; done) | (simp; rfl) | (simp -implicitDefEqProofs [V.cs, V.av, h0, boolV]; done) | (simp -implicitDefEqProofs [V.cs, V.av, h0, boolV]; rfl))); (case hb => rfl); (case hins => (first | (simp -implicitDefEqProofs [V.cs, V.av, h0, boolV]; done) | (simp -implicitDefEqProofs [V.cs, V.av, h0, boolV]; rfl))); (case he => (first | rfl | (simp -implicitDefEqProofs [V.cs, V.av, h0, boolV]; done))); (case hz => (first | (exact .inl rfl) | (simp; done) | (exact .inr (by simp -implicitDefEqProofs [V.cs, V.av, h0, boolV])))))
      | (refine WPc.rq tok rfl fun K hK => ?_; simp -implicitDefEqProofs +contextual [-Int.not_le, -Int.not_lt, -Nat.not_le, -Nat.not_lt, -List.all_eq_true, -List.all_eq_false, -List.any_eq_true, -List.any_eq_false, V.cs, V.av, h0, boolV]; (fail_if_success guard_target =ₛ False); (repeat' (first | refine hK _ ?_ | refine And.intro ?_ ?_ | intro _)) <;> clear hK K)
      | (refine WPL.rn tok _ (by simp [ahead, isFn]; rfl) fun K hK => ?_; simp -implicitDefEqProofs +contextual [-Int.not_le, -Int.not_lt, -Nat.not_le, -Nat.not_lt, -List.all_eq_true, -List.all_eq_false, -List.any_eq_true, -List.any_eq_false, V.cs, V.av, h0, boolV]; (fail_if_success guard_target =ₛ False); (repeat' (first | refine hK _ ?_ | refine And.intro ?_ ?_ | intro _)) <;> clear hK K <;> (try simp only [Nat.reduceAdd, List.drop_succ_cons, List.drop_zero]))
      | (refine WPc.region ?_; simp only [List.toList_toArray])
      | (refine WPc.condT ?_ ?_; (focus (simp; done)))
      | (refine WPc.condF ?_ ?_; (focus (simp; done))))
    all_goals (clear h4; simp_all [heapR, l7V, isNum, sCar, sCdr, sNull, sPair, sNot, sEq, sCons, V.av, boolV, noV])
  · refine Con.of tok (nt := 141) Go.Proofs.Tryz.func52 (by kernel_rfl) rfl rfl rfl (Nat.le_of_ble_eq_true rfl) fun G => ?_
    simp only [entSt, tmOf, List.append_nil, List.cons_append, List.nil_append, heapR, sPair]
    repeat' (first
      | apply WPc.sq
      | apply WPc.block
      | (refine WPc.ret (endP.own [(0, heapR h)] (.inr rfl) rfl rfl (by simp; rfl) ?_ ?_ (by simp)))
      | refine WPL.nil ?_
      | (apply WPL.callL (c_spec_l7Bool _); (case hd => (simp; done)); (case hl => (first | (simp; done) | (simp; rfl) | (simp -implicitDefEqProofs [V.cs, V.av, h0, boolV]; done) | (simp -implicitDefEqProofs [V.cs, V.av, h0, boolV]; rfl))); (case hb => rfl); (case hins => (first | (simp -implicitDefEqProofs [V.cs, V.av, h0, boolV]; done) | (simp -implicitDefEqProofs [V.cs, V.av, h0, boolV]; rfl))); (case he => (first | rfl | (simp -implicitDefEqProofs [V.cs, V.av, h0, boolV]; done))); (case hz => (first | (exact .inl rfl) | (simp; done) | (exact .inr (by simp -implicitDefEqProofs [V.cs, V.av, h0, boolV])))))
      | (refine WPc.rq tok rfl fun K hK => ?_; simp -implicitDefEqProofs +contextual [-Int.not_le, -Int.not_lt, -Nat.not_le, -Nat.not_lt, -List.all_eq_true, -List.all_eq_false, -List.any_eq_true, -List.any_eq_false, V.cs, V.av, h0, boolV]; (fail_if_success guard_target =ₛ False); (repeat' (first | refine hK _ ?_ | refine And.intro ?_ ?_ | intro _)) <;> clear hK K)
      | (refine WPL.rn tok _ (by simp [ahead, isFn]; rfl) fun K hK => ?_; simp -implicitDefEqProofs +contextual [-Int.not_le, -Int.not_lt, -Nat.not_le, -Nat.not_lt, -List.all_eq_true, -List.all_eq_false, -List.any_eq_true, -List.any_eq_false, V.cs, V.av, h0, boolV]; (fail_if_success guard_target =ₛ False); (repeat' (first | refine hK _ ?_ | refine And.intro ?_ ?_ | intro _)) <;> clear hK K <;> (try simp only [Nat.reduceAdd, List.drop_succ_cons, List.drop_zero]))
      | (refine WPc.region ?_; simp only [List.toList_toArray])
      | (refine WPc.condT ?_ ?_; (focus (simp; done)))
      | (refine WPc.condF ?_ ?_; (focus (simp; done))))
    all_goals (clear h4; simp_all [heapR, l7V, isNum, sCar, sCdr, sNull, sPair, sNot, sEq, sCons, V.av, boolV, noV])
  · refine Con.of tok (nt := 141) Go.Proofs.Tryz.func52 (by kernel_rfl) rfl rfl rfl (Nat.le_of_ble_eq_true rfl) fun G => ?_
    simp only [entSt, tmOf, List.append_nil, List.cons_append, List.nil_append, heapR, sNot]
    repeat' (first
      | apply WPc.sq
      | apply WPc.block
      | (refine WPc.ret (endP.own [(0, heapR h)] (.inr rfl) rfl rfl (by simp; rfl) ?_ ?_ (by simp)))
      | refine WPL.nil ?_
      | (apply WPL.callL (c_spec_l7Bool _); (case hd => (simp; done)); (case hl => (first | (simp; done) | (simp; rfl) | (simp -implicitDefEqProofs [V.cs, V.av, h0, boolV]; done) | (simp -implicitDefEqProofs [V.cs, V.av, h0, boolV]; rfl))); (case hb => rfl); (case hins => (first | (simp -implicitDefEqProofs [V.cs, V.av, h0, boolV]; done) | (simp -implicitDefEqProofs [V.cs, V.av, h0, boolV]; rfl))); (case he => (first | rfl | (simp -implicitDefEqProofs [V.cs, V.av, h0, boolV]; done))); (case hz => (first | (exact .inl rfl) | (simp; done) | (exact .inr (by simp -implicitDefEqProofs [V.cs, V.av, h0, boolV])))))
      | (apply WPL.callL (c_spec_Truth ⟨_, _, _⟩); (case hd => (simp; done)); (case hl => (first | (simp; done) | (simp; rfl) | (simp -implicitDefEqProofs [V.cs, V.av, h0, boolV]; done) | (simp -implicitDefEqProofs [V.cs, V.av, h0, boolV]; rfl))); (case hb => rfl); (case hins => (first | (simp -implicitDefEqProofs [V.cs, V.av, h0, boolV]; done) | (simp -implicitDefEqProofs [V.cs, V.av, h0, boolV]; rfl))); (case he => (first | rfl | (simp -implicitDefEqProofs [V.cs, V.av, h0, boolV]; done))); (case hz => (first | (exact .inl rfl) | (simp; done) | (exact .inr (by simp -implicitDefEqProofs [V.cs, V.av, h0, boolV])))))
      | (refine WPc.rq tok rfl fun K hK => ?_; simp -implicitDefEqProofs +contextual [-Int.not_le, -Int.not_lt, -Nat.not_le, -Nat.not_lt, -List.all_eq_true, -List.all_eq_false, -List.any_eq_true, -List.any_eq_false, V.cs, V.av, h0, boolV]; (fail_if_success guard_target =ₛ False); (repeat' (first | refine hK _ ?_ | refine And.intro ?_ ?_ | intro _)) <;> clear hK K)
      | (refine WPL.rn tok _ (by simp [ahead, isFn]; rfl) fun K hK => ?_; simp -implicitDefEqProofs +contextual [-Int.not_le, -Int.not_lt, -Nat.not_le, -Nat.not_lt, -List.all_eq_true, -List.all_eq_false, -List.any_eq_true, -List.any_eq_false, V.cs, V.av, h0, boolV]; (fail_if_success guard_target =ₛ False); (repeat' (first | refine hK _ ?_ | refine And.intro ?_ ?_ | intro _)) <;> clear hK K <;> (try simp only [Nat.reduceAdd, List.drop_succ_cons, List.drop_zero]))
      | (refine WPc.region ?_; simp only [List.toList_toArray])
      | (refine WPc.condT ?_ ?_; (focus (simp; done)))
      | (refine WPc.condF ?_ ?_; (focus (simp; done))))
    all_goals (clear h4; simp_all [heapR, l7V, isNum, sCar, sCdr, sNull, sPair, sNot, sEq, sCons, V.av, boolV, noV])
end Go.Own
set_option linter.unusedVariables false
set_option linter.unusedSimpArgs false
set_option linter.unusedSectionVars false
set_option maxRecDepth 1000000
set_option maxHeartbeats 4000000
namespace Go.Own
attribute [local irreducible] WPc WPL WPS WPS1 WPS2 HAny endP
variable [Laid]
open Go.Lib Go.RowKit
theorem c_spec_l7Prim2 (h : List Cl) (s : ByteArray) (a : List V) (h1 : h.length ≤ 1000000000) (h2 : 1 < a.length) (h4 : s ≠ sCar ∧ s ≠ sCdr) : Con PP 52 [.sl 0 6 [] 0 h.length, .sc (.string s), .fz (a.map V.cs)] [(0, heapR h)] [] (fun r o => r = .tup [.sl 0 6 [] 0 (l7H h s a[0] a[1]).length, (l7V h s a[0] a[1]).1.av, .sc (.int .i64 (l7V h s a[0] a[1]).2)] ∧ o = [(0, heapR (l7H h s a[0] a[1]))]) := by
  have h0 : 0 < a.length := by omega
  have n1 : decide (s = ⟨#[99, 97, 114]⟩) = false := by simpa [sCar] using h4.1
  have n2 : decide (s = ⟨#[99, 100, 114]⟩) = false := by simpa [sCdr] using h4.2
  have hb1 : (h.length + 1) * 88 ≤ 140737488355328 := by omega
  have hb2 : h.length + 1 ≤ 9223372036854775807 := by omega
  have e : IntKind.i64.wrap (h.length : Int) = h.length := wrap64 (by omega) (by omega)
  refine Con.of tok (nt := 141) Go.Proofs.Tryz.func52 (by kernel_rfl) rfl rfl rfl (Nat.le_of_ble_eq_true rfl) fun G => ?_
  simp only [entSt, tmOf, List.append_nil, List.cons_append, List.nil_append, heapR]
  repeat' (first
    | (refine WPS.adAt 64 63 4 900001 9 1 ?_ ?_; (focus (simp; done)); refine fun K hK => ?_; simp -implicitDefEqProofs +contextual [-Int.not_le, -Int.not_lt, -Nat.not_le, -Nat.not_lt, -List.all_eq_true, -List.all_eq_false, -List.any_eq_true, -List.any_eq_false, V.cs, V.av, h0, h2, boolV, n1, n2, hb1, hb2]; (fail_if_success guard_target =ₛ False); (repeat' (first | refine hK _ ?_ | refine And.intro ?_ ?_ | intro _)) <;> clear hK K)
    | (refine WPS.rnTo tok 64 _ (by simp; rfl) fun K hK => ?_; simp -implicitDefEqProofs +contextual [-Int.not_le, -Int.not_lt, -Nat.not_le, -Nat.not_lt, -List.all_eq_true, -List.all_eq_false, -List.any_eq_true, -List.any_eq_false, V.cs, V.av, h0, h2, boolV, n1, n2, hb1, hb2]; (fail_if_success guard_target =ₛ False); (repeat' (first | refine hK _ ?_ | refine And.intro ?_ ?_ | intro _)) <;> clear hK K <;> (try simp only [Nat.reduceAdd, List.drop_succ_cons, List.drop_zero]))
    | apply WPc.sq
    | apply WPc.block
    | (refine WPc.ret (endP.own [(0, heapR (l7H h s a[0] a[1]))] (.inr rfl) rfl rfl (by simp; rfl) ?_ ?_ (by simp)))
    | apply WPc.skip
    | refine WPL.nil ?_
    | (apply WPL.callL (c_spec_l7Bool _); (case hd => (simp; done)); (case hl => (first | (simp; done) | (simp; rfl) | (simp -implicitDefEqProofs [V.cs, V.av, h0, h2, boolV, n1, n2, hb1, hb2]; done) | (simp -implicitDefEqProofs [V.cs, V.av, h0, h2, boolV, n1, n2, hb1, hb2]; rfl))); (case hb => rfl); (case hins => (first | (simp -implicitDefEqProofs [V.cs, V.av, h0, h2, boolV, n1, n2, hb1, hb2]; done) | (simp -implicitDefEqProofs [V.cs, V.av, h0, h2, boolV, n1, n2, hb1, hb2]; rfl))); (case he => (first | rfl | (simp -implicitDefEqProofs [V.cs, V.av, h0, h2, boolV, n1, n2, hb1, hb2]; done))); (case hz => (first | (exact .inl rfl) | (simp; done) | (exact .inr (by simp -implicitDefEqProofs [V.cs, V.av, h0, h2, boolV, n1, n2, hb1, hb2])))))
    | (apply WPL.callL (c_spec_Truth ⟨_, _, _⟩); (case hd => (simp; done)); (case hl => (first | (simp; done) | (simp; rfl) | (simp -implicitDefEqProofs [V.cs, V.av, h0, h2, boolV, n1, n2, hb1, hb2]; done) | (simp -implicitDefEqProofs [V.cs, V.av, h0, h2, boolV, n1, n2, hb1, hb2]; rfl))); (case hb => rfl); (case hins => (first | (simp -implicitDefEqProofs [V.cs, V.av, h0, h2, boolV, n1, n2, hb1, hb2]; done) | (simp -implicitDefEqProofs [V.cs, V.av, h0, h2, boolV, n1, n2, hb1, hb2]; rfl))); (case he => (first | rfl | (simp -implicitDefEqProofs [V.cs, V.av, h0, h2, boolV, n1, n2, hb1, hb2]; done))); (case hz => (first | (exact .inl rfl) | (simp; done) | (exact .inr (by simp -implicitDefEqProofs [V.cs, V.av, h0, h2, boolV, n1, n2, hb1, hb2])))))
    | (apply WPS1.callL (hc := (c_spec_l7Nums _ _ _)); (case ho => exact rfl); (case hg => (simp; done)); (case hd => (simp; done)); (case hl => (first | (simp; done) | (simp; rfl) | (simp -implicitDefEqProofs [V.cs, V.av, h0, h2, boolV, n1, n2, hb1, hb2]; done) | (simp -implicitDefEqProofs [V.cs, V.av, h0, h2, boolV, n1, n2, hb1, hb2]; rfl))); (case hb => rfl); (case hins => (first | (simp -implicitDefEqProofs [V.cs, V.av, h0, h2, boolV, n1, n2, hb1, hb2]; done) | (simp -implicitDefEqProofs [V.cs, V.av, h0, h2, boolV, n1, n2, hb1, hb2]; rfl) | rfl)); (case he => (first | rfl | (simp -implicitDefEqProofs [V.cs, V.av, h0, h2, boolV, n1, n2, hb1, hb2]; done))); (case hz => (first | (exact .inl rfl) | (simp; done) | (exact .inr (by simp -implicitDefEqProofs [V.cs, V.av, h0, h2, boolV, n1, n2, hb1, hb2])))))
    | (apply WPS.callL (hc := (c_spec_l7Nums _ _ _)); (case ho => exact rfl); (case hg => (simp; done)); (case hd => (simp; done)); (case hl => (first | (simp; done) | (simp; rfl) | (simp -implicitDefEqProofs [V.cs, V.av, h0, h2, boolV, n1, n2, hb1, hb2]; done) | (simp -implicitDefEqProofs [V.cs, V.av, h0, h2, boolV, n1, n2, hb1, hb2]; rfl))); (case hb => rfl); (case hins => (first | (simp -implicitDefEqProofs [V.cs, V.av, h0, h2, boolV, n1, n2, hb1, hb2]; done) | (simp -implicitDefEqProofs [V.cs, V.av, h0, h2, boolV, n1, n2, hb1, hb2]; rfl) | rfl)); (case he => (first | rfl | (simp -implicitDefEqProofs [V.cs, V.av, h0, h2, boolV, n1, n2, hb1, hb2]; done))); (case hz => (first | (exact .inl rfl) | (simp; done) | (exact .inr (by simp -implicitDefEqProofs [V.cs, V.av, h0, h2, boolV, n1, n2, hb1, hb2])))))
    | (apply WPS.callL (hc := (c_spec_l7Bool _)); (case ho => exact rfl); (case hg => (simp; done)); (case hd => (simp; done)); (case hl => (first | (simp; done) | (simp; rfl) | (simp -implicitDefEqProofs [V.cs, V.av, h0, h2, boolV, n1, n2, hb1, hb2]; done) | (simp -implicitDefEqProofs [V.cs, V.av, h0, h2, boolV, n1, n2, hb1, hb2]; rfl))); (case hb => rfl); (case hins => (first | (simp -implicitDefEqProofs [V.cs, V.av, h0, h2, boolV, n1, n2, hb1, hb2]; done) | (simp -implicitDefEqProofs [V.cs, V.av, h0, h2, boolV, n1, n2, hb1, hb2]; rfl) | rfl)); (case he => (first | rfl | (simp -implicitDefEqProofs [V.cs, V.av, h0, h2, boolV, n1, n2, hb1, hb2]; done))); (case hz => (first | (exact .inl rfl) | (simp; done) | (exact .inr (by simp -implicitDefEqProofs [V.cs, V.av, h0, h2, boolV, n1, n2, hb1, hb2])))))
    | (refine WPc.rq tok rfl fun K hK => ?_; simp -implicitDefEqProofs +contextual [-Int.not_le, -Int.not_lt, -Nat.not_le, -Nat.not_lt, -List.all_eq_true, -List.all_eq_false, -List.any_eq_true, -List.any_eq_false, V.cs, V.av, h0, h2, boolV, n1, n2, hb1, hb2]; (fail_if_success guard_target =ₛ False); (repeat' (first | refine hK _ ?_ | refine And.intro ?_ ?_ | intro _)) <;> clear hK K)
    | (refine WPL.rn tok _ (by simp [ahead, isFn]; rfl) fun K hK => ?_; simp -implicitDefEqProofs +contextual [-Int.not_le, -Int.not_lt, -Nat.not_le, -Nat.not_lt, -List.all_eq_true, -List.all_eq_false, -List.any_eq_true, -List.any_eq_false, V.cs, V.av, h0, h2, boolV, n1, n2, hb1, hb2]; (fail_if_success guard_target =ₛ False); (repeat' (first | refine hK _ ?_ | refine And.intro ?_ ?_ | intro _)) <;> clear hK K <;> (try simp only [Nat.reduceAdd, List.drop_succ_cons, List.drop_zero]))
    | (refine WPc.sched2 (id := 9) tok [(13, [9]), (14, [9, 42, 1042, 2042])] [(0, [9]), (1, [9]), (2, [9]), (3, [9]), (4, [9]), (5, [9]), (6, [9]), (7, [9]), (8, [9])] [(9, []), (10, [9]), (11, [9]), (12, [9, 42, 1042, 2042]), (13, [9]), (14, [9, 42, 1042, 2042]), (15, [])] [(13, [9]), (9, []), (10, []), (11, []), (12, [9, 42, 1042, 2042]), (14, [9, 42, 1042, 2042]), (15, [])] (by kernel_rfl) fun K hK => ?_; simp -implicitDefEqProofs +contextual [-Int.not_le, -Int.not_lt, -Nat.not_le, -Nat.not_lt, -List.all_eq_true, -List.all_eq_false, -List.any_eq_true, -List.any_eq_false, V.cs, V.av, h0, h2, boolV, n1, n2, hb1, hb2]; (fail_if_success guard_target =ₛ False); (repeat' (first | refine hK _ ?_ ?_ | refine And.intro ?_ ?_ | intro _)) <;> clear hK K)
    | (refine WPS1.eff tok fun K hK => ?_; simp -implicitDefEqProofs +contextual [-Int.not_le, -Int.not_lt, -Nat.not_le, -Nat.not_lt, -List.all_eq_true, -List.all_eq_false, -List.any_eq_true, -List.any_eq_false, V.cs, V.av, h0, h2, boolV, n1, n2, hb1, hb2]; (fail_if_success guard_target =ₛ False); (repeat' (first | refine hK _ ?_ | refine And.intro ?_ ?_ | intro _)) <;> clear hK K)
    | (refine WPc.sched (id := 10) tok [(4, [7, 9])] [(0, []), (1, []), (2, [7, 9]), (3, []), (4, [7, 9]), (5, [])] (by kernel_rfl) ?_)
    | (refine WPc.sched (id := 14) tok [(7, [62]), (9, [62, 64, 900001]), (10, [0, 64, 65])] [(0, [62, 64, 900001]), (1, []), (2, []), (3, []), (4, []), (5, []), (6, []), (7, [62]), (8, []), (9, [62, 64, 900001]), (10, [0, 64, 65]), (11, [])] (by kernel_rfl) ?_)
    | (refine WPc.sched (id := 29) tok [(10, [7, 140, 1140, 2140])] [(0, []), (1, []), (2, []), (3, []), (4, []), (5, []), (6, []), (7, []), (8, []), (9, []), (10, [7, 140, 1140, 2140]), (11, [])] (by kernel_rfl) ?_)
    | (refine WPS.nil ?_)
    | (refine WPS.rn tok _ (by simp [aheadS]; rfl) fun K hK => ?_; simp -implicitDefEqProofs +contextual [-Int.not_le, -Int.not_lt, -Nat.not_le, -Nat.not_lt, -List.all_eq_true, -List.all_eq_false, -List.any_eq_true, -List.any_eq_false, V.cs, V.av, h0, h2, boolV, n1, n2, hb1, hb2]; (fail_if_success guard_target =ₛ False); (repeat' (first | refine hK _ ?_ | refine And.intro ?_ ?_ | intro _)) <;> clear hK K <;> (try simp only [Nat.reduceAdd, List.drop_succ_cons, List.drop_zero]))
    | (refine WPS.eff tok fun K hK => ?_; simp -implicitDefEqProofs +contextual [-Int.not_le, -Int.not_lt, -Nat.not_le, -Nat.not_lt, -List.all_eq_true, -List.all_eq_false, -List.any_eq_true, -List.any_eq_false, V.cs, V.av, h0, h2, boolV, n1, n2, hb1, hb2]; (fail_if_success guard_target =ₛ False); (repeat' (first | refine hK _ ?_ | refine And.intro ?_ ?_ | intro _)) <;> clear hK K)
    | (refine WPc.region ?_; simp only [List.toList_toArray])
    | (refine WPc.condT ?_ ?_; (focus (simp; done)))
    | (refine WPc.condF ?_ ?_; (focus (simp; done)))
    | (refine WPc.cond (by simp [-Bool.not_eq_eq_eq_not]; rfl) (fun hq => ?_) (fun hq => ?_) <;> simp only [hq] <;> (try (exfalso; (simp only [decide_eq_true_eq, decide_eq_false_iff_not] at hq); omega))))
  all_goals (clear n1 n2; simp_all [heapR, l7H, l7V, isNum, sCar, sCdr, sNull, sPair, sNot, sEq, sCons, V.av, consC, boolV, noV])
  all_goals first
    | (have hx : ¬ h.length < 300 := by omega
       simp [allocH, allocV, hx, noV]; done)
    | (have hx : h.length < 300 := by omega
       simp [allocH, allocV, hx, Cl.ow, V.cs, zs]; done)
end Go.Own
set_option linter.unusedVariables false
set_option linter.unusedSimpArgs false
set_option linter.unusedSectionVars false
set_option maxRecDepth 1000000
set_option maxHeartbeats 4000000
namespace Go.Own
attribute [local irreducible] WPc WPL WPS WPS1 WPS2 HAny endP
variable [Laid]
open Go.Lib Go.RowKit
def good (h : List Cl) (s : ByteArray) (a : List V) : Bool := plainP s && decide ((a.length : Int) = arity s) && heapOk h && a.all (valueOk h)
def arg (a : List V) (i : Nat) : V := a[i]?.getD noV
def pV (h : List Cl) (s : ByteArray) (a : List V) : V × Int := if good h s a = true then primV h s (arg a 0) (arg a 1) else (noV, 2)
def pH (h : List Cl) (s : ByteArray) (a : List V) : List Cl := if good h s a = true then primH h s a else h
theorem okPair_of {h : List Cl} {v : V} (hh : heapOk h = true) (hv : valueOk h v = true) : okPair h v := by
  intro hk
  unfold valueOk at hv
  rw [if_neg (by omega)] at hv
  simp only [hk, cellKind, cellAt, Bool.and_eq_true, decide_eq_true_eq] at hv
  simp at hv
  obtain ⟨_, h0, hv⟩ := hv
  refine ⟨h0, ?_⟩
  cases hc : h[v.n.toNat]? with
  | none => simp [hc] at hv
  | some c =>
    simp only [hc, decide_eq_true_eq] at hv
    obtain ⟨hlt, he⟩ := List.getElem?_eq_some_iff.1 hc
    refine ⟨hlt, ?_⟩
    simp only [heapOk, Bool.and_eq_true, List.all_eq_true, List.mem_range] at hh
    have := hh.2 _ hlt
    rw [okI_eq hlt, he] at this
    simp only [okAt, Bool.and_eq_true] at this
    have := this.1.1
    simp only [cellOk, hv, if_true, Bool.and_eq_true, decide_eq_true_eq] at this
    rw [he]
    omega
theorem isW_mem {ws : List ByteArray} {s : ByteArray} (h : isW ws s = true) : s ∈ ws := by
  unfold isW at h
  obtain ⟨w, hw, he⟩ := List.any_eq_true.1 h
  have := of_decide_eq_true he
  exact this ▸ hw
theorem good_cases {h : List Cl} {s : ByteArray} {a : List V} (hg : good h s a = true) :
    heapOk h = true ∧ (∀ v, v ∈ a → valueOk h v = true) ∧ ((s ∈ w2 ∧ ∃ x y, a = [x, y]) ∨ (s ∈ uns ∧ ∃ x, a = [x])) := by
  simp only [good, Bool.and_eq_true, decide_eq_true_eq] at hg
  obtain ⟨⟨⟨h1, h2⟩, h3⟩, h4⟩ := hg
  refine ⟨h3, List.all_eq_true.1 h4, ?_⟩
  simp only [plainP, Bool.and_eq_true, decide_eq_true_eq, Bool.not_eq_true'] at h1
  obtain ⟨p1, p2⟩ := h1
  unfold arity at h2 p1
  by_cases c2 : isW w2 s = true
  · rw [if_pos c2] at h2
    refine .inl ⟨isW_mem c2, ?_⟩
    match a, h2 with
    | [x, y], _ => exact ⟨x, y, rfl⟩
  · rw [if_neg c2] at h2 p1
    by_cases c1 : isW w1 s = true
    · rw [if_pos c1] at h2
      refine .inr ⟨?_, ?_⟩
      · have hm := isW_mem c1
        simp only [w1, List.mem_cons, List.not_mem_nil, or_false] at hm
        rcases hm with rfl | rfl | rfl | rfl | rfl | rfl | rfl | rfl | rfl
        all_goals first
          | (simp [uns, sCar, sCdr, sNull, sPair, sNot]; done)
          | (exfalso; revert p2; simp [isW, wTyped]; done)
      · match a, h2 with
        | [x], _ => exact ⟨x, rfl⟩
    · rw [if_neg c1] at p1
      split at p1 <;> omega
theorem w2_not {s : ByteArray} (h : s ∈ w2) : s ≠ sCar ∧ s ≠ sCdr := by
  simp only [w2, List.mem_cons, List.not_mem_nil, or_false] at h
  rcases h with rfl | rfl | rfl | rfl | rfl | rfl | rfl <;> simp [sCar, sCdr]
theorem heap_le {h : List Cl} (hh : heapOk h = true) : h.length ≤ 300 := by
  simp only [heapOk, Bool.and_eq_true, decide_eq_true_eq] at hh
  exact hh.1
theorem l7V_eq {h : List Cl} {s : ByteArray} {x y : V} (hs : s ∈ w2) : l7V h s x y = primV h s x y := by
  simp only [w2, List.mem_cons, List.not_mem_nil, or_false] at hs
  rcases hs with rfl | rfl | rfl | rfl | rfl | rfl | rfl <;> simp [l7V, primV, isNum, sCar, sCdr, sNull, sPair, sNot, sEq, sCons, arithV, numsV]
theorem l7V_eq1 {h : List Cl} {s : ByteArray} {x y : V} (hs : s ∈ uns) : l7V h s x y = primV h s x y := by
  simp only [uns, List.mem_cons, List.not_mem_nil, or_false] at hs
  rcases hs with rfl | rfl | rfl | rfl | rfl <;> simp [l7V, primV, isNum, sCar, sCdr, sNull, sPair, sNot, sEq, sCons]
theorem uns_H {h : List Cl} {s : ByteArray} {a : List V} (hs : s ∈ uns) : primH h s a = h := by
  simp only [uns, List.mem_cons, List.not_mem_nil, or_false] at hs
  rcases hs with rfl | rfl | rfl | rfl | rfl <;> simp [primH, sCar, sCdr, sNull, sPair, sNot, sCons]
theorem prim_good {h : List Cl} {s : ByteArray} {a : List V} (hg : good h s a = true) : Con PP 49 [.ptr 0 1 [] 0 0, .sc (.string s), .fz (a.map V.cs)] [(0, heapB h)] [0] (fun r o => r = .tup [(primV h s (arg a 0) (arg a 1)).1.av, .sc (.int .i64 (primV h s (arg a 0) (arg a 1)).2)] ∧ o = [(0, heapB (primH h s a))]) := by
  obtain ⟨h1, h2, ⟨h3, x, y, rfl⟩ | ⟨h3, x, rfl⟩⟩ := good_cases hg
  · have hl := heap_le h1
    exact c_impl_prim2 h s [x, y] (by omega) (by simp) (by simp) (fun _ => okPair_of h1 (h2 x (by simp)))
  · have hl := heap_le h1
    exact c_impl_prim1 h s [x] (by omega) (by simp) h3 (fun _ => okPair_of h1 (h2 x (by simp)))
theorem l7_good {h : List Cl} {s : ByteArray} {a : List V} (hg : good h s a = true) : Con PP 52 [.sl 0 6 [] 0 h.length, .sc (.string s), .fz (a.map V.cs)] [(0, heapR h)] [] (fun r o => r = .tup [.sl 0 6 [] 0 (primH h s a).length, (primV h s (arg a 0) (arg a 1)).1.av, .sc (.int .i64 (primV h s (arg a 0) (arg a 1)).2)] ∧ o = [(0, heapR (primH h s a))]) := by
  obtain ⟨h1, h2, ⟨h3, x, y, rfl⟩ | ⟨h3, x, rfl⟩⟩ := good_cases hg
  · have hl := heap_le h1
    have := c_spec_l7Prim2 h s [x, y] (by omega) (by simp) (w2_not h3)
    rw [l7V_eq h3] at this
    exact this
  · have hl := heap_le h1
    have := c_spec_l7Prim1 h s [x] (by omega) (by simp) h3 (fun _ => okPair_of h1 (h2 x (by simp)))
    rw [l7V_eq1 h3] at this
    rw [uns_H h3]
    exact this
end Go.Own
set_option linter.unusedVariables false
set_option linter.unusedSimpArgs false
set_option linter.unusedSectionVars false
set_option maxRecDepth 1000000
set_option maxHeartbeats 4000000
namespace Go.Own
attribute [local irreducible] WPc WPL WPS WPS1 WPS2 HAny endP
variable [Laid]
open Go.Lib Go.RowKit
def PrimR (h : List Cl) (s : ByteArray) (a : List V) : AV := .tup [.sl 900001 6 [] 0 (pH h s a).length, (pV h s a).1.av, .sc (.int .i64 (pV h s a).2)]
theorem impl_Prim_bad [F : Facts.Of] (h : List Cl) (s : ByteArray) (a : List V) (h1 : s.size < 4294967000) (h2 : ∀ c, c ∈ h → c.sm) (h3 : ∀ v, v ∈ a → v.sm) (h4 : h.length ≤ 1000000000) (h5 : ∀ c, c ∈ h → c.rm) (hg : good h s a = false) : Con PP 9 [.fz (h.map Cl.cs), .sc (.string s), .fz (a.map V.cs)] [] [] (fun r o => r = PrimR h s a ∧ o = [(900001, heapR (pH h s a))]) := by
  have e1 : pH h s a = h := by simp [pH, hg]
  have e2 : pV h s a = (noV, 2) := by simp [pV, hg]
  simp only [PrimR, e1, e2]
  cases hp : plainP s with
  | false =>
    refine Con.of tok (nt := 47) Go.Proofs.Tryz.func9 (by kernel_rfl) rfl rfl rfl (Nat.le_of_ble_eq_true rfl) fun G => ?_
    simp only [entSt, tmOf, List.append_nil, List.cons_append, List.nil_append]
    repeat' (first
      | (refine WPc.renR 34 900001 fun K hK => ?_; simp -implicitDefEqProofs +contextual [-Int.not_le, -Int.not_lt, -Nat.not_le, -Nat.not_lt, -List.all_eq_true, -List.all_eq_false, -List.any_eq_true, -List.any_eq_false, hp, noV, V.av, heapR]; (fail_if_success guard_target =ₛ False); (repeat' (first | refine hK _ ?_ | refine And.intro ?_ ?_ | intro _)) <;> clear hK K)
      | apply WPc.sq
      | (refine WPc.ret (endP.own [(900001, heapR h)] (.inr rfl) rfl rfl (by simp; rfl) ?_ ?_ (by simp)))
      | refine WPL.nil ?_
      | (apply WPL.callL (c_impl_isPlain _ ?g1); (case hd => (simp; done)); (case hl => (first | (simp; done) | (simp; rfl) | (simp -implicitDefEqProofs [hp, noV, V.av, heapR]; done) | (simp -implicitDefEqProofs [hp, noV, V.av, heapR]; rfl))); (case hb => rfl); (case hins => (first | (simp -implicitDefEqProofs [hp, noV, V.av, heapR]; done) | (simp -implicitDefEqProofs [hp, noV, V.av, heapR]; rfl))); (case he => (first | rfl | (simp -implicitDefEqProofs [hp, noV, V.av, heapR]; done))); (case g1 => (first | assumption | omega)); (case hz => (first | (exact .inl rfl) | (simp; done) | (exact .inr (by simp -implicitDefEqProofs [hp, noV, V.av, heapR])))))
      | (apply WPL.callU (c_impl_copyHeap _ ?g1 ?g2); (case hg => (simp; done)); (case hd => (simp; done)); (case hl => (first | (simp; done) | (simp; rfl) | (simp -implicitDefEqProofs [hp, noV, V.av, heapR]; done) | (simp -implicitDefEqProofs [hp, noV, V.av, heapR]; rfl))); (case hr => (first | (simp; done) | (simp; rfl) | (simp -implicitDefEqProofs [hp, noV, V.av, heapR]; done) | (simp -implicitDefEqProofs [hp, noV, V.av, heapR]; rfl))); (case hins => (first | (simp -implicitDefEqProofs [hp, noV, V.av, heapR]; done) | (simp -implicitDefEqProofs [hp, noV, V.av, heapR]; rfl) | rfl)); (case he => (first | rfl | (simp -implicitDefEqProofs [hp, noV, V.av, heapR]; done))); (case hob => (first | (simp -implicitDefEqProofs [hp, noV, V.av, heapR]; done) | (simp -implicitDefEqProofs [hp, noV, V.av, heapR]; rfl) | rfl)); (case heo => (first | rfl | (simp -implicitDefEqProofs [hp, noV, V.av, heapR]; done))); (case g1 => (first | assumption | omega)); (case g2 => (first | assumption | omega)); (case hnw => (first | (simp; done) | (simp; rfl) | (simp -implicitDefEqProofs [hp, noV, V.av, heapR]; done) | (simp -implicitDefEqProofs [hp, noV, V.av, heapR]; rfl))); (case hok => (first | (simp; done) | (simp -implicitDefEqProofs [hp, noV, V.av, heapR]; done))); (case hP => (first | (simp; done) | (simp; rfl) | (simp -implicitDefEqProofs [hp, noV, V.av, heapR]; done) | (simp -implicitDefEqProofs [hp, noV, V.av, heapR]; rfl))); (case hS => (first | (simp; done) | (simp; rfl) | (simp -implicitDefEqProofs [hp, noV, V.av, heapR]; done) | (simp -implicitDefEqProofs [hp, noV, V.av, heapR]; rfl))); (case hz => (first | (simp; done) | (simp -implicitDefEqProofs [hp, noV, V.av, heapR]; done))); (case hs => (first | (simp -implicitDefEqProofs [hp, noV, V.av, heapR]; done) | (simp -implicitDefEqProofs [hp, noV, V.av, heapR]; rfl) | rfl)))
      | (refine WPL.call0f ?_ ?_ ?_; (focus (simp; done)); (focus (simp; done)))
      | (refine WPc.rq tok rfl fun K hK => ?_; simp -implicitDefEqProofs +contextual [-Int.not_le, -Int.not_lt, -Nat.not_le, -Nat.not_lt, -List.all_eq_true, -List.all_eq_false, -List.any_eq_true, -List.any_eq_false, hp, noV, V.av, heapR]; (fail_if_success guard_target =ₛ False); (repeat' (first | refine hK _ ?_ | refine And.intro ?_ ?_ | intro _)) <;> clear hK K)
      | (refine WPL.rn tok _ (by simp [ahead, isFn]; rfl) fun K hK => ?_; simp -implicitDefEqProofs +contextual [-Int.not_le, -Int.not_lt, -Nat.not_le, -Nat.not_lt, -List.all_eq_true, -List.all_eq_false, -List.any_eq_true, -List.any_eq_false, hp, noV, V.av, heapR]; (fail_if_success guard_target =ₛ False); (repeat' (first | refine hK _ ?_ | refine And.intro ?_ ?_ | intro _)) <;> clear hK K <;> (try simp only [Nat.reduceAdd, List.drop_succ_cons, List.drop_zero]))
      | (refine WPc.region ?_; simp only [List.toList_toArray])
      | (refine WPc.condT ?_ ?_; (focus (simp; done))))
    all_goals (simp [heapR, noV, V.av]; try rfl)
  | true =>
    by_cases hl : (a.length : Int) = arity s
    · cases hh : heapOk h with
      | false =>
        have hl' : ((a.length : Int) = arity s) = True := by simp [hl]
        refine Con.of tok (nt := 47) Go.Proofs.Tryz.func9 (by kernel_rfl) rfl rfl rfl (Nat.le_of_ble_eq_true rfl) fun G => ?_
        simp only [entSt, tmOf, List.append_nil, List.cons_append, List.nil_append]
        repeat' (first
          | (refine WPc.renR 34 900001 fun K hK => ?_; simp -implicitDefEqProofs +contextual [-Int.not_le, -Int.not_lt, -Nat.not_le, -Nat.not_lt, -List.all_eq_true, -List.all_eq_false, -List.any_eq_true, -List.any_eq_false, hp, hl', hh, noV, V.av, heapR]; (fail_if_success guard_target =ₛ False); (repeat' (first | refine hK _ ?_ | refine And.intro ?_ ?_ | intro _)) <;> clear hK K)
          | apply WPc.sq
          | (refine WPc.ret (endP.own [(900001, heapR h)] (.inr rfl) rfl rfl (by simp; rfl) ?_ ?_ (by simp)))
          | refine WPL.nil ?_
          | (apply WPL.callL (c_impl_isPlain _ ?g1); (case hd => (simp; done)); (case hl => (first | (simp; done) | (simp; rfl) | (simp -implicitDefEqProofs [hp, hl', hh, noV, V.av, heapR]; done) | (simp -implicitDefEqProofs [hp, hl', hh, noV, V.av, heapR]; rfl))); (case hb => rfl); (case hins => (first | (simp -implicitDefEqProofs [hp, hl', hh, noV, V.av, heapR]; done) | (simp -implicitDefEqProofs [hp, hl', hh, noV, V.av, heapR]; rfl))); (case he => (first | rfl | (simp -implicitDefEqProofs [hp, hl', hh, noV, V.av, heapR]; done))); (case g1 => (first | assumption | omega)); (case hz => (first | (exact .inl rfl) | (simp; done) | (exact .inr (by simp -implicitDefEqProofs [hp, hl', hh, noV, V.av, heapR])))))
          | (apply WPL.callLt (c_impl_Arity _ ?g1); (case hg => (simp; done)); (case hd => (simp; done)); (case hl => (first | (simp; done) | (simp; rfl) | (simp -implicitDefEqProofs [hp, hl', hh, noV, V.av, heapR]; done) | (simp -implicitDefEqProofs [hp, hl', hh, noV, V.av, heapR]; rfl))); (case hb => rfl); (case hins => (first | (simp -implicitDefEqProofs [hp, hl', hh, noV, V.av, heapR]; done) | (simp -implicitDefEqProofs [hp, hl', hh, noV, V.av, heapR]; rfl))); (case he => (first | rfl | (simp -implicitDefEqProofs [hp, hl', hh, noV, V.av, heapR]; done))); (case g1 => (first | assumption | omega)); (case hz => (first | (exact .inl rfl) | (simp; done) | (exact .inr (by simp -implicitDefEqProofs [hp, hl', hh, noV, V.av, heapR])))))
          | (apply WPL.callLt (c_impl_HeapOk _ ?g1); (case hg => (simp; done)); (case hd => (simp; done)); (case hl => (first | (simp; done) | (simp; rfl) | (simp -implicitDefEqProofs [hp, hl', hh, noV, V.av, heapR]; done) | (simp -implicitDefEqProofs [hp, hl', hh, noV, V.av, heapR]; rfl))); (case hb => rfl); (case hins => (first | (simp -implicitDefEqProofs [hp, hl', hh, noV, V.av, heapR]; done) | (simp -implicitDefEqProofs [hp, hl', hh, noV, V.av, heapR]; rfl))); (case he => (first | rfl | (simp -implicitDefEqProofs [hp, hl', hh, noV, V.av, heapR]; done))); (case g1 => (first | assumption | omega)); (case hz => (first | (exact .inl rfl) | (simp; done) | (exact .inr (by simp -implicitDefEqProofs [hp, hl', hh, noV, V.av, heapR])))))
          | (apply WPL.callU (c_impl_copyHeap _ ?g1 ?g2); (case hg => (simp; done)); (case hd => (simp; done)); (case hl => (first | (simp; done) | (simp; rfl) | (simp -implicitDefEqProofs [hp, hl', hh, noV, V.av, heapR]; done) | (simp -implicitDefEqProofs [hp, hl', hh, noV, V.av, heapR]; rfl))); (case hr => (first | (simp; done) | (simp; rfl) | (simp -implicitDefEqProofs [hp, hl', hh, noV, V.av, heapR]; done) | (simp -implicitDefEqProofs [hp, hl', hh, noV, V.av, heapR]; rfl))); (case hins => (first | (simp -implicitDefEqProofs [hp, hl', hh, noV, V.av, heapR]; done) | (simp -implicitDefEqProofs [hp, hl', hh, noV, V.av, heapR]; rfl) | rfl)); (case he => (first | rfl | (simp -implicitDefEqProofs [hp, hl', hh, noV, V.av, heapR]; done))); (case hob => (first | (simp -implicitDefEqProofs [hp, hl', hh, noV, V.av, heapR]; done) | (simp -implicitDefEqProofs [hp, hl', hh, noV, V.av, heapR]; rfl) | rfl)); (case heo => (first | rfl | (simp -implicitDefEqProofs [hp, hl', hh, noV, V.av, heapR]; done))); (case g1 => (first | assumption | omega)); (case g2 => (first | assumption | omega)); (case hnw => (first | (simp; done) | (simp; rfl) | (simp -implicitDefEqProofs [hp, hl', hh, noV, V.av, heapR]; done) | (simp -implicitDefEqProofs [hp, hl', hh, noV, V.av, heapR]; rfl))); (case hok => (first | (simp; done) | (simp -implicitDefEqProofs [hp, hl', hh, noV, V.av, heapR]; done))); (case hP => (first | (simp; done) | (simp; rfl) | (simp -implicitDefEqProofs [hp, hl', hh, noV, V.av, heapR]; done) | (simp -implicitDefEqProofs [hp, hl', hh, noV, V.av, heapR]; rfl))); (case hS => (first | (simp; done) | (simp; rfl) | (simp -implicitDefEqProofs [hp, hl', hh, noV, V.av, heapR]; done) | (simp -implicitDefEqProofs [hp, hl', hh, noV, V.av, heapR]; rfl))); (case hz => (first | (simp; done) | (simp -implicitDefEqProofs [hp, hl', hh, noV, V.av, heapR]; done))); (case hs => (first | (simp -implicitDefEqProofs [hp, hl', hh, noV, V.av, heapR]; done) | (simp -implicitDefEqProofs [hp, hl', hh, noV, V.av, heapR]; rfl) | rfl)))
          | (refine WPL.call0f ?_ ?_ ?_; (focus (simp; done)); (focus (simp; done)))
          | (refine WPc.rq tok rfl fun K hK => ?_; simp -implicitDefEqProofs +contextual [-Int.not_le, -Int.not_lt, -Nat.not_le, -Nat.not_lt, -List.all_eq_true, -List.all_eq_false, -List.any_eq_true, -List.any_eq_false, hp, hl', hh, noV, V.av, heapR]; (fail_if_success guard_target =ₛ False); (repeat' (first | refine hK _ ?_ | refine And.intro ?_ ?_ | intro _)) <;> clear hK K)
          | (refine WPL.rn tok _ (by simp [ahead, isFn]; rfl) fun K hK => ?_; simp -implicitDefEqProofs +contextual [-Int.not_le, -Int.not_lt, -Nat.not_le, -Nat.not_lt, -List.all_eq_true, -List.all_eq_false, -List.any_eq_true, -List.any_eq_false, hp, hl', hh, noV, V.av, heapR]; (fail_if_success guard_target =ₛ False); (repeat' (first | refine hK _ ?_ | refine And.intro ?_ ?_ | intro _)) <;> clear hK K <;> (try simp only [Nat.reduceAdd, List.drop_succ_cons, List.drop_zero]))
          | (refine WPc.region ?_; simp only [List.toList_toArray])
          | (refine WPc.condT ?_ ?_; (focus (simp; done))))
        all_goals (simp [heapR, noV, V.av]; try rfl)
      | true =>
        have hv : a.all (valueOk h) = false := by
          cases hx : a.all (valueOk h) with
          | false => rfl
          | true => rw [good, hp, hh, hx, decide_eq_true hl] at hg; simp at hg
        have hl' : ((a.length : Int) = arity s) = True := by simp [hl]
        refine Con.of tok (nt := 47) Go.Proofs.Tryz.func9 (by kernel_rfl) rfl rfl rfl (Nat.le_of_ble_eq_true rfl) fun G => ?_
        simp only [entSt, tmOf, List.append_nil, List.cons_append, List.nil_append]
        repeat' (first
          | (refine WPc.renR 34 900001 fun K hK => ?_; simp -implicitDefEqProofs +contextual [-Int.not_le, -Int.not_lt, -Nat.not_le, -Nat.not_lt, -List.all_eq_true, -List.all_eq_false, -List.any_eq_true, -List.any_eq_false, hp, hl', hh, hv, noV, V.av, heapR]; (fail_if_success guard_target =ₛ False); (repeat' (first | refine hK _ ?_ | refine And.intro ?_ ?_ | intro _)) <;> clear hK K)
          | apply WPc.sq
          | (refine WPc.ret (endP.own [(900001, heapR h)] (.inr rfl) rfl rfl (by simp; rfl) ?_ ?_ (by simp)))
          | refine WPL.nil ?_
          | (apply WPL.callL (c_impl_isPlain _ ?g1); (case hd => (simp; done)); (case hl => (first | (simp; done) | (simp; rfl) | (simp -implicitDefEqProofs [hp, hl', hh, hv, noV, V.av, heapR]; done) | (simp -implicitDefEqProofs [hp, hl', hh, hv, noV, V.av, heapR]; rfl))); (case hb => rfl); (case hins => (first | (simp -implicitDefEqProofs [hp, hl', hh, hv, noV, V.av, heapR]; done) | (simp -implicitDefEqProofs [hp, hl', hh, hv, noV, V.av, heapR]; rfl))); (case he => (first | rfl | (simp -implicitDefEqProofs [hp, hl', hh, hv, noV, V.av, heapR]; done))); (case g1 => (first | assumption | omega)); (case hz => (first | (exact .inl rfl) | (simp; done) | (exact .inr (by simp -implicitDefEqProofs [hp, hl', hh, hv, noV, V.av, heapR])))))
          | (apply WPL.callLt (c_impl_Arity _ ?g1); (case hg => (simp; done)); (case hd => (simp; done)); (case hl => (first | (simp; done) | (simp; rfl) | (simp -implicitDefEqProofs [hp, hl', hh, hv, noV, V.av, heapR]; done) | (simp -implicitDefEqProofs [hp, hl', hh, hv, noV, V.av, heapR]; rfl))); (case hb => rfl); (case hins => (first | (simp -implicitDefEqProofs [hp, hl', hh, hv, noV, V.av, heapR]; done) | (simp -implicitDefEqProofs [hp, hl', hh, hv, noV, V.av, heapR]; rfl))); (case he => (first | rfl | (simp -implicitDefEqProofs [hp, hl', hh, hv, noV, V.av, heapR]; done))); (case g1 => (first | assumption | omega)); (case hz => (first | (exact .inl rfl) | (simp; done) | (exact .inr (by simp -implicitDefEqProofs [hp, hl', hh, hv, noV, V.av, heapR])))))
          | (apply WPL.callLt (c_impl_HeapOk _ ?g1); (case hg => (simp; done)); (case hd => (simp; done)); (case hl => (first | (simp; done) | (simp; rfl) | (simp -implicitDefEqProofs [hp, hl', hh, hv, noV, V.av, heapR]; done) | (simp -implicitDefEqProofs [hp, hl', hh, hv, noV, V.av, heapR]; rfl))); (case hb => rfl); (case hins => (first | (simp -implicitDefEqProofs [hp, hl', hh, hv, noV, V.av, heapR]; done) | (simp -implicitDefEqProofs [hp, hl', hh, hv, noV, V.av, heapR]; rfl))); (case he => (first | rfl | (simp -implicitDefEqProofs [hp, hl', hh, hv, noV, V.av, heapR]; done))); (case g1 => (first | assumption | omega)); (case hz => (first | (exact .inl rfl) | (simp; done) | (exact .inr (by simp -implicitDefEqProofs [hp, hl', hh, hv, noV, V.av, heapR])))))
          | (apply WPL.callLt (c_impl_valuesOk _ _ ?g1); (case hg => (simp; done)); (case hd => (simp; done)); (case hl => (first | (simp; done) | (simp; rfl) | (simp -implicitDefEqProofs [hp, hl', hh, hv, noV, V.av, heapR]; done) | (simp -implicitDefEqProofs [hp, hl', hh, hv, noV, V.av, heapR]; rfl))); (case hb => rfl); (case hins => (first | (simp -implicitDefEqProofs [hp, hl', hh, hv, noV, V.av, heapR]; done) | (simp -implicitDefEqProofs [hp, hl', hh, hv, noV, V.av, heapR]; rfl))); (case he => (first | rfl | (simp -implicitDefEqProofs [hp, hl', hh, hv, noV, V.av, heapR]; done))); (case g1 => (first | assumption | omega)); (case hz => (first | (exact .inl rfl) | (simp; done) | (exact .inr (by simp -implicitDefEqProofs [hp, hl', hh, hv, noV, V.av, heapR])))))
          | (apply WPL.callU (c_impl_copyHeap _ ?g1 ?g2); (case hg => (simp; done)); (case hd => (simp; done)); (case hl => (first | (simp; done) | (simp; rfl) | (simp -implicitDefEqProofs [hp, hl', hh, hv, noV, V.av, heapR]; done) | (simp -implicitDefEqProofs [hp, hl', hh, hv, noV, V.av, heapR]; rfl))); (case hr => (first | (simp; done) | (simp; rfl) | (simp -implicitDefEqProofs [hp, hl', hh, hv, noV, V.av, heapR]; done) | (simp -implicitDefEqProofs [hp, hl', hh, hv, noV, V.av, heapR]; rfl))); (case hins => (first | (simp -implicitDefEqProofs [hp, hl', hh, hv, noV, V.av, heapR]; done) | (simp -implicitDefEqProofs [hp, hl', hh, hv, noV, V.av, heapR]; rfl) | rfl)); (case he => (first | rfl | (simp -implicitDefEqProofs [hp, hl', hh, hv, noV, V.av, heapR]; done))); (case hob => (first | (simp -implicitDefEqProofs [hp, hl', hh, hv, noV, V.av, heapR]; done) | (simp -implicitDefEqProofs [hp, hl', hh, hv, noV, V.av, heapR]; rfl) | rfl)); (case heo => (first | rfl | (simp -implicitDefEqProofs [hp, hl', hh, hv, noV, V.av, heapR]; done))); (case g1 => (first | assumption | omega)); (case g2 => (first | assumption | omega)); (case hnw => (first | (simp; done) | (simp; rfl) | (simp -implicitDefEqProofs [hp, hl', hh, hv, noV, V.av, heapR]; done) | (simp -implicitDefEqProofs [hp, hl', hh, hv, noV, V.av, heapR]; rfl))); (case hok => (first | (simp; done) | (simp -implicitDefEqProofs [hp, hl', hh, hv, noV, V.av, heapR]; done))); (case hP => (first | (simp; done) | (simp; rfl) | (simp -implicitDefEqProofs [hp, hl', hh, hv, noV, V.av, heapR]; done) | (simp -implicitDefEqProofs [hp, hl', hh, hv, noV, V.av, heapR]; rfl))); (case hS => (first | (simp; done) | (simp; rfl) | (simp -implicitDefEqProofs [hp, hl', hh, hv, noV, V.av, heapR]; done) | (simp -implicitDefEqProofs [hp, hl', hh, hv, noV, V.av, heapR]; rfl))); (case hz => (first | (simp; done) | (simp -implicitDefEqProofs [hp, hl', hh, hv, noV, V.av, heapR]; done))); (case hs => (first | (simp -implicitDefEqProofs [hp, hl', hh, hv, noV, V.av, heapR]; done) | (simp -implicitDefEqProofs [hp, hl', hh, hv, noV, V.av, heapR]; rfl) | rfl)))
          | (refine WPc.rq tok rfl fun K hK => ?_; simp -implicitDefEqProofs +contextual [-Int.not_le, -Int.not_lt, -Nat.not_le, -Nat.not_lt, -List.all_eq_true, -List.all_eq_false, -List.any_eq_true, -List.any_eq_false, hp, hl', hh, hv, noV, V.av, heapR]; (fail_if_success guard_target =ₛ False); (repeat' (first | refine hK _ ?_ | refine And.intro ?_ ?_ | intro _)) <;> clear hK K)
          | (refine WPL.rn tok _ (by simp [ahead, isFn]; rfl) fun K hK => ?_; simp -implicitDefEqProofs +contextual [-Int.not_le, -Int.not_lt, -Nat.not_le, -Nat.not_lt, -List.all_eq_true, -List.all_eq_false, -List.any_eq_true, -List.any_eq_false, hp, hl', hh, hv, noV, V.av, heapR]; (fail_if_success guard_target =ₛ False); (repeat' (first | refine hK _ ?_ | refine And.intro ?_ ?_ | intro _)) <;> clear hK K <;> (try simp only [Nat.reduceAdd, List.drop_succ_cons, List.drop_zero]))
          | (refine WPc.region ?_; simp only [List.toList_toArray])
          | (refine WPc.condT ?_ ?_; (focus (simp; done))))
        all_goals (simp [heapR, noV, V.av]; try rfl)
    · have hl' : ((a.length : Int) = arity s) = False := by simp [hl]
      refine Con.of tok (nt := 47) Go.Proofs.Tryz.func9 (by kernel_rfl) rfl rfl rfl (Nat.le_of_ble_eq_true rfl) fun G => ?_
      simp only [entSt, tmOf, List.append_nil, List.cons_append, List.nil_append]
      repeat' (first
        | (refine WPc.renR 34 900001 fun K hK => ?_; simp -implicitDefEqProofs +contextual [-Int.not_le, -Int.not_lt, -Nat.not_le, -Nat.not_lt, -List.all_eq_true, -List.all_eq_false, -List.any_eq_true, -List.any_eq_false, hp, hl', noV, V.av, heapR]; (fail_if_success guard_target =ₛ False); (repeat' (first | refine hK _ ?_ | refine And.intro ?_ ?_ | intro _)) <;> clear hK K)
        | apply WPc.sq
        | (refine WPc.ret (endP.own [(900001, heapR h)] (.inr rfl) rfl rfl (by simp; rfl) ?_ ?_ (by simp)))
        | refine WPL.nil ?_
        | (apply WPL.callL (c_impl_isPlain _ ?g1); (case hd => (simp; done)); (case hl => (first | (simp; done) | (simp; rfl) | (simp -implicitDefEqProofs [hp, hl', noV, V.av, heapR]; done) | (simp -implicitDefEqProofs [hp, hl', noV, V.av, heapR]; rfl))); (case hb => rfl); (case hins => (first | (simp -implicitDefEqProofs [hp, hl', noV, V.av, heapR]; done) | (simp -implicitDefEqProofs [hp, hl', noV, V.av, heapR]; rfl))); (case he => (first | rfl | (simp -implicitDefEqProofs [hp, hl', noV, V.av, heapR]; done))); (case g1 => (first | assumption | omega)); (case hz => (first | (exact .inl rfl) | (simp; done) | (exact .inr (by simp -implicitDefEqProofs [hp, hl', noV, V.av, heapR])))))
        | (apply WPL.callLt (c_impl_Arity _ ?g1); (case hg => (simp; done)); (case hd => (simp; done)); (case hl => (first | (simp; done) | (simp; rfl) | (simp -implicitDefEqProofs [hp, hl', noV, V.av, heapR]; done) | (simp -implicitDefEqProofs [hp, hl', noV, V.av, heapR]; rfl))); (case hb => rfl); (case hins => (first | (simp -implicitDefEqProofs [hp, hl', noV, V.av, heapR]; done) | (simp -implicitDefEqProofs [hp, hl', noV, V.av, heapR]; rfl))); (case he => (first | rfl | (simp -implicitDefEqProofs [hp, hl', noV, V.av, heapR]; done))); (case g1 => (first | assumption | omega)); (case hz => (first | (exact .inl rfl) | (simp; done) | (exact .inr (by simp -implicitDefEqProofs [hp, hl', noV, V.av, heapR])))))
        | (apply WPL.callU (c_impl_copyHeap _ ?g1 ?g2); (case hg => (simp; done)); (case hd => (simp; done)); (case hl => (first | (simp; done) | (simp; rfl) | (simp -implicitDefEqProofs [hp, hl', noV, V.av, heapR]; done) | (simp -implicitDefEqProofs [hp, hl', noV, V.av, heapR]; rfl))); (case hr => (first | (simp; done) | (simp; rfl) | (simp -implicitDefEqProofs [hp, hl', noV, V.av, heapR]; done) | (simp -implicitDefEqProofs [hp, hl', noV, V.av, heapR]; rfl))); (case hins => (first | (simp -implicitDefEqProofs [hp, hl', noV, V.av, heapR]; done) | (simp -implicitDefEqProofs [hp, hl', noV, V.av, heapR]; rfl) | rfl)); (case he => (first | rfl | (simp -implicitDefEqProofs [hp, hl', noV, V.av, heapR]; done))); (case hob => (first | (simp -implicitDefEqProofs [hp, hl', noV, V.av, heapR]; done) | (simp -implicitDefEqProofs [hp, hl', noV, V.av, heapR]; rfl) | rfl)); (case heo => (first | rfl | (simp -implicitDefEqProofs [hp, hl', noV, V.av, heapR]; done))); (case g1 => (first | assumption | omega)); (case g2 => (first | assumption | omega)); (case hnw => (first | (simp; done) | (simp; rfl) | (simp -implicitDefEqProofs [hp, hl', noV, V.av, heapR]; done) | (simp -implicitDefEqProofs [hp, hl', noV, V.av, heapR]; rfl))); (case hok => (first | (simp; done) | (simp -implicitDefEqProofs [hp, hl', noV, V.av, heapR]; done))); (case hP => (first | (simp; done) | (simp; rfl) | (simp -implicitDefEqProofs [hp, hl', noV, V.av, heapR]; done) | (simp -implicitDefEqProofs [hp, hl', noV, V.av, heapR]; rfl))); (case hS => (first | (simp; done) | (simp; rfl) | (simp -implicitDefEqProofs [hp, hl', noV, V.av, heapR]; done) | (simp -implicitDefEqProofs [hp, hl', noV, V.av, heapR]; rfl))); (case hz => (first | (simp; done) | (simp -implicitDefEqProofs [hp, hl', noV, V.av, heapR]; done))); (case hs => (first | (simp -implicitDefEqProofs [hp, hl', noV, V.av, heapR]; done) | (simp -implicitDefEqProofs [hp, hl', noV, V.av, heapR]; rfl) | rfl)))
        | (refine WPL.call0f ?_ ?_ ?_; (focus (simp; done)); (focus (simp; done)))
        | (refine WPc.rq tok rfl fun K hK => ?_; simp -implicitDefEqProofs +contextual [-Int.not_le, -Int.not_lt, -Nat.not_le, -Nat.not_lt, -List.all_eq_true, -List.all_eq_false, -List.any_eq_true, -List.any_eq_false, hp, hl', noV, V.av, heapR]; (fail_if_success guard_target =ₛ False); (repeat' (first | refine hK _ ?_ | refine And.intro ?_ ?_ | intro _)) <;> clear hK K)
        | (refine WPL.rn tok _ (by simp [ahead, isFn]; rfl) fun K hK => ?_; simp -implicitDefEqProofs +contextual [-Int.not_le, -Int.not_lt, -Nat.not_le, -Nat.not_lt, -List.all_eq_true, -List.all_eq_false, -List.any_eq_true, -List.any_eq_false, hp, hl', noV, V.av, heapR]; (fail_if_success guard_target =ₛ False); (repeat' (first | refine hK _ ?_ | refine And.intro ?_ ?_ | intro _)) <;> clear hK K <;> (try simp only [Nat.reduceAdd, List.drop_succ_cons, List.drop_zero]))
        | (refine WPc.region ?_; simp only [List.toList_toArray])
        | (refine WPc.condT ?_ ?_; (focus (simp; done))))
      all_goals (simp [heapR, noV, V.av]; try rfl)
theorem impl_Prim_good [F : Facts.Of] (h : List Cl) (s : ByteArray) (a : List V) (h1 : s.size < 4294967000) (h2 : ∀ c, c ∈ h → c.sm) (h3 : ∀ v, v ∈ a → v.sm) (h4 : h.length ≤ 1000000000) (h5 : ∀ c, c ∈ h → c.rm) (hg : good h s a = true) : Con PP 9 [.fz (h.map Cl.cs), .sc (.string s), .fz (a.map V.cs)] [] [] (fun r o => r = PrimR h s a ∧ o = [(900001, heapR (pH h s a))]) := by
  have e1 : pH h s a = primH h s a := by simp [pH, hg]
  have e2 : pV h s a = primV h s (arg a 0) (arg a 1) := by simp [pV, hg]
  have hP := prim_good hg
  simp only [PrimR, e1, e2]
  have hg' := hg
  simp only [good, Bool.and_eq_true, decide_eq_true_eq] at hg'
  obtain ⟨⟨⟨hp, hl⟩, hh⟩, hv⟩ := hg'
  have hl' : ((a.length : Int) = arity s) = True := by simp [hl]
  refine Con.of tok (nt := 47) Go.Proofs.Tryz.func9 (by kernel_rfl) rfl rfl rfl (Nat.le_of_ble_eq_true rfl) fun G => ?_
  simp only [entSt, tmOf, List.append_nil, List.cons_append, List.nil_append]
  repeat' (first
    | (refine WPc.detR 9 900001 [] 0 0 fun K hK => ?_; simp -implicitDefEqProofs +contextual [-Int.not_le, -Int.not_lt, -Nat.not_le, -Nat.not_lt, -List.all_eq_true, -List.all_eq_false, -List.any_eq_true, -List.any_eq_false, hp, hl', hh, hv, noV, V.av, heapR, heapB]; (fail_if_success guard_target =ₛ False); (repeat' (first | refine hK _ ?_ | refine And.intro ?_ ?_ | intro _)) <;> clear hK K)
    | apply WPc.sq
    | (refine WPc.ret (endP.own [(900001, heapR (primH h s a))] (.inr rfl) rfl rfl (by simp; rfl) ?_ ?_ (by simp)))
    | apply WPc.skip
    | refine WPL.nil ?_
    | (apply WPL.callL (c_impl_isPlain _ ?g1); (case hd => (simp; done)); (case hl => (first | (simp; done) | (simp; rfl) | (simp -implicitDefEqProofs [hp, hl', hh, hv, noV, V.av, heapR, heapB]; done) | (simp -implicitDefEqProofs [hp, hl', hh, hv, noV, V.av, heapR, heapB]; rfl))); (case hb => rfl); (case hins => (first | (simp -implicitDefEqProofs [hp, hl', hh, hv, noV, V.av, heapR, heapB]; done) | (simp -implicitDefEqProofs [hp, hl', hh, hv, noV, V.av, heapR, heapB]; rfl))); (case he => (first | rfl | (simp -implicitDefEqProofs [hp, hl', hh, hv, noV, V.av, heapR, heapB]; done))); (case g1 => (first | assumption | omega)); (case hz => (first | (exact .inl rfl) | (simp; done) | (exact .inr (by simp -implicitDefEqProofs [hp, hl', hh, hv, noV, V.av, heapR, heapB])))))
    | (apply WPL.callLt (c_impl_Arity _ ?g1); (case hg => (simp; done)); (case hd => (simp; done)); (case hl => (first | (simp; done) | (simp; rfl) | (simp -implicitDefEqProofs [hp, hl', hh, hv, noV, V.av, heapR, heapB]; done) | (simp -implicitDefEqProofs [hp, hl', hh, hv, noV, V.av, heapR, heapB]; rfl))); (case hb => rfl); (case hins => (first | (simp -implicitDefEqProofs [hp, hl', hh, hv, noV, V.av, heapR, heapB]; done) | (simp -implicitDefEqProofs [hp, hl', hh, hv, noV, V.av, heapR, heapB]; rfl))); (case he => (first | rfl | (simp -implicitDefEqProofs [hp, hl', hh, hv, noV, V.av, heapR, heapB]; done))); (case g1 => (first | assumption | omega)); (case hz => (first | (exact .inl rfl) | (simp; done) | (exact .inr (by simp -implicitDefEqProofs [hp, hl', hh, hv, noV, V.av, heapR, heapB])))))
    | (apply WPL.callLt (c_impl_HeapOk _ ?g1); (case hg => (simp; done)); (case hd => (simp; done)); (case hl => (first | (simp; done) | (simp; rfl) | (simp -implicitDefEqProofs [hp, hl', hh, hv, noV, V.av, heapR, heapB]; done) | (simp -implicitDefEqProofs [hp, hl', hh, hv, noV, V.av, heapR, heapB]; rfl))); (case hb => rfl); (case hins => (first | (simp -implicitDefEqProofs [hp, hl', hh, hv, noV, V.av, heapR, heapB]; done) | (simp -implicitDefEqProofs [hp, hl', hh, hv, noV, V.av, heapR, heapB]; rfl))); (case he => (first | rfl | (simp -implicitDefEqProofs [hp, hl', hh, hv, noV, V.av, heapR, heapB]; done))); (case g1 => (first | assumption | omega)); (case hz => (first | (exact .inl rfl) | (simp; done) | (exact .inr (by simp -implicitDefEqProofs [hp, hl', hh, hv, noV, V.av, heapR, heapB])))))
    | (apply WPL.callLt (c_impl_valuesOk _ _ ?g1); (case hg => (simp; done)); (case hd => (simp; done)); (case hl => (first | (simp; done) | (simp; rfl) | (simp -implicitDefEqProofs [hp, hl', hh, hv, noV, V.av, heapR, heapB]; done) | (simp -implicitDefEqProofs [hp, hl', hh, hv, noV, V.av, heapR, heapB]; rfl))); (case hb => rfl); (case hins => (first | (simp -implicitDefEqProofs [hp, hl', hh, hv, noV, V.av, heapR, heapB]; done) | (simp -implicitDefEqProofs [hp, hl', hh, hv, noV, V.av, heapR, heapB]; rfl))); (case he => (first | rfl | (simp -implicitDefEqProofs [hp, hl', hh, hv, noV, V.av, heapR, heapB]; done))); (case g1 => (first | assumption | omega)); (case hz => (first | (exact .inl rfl) | (simp; done) | (exact .inr (by simp -implicitDefEqProofs [hp, hl', hh, hv, noV, V.av, heapR, heapB])))))
    | (apply WPL.callU (c_impl_copyHeap _ ?g1 ?g2); (case hg => (simp; done)); (case hd => (simp; done)); (case hl => (first | (simp; done) | (simp; rfl) | (simp -implicitDefEqProofs [hp, hl', hh, hv, noV, V.av, heapR, heapB]; done) | (simp -implicitDefEqProofs [hp, hl', hh, hv, noV, V.av, heapR, heapB]; rfl))); (case hr => (first | (simp; done) | (simp; rfl) | (simp -implicitDefEqProofs [hp, hl', hh, hv, noV, V.av, heapR, heapB]; done) | (simp -implicitDefEqProofs [hp, hl', hh, hv, noV, V.av, heapR, heapB]; rfl))); (case hins => (first | (simp -implicitDefEqProofs [hp, hl', hh, hv, noV, V.av, heapR, heapB]; done) | (simp -implicitDefEqProofs [hp, hl', hh, hv, noV, V.av, heapR, heapB]; rfl) | rfl)); (case he => (first | rfl | (simp -implicitDefEqProofs [hp, hl', hh, hv, noV, V.av, heapR, heapB]; done))); (case hob => (first | (simp -implicitDefEqProofs [hp, hl', hh, hv, noV, V.av, heapR, heapB]; done) | (simp -implicitDefEqProofs [hp, hl', hh, hv, noV, V.av, heapR, heapB]; rfl) | rfl)); (case heo => (first | rfl | (simp -implicitDefEqProofs [hp, hl', hh, hv, noV, V.av, heapR, heapB]; done))); (case g1 => (first | assumption | omega)); (case g2 => (first | assumption | omega)); (case hnw => (first | (simp; done) | (simp; rfl) | (simp -implicitDefEqProofs [hp, hl', hh, hv, noV, V.av, heapR, heapB]; done) | (simp -implicitDefEqProofs [hp, hl', hh, hv, noV, V.av, heapR, heapB]; rfl))); (case hok => (first | (simp; done) | (simp -implicitDefEqProofs [hp, hl', hh, hv, noV, V.av, heapR, heapB]; done))); (case hP => (first | (simp; done) | (simp; rfl) | (simp -implicitDefEqProofs [hp, hl', hh, hv, noV, V.av, heapR, heapB]; done) | (simp -implicitDefEqProofs [hp, hl', hh, hv, noV, V.av, heapR, heapB]; rfl))); (case hS => (first | (simp; done) | (simp; rfl) | (simp -implicitDefEqProofs [hp, hl', hh, hv, noV, V.av, heapR, heapB]; done) | (simp -implicitDefEqProofs [hp, hl', hh, hv, noV, V.av, heapR, heapB]; rfl))); (case hz => (first | (simp; done) | (simp -implicitDefEqProofs [hp, hl', hh, hv, noV, V.av, heapR, heapB]; done))); (case hs => (first | (simp -implicitDefEqProofs [hp, hl', hh, hv, noV, V.av, heapR, heapB]; done) | (simp -implicitDefEqProofs [hp, hl', hh, hv, noV, V.av, heapR, heapB]; rfl) | rfl)))
    | (apply WPL.callU hP; (case hg => (simp; done)); (case hd => (simp; done)); (case hl => (first | (simp; done) | (simp; rfl) | (simp -implicitDefEqProofs [hp, hl', hh, hv, noV, V.av, heapR, heapB]; done) | (simp -implicitDefEqProofs [hp, hl', hh, hv, noV, V.av, heapR, heapB]; rfl))); (case hr => (first | (simp; done) | (simp; rfl) | (simp -implicitDefEqProofs [hp, hl', hh, hv, noV, V.av, heapR, heapB]; done) | (simp -implicitDefEqProofs [hp, hl', hh, hv, noV, V.av, heapR, heapB]; rfl))); (case hins => (first | (simp -implicitDefEqProofs [hp, hl', hh, hv, noV, V.av, heapR, heapB]; done) | (simp -implicitDefEqProofs [hp, hl', hh, hv, noV, V.av, heapR, heapB]; rfl) | rfl)); (case he => (first | rfl | (simp -implicitDefEqProofs [hp, hl', hh, hv, noV, V.av, heapR, heapB]; done))); (case hob => (first | (simp -implicitDefEqProofs [hp, hl', hh, hv, noV, V.av, heapR, heapB]; done) | (simp -implicitDefEqProofs [hp, hl', hh, hv, noV, V.av, heapR, heapB]; rfl) | rfl)); (case heo => (first | rfl | (simp -implicitDefEqProofs [hp, hl', hh, hv, noV, V.av, heapR, heapB]; done))); (case hnw => (first | (simp; done) | (simp; rfl) | (simp -implicitDefEqProofs [hp, hl', hh, hv, noV, V.av, heapR, heapB]; done) | (simp -implicitDefEqProofs [hp, hl', hh, hv, noV, V.av, heapR, heapB]; rfl))); (case hok => (first | (simp; done) | (simp -implicitDefEqProofs [hp, hl', hh, hv, noV, V.av, heapR, heapB]; done))); (case hP => (first | (simp; done) | (simp; rfl) | (simp -implicitDefEqProofs [hp, hl', hh, hv, noV, V.av, heapR, heapB]; done) | (simp -implicitDefEqProofs [hp, hl', hh, hv, noV, V.av, heapR, heapB]; rfl))); (case hS => (first | (simp; done) | (simp; rfl) | (simp -implicitDefEqProofs [hp, hl', hh, hv, noV, V.av, heapR, heapB]; done) | (simp -implicitDefEqProofs [hp, hl', hh, hv, noV, V.av, heapR, heapB]; rfl))); (case hz => (first | (simp; done) | (simp -implicitDefEqProofs [hp, hl', hh, hv, noV, V.av, heapR, heapB]; done))); (case hs => (first | (simp -implicitDefEqProofs [hp, hl', hh, hv, noV, V.av, heapR, heapB]; done) | (simp -implicitDefEqProofs [hp, hl', hh, hv, noV, V.av, heapR, heapB]; rfl) | rfl)))
    | (refine WPc.rq tok rfl fun K hK => ?_; simp -implicitDefEqProofs +contextual [-Int.not_le, -Int.not_lt, -Nat.not_le, -Nat.not_lt, -List.all_eq_true, -List.all_eq_false, -List.any_eq_true, -List.any_eq_false, hp, hl', hh, hv, noV, V.av, heapR, heapB]; (fail_if_success guard_target =ₛ False); (repeat' (first | refine hK _ ?_ | refine And.intro ?_ ?_ | intro _)) <;> clear hK K)
    | (refine WPL.rn tok _ (by simp [ahead, isFn]; rfl) fun K hK => ?_; simp -implicitDefEqProofs +contextual [-Int.not_le, -Int.not_lt, -Nat.not_le, -Nat.not_lt, -List.all_eq_true, -List.all_eq_false, -List.any_eq_true, -List.any_eq_false, hp, hl', hh, hv, noV, V.av, heapR, heapB]; (fail_if_success guard_target =ₛ False); (repeat' (first | refine hK _ ?_ | refine And.intro ?_ ?_ | intro _)) <;> clear hK K <;> (try simp only [Nat.reduceAdd, List.drop_succ_cons, List.drop_zero]))
    | (refine WPc.sched (id := 5) tok [(4, [7, 10])] [(0, []), (1, []), (2, [7, 10]), (3, []), (4, [7, 10]), (5, [])] (by kernel_rfl) ?_)
    | (refine WPS.nil ?_)
    | (refine WPS.rn tok _ (by simp [aheadS]; rfl) fun K hK => ?_; simp -implicitDefEqProofs +contextual [-Int.not_le, -Int.not_lt, -Nat.not_le, -Nat.not_lt, -List.all_eq_true, -List.all_eq_false, -List.any_eq_true, -List.any_eq_false, hp, hl', hh, hv, noV, V.av, heapR, heapB]; (fail_if_success guard_target =ₛ False); (repeat' (first | refine hK _ ?_ | refine And.intro ?_ ?_ | intro _)) <;> clear hK K <;> (try simp only [Nat.reduceAdd, List.drop_succ_cons, List.drop_zero]))
    | (refine WPS.eff tok fun K hK => ?_; simp -implicitDefEqProofs +contextual [-Int.not_le, -Int.not_lt, -Nat.not_le, -Nat.not_lt, -List.all_eq_true, -List.all_eq_false, -List.any_eq_true, -List.any_eq_false, hp, hl', hh, hv, noV, V.av, heapR, heapB]; (fail_if_success guard_target =ₛ False); (repeat' (first | refine hK _ ?_ | refine And.intro ?_ ?_ | intro _)) <;> clear hK K)
    | (refine WPc.region ?_; simp only [List.toList_toArray])
    | (refine WPc.condF ?_ ?_; (focus (simp; done))))
  all_goals (simp [heapR, noV, V.av]; try rfl)
theorem c_impl_Prim [F : Facts.Of] (h : List Cl) (s : ByteArray) (a : List V) (h1 : s.size < 4294967000) (h2 : ∀ c, c ∈ h → c.sm) (h3 : ∀ v, v ∈ a → v.sm) (h4 : h.length ≤ 1000000000) (h5 : ∀ c, c ∈ h → c.rm) : Con PP 9 [.fz (h.map Cl.cs), .sc (.string s), .fz (a.map V.cs)] [] [] (fun r o => r = PrimR h s a ∧ o = [(900001, heapR (pH h s a))]) := by
  cases hg : good h s a with
  | false => exact impl_Prim_bad h s a h1 h2 h3 h4 h5 hg
  | true => exact impl_Prim_good h s a h1 h2 h3 h4 h5 hg
end Go.Own
set_option linter.unusedVariables false
set_option linter.unusedSimpArgs false
set_option linter.unusedSectionVars false
set_option maxRecDepth 1000000
set_option maxHeartbeats 4000000
namespace Go.Own
attribute [local irreducible] WPc WPL WPS WPS1 WPS2 HAny endP
variable [Laid]
open Go.Lib Go.RowKit
attribute [simp] dz_V dz_sC
@[simp] theorem dz_V1 (l : List V) : dzLL (List.take l.length (l.map V.cs)) = l.map V.cs := by
  rw [List.take_of_length_le (by simp), dz_V]
@[simp] theorem dz_sC1 (l : List ByteArray) : dzLL (List.take l.length (l.map sC)) = l.map sC := by
  rw [List.take_of_length_le (by simp), dz_sC]
theorem spec_Prim_bad (h : List Cl) (s : ByteArray) (a : List V) (h2 : ∀ c, c ∈ h → c.sm) (h3 : ∀ v, v ∈ a → v.sm) (h4 : h.length ≤ 1000000000) (h5 : ∀ c, c ∈ h → c.rm) (hg : good h s a = false) : Con PP 10 [.fz (h.map Cl.cs), .sc (.string s), .fz (a.map V.cs)] [] [] (fun r o => r = PrimR h s a ∧ o = [(900001, heapR (pH h s a))]) := by
  have e1 : pH h s a = h := by simp [pH, hg]
  have e2 : pV h s a = (noV, 2) := by simp [pV, hg]
  simp only [PrimR, e1, e2]
  cases hh : heapOk h with
  | false =>
    refine Con.of tok (nt := 61) Go.Proofs.Tryz.func10 (by kernel_rfl) rfl rfl rfl (Nat.le_of_ble_eq_true rfl) fun G => ?_
    simp only [entSt, tmOf, List.append_nil, List.cons_append, List.nil_append]
    repeat' (first
      | (refine WPc.renR 15 900001 fun K hK => ?_; simp -implicitDefEqProofs +contextual [-Int.not_le, -Int.not_lt, -Nat.not_le, -Nat.not_lt, -List.all_eq_true, -List.all_eq_false, -List.any_eq_true, -List.any_eq_false, hh, noV, V.av, heapR]; (fail_if_success guard_target =ₛ False); (repeat' (first | refine hK _ ?_ | refine And.intro ?_ ?_ | intro _)) <;> clear hK K)
      | apply WPc.sq
      | (refine WPc.ret (endP.own [(900001, heapR h)] (.inr rfl) rfl rfl (by simp; rfl) ?_ ?_ (by simp)))
      | refine WPL.nil ?_
      | (apply WPL.callU (c_spec_l8CopyCells _ ?g1 ?g2); (case hg => (simp; done)); (case hd => (simp; done)); (case hl => (first | (simp; done) | (simp; rfl) | (simp -implicitDefEqProofs [hh, noV, V.av, heapR]; done) | (simp -implicitDefEqProofs [hh, noV, V.av, heapR]; rfl))); (case hr => (first | (simp; done) | (simp; rfl) | (simp -implicitDefEqProofs [hh, noV, V.av, heapR]; done) | (simp -implicitDefEqProofs [hh, noV, V.av, heapR]; rfl))); (case hins => (first | (simp -implicitDefEqProofs [hh, noV, V.av, heapR]; done) | (simp -implicitDefEqProofs [hh, noV, V.av, heapR]; rfl) | rfl)); (case he => (first | rfl | (simp -implicitDefEqProofs [hh, noV, V.av, heapR]; done))); (case hob => (first | (simp -implicitDefEqProofs [hh, noV, V.av, heapR]; done) | (simp -implicitDefEqProofs [hh, noV, V.av, heapR]; rfl) | rfl)); (case heo => (first | rfl | (simp -implicitDefEqProofs [hh, noV, V.av, heapR]; done))); (case g1 => (first | assumption | omega)); (case g2 => (first | assumption | omega)); (case hnw => (first | (simp; done) | (simp; rfl) | (simp -implicitDefEqProofs [hh, noV, V.av, heapR]; done) | (simp -implicitDefEqProofs [hh, noV, V.av, heapR]; rfl))); (case hok => (first | (simp; done) | (simp -implicitDefEqProofs [hh, noV, V.av, heapR]; done))); (case hP => (first | (simp; done) | (simp; rfl) | (simp -implicitDefEqProofs [hh, noV, V.av, heapR]; done) | (simp -implicitDefEqProofs [hh, noV, V.av, heapR]; rfl))); (case hS => (first | (simp; done) | (simp; rfl) | (simp -implicitDefEqProofs [hh, noV, V.av, heapR]; done) | (simp -implicitDefEqProofs [hh, noV, V.av, heapR]; rfl))); (case hz => (first | (simp; done) | (simp -implicitDefEqProofs [hh, noV, V.av, heapR]; done))); (case hs => (first | (simp -implicitDefEqProofs [hh, noV, V.av, heapR]; done) | (simp -implicitDefEqProofs [hh, noV, V.av, heapR]; rfl) | rfl)))
      | (apply WPL.callL (c_spec_HeapOk _ ?g1); (case hd => (simp; done)); (case hl => (first | (simp; done) | (simp; rfl) | (simp -implicitDefEqProofs [hh, noV, V.av, heapR]; done) | (simp -implicitDefEqProofs [hh, noV, V.av, heapR]; rfl))); (case hb => rfl); (case hins => (first | (simp -implicitDefEqProofs [hh, noV, V.av, heapR]; done) | (simp -implicitDefEqProofs [hh, noV, V.av, heapR]; rfl))); (case he => (first | rfl | (simp -implicitDefEqProofs [hh, noV, V.av, heapR]; done))); (case g1 => (first | assumption | omega)); (case hz => (first | (exact .inl rfl) | (simp; done) | (exact .inr (by simp -implicitDefEqProofs [hh, noV, V.av, heapR])))))
      | (refine WPL.call0f ?_ ?_ ?_; (focus (simp; done)); (focus (simp; done)))
      | (refine WPc.rq tok rfl fun K hK => ?_; simp -implicitDefEqProofs +contextual [-Int.not_le, -Int.not_lt, -Nat.not_le, -Nat.not_lt, -List.all_eq_true, -List.all_eq_false, -List.any_eq_true, -List.any_eq_false, hh, noV, V.av, heapR]; (fail_if_success guard_target =ₛ False); (repeat' (first | refine hK _ ?_ | refine And.intro ?_ ?_ | intro _)) <;> clear hK K)
      | (refine WPL.rn tok _ (by simp [ahead, isFn]; rfl) fun K hK => ?_; simp -implicitDefEqProofs +contextual [-Int.not_le, -Int.not_lt, -Nat.not_le, -Nat.not_lt, -List.all_eq_true, -List.all_eq_false, -List.any_eq_true, -List.any_eq_false, hh, noV, V.av, heapR]; (fail_if_success guard_target =ₛ False); (repeat' (first | refine hK _ ?_ | refine And.intro ?_ ?_ | intro _)) <;> clear hK K <;> (try simp only [Nat.reduceAdd, List.drop_succ_cons, List.drop_zero]))
      | (refine WPc.region ?_; simp only [List.toList_toArray])
      | (refine WPc.condT ?_ ?_; (focus (simp; done))))
    all_goals (simp [heapR, noV, V.av]; try rfl)
  | true =>
    cases hp : plainP s with
    | false =>
      refine Con.of tok (nt := 61) Go.Proofs.Tryz.func10 (by kernel_rfl) rfl rfl rfl (Nat.le_of_ble_eq_true rfl) fun G => ?_
      simp only [entSt, tmOf, List.append_nil, List.cons_append, List.nil_append]
      repeat' (first
        | (refine WPc.renR 15 900001 fun K hK => ?_; simp -implicitDefEqProofs +contextual [-Int.not_le, -Int.not_lt, -Nat.not_le, -Nat.not_lt, -List.all_eq_true, -List.all_eq_false, -List.any_eq_true, -List.any_eq_false, hp, hh, noV, V.av, heapR]; (fail_if_success guard_target =ₛ False); (repeat' (first | refine hK _ ?_ | refine And.intro ?_ ?_ | intro _)) <;> clear hK K)
        | apply WPc.sq
        | (refine WPc.ret (endP.own [(900001, heapR h)] (.inr rfl) rfl rfl (by simp; rfl) ?_ ?_ (by simp)))
        | refine WPL.nil ?_
        | (apply WPL.callU (c_spec_l8CopyCells _ ?g1 ?g2); (case hg => (simp; done)); (case hd => (simp; done)); (case hl => (first | (simp; done) | (simp; rfl) | (simp -implicitDefEqProofs [hp, hh, noV, V.av, heapR]; done) | (simp -implicitDefEqProofs [hp, hh, noV, V.av, heapR]; rfl))); (case hr => (first | (simp; done) | (simp; rfl) | (simp -implicitDefEqProofs [hp, hh, noV, V.av, heapR]; done) | (simp -implicitDefEqProofs [hp, hh, noV, V.av, heapR]; rfl))); (case hins => (first | (simp -implicitDefEqProofs [hp, hh, noV, V.av, heapR]; done) | (simp -implicitDefEqProofs [hp, hh, noV, V.av, heapR]; rfl) | rfl)); (case he => (first | rfl | (simp -implicitDefEqProofs [hp, hh, noV, V.av, heapR]; done))); (case hob => (first | (simp -implicitDefEqProofs [hp, hh, noV, V.av, heapR]; done) | (simp -implicitDefEqProofs [hp, hh, noV, V.av, heapR]; rfl) | rfl)); (case heo => (first | rfl | (simp -implicitDefEqProofs [hp, hh, noV, V.av, heapR]; done))); (case g1 => (first | assumption | omega)); (case g2 => (first | assumption | omega)); (case hnw => (first | (simp; done) | (simp; rfl) | (simp -implicitDefEqProofs [hp, hh, noV, V.av, heapR]; done) | (simp -implicitDefEqProofs [hp, hh, noV, V.av, heapR]; rfl))); (case hok => (first | (simp; done) | (simp -implicitDefEqProofs [hp, hh, noV, V.av, heapR]; done))); (case hP => (first | (simp; done) | (simp; rfl) | (simp -implicitDefEqProofs [hp, hh, noV, V.av, heapR]; done) | (simp -implicitDefEqProofs [hp, hh, noV, V.av, heapR]; rfl))); (case hS => (first | (simp; done) | (simp; rfl) | (simp -implicitDefEqProofs [hp, hh, noV, V.av, heapR]; done) | (simp -implicitDefEqProofs [hp, hh, noV, V.av, heapR]; rfl))); (case hz => (first | (simp; done) | (simp -implicitDefEqProofs [hp, hh, noV, V.av, heapR]; done))); (case hs => (first | (simp -implicitDefEqProofs [hp, hh, noV, V.av, heapR]; done) | (simp -implicitDefEqProofs [hp, hh, noV, V.av, heapR]; rfl) | rfl)))
        | (apply WPL.callL (c_spec_HeapOk _ ?g1); (case hd => (simp; done)); (case hl => (first | (simp; done) | (simp; rfl) | (simp -implicitDefEqProofs [hp, hh, noV, V.av, heapR]; done) | (simp -implicitDefEqProofs [hp, hh, noV, V.av, heapR]; rfl))); (case hb => rfl); (case hins => (first | (simp -implicitDefEqProofs [hp, hh, noV, V.av, heapR]; done) | (simp -implicitDefEqProofs [hp, hh, noV, V.av, heapR]; rfl))); (case he => (first | rfl | (simp -implicitDefEqProofs [hp, hh, noV, V.av, heapR]; done))); (case g1 => (first | assumption | omega)); (case hz => (first | (exact .inl rfl) | (simp; done) | (exact .inr (by simp -implicitDefEqProofs [hp, hh, noV, V.av, heapR])))))
        | (apply WPL.callLt (c_spec_l7Plain _); (case hg => (simp; done)); (case hd => (simp; done)); (case hl => (first | (simp; done) | (simp; rfl) | (simp -implicitDefEqProofs [hp, hh, noV, V.av, heapR]; done) | (simp -implicitDefEqProofs [hp, hh, noV, V.av, heapR]; rfl))); (case hb => rfl); (case hins => (first | (simp -implicitDefEqProofs [hp, hh, noV, V.av, heapR]; done) | (simp -implicitDefEqProofs [hp, hh, noV, V.av, heapR]; rfl))); (case he => (first | rfl | (simp -implicitDefEqProofs [hp, hh, noV, V.av, heapR]; done))); (case hz => (first | (exact .inl rfl) | (simp; done) | (exact .inr (by simp -implicitDefEqProofs [hp, hh, noV, V.av, heapR])))))
        | (refine WPL.call0f ?_ ?_ ?_; (focus (simp; done)); (focus (simp; done)))
        | (refine WPc.rq tok rfl fun K hK => ?_; simp -implicitDefEqProofs +contextual [-Int.not_le, -Int.not_lt, -Nat.not_le, -Nat.not_lt, -List.all_eq_true, -List.all_eq_false, -List.any_eq_true, -List.any_eq_false, hp, hh, noV, V.av, heapR]; (fail_if_success guard_target =ₛ False); (repeat' (first | refine hK _ ?_ | refine And.intro ?_ ?_ | intro _)) <;> clear hK K)
        | (refine WPL.rn tok _ (by simp [ahead, isFn]; rfl) fun K hK => ?_; simp -implicitDefEqProofs +contextual [-Int.not_le, -Int.not_lt, -Nat.not_le, -Nat.not_lt, -List.all_eq_true, -List.all_eq_false, -List.any_eq_true, -List.any_eq_false, hp, hh, noV, V.av, heapR]; (fail_if_success guard_target =ₛ False); (repeat' (first | refine hK _ ?_ | refine And.intro ?_ ?_ | intro _)) <;> clear hK K <;> (try simp only [Nat.reduceAdd, List.drop_succ_cons, List.drop_zero]))
        | (refine WPc.region ?_; simp only [List.toList_toArray])
        | (refine WPc.condT ?_ ?_; (focus (simp; done))))
      all_goals (simp [heapR, noV, V.av]; try rfl)
    | true =>
      by_cases hl : (a.length : Int) = arity s
      · have hv : a.all (valueOk h) = false := by
          cases hx : a.all (valueOk h) with
          | false => rfl
          | true => rw [good, hp, hh, hx, decide_eq_true hl] at hg; simp at hg
        have hl' : ((a.length : Int) = arity s) = True := by simp [hl]
        refine Con.lenOf 2 Go.Proofs.Tryz.func10 (by kernel_rfl) (by kernel_rfl) rfl fun hlen => ?_
        simp at hlen
        refine Con.of tok (nt := 61) Go.Proofs.Tryz.func10 (by kernel_rfl) rfl rfl rfl (Nat.le_of_ble_eq_true rfl) fun G => ?_
        simp only [entSt, tmOf, List.append_nil, List.cons_append, List.nil_append]
        repeat' (first
          | apply WPc.sq
          | apply WPc.block
          | apply WPc.skip
          | refine WPL.nil ?_
          | (apply WPL.callU (c_spec_l8CopyCells _ ?g1 ?g2); (case hg => (simp; done)); (case hd => (simp; done)); (case hl => (first | (simp; done) | (simp; rfl) | (simp -implicitDefEqProofs [hp, hl', hh, noV, V.av, heapR]; done) | (simp -implicitDefEqProofs [hp, hl', hh, noV, V.av, heapR]; rfl))); (case hr => (first | (simp; done) | (simp; rfl) | (simp -implicitDefEqProofs [hp, hl', hh, noV, V.av, heapR]; done) | (simp -implicitDefEqProofs [hp, hl', hh, noV, V.av, heapR]; rfl))); (case hins => (first | (simp -implicitDefEqProofs [hp, hl', hh, noV, V.av, heapR]; done) | (simp -implicitDefEqProofs [hp, hl', hh, noV, V.av, heapR]; rfl) | rfl)); (case he => (first | rfl | (simp -implicitDefEqProofs [hp, hl', hh, noV, V.av, heapR]; done))); (case hob => (first | (simp -implicitDefEqProofs [hp, hl', hh, noV, V.av, heapR]; done) | (simp -implicitDefEqProofs [hp, hl', hh, noV, V.av, heapR]; rfl) | rfl)); (case heo => (first | rfl | (simp -implicitDefEqProofs [hp, hl', hh, noV, V.av, heapR]; done))); (case g1 => (first | assumption | omega)); (case g2 => (first | assumption | omega)); (case hnw => (first | (simp; done) | (simp; rfl) | (simp -implicitDefEqProofs [hp, hl', hh, noV, V.av, heapR]; done) | (simp -implicitDefEqProofs [hp, hl', hh, noV, V.av, heapR]; rfl))); (case hok => (first | (simp; done) | (simp -implicitDefEqProofs [hp, hl', hh, noV, V.av, heapR]; done))); (case hP => (first | (simp; done) | (simp; rfl) | (simp -implicitDefEqProofs [hp, hl', hh, noV, V.av, heapR]; done) | (simp -implicitDefEqProofs [hp, hl', hh, noV, V.av, heapR]; rfl))); (case hS => (first | (simp; done) | (simp; rfl) | (simp -implicitDefEqProofs [hp, hl', hh, noV, V.av, heapR]; done) | (simp -implicitDefEqProofs [hp, hl', hh, noV, V.av, heapR]; rfl))); (case hz => (first | (simp; done) | (simp -implicitDefEqProofs [hp, hl', hh, noV, V.av, heapR]; done))); (case hs => (first | (simp -implicitDefEqProofs [hp, hl', hh, noV, V.av, heapR]; done) | (simp -implicitDefEqProofs [hp, hl', hh, noV, V.av, heapR]; rfl) | rfl)))
          | (apply WPL.callL (c_spec_HeapOk _ ?g1); (case hd => (simp; done)); (case hl => (first | (simp; done) | (simp; rfl) | (simp -implicitDefEqProofs [hp, hl', hh, noV, V.av, heapR]; done) | (simp -implicitDefEqProofs [hp, hl', hh, noV, V.av, heapR]; rfl))); (case hb => rfl); (case hins => (first | (simp -implicitDefEqProofs [hp, hl', hh, noV, V.av, heapR]; done) | (simp -implicitDefEqProofs [hp, hl', hh, noV, V.av, heapR]; rfl))); (case he => (first | rfl | (simp -implicitDefEqProofs [hp, hl', hh, noV, V.av, heapR]; done))); (case g1 => (first | assumption | omega)); (case hz => (first | (exact .inl rfl) | (simp; done) | (exact .inr (by simp -implicitDefEqProofs [hp, hl', hh, noV, V.av, heapR])))))
          | (apply WPL.callLt (c_spec_l7Plain _); (case hg => (simp; done)); (case hd => (simp; done)); (case hl => (first | (simp; done) | (simp; rfl) | (simp -implicitDefEqProofs [hp, hl', hh, noV, V.av, heapR]; done) | (simp -implicitDefEqProofs [hp, hl', hh, noV, V.av, heapR]; rfl))); (case hb => rfl); (case hins => (first | (simp -implicitDefEqProofs [hp, hl', hh, noV, V.av, heapR]; done) | (simp -implicitDefEqProofs [hp, hl', hh, noV, V.av, heapR]; rfl))); (case he => (first | rfl | (simp -implicitDefEqProofs [hp, hl', hh, noV, V.av, heapR]; done))); (case hz => (first | (exact .inl rfl) | (simp; done) | (exact .inr (by simp -implicitDefEqProofs [hp, hl', hh, noV, V.av, heapR])))))
          | (apply WPL.callLt (c_spec_Arity _); (case hg => (simp; done)); (case hd => (simp; done)); (case hl => (first | (simp; done) | (simp; rfl) | (simp -implicitDefEqProofs [hp, hl', hh, noV, V.av, heapR]; done) | (simp -implicitDefEqProofs [hp, hl', hh, noV, V.av, heapR]; rfl))); (case hb => rfl); (case hins => (first | (simp -implicitDefEqProofs [hp, hl', hh, noV, V.av, heapR]; done) | (simp -implicitDefEqProofs [hp, hl', hh, noV, V.av, heapR]; rfl))); (case he => (first | rfl | (simp -implicitDefEqProofs [hp, hl', hh, noV, V.av, heapR]; done))); (case hz => (first | (exact .inl rfl) | (simp; done) | (exact .inr (by simp -implicitDefEqProofs [hp, hl', hh, noV, V.av, heapR])))))
          | (refine WPc.rq tok rfl fun K hK => ?_; simp -implicitDefEqProofs +contextual [-Int.not_le, -Int.not_lt, -Nat.not_le, -Nat.not_lt, -List.all_eq_true, -List.all_eq_false, -List.any_eq_true, -List.any_eq_false, hp, hl', hh, noV, V.av, heapR]; (fail_if_success guard_target =ₛ False); (repeat' (first | refine hK _ ?_ | refine And.intro ?_ ?_ | intro _)) <;> clear hK K)
          | (refine WPL.rn tok _ (by simp [ahead, isFn]; rfl) fun K hK => ?_; simp -implicitDefEqProofs +contextual [-Int.not_le, -Int.not_lt, -Nat.not_le, -Nat.not_lt, -List.all_eq_true, -List.all_eq_false, -List.any_eq_true, -List.any_eq_false, hp, hl', hh, noV, V.av, heapR]; (fail_if_success guard_target =ₛ False); (repeat' (first | refine hK _ ?_ | refine And.intro ?_ ?_ | intro _)) <;> clear hK K <;> (try simp only [Nat.reduceAdd, List.drop_succ_cons, List.drop_zero]))
          | (refine WPc.region ?_; simp only [List.toList_toArray])
          | (refine WPc.condF ?_ ?_; (focus (simp; done))))
        refine WPc.loopV (σ := Nat) (fun i => i ≤ a.length ∧ (a.take i).all (valueOk h) = true) (fun i => a.length - i) (fun i => [(10, .sc (.int .i64 i))]) (fun i => [(15, 88, 6, h.map Cl.ow), (7, 29, 3, [[.sc (.int .i64 0), .sc (.int .i64 0), .sc (.string zs)]])]) [0, 1, 2, 7, 9] 0 (by simp) (by simp) (by simp) ?_
        rintro i ⟨hi, hall⟩ s hs
        simp at hs
        subst hs
        by_cases hlt : i < a.length
        · have hva := List.getElem?_eq_getElem hlt
          have hs1 := h3 _ (List.getElem_mem hlt)
          repeat' (first
            | (refine WPc.renR 15 900001 fun K hK => ?_; simp -implicitDefEqProofs +contextual [-Int.not_le, -Int.not_lt, -Nat.not_le, -Nat.not_lt, -List.all_eq_true, -List.all_eq_false, -List.any_eq_true, -List.any_eq_false, V.cs, hlt, noV, V.av, heapR]; (fail_if_success guard_target =ₛ False); (repeat' (first | refine hK _ ?_ | refine And.intro ?_ ?_ | intro _)) <;> clear hK K)
            | apply WPc.sq
            | apply WPc.block
            | (refine WPc.ret (endP.own [(900001, heapR h)] (.inr rfl) rfl rfl (by simp; rfl) ?_ ?_ (by simp)))
            | apply WPc.skip
            | refine WPL.nil ?_
            | (apply WPL.callL (c_spec_ValueOk _ ⟨_, _, _⟩ ?g1); (case hd => (simp; done)); (case hl => (first | (simp; done) | (simp; rfl) | (simp -implicitDefEqProofs [V.cs, hlt, noV, V.av, heapR]; done) | (simp -implicitDefEqProofs [V.cs, hlt, noV, V.av, heapR]; rfl))); (case hb => rfl); (case hins => (first | (simp -implicitDefEqProofs [V.cs, hlt, noV, V.av, heapR]; done) | (simp -implicitDefEqProofs [V.cs, hlt, noV, V.av, heapR]; rfl))); (case he => (first | rfl | (simp -implicitDefEqProofs [V.cs, hlt, noV, V.av, heapR]; done))); (case g1 => (first | assumption | (exact hs1))); (case hz => (first | (exact .inl rfl) | (simp; done) | (exact .inr (by simp -implicitDefEqProofs [V.cs, hlt, noV, V.av, heapR])))))
            | (refine WPc.rq tok rfl fun K hK => ?_; simp -implicitDefEqProofs +contextual [-Int.not_le, -Int.not_lt, -Nat.not_le, -Nat.not_lt, -List.all_eq_true, -List.all_eq_false, -List.any_eq_true, -List.any_eq_false, V.cs, hlt, noV, V.av, heapR]; (fail_if_success guard_target =ₛ False); (repeat' (first | refine hK _ ?_ | refine And.intro ?_ ?_ | intro _)) <;> clear hK K)
            | (refine WPL.rn tok _ (by simp [ahead, isFn]; rfl) fun K hK => ?_; simp -implicitDefEqProofs +contextual [-Int.not_le, -Int.not_lt, -Nat.not_le, -Nat.not_lt, -List.all_eq_true, -List.all_eq_false, -List.any_eq_true, -List.any_eq_false, V.cs, hlt, noV, V.av, heapR]; (fail_if_success guard_target =ₛ False); (repeat' (first | refine hK _ ?_ | refine And.intro ?_ ?_ | intro _)) <;> clear hK K <;> (try simp only [Nat.reduceAdd, List.drop_succ_cons, List.drop_zero]))
            | (refine WPc.region ?_; simp only [List.toList_toArray])
            | (refine WPc.condT ?_ ?_; (focus (simp; done)))
            | (refine WPc.cond (by simp [-Bool.not_eq_eq_eq_not]; rfl) (fun hq => ?_) (fun hq => ?_) <;> simp only [hq] <;> (try (exfalso; (simp only [decide_eq_true_eq, decide_eq_false_iff_not] at hq); omega))))
          · simp [heapR]
          · exact ⟨rfl, rfl⟩
          refine ⟨i + 1, ⟨⟨by omega, all_next hva (by simpa using hq) hall⟩, by first | omega | (simp only; omega) | assumption⟩, rfl, rfl, ?_, ?_⟩ <;> simp (disch := omega) [wrap64, heapR]
        · exfalso
          rw [List.take_of_length_le (by omega)] at hall
          rw [hv] at hall
          cases hall
      · have hl' : ((a.length : Int) = arity s) = False := by simp [hl]
        refine Con.of tok (nt := 61) Go.Proofs.Tryz.func10 (by kernel_rfl) rfl rfl rfl (Nat.le_of_ble_eq_true rfl) fun G => ?_
        simp only [entSt, tmOf, List.append_nil, List.cons_append, List.nil_append]
        repeat' (first
          | (refine WPc.renR 15 900001 fun K hK => ?_; simp -implicitDefEqProofs +contextual [-Int.not_le, -Int.not_lt, -Nat.not_le, -Nat.not_lt, -List.all_eq_true, -List.all_eq_false, -List.any_eq_true, -List.any_eq_false, hp, hl', hh, noV, V.av, heapR]; (fail_if_success guard_target =ₛ False); (repeat' (first | refine hK _ ?_ | refine And.intro ?_ ?_ | intro _)) <;> clear hK K)
          | apply WPc.sq
          | (refine WPc.ret (endP.own [(900001, heapR h)] (.inr rfl) rfl rfl (by simp; rfl) ?_ ?_ (by simp)))
          | refine WPL.nil ?_
          | (apply WPL.callU (c_spec_l8CopyCells _ ?g1 ?g2); (case hg => (simp; done)); (case hd => (simp; done)); (case hl => (first | (simp; done) | (simp; rfl) | (simp -implicitDefEqProofs [hp, hl', hh, noV, V.av, heapR]; done) | (simp -implicitDefEqProofs [hp, hl', hh, noV, V.av, heapR]; rfl))); (case hr => (first | (simp; done) | (simp; rfl) | (simp -implicitDefEqProofs [hp, hl', hh, noV, V.av, heapR]; done) | (simp -implicitDefEqProofs [hp, hl', hh, noV, V.av, heapR]; rfl))); (case hins => (first | (simp -implicitDefEqProofs [hp, hl', hh, noV, V.av, heapR]; done) | (simp -implicitDefEqProofs [hp, hl', hh, noV, V.av, heapR]; rfl) | rfl)); (case he => (first | rfl | (simp -implicitDefEqProofs [hp, hl', hh, noV, V.av, heapR]; done))); (case hob => (first | (simp -implicitDefEqProofs [hp, hl', hh, noV, V.av, heapR]; done) | (simp -implicitDefEqProofs [hp, hl', hh, noV, V.av, heapR]; rfl) | rfl)); (case heo => (first | rfl | (simp -implicitDefEqProofs [hp, hl', hh, noV, V.av, heapR]; done))); (case g1 => (first | assumption | omega)); (case g2 => (first | assumption | omega)); (case hnw => (first | (simp; done) | (simp; rfl) | (simp -implicitDefEqProofs [hp, hl', hh, noV, V.av, heapR]; done) | (simp -implicitDefEqProofs [hp, hl', hh, noV, V.av, heapR]; rfl))); (case hok => (first | (simp; done) | (simp -implicitDefEqProofs [hp, hl', hh, noV, V.av, heapR]; done))); (case hP => (first | (simp; done) | (simp; rfl) | (simp -implicitDefEqProofs [hp, hl', hh, noV, V.av, heapR]; done) | (simp -implicitDefEqProofs [hp, hl', hh, noV, V.av, heapR]; rfl))); (case hS => (first | (simp; done) | (simp; rfl) | (simp -implicitDefEqProofs [hp, hl', hh, noV, V.av, heapR]; done) | (simp -implicitDefEqProofs [hp, hl', hh, noV, V.av, heapR]; rfl))); (case hz => (first | (simp; done) | (simp -implicitDefEqProofs [hp, hl', hh, noV, V.av, heapR]; done))); (case hs => (first | (simp -implicitDefEqProofs [hp, hl', hh, noV, V.av, heapR]; done) | (simp -implicitDefEqProofs [hp, hl', hh, noV, V.av, heapR]; rfl) | rfl)))
          | (apply WPL.callL (c_spec_HeapOk _ ?g1); (case hd => (simp; done)); (case hl => (first | (simp; done) | (simp; rfl) | (simp -implicitDefEqProofs [hp, hl', hh, noV, V.av, heapR]; done) | (simp -implicitDefEqProofs [hp, hl', hh, noV, V.av, heapR]; rfl))); (case hb => rfl); (case hins => (first | (simp -implicitDefEqProofs [hp, hl', hh, noV, V.av, heapR]; done) | (simp -implicitDefEqProofs [hp, hl', hh, noV, V.av, heapR]; rfl))); (case he => (first | rfl | (simp -implicitDefEqProofs [hp, hl', hh, noV, V.av, heapR]; done))); (case g1 => (first | assumption | omega)); (case hz => (first | (exact .inl rfl) | (simp; done) | (exact .inr (by simp -implicitDefEqProofs [hp, hl', hh, noV, V.av, heapR])))))
          | (apply WPL.callLt (c_spec_l7Plain _); (case hg => (simp; done)); (case hd => (simp; done)); (case hl => (first | (simp; done) | (simp; rfl) | (simp -implicitDefEqProofs [hp, hl', hh, noV, V.av, heapR]; done) | (simp -implicitDefEqProofs [hp, hl', hh, noV, V.av, heapR]; rfl))); (case hb => rfl); (case hins => (first | (simp -implicitDefEqProofs [hp, hl', hh, noV, V.av, heapR]; done) | (simp -implicitDefEqProofs [hp, hl', hh, noV, V.av, heapR]; rfl))); (case he => (first | rfl | (simp -implicitDefEqProofs [hp, hl', hh, noV, V.av, heapR]; done))); (case hz => (first | (exact .inl rfl) | (simp; done) | (exact .inr (by simp -implicitDefEqProofs [hp, hl', hh, noV, V.av, heapR])))))
          | (apply WPL.callLt (c_spec_Arity _); (case hg => (simp; done)); (case hd => (simp; done)); (case hl => (first | (simp; done) | (simp; rfl) | (simp -implicitDefEqProofs [hp, hl', hh, noV, V.av, heapR]; done) | (simp -implicitDefEqProofs [hp, hl', hh, noV, V.av, heapR]; rfl))); (case hb => rfl); (case hins => (first | (simp -implicitDefEqProofs [hp, hl', hh, noV, V.av, heapR]; done) | (simp -implicitDefEqProofs [hp, hl', hh, noV, V.av, heapR]; rfl))); (case he => (first | rfl | (simp -implicitDefEqProofs [hp, hl', hh, noV, V.av, heapR]; done))); (case hz => (first | (exact .inl rfl) | (simp; done) | (exact .inr (by simp -implicitDefEqProofs [hp, hl', hh, noV, V.av, heapR])))))
          | (refine WPc.rq tok rfl fun K hK => ?_; simp -implicitDefEqProofs +contextual [-Int.not_le, -Int.not_lt, -Nat.not_le, -Nat.not_lt, -List.all_eq_true, -List.all_eq_false, -List.any_eq_true, -List.any_eq_false, hp, hl', hh, noV, V.av, heapR]; (fail_if_success guard_target =ₛ False); (repeat' (first | refine hK _ ?_ | refine And.intro ?_ ?_ | intro _)) <;> clear hK K)
          | (refine WPL.rn tok _ (by simp [ahead, isFn]; rfl) fun K hK => ?_; simp -implicitDefEqProofs +contextual [-Int.not_le, -Int.not_lt, -Nat.not_le, -Nat.not_lt, -List.all_eq_true, -List.all_eq_false, -List.any_eq_true, -List.any_eq_false, hp, hl', hh, noV, V.av, heapR]; (fail_if_success guard_target =ₛ False); (repeat' (first | refine hK _ ?_ | refine And.intro ?_ ?_ | intro _)) <;> clear hK K <;> (try simp only [Nat.reduceAdd, List.drop_succ_cons, List.drop_zero]))
          | (refine WPc.region ?_; simp only [List.toList_toArray])
          | (refine WPc.condT ?_ ?_; (focus (simp; done))))
        all_goals (simp [heapR, noV, V.av]; try rfl)
@[simp] theorem sc_sC (l : List ByteArray) : scLL (l.map sC) = true := by
  induction l with
  | nil => rfl
  | cons x l ih => simp only [List.map_cons, scLL, ih]; rfl
@[simp] theorem sc_V (l : List V) : scLL (l.map V.cs) = true := by
  induction l with
  | nil => rfl
  | cons x l ih => simp only [List.map_cons, scLL, ih]; rfl
@[simp] theorem sc_ow (l : List Cl) : scLL (l.map Cl.ow) = true := by
  induction l with
  | nil => rfl
  | cons x l ih => simp only [List.map_cons, scLL, ih, Cl.ow, scL, scC, sc_sC, sc_V]; rfl
theorem spec_Prim_good (h : List Cl) (s : ByteArray) (a : List V) (h2 : ∀ c, c ∈ h → c.sm) (h3 : ∀ v, v ∈ a → v.sm) (h4 : h.length ≤ 1000000000) (h5 : ∀ c, c ∈ h → c.rm) (hg : good h s a = true) : Con PP 10 [.fz (h.map Cl.cs), .sc (.string s), .fz (a.map V.cs)] [] [] (fun r o => r = PrimR h s a ∧ o = [(900001, heapR (pH h s a))]) := by
  have e1 : pH h s a = primH h s a := by simp [pH, hg]
  have e2 : pV h s a = primV h s (arg a 0) (arg a 1) := by simp [pV, hg]
  have hP := l7_good hg
  have ha : a.length ≤ 2 := by
    obtain ⟨_, _, ⟨_, x, y, rfl⟩ | ⟨_, x, rfl⟩⟩ := good_cases hg <;> simp
  have hb1 : a.length * 32 ≤ 140737488355328 := by omega
  have hb2 : a.length ≤ 9223372036854775807 := by omega
  simp only [PrimR, e1, e2]
  have hg' := hg
  simp only [good, Bool.and_eq_true, decide_eq_true_eq] at hg'
  obtain ⟨⟨⟨hp, hl⟩, hh⟩, hv⟩ := hg'
  have hl' : ((a.length : Int) = arity s) = True := by simp [hl]
  refine Con.of tok (nt := 61) Go.Proofs.Tryz.func10 (by kernel_rfl) rfl rfl rfl (Nat.le_of_ble_eq_true rfl) fun G => ?_
  simp only [entSt, tmOf, List.append_nil, List.cons_append, List.nil_append]
  repeat' (first
    | apply WPc.sq
    | apply WPc.block
    | apply WPc.skip
    | refine WPL.nil ?_
    | (apply WPL.callU (c_spec_l8CopyCells _ ?g1 ?g2); (case hg => (simp; done)); (case hd => (simp; done)); (case hl => (first | (simp; done) | (simp; rfl) | (simp -implicitDefEqProofs [hp, hl', hh, noV, V.av, heapR]; done) | (simp -implicitDefEqProofs [hp, hl', hh, noV, V.av, heapR]; rfl))); (case hr => (first | (simp; done) | (simp; rfl) | (simp -implicitDefEqProofs [hp, hl', hh, noV, V.av, heapR]; done) | (simp -implicitDefEqProofs [hp, hl', hh, noV, V.av, heapR]; rfl))); (case hins => (first | (simp -implicitDefEqProofs [hp, hl', hh, noV, V.av, heapR]; done) | (simp -implicitDefEqProofs [hp, hl', hh, noV, V.av, heapR]; rfl) | rfl)); (case he => (first | rfl | (simp -implicitDefEqProofs [hp, hl', hh, noV, V.av, heapR]; done))); (case hob => (first | (simp -implicitDefEqProofs [hp, hl', hh, noV, V.av, heapR]; done) | (simp -implicitDefEqProofs [hp, hl', hh, noV, V.av, heapR]; rfl) | rfl)); (case heo => (first | rfl | (simp -implicitDefEqProofs [hp, hl', hh, noV, V.av, heapR]; done))); (case g1 => (first | assumption | omega)); (case g2 => (first | assumption | omega)); (case hnw => (first | (simp; done) | (simp; rfl) | (simp -implicitDefEqProofs [hp, hl', hh, noV, V.av, heapR]; done) | (simp -implicitDefEqProofs [hp, hl', hh, noV, V.av, heapR]; rfl))); (case hok => (first | (simp; done) | (simp -implicitDefEqProofs [hp, hl', hh, noV, V.av, heapR]; done))); (case hP => (first | (simp; done) | (simp; rfl) | (simp -implicitDefEqProofs [hp, hl', hh, noV, V.av, heapR]; done) | (simp -implicitDefEqProofs [hp, hl', hh, noV, V.av, heapR]; rfl))); (case hS => (first | (simp; done) | (simp; rfl) | (simp -implicitDefEqProofs [hp, hl', hh, noV, V.av, heapR]; done) | (simp -implicitDefEqProofs [hp, hl', hh, noV, V.av, heapR]; rfl))); (case hz => (first | (simp; done) | (simp -implicitDefEqProofs [hp, hl', hh, noV, V.av, heapR]; done))); (case hs => (first | (simp -implicitDefEqProofs [hp, hl', hh, noV, V.av, heapR]; done) | (simp -implicitDefEqProofs [hp, hl', hh, noV, V.av, heapR]; rfl) | rfl)))
    | (apply WPL.callL (c_spec_HeapOk _ ?g1); (case hd => (simp; done)); (case hl => (first | (simp; done) | (simp; rfl) | (simp -implicitDefEqProofs [hp, hl', hh, noV, V.av, heapR]; done) | (simp -implicitDefEqProofs [hp, hl', hh, noV, V.av, heapR]; rfl))); (case hb => rfl); (case hins => (first | (simp -implicitDefEqProofs [hp, hl', hh, noV, V.av, heapR]; done) | (simp -implicitDefEqProofs [hp, hl', hh, noV, V.av, heapR]; rfl))); (case he => (first | rfl | (simp -implicitDefEqProofs [hp, hl', hh, noV, V.av, heapR]; done))); (case g1 => (first | assumption | omega)); (case hz => (first | (exact .inl rfl) | (simp; done) | (exact .inr (by simp -implicitDefEqProofs [hp, hl', hh, noV, V.av, heapR])))))
    | (apply WPL.callLt (c_spec_l7Plain _); (case hg => (simp; done)); (case hd => (simp; done)); (case hl => (first | (simp; done) | (simp; rfl) | (simp -implicitDefEqProofs [hp, hl', hh, noV, V.av, heapR]; done) | (simp -implicitDefEqProofs [hp, hl', hh, noV, V.av, heapR]; rfl))); (case hb => rfl); (case hins => (first | (simp -implicitDefEqProofs [hp, hl', hh, noV, V.av, heapR]; done) | (simp -implicitDefEqProofs [hp, hl', hh, noV, V.av, heapR]; rfl))); (case he => (first | rfl | (simp -implicitDefEqProofs [hp, hl', hh, noV, V.av, heapR]; done))); (case hz => (first | (exact .inl rfl) | (simp; done) | (exact .inr (by simp -implicitDefEqProofs [hp, hl', hh, noV, V.av, heapR])))))
    | (apply WPL.callLt (c_spec_Arity _); (case hg => (simp; done)); (case hd => (simp; done)); (case hl => (first | (simp; done) | (simp; rfl) | (simp -implicitDefEqProofs [hp, hl', hh, noV, V.av, heapR]; done) | (simp -implicitDefEqProofs [hp, hl', hh, noV, V.av, heapR]; rfl))); (case hb => rfl); (case hins => (first | (simp -implicitDefEqProofs [hp, hl', hh, noV, V.av, heapR]; done) | (simp -implicitDefEqProofs [hp, hl', hh, noV, V.av, heapR]; rfl))); (case he => (first | rfl | (simp -implicitDefEqProofs [hp, hl', hh, noV, V.av, heapR]; done))); (case hz => (first | (exact .inl rfl) | (simp; done) | (exact .inr (by simp -implicitDefEqProofs [hp, hl', hh, noV, V.av, heapR])))))
    | (refine WPc.rq tok rfl fun K hK => ?_; simp -implicitDefEqProofs +contextual [-Int.not_le, -Int.not_lt, -Nat.not_le, -Nat.not_lt, -List.all_eq_true, -List.all_eq_false, -List.any_eq_true, -List.any_eq_false, hp, hl', hh, noV, V.av, heapR]; (fail_if_success guard_target =ₛ False); (repeat' (first | refine hK _ ?_ | refine And.intro ?_ ?_ | intro _)) <;> clear hK K)
    | (refine WPL.rn tok _ (by simp [ahead, isFn]; rfl) fun K hK => ?_; simp -implicitDefEqProofs +contextual [-Int.not_le, -Int.not_lt, -Nat.not_le, -Nat.not_lt, -List.all_eq_true, -List.all_eq_false, -List.any_eq_true, -List.any_eq_false, hp, hl', hh, noV, V.av, heapR]; (fail_if_success guard_target =ₛ False); (repeat' (first | refine hK _ ?_ | refine And.intro ?_ ?_ | intro _)) <;> clear hK K <;> (try simp only [Nat.reduceAdd, List.drop_succ_cons, List.drop_zero]))
    | (refine WPc.region ?_; simp only [List.toList_toArray])
    | (refine WPc.condF ?_ ?_; (focus (simp; done))))
  refine WPc.loopV (σ := Nat) (fun i => i ≤ a.length) (fun i => a.length - i) (fun i => [(10, .sc (.int .i64 i))]) (fun i => [(15, 88, 6, h.map Cl.ow), (7, 29, 3, [[.sc (.int .i64 0), .sc (.int .i64 0), .sc (.string zs)]])]) [0, 1, 2, 7, 9] 0 (by simp) (by simp) (by simp) ?_
  rintro i hi s hs
  simp at hs
  subst hs
  by_cases hlt : i < a.length
  · have hva := List.getElem?_eq_getElem hlt
    have hs1 := h3 _ (List.getElem_mem hlt)
    have hok : valueOk h a[i] = true := List.all_eq_true.1 hv _ (List.getElem_mem hlt)
    repeat' (first
      | apply WPc.sq
      | apply WPc.block
      | apply WPc.skip
      | refine WPL.nil ?_
      | (apply WPL.callL (c_spec_ValueOk _ ⟨_, _, _⟩ ?g1); (case hd => (simp; done)); (case hl => (first | (simp; done) | (simp; rfl) | (simp -implicitDefEqProofs [V.cs, hlt, noV, V.av, heapR, hok]; done) | (simp -implicitDefEqProofs [V.cs, hlt, noV, V.av, heapR, hok]; rfl))); (case hb => rfl); (case hins => (first | (simp -implicitDefEqProofs [V.cs, hlt, noV, V.av, heapR, hok]; done) | (simp -implicitDefEqProofs [V.cs, hlt, noV, V.av, heapR, hok]; rfl))); (case he => (first | rfl | (simp -implicitDefEqProofs [V.cs, hlt, noV, V.av, heapR, hok]; done))); (case g1 => (first | assumption | (exact hs1))); (case hz => (first | (exact .inl rfl) | (simp; done) | (exact .inr (by simp -implicitDefEqProofs [V.cs, hlt, noV, V.av, heapR, hok])))))
      | (refine WPc.rq tok rfl fun K hK => ?_; simp -implicitDefEqProofs +contextual [-Int.not_le, -Int.not_lt, -Nat.not_le, -Nat.not_lt, -List.all_eq_true, -List.all_eq_false, -List.any_eq_true, -List.any_eq_false, V.cs, hlt, noV, V.av, heapR, hok]; (fail_if_success guard_target =ₛ False); (repeat' (first | refine hK _ ?_ | refine And.intro ?_ ?_ | intro _)) <;> clear hK K)
      | (refine WPL.rn tok _ (by simp [ahead, isFn]; rfl) fun K hK => ?_; simp -implicitDefEqProofs +contextual [-Int.not_le, -Int.not_lt, -Nat.not_le, -Nat.not_lt, -List.all_eq_true, -List.all_eq_false, -List.any_eq_true, -List.any_eq_false, V.cs, hlt, noV, V.av, heapR, hok]; (fail_if_success guard_target =ₛ False); (repeat' (first | refine hK _ ?_ | refine And.intro ?_ ?_ | intro _)) <;> clear hK K <;> (try simp only [Nat.reduceAdd, List.drop_succ_cons, List.drop_zero]))
      | (refine WPc.region ?_; simp only [List.toList_toArray])
      | (refine WPc.condT ?_ ?_; (focus (simp; done)))
      | (refine WPc.condF ?_ ?_; (focus (simp; done))))
    all_goals
      refine ⟨i + 1, ⟨hlt, by first | omega | (simp only; omega) | assumption⟩, rfl, rfl, ?_, ?_⟩ <;> simp (disch := omega) [wrap64, heapR]
  · obtain rfl : i = a.length := by omega
    repeat' (first
      | (refine WPc.renR 15 900001 fun K hK => ?_; simp -implicitDefEqProofs +contextual [-Int.not_le, -Int.not_lt, -Nat.not_le, -Nat.not_lt, -List.all_eq_true, -List.all_eq_false, -List.any_eq_true, -List.any_eq_false, V.av, heapR, hb1, hb2]; (fail_if_success guard_target =ₛ False); (repeat' (first | refine hK _ ?_ | refine And.intro ?_ ?_ | intro _)) <;> clear hK K)
      | apply WPc.sq
      | (refine WPc.ret (endP.own [(900001, heapR (primH h s a))] (.inr rfl) rfl rfl (by simp; rfl) ?_ ?_ (by simp)))
      | apply WPc.exit
      | refine WPL.nil ?_
      | (apply WPL.callU hP; (case hg => (simp; done)); (case hd => (simp; done)); (case hl => (first | (simp; done) | (simp; rfl) | (simp -implicitDefEqProofs [V.av, heapR, hb1, hb2]; done) | (simp -implicitDefEqProofs [V.av, heapR, hb1, hb2]; rfl))); (case hr => (first | (simp; done) | (simp; rfl) | (simp -implicitDefEqProofs [V.av, heapR, hb1, hb2]; done) | (simp -implicitDefEqProofs [V.av, heapR, hb1, hb2]; rfl))); (case hins => (first | (simp -implicitDefEqProofs [V.av, heapR, hb1, hb2]; done) | (simp -implicitDefEqProofs [V.av, heapR, hb1, hb2]; rfl) | rfl)); (case he => (first | rfl | (simp -implicitDefEqProofs [V.av, heapR, hb1, hb2]; done))); (case hob => (first | (simp -implicitDefEqProofs [V.av, heapR, hb1, hb2]; done) | (simp -implicitDefEqProofs [V.av, heapR, hb1, hb2]; rfl) | rfl)); (case heo => (first | rfl | (simp -implicitDefEqProofs [V.av, heapR, hb1, hb2]; done))); (case hnw => (first | (simp; done) | (simp; rfl) | (simp -implicitDefEqProofs [V.av, heapR, hb1, hb2]; done) | (simp -implicitDefEqProofs [V.av, heapR, hb1, hb2]; rfl))); (case hok => (first | (simp; done) | (simp -implicitDefEqProofs [V.av, heapR, hb1, hb2]; done))); (case hP => (first | (simp; done) | (simp; rfl) | (simp -implicitDefEqProofs [V.av, heapR, hb1, hb2]; done) | (simp -implicitDefEqProofs [V.av, heapR, hb1, hb2]; rfl))); (case hS => (first | (simp; done) | (simp; rfl) | (simp -implicitDefEqProofs [V.av, heapR, hb1, hb2]; done) | (simp -implicitDefEqProofs [V.av, heapR, hb1, hb2]; rfl))); (case hz => (first | (simp; done) | (simp -implicitDefEqProofs [V.av, heapR, hb1, hb2]; done))); (case hs => (first | (simp -implicitDefEqProofs [V.av, heapR, hb1, hb2]; done) | (simp -implicitDefEqProofs [V.av, heapR, hb1, hb2]; rfl) | rfl)))
      | (refine WPc.rq tok rfl fun K hK => ?_; simp -implicitDefEqProofs +contextual [-Int.not_le, -Int.not_lt, -Nat.not_le, -Nat.not_lt, -List.all_eq_true, -List.all_eq_false, -List.any_eq_true, -List.any_eq_false, V.av, heapR, hb1, hb2]; (fail_if_success guard_target =ₛ False); (repeat' (first | refine hK _ ?_ | refine And.intro ?_ ?_ | intro _)) <;> clear hK K)
      | (refine WPL.rn tok _ (by simp [ahead, isFn]; rfl) fun K hK => ?_; simp -implicitDefEqProofs +contextual [-Int.not_le, -Int.not_lt, -Nat.not_le, -Nat.not_lt, -List.all_eq_true, -List.all_eq_false, -List.any_eq_true, -List.any_eq_false, V.av, heapR, hb1, hb2]; (fail_if_success guard_target =ₛ False); (repeat' (first | refine hK _ ?_ | refine And.intro ?_ ?_ | intro _)) <;> clear hK K <;> (try simp only [Nat.reduceAdd, List.drop_succ_cons, List.drop_zero]))
      | (refine WPc.sched (id := 10) tok [(4, [7, 12])] [(0, []), (1, []), (2, [7, 12]), (3, []), (4, [7, 12]), (5, [])] (by kernel_rfl) ?_)
      | (refine WPS.nil ?_)
      | (refine WPS.rn tok _ (by simp [aheadS]; rfl) fun K hK => ?_; simp -implicitDefEqProofs +contextual [-Int.not_le, -Int.not_lt, -Nat.not_le, -Nat.not_lt, -List.all_eq_true, -List.all_eq_false, -List.any_eq_true, -List.any_eq_false, V.av, heapR, hb1, hb2]; (fail_if_success guard_target =ₛ False); (repeat' (first | refine hK _ ?_ | refine And.intro ?_ ?_ | intro _)) <;> clear hK K <;> (try simp only [Nat.reduceAdd, List.drop_succ_cons, List.drop_zero]))
      | (refine WPS.eff tok fun K hK => ?_; simp -implicitDefEqProofs +contextual [-Int.not_le, -Int.not_lt, -Nat.not_le, -Nat.not_lt, -List.all_eq_true, -List.all_eq_false, -List.any_eq_true, -List.any_eq_false, V.av, heapR, hb1, hb2]; (fail_if_success guard_target =ₛ False); (repeat' (first | refine hK _ ?_ | refine And.intro ?_ ?_ | intro _)) <;> clear hK K)
      | (refine WPc.region ?_; simp only [List.toList_toArray])
      | (refine WPc.condF ?_ ?_; (focus (simp; done))))
    all_goals (simp [heapR, noV, V.av]; try rfl)
theorem c_spec_Prim (h : List Cl) (s : ByteArray) (a : List V) (h2 : ∀ c, c ∈ h → c.sm) (h3 : ∀ v, v ∈ a → v.sm) (h4 : h.length ≤ 1000000000) (h5 : ∀ c, c ∈ h → c.rm) : Con PP 10 [.fz (h.map Cl.cs), .sc (.string s), .fz (a.map V.cs)] [] [] (fun r o => r = PrimR h s a ∧ o = [(900001, heapR (pH h s a))]) := by
  cases hg : good h s a with
  | false => exact spec_Prim_bad h s a h2 h3 h4 h5 hg
  | true => exact spec_Prim_good h s a h2 h3 h4 h5 hg
end Go.Own
set_option linter.unusedVariables false
set_option linter.unusedSimpArgs false
set_option linter.unusedSectionVars false
set_option maxRecDepth 1000000
set_option maxHeartbeats 4000000
namespace Go.Own
attribute [local irreducible] WPc WPL WPS WPS1 WPS2 HAny endP
variable [Laid]
open Go.Lib Go.RowKit
def szR (left : Int) (c : Nat) : Int := if (c : Int) ≤ left then left - c else -1
def costS (l : List ByteArray) : Nat := l.length + (l.map ByteArray.size).sum
def costV (l : List V) : Nat := l.length + (l.map fun v => v.s.size).sum
def costC (c : Cl) : Nat := c.s.size + costS c.names + costV c.vals
def costH (h : List Cl) : Nat := h.length + (h.map costC).sum
theorem fit_int {a b : Int} (h : a = b) : Fit (.sc (.int .i64 a)) (.sc (.int .i64 b)) := by subst h; simp
def sumTo {α : Type} (f : α → Nat) (l : List α) (i : Nat) : Nat := ((l.take i).map f).sum
theorem sumTo_zero {α : Type} (f : α → Nat) (l : List α) : sumTo f l 0 = 0 := by simp [sumTo]
theorem sumTo_all {α : Type} (f : α → Nat) (l : List α) : sumTo f l l.length = (l.map f).sum := by simp [sumTo]
theorem sumTo_next {α : Type} {f : α → Nat} {l : List α} {i : Nat} (hi : i < l.length) : sumTo f l (i + 1) = sumTo f l i + f l[i] := by
  unfold sumTo
  rw [List.take_add_one, List.getElem?_eq_getElem hi, List.map_append, List.sum_append]
  simp
theorem sumTo_le {α : Type} (f : α → Nat) (l : List α) (i : Nat) : sumTo f l i ≤ (l.map f).sum := by
  unfold sumTo
  conv => rhs; rw [← List.take_append_drop i l, List.map_append, List.sum_append]
  omega
theorem szR_no {left : Int} {c : Nat} (h : left < c) : szR left c = -1 := by unfold szR; rw [if_neg (by omega)]
theorem szR_ok {left : Int} {c : Nat} (h : (c : Int) ≤ left) : szR left c = left - c := by unfold szR; rw [if_pos h]
theorem c_laws_szStringS (l : List ByteArray) (left : Int) (h0 : 0 ≤ left) (h1 : left ≤ 1073741824) (hs : ∀ s, s ∈ l → s.size ≤ 9223372036854775807) : Con PP 101 [.fz (l.map sC), .sc (.int .i64 left)] [] [] (fun r o => r = .sc (.int .i64 (szR left (costS l)))) := by
  refine Con.lenOf 0 Go.Proofs.Tryz.func101 (by kernel_rfl) (by kernel_rfl) rfl fun hlen => ?_
  simp at hlen
  refine Con.of tok (nt := 28) Go.Proofs.Tryz.func101 (by kernel_rfl) rfl rfl rfl (Nat.le_of_ble_eq_true rfl) fun G => ?_
  simp only [entSt, tmOf, List.append_nil, List.cons_append, List.nil_append]
  have e1 : IntKind.i64.wrap (left - l.length) = left - l.length := wrap64 (by omega) (by omega)
  repeat' (first
    | apply WPc.sq
    | apply WPc.block
    | (refine WPc.ret (endP.val (.inr rfl) rfl rfl (by simp; rfl) ?_))
    | apply WPc.skip
    | (refine WPc.rq tok rfl fun K hK => ?_; simp -implicitDefEqProofs +contextual [-Int.not_le, -Int.not_lt, -Nat.not_le, -Nat.not_lt, -List.all_eq_true, -List.all_eq_false, -List.any_eq_true, -List.any_eq_false, e1]; (fail_if_success guard_target =ₛ False); (repeat' (first | refine hK _ ?_ | refine And.intro ?_ ?_ | intro _)) <;> clear hK K)
    | (refine WPc.cond (by simp [-Bool.not_eq_eq_eq_not]; rfl) (fun hq => ?_) (fun hq => ?_) <;> simp only [hq] <;> (try (exfalso; (simp only [decide_eq_true_eq, decide_eq_false_iff_not] at hq); omega))))
  · rw [szR_no (by unfold costS; simp at hq; omega)]
  simp only [decide_eq_false_iff_not] at hq
  refine WPc.loopK (σ := Nat) (fun i => i ≤ l.length ∧ l.length + sumTo ByteArray.size l i ≤ left) (fun i => l.length - i) (fun i => [(5, .sc (.int .i64 i)), (1, .sc (.int .i64 (left - l.length - sumTo ByteArray.size l i)))])  [0] 0 (by simp [sumTo_zero]) (by simp [sumTo_zero]) (⟨by omega, by rw [sumTo_zero]; omega⟩) ?_
  rintro i ⟨hi, hle⟩ s hs
  simp at hs
  subst hs
  by_cases hlt : i < l.length
  · have hz := hs _ (List.getElem_mem hlt)
    have e2 : IntKind.i64.wrap (left - l.length - sumTo ByteArray.size l i - l[i].size) = left - l.length - sumTo ByteArray.size l i - l[i].size := wrap64 (by omega) (by omega)
    have e3 := sumTo_next (f := ByteArray.size) hlt
    have e4 := sumTo_le ByteArray.size l (i + 1)
    repeat' (first
      | apply WPc.sq
      | apply WPc.block
      | (refine WPc.ret (endP.val (.inr rfl) rfl rfl (by simp; rfl) ?_))
      | apply WPc.skip
      | (refine WPc.rq tok rfl fun K hK => ?_; simp -implicitDefEqProofs +contextual [-Int.not_le, -Int.not_lt, -Nat.not_le, -Nat.not_lt, -List.all_eq_true, -List.all_eq_false, -List.any_eq_true, -List.any_eq_false, sC, hlt, e2]; (fail_if_success guard_target =ₛ False); (repeat' (first | refine hK _ ?_ | refine And.intro ?_ ?_ | intro _)) <;> clear hK K)
      | (refine WPc.condT ?_ ?_; (focus (simp; done)))
      | (refine WPc.cond (by simp [-Bool.not_eq_eq_eq_not]; rfl) (fun hq => ?_) (fun hq => ?_) <;> simp only [hq] <;> (try (exfalso; (simp only [decide_eq_true_eq, decide_eq_false_iff_not] at hq); omega))))
    · rw [szR_no (by unfold costS; simp at hq; omega)]
    all_goals
      simp at hq
      refine ⟨i + 1, ⟨⟨by omega, by omega⟩, by first | omega | (simp only; omega) | assumption⟩, rfl, rfl, ?_, ?_⟩ <;> simp (disch := omega) [wrap64, e3]
    all_goals (try rw [e2])
    all_goals (refine fit_int ?_; omega)
  · obtain rfl : i = l.length := by omega
    repeat' (first
      | apply WPc.sq
      | (refine WPc.ret (endP.val (.inr rfl) rfl rfl (by simp; rfl) ?_))
      | apply WPc.exit
      | (refine WPc.rq tok rfl fun K hK => ?_; simp -implicitDefEqProofs +contextual [-Int.not_le, -Int.not_lt, -Nat.not_le, -Nat.not_lt, -List.all_eq_true, -List.all_eq_false, -List.any_eq_true, -List.any_eq_false]; (fail_if_success guard_target =ₛ False); (repeat' (first | refine hK _ ?_ | refine And.intro ?_ ?_ | intro _)) <;> clear hK K)
      | (refine WPc.condF ?_ ?_; (focus (simp; done))))
    rw [sumTo_all] at hle
    rw [szR_ok (by unfold costS; omega), sumTo_all]
    simp only [costS, AV.sc.injEq, Value.int.injEq, true_and]
    omega
theorem c_laws_szValue (v : V) (left : Int) (h0 : 0 ≤ left) (h1 : left ≤ 1073741824) (hs : v.s.size ≤ 9223372036854775807) : Con PP 57 [v.av, .sc (.int .i64 left)] [] [] (fun r o => r = .sc (.int .i64 (szR left v.s.size))) := by
  have e1 : IntKind.i64.wrap (left - v.s.size) = left - v.s.size := wrap64 (by omega) (by omega)
  refine Con.of tok (nt := 13) Go.Proofs.Tryz.func57 (by kernel_rfl) rfl rfl rfl (Nat.le_of_ble_eq_true rfl) fun G => ?_
  simp only [entSt, tmOf, List.append_nil, List.cons_append, List.nil_append, V.av]
  repeat' (first
    | apply WPc.sq
    | (refine WPc.ret (endP.val (.inr rfl) rfl rfl (by simp; rfl) ?_))
    | apply WPc.skip
    | (refine WPc.rq tok rfl fun K hK => ?_; simp -implicitDefEqProofs +contextual [-Int.not_le, -Int.not_lt, -Nat.not_le, -Nat.not_lt, -List.all_eq_true, -List.all_eq_false, -List.any_eq_true, -List.any_eq_false, e1]; (fail_if_success guard_target =ₛ False); (repeat' (first | refine hK _ ?_ | refine And.intro ?_ ?_ | intro _)) <;> clear hK K)
    | (refine WPc.cond (by simp [-Bool.not_eq_eq_eq_not]; rfl) (fun hq => ?_) (fun hq => ?_) <;> simp only [hq] <;> (try (exfalso; (simp only [decide_eq_true_eq, decide_eq_false_iff_not] at hq); omega))))
  · rw [szR_no (by simp at hq; omega)]
  · rw [szR_ok (by simp at hq; omega)]
theorem c_laws_szValueS (l : List V) (left : Int) (h0 : 0 ≤ left) (h1 : left ≤ 1073741824) (hs : ∀ v, v ∈ l → v.s.size ≤ 9223372036854775807) : Con PP 15 [.fz (l.map V.cs), .sc (.int .i64 left)] [] [] (fun r o => r = .sc (.int .i64 (szR left (costV l)))) := by
  refine Con.lenOf 0 Go.Proofs.Tryz.func15 (by kernel_rfl) (by kernel_rfl) rfl fun hlen => ?_
  simp at hlen
  refine Con.of tok (nt := 27) Go.Proofs.Tryz.func15 (by kernel_rfl) rfl rfl rfl (Nat.le_of_ble_eq_true rfl) fun G => ?_
  simp only [entSt, tmOf, List.append_nil, List.cons_append, List.nil_append]
  have e1 : IntKind.i64.wrap (left - l.length) = left - l.length := wrap64 (by omega) (by omega)
  repeat' (first
    | apply WPc.sq
    | apply WPc.block
    | (refine WPc.ret (endP.val (.inr rfl) rfl rfl (by simp; rfl) ?_))
    | apply WPc.skip
    | (refine WPc.rq tok rfl fun K hK => ?_; simp -implicitDefEqProofs +contextual [-Int.not_le, -Int.not_lt, -Nat.not_le, -Nat.not_lt, -List.all_eq_true, -List.all_eq_false, -List.any_eq_true, -List.any_eq_false, e1]; (fail_if_success guard_target =ₛ False); (repeat' (first | refine hK _ ?_ | refine And.intro ?_ ?_ | intro _)) <;> clear hK K)
    | (refine WPc.cond (by simp [-Bool.not_eq_eq_eq_not]; rfl) (fun hq => ?_) (fun hq => ?_) <;> simp only [hq] <;> (try (exfalso; (simp only [decide_eq_true_eq, decide_eq_false_iff_not] at hq); omega))))
  · rw [szR_no (by unfold costV; simp at hq; omega)]
  simp only [decide_eq_false_iff_not] at hq
  refine WPc.loopK (σ := Nat) (fun i => i ≤ l.length ∧ l.length + sumTo (fun v => v.s.size) l i ≤ left) (fun i => l.length - i) (fun i => [(5, .sc (.int .i64 i)), (1, .sc (.int .i64 (left - l.length - sumTo (fun v => v.s.size) l i)))])  [0] 0 (by simp [sumTo_zero]) (by simp [sumTo_zero]) (⟨by omega, by rw [sumTo_zero]; omega⟩) ?_
  rintro i ⟨hi, hle⟩ s hs
  simp at hs
  subst hs
  by_cases hlt : i < l.length
  · have hz := hs _ (List.getElem_mem hlt)
    have e3 := sumTo_next (f := fun v : V => v.s.size) hlt
    have e4 := sumTo_le (fun v : V => v.s.size) l (i + 1)
    repeat' (first
      | apply WPc.sq
      | apply WPc.block
      | (refine WPc.ret (endP.val (.inr rfl) rfl rfl (by simp; rfl) ?_))
      | apply WPc.skip
      | refine WPL.nil ?_
      | (apply WPL.callL (c_laws_szValue ⟨_, _, _⟩ _ ?g1 ?g2 ?g3); (case hd => (simp; done)); (case hl => (first | (simp; done) | (simp; rfl) | (simp -implicitDefEqProofs [V.cs, hlt]; done) | (simp -implicitDefEqProofs [V.cs, hlt]; rfl))); (case hb => rfl); (case hins => (first | (simp -implicitDefEqProofs [V.cs, hlt]; done) | (simp -implicitDefEqProofs [V.cs, hlt]; rfl))); (case he => (first | rfl | (simp -implicitDefEqProofs [V.cs, hlt]; done))); (case g1 => (first | assumption | omega | decide | (simp; done) | (simp_all; done) | (intros; omega))); (case g2 => (first | assumption | omega | decide | (simp; done) | (simp_all; done) | (intros; omega))); (case g3 => (first | assumption | omega | decide | (simp; done) | (simp_all; done) | (intros; omega))); (case hz => (first | (exact .inl rfl) | (simp; done) | (exact .inr (by simp -implicitDefEqProofs [V.cs, hlt])))))
      | (refine WPc.rq tok rfl fun K hK => ?_; simp -implicitDefEqProofs +contextual [-Int.not_le, -Int.not_lt, -Nat.not_le, -Nat.not_lt, -List.all_eq_true, -List.all_eq_false, -List.any_eq_true, -List.any_eq_false, V.cs, hlt]; (fail_if_success guard_target =ₛ False); (repeat' (first | refine hK _ ?_ | refine And.intro ?_ ?_ | intro _)) <;> clear hK K)
      | (refine WPL.rn tok _ (by simp [ahead, isFn]; rfl) fun K hK => ?_; simp -implicitDefEqProofs +contextual [-Int.not_le, -Int.not_lt, -Nat.not_le, -Nat.not_lt, -List.all_eq_true, -List.all_eq_false, -List.any_eq_true, -List.any_eq_false, V.cs, hlt]; (fail_if_success guard_target =ₛ False); (repeat' (first | refine hK _ ?_ | refine And.intro ?_ ?_ | intro _)) <;> clear hK K <;> (try simp only [Nat.reduceAdd, List.drop_succ_cons, List.drop_zero]))
      | (refine WPc.region ?_; simp only [List.toList_toArray])
      | (refine WPc.condT ?_ ?_; (focus (simp; done)))
      | (refine WPc.cond (by simp [-Bool.not_eq_eq_eq_not]; rfl) (fun hq => ?_) (fun hq => ?_) <;> simp only [hq] <;> (try (exfalso; (simp only [decide_eq_true_eq, decide_eq_false_iff_not] at hq); omega))))
    · simp only [decide_eq_true_eq] at hq
      have : ¬ ((l[i].s.size : Int) ≤ left - l.length - sumTo (fun v => v.s.size) l i) := fun h => by rw [szR_ok h] at hq; omega
      rw [szR_no (by unfold costV; omega)]
    all_goals
      simp only [decide_eq_false_iff_not] at hq
      have hle2 : (l[i].s.size : Int) ≤ left - l.length - sumTo (fun v => v.s.size) l i := by
        by_cases h : (l[i].s.size : Int) ≤ left - l.length - sumTo (fun v => v.s.size) l i
        · exact h
        · rw [szR_no (by omega)] at hq; omega
      refine ⟨i + 1, ⟨⟨by omega, by omega⟩, by first | omega | (simp only; omega) | assumption⟩, rfl, rfl, ?_, ?_⟩ <;> simp (disch := omega) [wrap64, e3, szR_ok hle2]
    all_goals (refine fit_int ?_; omega)
  · obtain rfl : i = l.length := by omega
    repeat' (first
      | apply WPc.sq
      | (refine WPc.ret (endP.val (.inr rfl) rfl rfl (by simp; rfl) ?_))
      | apply WPc.exit
      | (refine WPc.rq tok rfl fun K hK => ?_; simp -implicitDefEqProofs +contextual [-Int.not_le, -Int.not_lt, -Nat.not_le, -Nat.not_lt, -List.all_eq_true, -List.all_eq_false, -List.any_eq_true, -List.any_eq_false]; (fail_if_success guard_target =ₛ False); (repeat' (first | refine hK _ ?_ | refine And.intro ?_ ?_ | intro _)) <;> clear hK K)
      | (refine WPc.condF ?_ ?_; (focus (simp; done))))
    rw [sumTo_all] at hle
    rw [szR_ok (by unfold costV; omega), sumTo_all]
    simp only [costV, AV.sc.injEq, Value.int.injEq, true_and]
    omega
end Go.Own
set_option linter.unusedVariables false
set_option linter.unusedSimpArgs false
set_option linter.unusedSectionVars false
set_option maxRecDepth 1000000
set_option maxHeartbeats 4000000
namespace Go.Own
attribute [local irreducible] WPc WPL WPS WPS1 WPS2 HAny endP
variable [Laid]
open Go.Lib Go.RowKit
def V.tx (v : V) : Prop := v.s.size ≤ 9223372036854775807
structure Cl.tx (c : Cl) : Prop where
  s : c.s.size ≤ 9223372036854775807
  names : ∀ x, x ∈ c.names → x.size ≤ 9223372036854775807
  vals : ∀ v, v ∈ c.vals → v.s.size ≤ 9223372036854775807
theorem szR_neg {left : Int} {c : Nat} (h0 : 0 ≤ left) (hq : szR left c < 0) : left < c := by
  by_cases h : (c : Int) ≤ left
  · rw [szR_ok h] at hq; omega
  · omega
theorem szR_pos {left : Int} {c : Nat} (hq : ¬ szR left c < 0) : (c : Int) ≤ left := by
  by_cases h : (c : Int) ≤ left
  · exact h
  · rw [szR_no (by omega)] at hq; omega
theorem c_laws_szCell (c : Cl) (left : Int) (h0 : 0 ≤ left) (h1 : left ≤ 1073741824) (hs : c.tx) : Con PP 56 [c.av, .sc (.int .i64 left)] [] [] (fun r o => r = .sc (.int .i64 (szR left (costC c)))) := by
  have t1 := hs.s
  have t2 := hs.names
  have t3 := hs.vals
  have e1 : IntKind.i64.wrap (left - c.s.size) = left - c.s.size := wrap64 (by omega) (by omega)
  refine Con.of tok (nt := 25) Go.Proofs.Tryz.func56 (by kernel_rfl) rfl rfl rfl (Nat.le_of_ble_eq_true rfl) fun G => ?_
  simp only [entSt, tmOf, List.append_nil, List.cons_append, List.nil_append, Cl.av]
  by_cases g1 : (c.s.size : Int) ≤ left
  · by_cases g2 : (costS c.names : Int) ≤ left - c.s.size
    · have e2 := szR_ok g2
      by_cases g3 : (costV c.vals : Int) ≤ left - c.s.size - costS c.names
      · have e3 := szR_ok g3
        repeat' (first
          | apply WPc.sq
          | (refine WPc.ret (endP.val (.inr rfl) rfl rfl (by simp; rfl) ?_))
          | apply WPc.skip
          | refine WPL.nil ?_
          | (apply WPL.callL (c_laws_szStringS _ _ ?g1 ?g2 ?g3); (case hd => (simp; done)); (case hl => (first | (simp; done) | (simp; rfl) | (simp -implicitDefEqProofs [e1, e2, e3]; done) | (simp -implicitDefEqProofs [e1, e2, e3]; rfl))); (case hb => rfl); (case hins => (first | (simp -implicitDefEqProofs [e1, e2, e3]; done) | (simp -implicitDefEqProofs [e1, e2, e3]; rfl))); (case he => (first | rfl | (simp -implicitDefEqProofs [e1, e2, e3]; done))); (case g1 => (first | assumption | omega)); (case g2 => (first | assumption | omega)); (case g3 => (first | assumption | omega)); (case hz => (first | (exact .inl rfl) | (simp; done) | (exact .inr (by simp -implicitDefEqProofs [e1, e2, e3])))))
          | (apply WPL.callL (c_laws_szValueS _ _ ?g1 ?g2 ?g3); (case hd => (simp; done)); (case hl => (first | (simp; done) | (simp; rfl) | (simp -implicitDefEqProofs [e1, e2, e3]; done) | (simp -implicitDefEqProofs [e1, e2, e3]; rfl))); (case hb => rfl); (case hins => (first | (simp -implicitDefEqProofs [e1, e2, e3]; done) | (simp -implicitDefEqProofs [e1, e2, e3]; rfl))); (case he => (first | rfl | (simp -implicitDefEqProofs [e1, e2, e3]; done))); (case g1 => (first | assumption | omega)); (case g2 => (first | assumption | omega)); (case g3 => (first | assumption | omega)); (case hz => (first | (exact .inl rfl) | (simp; done) | (exact .inr (by simp -implicitDefEqProofs [e1, e2, e3])))))
          | (refine WPc.rq tok rfl fun K hK => ?_; simp -implicitDefEqProofs +contextual [-Int.not_le, -Int.not_lt, -Nat.not_le, -Nat.not_lt, -List.all_eq_true, -List.all_eq_false, -List.any_eq_true, -List.any_eq_false, e1, e2, e3]; (fail_if_success guard_target =ₛ False); (repeat' (first | refine hK _ ?_ | refine And.intro ?_ ?_ | intro _)) <;> clear hK K)
          | (refine WPL.rn tok _ (by simp [ahead, isFn]; rfl) fun K hK => ?_; simp -implicitDefEqProofs +contextual [-Int.not_le, -Int.not_lt, -Nat.not_le, -Nat.not_lt, -List.all_eq_true, -List.all_eq_false, -List.any_eq_true, -List.any_eq_false, e1, e2, e3]; (fail_if_success guard_target =ₛ False); (repeat' (first | refine hK _ ?_ | refine And.intro ?_ ?_ | intro _)) <;> clear hK K <;> (try simp only [Nat.reduceAdd, List.drop_succ_cons, List.drop_zero]))
          | (refine WPc.region ?_; simp only [List.toList_toArray])
          | (refine WPc.cond (by simp [-Bool.not_eq_eq_eq_not]; rfl) (fun hq => ?_) (fun hq => ?_) <;> simp only [hq] <;> (try (exfalso; (simp only [decide_eq_true_eq, decide_eq_false_iff_not] at hq); omega))))
        all_goals (simp only [decide_eq_true_eq, decide_eq_false_iff_not] at *)
        all_goals first
          | (exfalso; omega)
          | (rw [szR_ok (by unfold costC; omega)]; simp only [costC, AV.sc.injEq, Value.int.injEq, true_and]; omega)
      · have e3 : szR (left - c.s.size - costS c.names) (costV c.vals) = -1 := szR_no (by omega)
        repeat' (first
          | apply WPc.sq
          | (refine WPc.ret (endP.val (.inr rfl) rfl rfl (by simp; rfl) ?_))
          | apply WPc.skip
          | refine WPL.nil ?_
          | (apply WPL.callL (c_laws_szStringS _ _ ?g1 ?g2 ?g3); (case hd => (simp; done)); (case hl => (first | (simp; done) | (simp; rfl) | (simp -implicitDefEqProofs [e1, e2, e3]; done) | (simp -implicitDefEqProofs [e1, e2, e3]; rfl))); (case hb => rfl); (case hins => (first | (simp -implicitDefEqProofs [e1, e2, e3]; done) | (simp -implicitDefEqProofs [e1, e2, e3]; rfl))); (case he => (first | rfl | (simp -implicitDefEqProofs [e1, e2, e3]; done))); (case g1 => (first | assumption | omega)); (case g2 => (first | assumption | omega)); (case g3 => (first | assumption | omega)); (case hz => (first | (exact .inl rfl) | (simp; done) | (exact .inr (by simp -implicitDefEqProofs [e1, e2, e3])))))
          | (apply WPL.callL (c_laws_szValueS _ _ ?g1 ?g2 ?g3); (case hd => (simp; done)); (case hl => (first | (simp; done) | (simp; rfl) | (simp -implicitDefEqProofs [e1, e2, e3]; done) | (simp -implicitDefEqProofs [e1, e2, e3]; rfl))); (case hb => rfl); (case hins => (first | (simp -implicitDefEqProofs [e1, e2, e3]; done) | (simp -implicitDefEqProofs [e1, e2, e3]; rfl))); (case he => (first | rfl | (simp -implicitDefEqProofs [e1, e2, e3]; done))); (case g1 => (first | assumption | omega)); (case g2 => (first | assumption | omega)); (case g3 => (first | assumption | omega)); (case hz => (first | (exact .inl rfl) | (simp; done) | (exact .inr (by simp -implicitDefEqProofs [e1, e2, e3])))))
          | (refine WPc.rq tok rfl fun K hK => ?_; simp -implicitDefEqProofs +contextual [-Int.not_le, -Int.not_lt, -Nat.not_le, -Nat.not_lt, -List.all_eq_true, -List.all_eq_false, -List.any_eq_true, -List.any_eq_false, e1, e2, e3]; (fail_if_success guard_target =ₛ False); (repeat' (first | refine hK _ ?_ | refine And.intro ?_ ?_ | intro _)) <;> clear hK K)
          | (refine WPL.rn tok _ (by simp [ahead, isFn]; rfl) fun K hK => ?_; simp -implicitDefEqProofs +contextual [-Int.not_le, -Int.not_lt, -Nat.not_le, -Nat.not_lt, -List.all_eq_true, -List.all_eq_false, -List.any_eq_true, -List.any_eq_false, e1, e2, e3]; (fail_if_success guard_target =ₛ False); (repeat' (first | refine hK _ ?_ | refine And.intro ?_ ?_ | intro _)) <;> clear hK K <;> (try simp only [Nat.reduceAdd, List.drop_succ_cons, List.drop_zero]))
          | (refine WPc.region ?_; simp only [List.toList_toArray])
          | (refine WPc.condT ?_ ?_; (focus (simp; done)))
          | (refine WPc.cond (by simp [-Bool.not_eq_eq_eq_not]; rfl) (fun hq => ?_) (fun hq => ?_) <;> simp only [hq] <;> (try (exfalso; (simp only [decide_eq_true_eq, decide_eq_false_iff_not] at hq); omega))))
        all_goals (simp only [decide_eq_true_eq, decide_eq_false_iff_not] at *)
        all_goals first
          | (exfalso; omega)
          | (rw [szR_no (by unfold costC; omega)])
    · have e2 : szR (left - c.s.size) (costS c.names) = -1 := szR_no (by omega)
      repeat' (first
        | apply WPc.sq
        | (refine WPc.ret (endP.val (.inr rfl) rfl rfl (by simp; rfl) ?_))
        | apply WPc.skip
        | refine WPL.nil ?_
        | (apply WPL.callL (c_laws_szStringS _ _ ?g1 ?g2 ?g3); (case hd => (simp; done)); (case hl => (first | (simp; done) | (simp; rfl) | (simp -implicitDefEqProofs [e1, e2]; done) | (simp -implicitDefEqProofs [e1, e2]; rfl))); (case hb => rfl); (case hins => (first | (simp -implicitDefEqProofs [e1, e2]; done) | (simp -implicitDefEqProofs [e1, e2]; rfl))); (case he => (first | rfl | (simp -implicitDefEqProofs [e1, e2]; done))); (case g1 => (first | assumption | omega)); (case g2 => (first | assumption | omega)); (case g3 => (first | assumption | omega)); (case hz => (first | (exact .inl rfl) | (simp; done) | (exact .inr (by simp -implicitDefEqProofs [e1, e2])))))
        | (refine WPc.rq tok rfl fun K hK => ?_; simp -implicitDefEqProofs +contextual [-Int.not_le, -Int.not_lt, -Nat.not_le, -Nat.not_lt, -List.all_eq_true, -List.all_eq_false, -List.any_eq_true, -List.any_eq_false, e1, e2]; (fail_if_success guard_target =ₛ False); (repeat' (first | refine hK _ ?_ | refine And.intro ?_ ?_ | intro _)) <;> clear hK K)
        | (refine WPL.rn tok _ (by simp [ahead, isFn]; rfl) fun K hK => ?_; simp -implicitDefEqProofs +contextual [-Int.not_le, -Int.not_lt, -Nat.not_le, -Nat.not_lt, -List.all_eq_true, -List.all_eq_false, -List.any_eq_true, -List.any_eq_false, e1, e2]; (fail_if_success guard_target =ₛ False); (repeat' (first | refine hK _ ?_ | refine And.intro ?_ ?_ | intro _)) <;> clear hK K <;> (try simp only [Nat.reduceAdd, List.drop_succ_cons, List.drop_zero]))
        | (refine WPc.region ?_; simp only [List.toList_toArray])
        | (refine WPc.condT ?_ ?_; (focus (simp; done)))
        | (refine WPc.cond (by simp [-Bool.not_eq_eq_eq_not]; rfl) (fun hq => ?_) (fun hq => ?_) <;> simp only [hq] <;> (try (exfalso; (simp only [decide_eq_true_eq, decide_eq_false_iff_not] at hq); omega))))
      all_goals (simp only [decide_eq_true_eq, decide_eq_false_iff_not] at *)
      all_goals first
        | (exfalso; omega)
        | (rw [szR_no (by unfold costC; omega)])
  · repeat' (first
      | apply WPc.sq
      | (refine WPc.ret (endP.val (.inr rfl) rfl rfl (by simp; rfl) ?_))
      | (refine WPc.rq tok rfl fun K hK => ?_; simp -implicitDefEqProofs +contextual [-Int.not_le, -Int.not_lt, -Nat.not_le, -Nat.not_lt, -List.all_eq_true, -List.all_eq_false, -List.any_eq_true, -List.any_eq_false, e1]; (fail_if_success guard_target =ₛ False); (repeat' (first | refine hK _ ?_ | refine And.intro ?_ ?_ | intro _)) <;> clear hK K)
      | (refine WPc.cond (by simp [-Bool.not_eq_eq_eq_not]; rfl) (fun hq => ?_) (fun hq => ?_) <;> simp only [hq] <;> (try (exfalso; (simp only [decide_eq_true_eq, decide_eq_false_iff_not] at hq); omega))))
    all_goals (simp only [decide_eq_true_eq, decide_eq_false_iff_not] at *)
    all_goals first
      | (exfalso; omega)
      | (rw [szR_no (by unfold costC; omega)])
theorem c_laws_szCellS (l : List Cl) (left : Int) (h0 : 0 ≤ left) (h1 : left ≤ 1073741824) (hs : ∀ c, c ∈ l → c.tx) : Con PP 14 [.fz (l.map Cl.cs), .sc (.int .i64 left)] [] [] (fun r o => r = .sc (.int .i64 (szR left (costH l)))) := by
  refine Con.lenOf 0 Go.Proofs.Tryz.func14 (by kernel_rfl) (by kernel_rfl) rfl fun hlen => ?_
  simp at hlen
  refine Con.of tok (nt := 27) Go.Proofs.Tryz.func14 (by kernel_rfl) rfl rfl rfl (Nat.le_of_ble_eq_true rfl) fun G => ?_
  simp only [entSt, tmOf, List.append_nil, List.cons_append, List.nil_append]
  have e1 : IntKind.i64.wrap (left - l.length) = left - l.length := wrap64 (by omega) (by omega)
  repeat' (first
    | apply WPc.sq
    | apply WPc.block
    | (refine WPc.ret (endP.val (.inr rfl) rfl rfl (by simp; rfl) ?_))
    | apply WPc.skip
    | (refine WPc.rq tok rfl fun K hK => ?_; simp -implicitDefEqProofs +contextual [-Int.not_le, -Int.not_lt, -Nat.not_le, -Nat.not_lt, -List.all_eq_true, -List.all_eq_false, -List.any_eq_true, -List.any_eq_false, e1]; (fail_if_success guard_target =ₛ False); (repeat' (first | refine hK _ ?_ | refine And.intro ?_ ?_ | intro _)) <;> clear hK K)
    | (refine WPc.cond (by simp [-Bool.not_eq_eq_eq_not]; rfl) (fun hq => ?_) (fun hq => ?_) <;> simp only [hq] <;> (try (exfalso; (simp only [decide_eq_true_eq, decide_eq_false_iff_not] at hq); omega))))
  · rw [szR_no (by unfold costH; simp at hq; omega)]
  simp only [decide_eq_false_iff_not] at hq
  refine WPc.loopK (σ := Nat) (fun i => i ≤ l.length ∧ l.length + sumTo costC l i ≤ left) (fun i => l.length - i) (fun i => [(5, .sc (.int .i64 i)), (1, .sc (.int .i64 (left - l.length - sumTo costC l i)))])  [0] 0 (by simp [sumTo_zero]) (by simp [sumTo_zero]) (⟨by omega, by rw [sumTo_zero]; omega⟩) ?_
  rintro i ⟨hi, hle⟩ s hs
  simp at hs
  subst hs
  by_cases hlt : i < l.length
  · have hz := hs _ (List.getElem_mem hlt)
    have e3 := sumTo_next (f := costC) hlt
    have e4 := sumTo_le costC l (i + 1)
    have ee : costC ⟨l[i].k, l[i].s, l[i].a, l[i].b, l[i].names, l[i].vals⟩ = costC l[i] := rfl
    repeat' (first
      | apply WPc.sq
      | apply WPc.block
      | (refine WPc.ret (endP.val (.inr rfl) rfl rfl (by simp; rfl) ?_))
      | apply WPc.skip
      | refine WPL.nil ?_
      | (apply WPL.callL (c_laws_szCell ⟨_, _, _, _, _, _⟩ _ ?g1 ?g2 ?g3); (case hd => (simp; done)); (case hl => (first | (simp; done) | (simp; rfl) | (simp -implicitDefEqProofs [Cl.cs, hlt, ee]; done) | (simp -implicitDefEqProofs [Cl.cs, hlt, ee]; rfl))); (case hb => rfl); (case hins => (first | (simp -implicitDefEqProofs [Cl.cs, hlt, ee]; done) | (simp -implicitDefEqProofs [Cl.cs, hlt, ee]; rfl))); (case he => (first | rfl | (simp -implicitDefEqProofs [Cl.cs, hlt, ee]; done))); (case g1 => (first | assumption | (exact hz) | omega)); (case g2 => (first | assumption | (exact hz) | omega)); (case g3 => (first | assumption | (exact hz) | omega)); (case hz => (first | (exact .inl rfl) | (simp; done) | (exact .inr (by simp -implicitDefEqProofs [Cl.cs, hlt, ee])))))
      | (refine WPc.rq tok rfl fun K hK => ?_; simp -implicitDefEqProofs +contextual [-Int.not_le, -Int.not_lt, -Nat.not_le, -Nat.not_lt, -List.all_eq_true, -List.all_eq_false, -List.any_eq_true, -List.any_eq_false, Cl.cs, hlt, ee]; (fail_if_success guard_target =ₛ False); (repeat' (first | refine hK _ ?_ | refine And.intro ?_ ?_ | intro _)) <;> clear hK K)
      | (refine WPL.rn tok _ (by simp [ahead, isFn]; rfl) fun K hK => ?_; simp -implicitDefEqProofs +contextual [-Int.not_le, -Int.not_lt, -Nat.not_le, -Nat.not_lt, -List.all_eq_true, -List.all_eq_false, -List.any_eq_true, -List.any_eq_false, Cl.cs, hlt, ee]; (fail_if_success guard_target =ₛ False); (repeat' (first | refine hK _ ?_ | refine And.intro ?_ ?_ | intro _)) <;> clear hK K <;> (try simp only [Nat.reduceAdd, List.drop_succ_cons, List.drop_zero]))
      | (refine WPc.region ?_; simp only [List.toList_toArray])
      | (refine WPc.condT ?_ ?_; (focus (simp; done)))
      | (refine WPc.cond (by simp [-Bool.not_eq_eq_eq_not]; rfl) (fun hq => ?_) (fun hq => ?_) <;> simp only [hq] <;> (try (exfalso; (simp only [decide_eq_true_eq, decide_eq_false_iff_not] at hq); omega))))
    all_goals try rw [ee] at hq
    · simp only [decide_eq_true_eq] at hq
      have := szR_neg (by omega) hq
      rw [szR_no (by unfold costH; omega)]
    all_goals
      try simp only [decide_eq_false_iff_not] at hq
      have hle2 := szR_pos hq
      refine ⟨i + 1, ⟨⟨by omega, by omega⟩, by first | omega | (simp only; omega) | assumption⟩, rfl, rfl, ?_, ?_⟩ <;> simp (disch := omega) [wrap64, e3, ee, szR_ok hle2]
    all_goals (refine fit_int ?_; omega)
  · obtain rfl : i = l.length := by omega
    repeat' (first
      | apply WPc.sq
      | (refine WPc.ret (endP.val (.inr rfl) rfl rfl (by simp; rfl) ?_))
      | apply WPc.exit
      | (refine WPc.rq tok rfl fun K hK => ?_; simp -implicitDefEqProofs +contextual [-Int.not_le, -Int.not_lt, -Nat.not_le, -Nat.not_lt, -List.all_eq_true, -List.all_eq_false, -List.any_eq_true, -List.any_eq_false]; (fail_if_success guard_target =ₛ False); (repeat' (first | refine hK _ ?_ | refine And.intro ?_ ?_ | intro _)) <;> clear hK K)
      | (refine WPc.condF ?_ ?_; (focus (simp; done))))
    rw [sumTo_all] at hle
    rw [szR_ok (by unfold costH; omega), sumTo_all]
    simp only [costH, AV.sc.injEq, Value.int.injEq, true_and]
    omega
end Go.Own
set_option linter.unusedVariables false
set_option linter.unusedSimpArgs false
set_option linter.unusedSectionVars false
set_option maxRecDepth 1000000
set_option maxHeartbeats 4000000
namespace Go.Own
attribute [local irreducible] WPc WPL WPS WPS1 WPS2 HAny endP
variable [Laid]
open Go.Lib Go.RowKit
def part {α : Type} (z : List C) (f : α → List C) (l : List α) (i : Nat) : List (List C) := (l.take i).map f ++ List.replicate (l.length - i) z
section
variable {α : Type} {z : List C} {f : α → List C} {l : List α} {i : Nat}
theorem part_len (hi : i ≤ l.length) : (part z f l i).length = l.length := by simp [part]; omega
theorem part_zero : part z f l 0 = List.replicate l.length z := by simp [part]
theorem part_all : part z f l l.length = l.map f := by simp [part]
theorem part_get (hi : i < l.length) : (part z f l i)[i]? = some z := by
  unfold part
  rw [List.getElem?_append_right (by simp; omega), List.getElem?_replicate]
  simp [Nat.min_eq_left (Nat.le_of_lt hi)]
  omega
theorem part_ge (hi : i < l.length) (p : i < (part z f l i).length) : (part z f l i)[i] = z := by
  have := part_get (z := z) (f := f) hi
  rw [List.getElem?_eq_getElem p] at this
  exact Option.some.inj this
theorem part_next {g : List C → List C} (hi : i < l.length) (hg : g z = f l[i]) : (part z f l i).modify i g = part z f l (i + 1) := by
  apply List.ext_getElem?
  intro j
  rw [List.getElem?_modify]
  by_cases hj : i = j
  · subst hj
    rw [part_get hi]
    unfold part
    rw [List.getElem?_append_left (by simp; omega)]
    simp [hi, hg]
  · simp only [hj, if_false]
    unfold part
    by_cases h1 : j < i
    · rw [List.getElem?_append_left (by simp; omega), List.getElem?_append_left (by simp; omega)]
      simp [h1, show j < i + 1 by omega]
    · rw [List.getElem?_append_right (by simp; omega), List.getElem?_append_right (by simp; omega), List.getElem?_replicate, List.getElem?_replicate]
      simp [Nat.min_eq_left (Nat.le_of_lt hi), Nat.min_eq_left (Nat.succ_le_of_lt hi)]
      split <;> split <;> first | rfl | omega
end
theorem c_laws_toStringS (l : List ByteArray) (h1 : l.length ≤ 1000000000) : Con PP 102 [.fz (l.map sC)] [] [] (fun r o => r = .sl 7 1 [] 0 l.length ∧ o = [(7, 9, 1, l.map sC)]) := by
  have hb1 : (16 : Int) * (l.length : Int) ≤ 281474976710656 := by omega
  have hb2 : (l.length : Int) ≤ 9223372036854775807 := by omega
  refine Con.of tok (nt := 22) Go.Proofs.Tryz.func102 (by kernel_rfl) rfl rfl rfl (Nat.le_of_ble_eq_true rfl) fun G => ?_
  simp only [entSt, tmOf, List.append_nil, List.cons_append, List.nil_append]
  repeat' (first
    | apply WPc.sq
    | apply WPc.block
    | (refine WPc.rq tok rfl fun K hK => ?_; simp -implicitDefEqProofs +contextual [-Int.not_le, -Int.not_lt, -Nat.not_le, -Nat.not_lt, -List.all_eq_true, -List.all_eq_false, -List.any_eq_true, -List.any_eq_false, hb1, hb2]; (fail_if_success guard_target =ₛ False); (repeat' (first | refine hK _ ?_ | refine And.intro ?_ ?_ | intro _)) <;> clear hK K))
  refine WPc.loopV (σ := Nat) (fun i => i ≤ l.length) (fun i => l.length - i) (fun i => [(4, .sc (.int .i64 i))]) (fun i => [(7, 9, 1, part [.sc (.string zs)] sC l i)]) [0, 3] 0 (by simp [part_zero]) (by simp [part_zero]) (by simp) ?_
  rintro i hi s hs
  simp at hs
  subst hs
  by_cases hlt : i < l.length
  · have hl := part_len (z := [.sc (.string zs)]) (f := sC) hi
    have hn := part_next (z := [.sc (.string zs)]) (f := sC) (g := fun r => r.set 0 (.sc (.string l[i]))) hlt rfl
    have hge := part_ge (z := [.sc (.string zs)]) (f := sC) hlt
    repeat' (first
      | apply WPc.sq
      | apply WPc.block
      | apply WPc.skip
      | (refine WPc.rq tok rfl fun K hK => ?_; simp -implicitDefEqProofs +contextual [-Int.not_le, -Int.not_lt, -Nat.not_le, -Nat.not_lt, -List.all_eq_true, -List.all_eq_false, -List.any_eq_true, -List.any_eq_false, sC, hlt, hl, hge]; (fail_if_success guard_target =ₛ False); (repeat' (first | refine hK _ ?_ | refine And.intro ?_ ?_ | intro _)) <;> clear hK K)
      | (refine WPc.condT ?_ ?_; (focus (simp; done))))
    refine ⟨i + 1, ⟨hlt, by first | omega | (simp only; omega) | assumption⟩, rfl, rfl, ?_, ?_⟩ <;> simp (disch := omega) [wrap64, hn]
  · obtain rfl : i = l.length := by omega
    repeat' (first
      | apply WPc.sq
      | (refine WPc.ret (endP.own [(7, 9, 1, l.map sC)] (.inr rfl) rfl rfl (by simp; rfl) ?_ ?_ (by simp)))
      | apply WPc.exit
      | (refine WPc.rq tok rfl fun K hK => ?_; simp -implicitDefEqProofs +contextual [-Int.not_le, -Int.not_lt, -Nat.not_le, -Nat.not_lt, -List.all_eq_true, -List.all_eq_false, -List.any_eq_true, -List.any_eq_false]; (fail_if_success guard_target =ₛ False); (repeat' (first | refine hK _ ?_ | refine And.intro ?_ ?_ | intro _)) <;> clear hK K)
      | (refine WPc.condF ?_ ?_; (focus (simp; done))))
    · simp [part_all]
    · exact ⟨rfl, rfl⟩
theorem c_laws_toValue (v : V) : Con PP 59 [v.av] [] [] (fun r o => r = v.av) := by
  refine Con.of tok (nt := 14) Go.Proofs.Tryz.func59 (by kernel_rfl) rfl rfl rfl (Nat.le_of_ble_eq_true rfl) fun G => ?_
  simp only [entSt, tmOf, List.append_nil, List.cons_append, List.nil_append, V.av]
  repeat' (first
    | apply WPc.sq
    | (refine WPc.ret (endP.val (.inr rfl) rfl rfl (by simp; rfl) ?_))
    | (refine WPc.rq tok rfl fun K hK => ?_; simp -implicitDefEqProofs +contextual [-Int.not_le, -Int.not_lt, -Nat.not_le, -Nat.not_lt, -List.all_eq_true, -List.all_eq_false, -List.any_eq_true, -List.any_eq_false]; (fail_if_success guard_target =ₛ False); (repeat' (first | refine hK _ ?_ | refine And.intro ?_ ?_ | intro _)) <;> clear hK K))
  all_goals rfl
end Go.Own
set_option linter.unusedVariables false
set_option linter.unusedSimpArgs false
set_option linter.unusedSectionVars false
set_option maxRecDepth 1000000
set_option maxHeartbeats 4000000
namespace Go.Own
attribute [local irreducible] WPc WPL WPS WPS1 WPS2 HAny endP
variable [Laid]
open Go.Lib Go.RowKit
theorem c_laws_toValueS (l : List V) (h1 : l.length ≤ 1000000000) : Con PP 17 [.fz (l.map V.cs)] [] [] (fun r o => r = .sl 7 3 [] 0 l.length ∧ o = [(7, 29, 3, l.map V.cs)]) := by
  have hb1 : (32 : Int) * (l.length : Int) ≤ 281474976710656 := by omega
  have hb2 : (l.length : Int) ≤ 9223372036854775807 := by omega
  refine Con.of tok (nt := 23) Go.Proofs.Tryz.func17 (by kernel_rfl) rfl rfl rfl (Nat.le_of_ble_eq_true rfl) fun G => ?_
  simp only [entSt, tmOf, List.append_nil, List.cons_append, List.nil_append]
  repeat' (first
    | apply WPc.sq
    | apply WPc.block
    | (refine WPc.rq tok rfl fun K hK => ?_; simp -implicitDefEqProofs +contextual [-Int.not_le, -Int.not_lt, -Nat.not_le, -Nat.not_lt, -List.all_eq_true, -List.all_eq_false, -List.any_eq_true, -List.any_eq_false, hb1, hb2]; (fail_if_success guard_target =ₛ False); (repeat' (first | refine hK _ ?_ | refine And.intro ?_ ?_ | intro _)) <;> clear hK K))
  refine WPc.loopV (σ := Nat) (fun i => i ≤ l.length) (fun i => l.length - i) (fun i => [(4, .sc (.int .i64 i))]) (fun i => [(7, 29, 3, part [.sc (.int .i64 0), .sc (.int .i64 0), .sc (.string zs)] V.cs l i)]) [0, 3] 0 (by simp [part_zero]) (by simp [part_zero]) (by simp) ?_
  rintro i hi s hs
  simp at hs
  subst hs
  by_cases hlt : i < l.length
  · have hl := part_len (z := [.sc (.int .i64 0), .sc (.int .i64 0), .sc (.string zs)]) (f := V.cs) hi
    have hge := part_ge (z := [.sc (.int .i64 0), .sc (.int .i64 0), .sc (.string zs)]) (f := V.cs) hlt
    have hn : (((part [.sc (.int .i64 0), .sc (.int .i64 0), .sc (.string zs)] V.cs l i).modify i fun r => r.set 0 (.sc (.int .i64 l[i].k))).modify i fun r => r.set 1 (.sc (.int .i64 l[i].n))).modify i (fun r => r.set 2 (.sc (.string l[i].s))) = part [.sc (.int .i64 0), .sc (.int .i64 0), .sc (.string zs)] V.cs l (i + 1) := by
      rw [List.modify_modify_eq, List.modify_modify_eq]
      exact part_next hlt rfl
    repeat' (first
      | apply WPc.sq
      | apply WPc.block
      | apply WPc.skip
      | refine WPL.nil ?_
      | (apply WPL.callL (c_laws_toValue ⟨_, _, _⟩); (case hd => (simp; done)); (case hl => (first | (simp; done) | (simp; rfl) | (simp -implicitDefEqProofs [V.cs, V.av, hlt, hl, hge]; done) | (simp -implicitDefEqProofs [V.cs, V.av, hlt, hl, hge]; rfl))); (case hb => rfl); (case hins => (first | (simp -implicitDefEqProofs [V.cs, V.av, hlt, hl, hge]; done) | (simp -implicitDefEqProofs [V.cs, V.av, hlt, hl, hge]; rfl))); (case he => (first | rfl | (simp -implicitDefEqProofs [V.cs, V.av, hlt, hl, hge]; done))); (case hz => (first | (exact .inl rfl) | (simp; done) | (exact .inr (by simp -implicitDefEqProofs [V.cs, V.av, hlt, hl, hge])))))
      | (refine WPc.rq tok rfl fun K hK => ?_; simp -implicitDefEqProofs +contextual [-Int.not_le, -Int.not_lt, -Nat.not_le, -Nat.not_lt, -List.all_eq_true, -List.all_eq_false, -List.any_eq_true, -List.any_eq_false, V.cs, V.av, hlt, hl, hge]; (fail_if_success guard_target =ₛ False); (repeat' (first | refine hK _ ?_ | refine And.intro ?_ ?_ | intro _)) <;> clear hK K)
      | (refine WPL.rn tok _ (by simp [ahead, isFn]; rfl) fun K hK => ?_; simp -implicitDefEqProofs +contextual [-Int.not_le, -Int.not_lt, -Nat.not_le, -Nat.not_lt, -List.all_eq_true, -List.all_eq_false, -List.any_eq_true, -List.any_eq_false, V.cs, V.av, hlt, hl, hge]; (fail_if_success guard_target =ₛ False); (repeat' (first | refine hK _ ?_ | refine And.intro ?_ ?_ | intro _)) <;> clear hK K <;> (try simp only [Nat.reduceAdd, List.drop_succ_cons, List.drop_zero]))
      | (refine WPc.region ?_; simp only [List.toList_toArray])
      | (refine WPc.condT ?_ ?_; (focus (simp; done))))
    refine ⟨i + 1, ⟨hlt, by first | omega | (simp only; omega) | assumption⟩, rfl, rfl, ?_, ?_⟩ <;> simp (disch := omega) [wrap64, hn]
  · obtain rfl : i = l.length := by omega
    repeat' (first
      | apply WPc.sq
      | (refine WPc.ret (endP.own [(7, 29, 3, l.map V.cs)] (.inr rfl) rfl rfl (by simp; rfl) ?_ ?_ (by simp)))
      | apply WPc.exit
      | (refine WPc.rq tok rfl fun K hK => ?_; simp -implicitDefEqProofs +contextual [-Int.not_le, -Int.not_lt, -Nat.not_le, -Nat.not_lt, -List.all_eq_true, -List.all_eq_false, -List.any_eq_true, -List.any_eq_false]; (fail_if_success guard_target =ₛ False); (repeat' (first | refine hK _ ?_ | refine And.intro ?_ ?_ | intro _)) <;> clear hK K)
      | (refine WPc.condF ?_ ?_; (focus (simp; done))))
    · simp [part_all]
    · exact ⟨rfl, rfl⟩
theorem c_laws_toCell (c : Cl) (h1 : c.names.length ≤ 1000000000) (h2 : c.vals.length ≤ 1000000000) : Con PP 58 [c.av] [] [] (fun r o => r = .agg [.sc (.int .i64 c.k), .sc (.string c.s), .sc (.int .i64 c.a), .sc (.int .i64 c.b), .sl 2 1 [(0, 4)] 0 c.names.length, .sl 2 3 [(0, 5)] 0 c.vals.length] ∧ o = [(2, 88, 6, [c.ow])]) := by
  refine Con.of tok (nt := 25) Go.Proofs.Tryz.func58 (by kernel_rfl) rfl rfl rfl (Nat.le_of_ble_eq_true rfl) fun G => ?_
  simp only [entSt, tmOf, List.append_nil, List.cons_append, List.nil_append, Cl.av]
  repeat' (first
    | (refine WPL.detSt 24 3 900001 [] 0 4 ?_ ?_; (focus (simp; done)); refine fun K hK => ?_; simp -implicitDefEqProofs +contextual [-Int.not_le, -Int.not_lt, -Nat.not_le, -Nat.not_lt, -List.all_eq_true, -List.all_eq_false, -List.any_eq_true, -List.any_eq_false]; (fail_if_success guard_target =ₛ False); (repeat' (first | refine hK _ ?_ | refine And.intro ?_ ?_ | intro _)) <;> clear hK K)
    | (refine WPL.rnToSt tok 24 _ (by simp [isFn]; rfl) fun K hK => ?_; simp -implicitDefEqProofs +contextual [-Int.not_le, -Int.not_lt, -Nat.not_le, -Nat.not_lt, -List.all_eq_true, -List.all_eq_false, -List.any_eq_true, -List.any_eq_false]; (fail_if_success guard_target =ₛ False); (repeat' (first | refine hK _ ?_ | refine And.intro ?_ ?_ | intro _)) <;> clear hK K <;> (try simp only [Nat.reduceAdd, List.drop_succ_cons, List.drop_zero]))
    | (refine WPL.detSt 24 3 900002 [] 0 5 ?_ ?_; (focus (simp; done)); refine fun K hK => ?_; simp -implicitDefEqProofs +contextual [-Int.not_le, -Int.not_lt, -Nat.not_le, -Nat.not_lt, -List.all_eq_true, -List.all_eq_false, -List.any_eq_true, -List.any_eq_false]; (fail_if_success guard_target =ₛ False); (repeat' (first | refine hK _ ?_ | refine And.intro ?_ ?_ | intro _)) <;> clear hK K)
    | apply WPc.sq
    | (refine WPc.ret (endP.own [(2, 88, 6, [c.ow])] (.inr rfl) rfl rfl (by simp; rfl) ?_ ?_ (by simp)))
    | refine WPL.nil ?_
    | (apply WPL.callU (c_laws_toStringS _ ?g1); (case hg => (simp; done)); (case hd => (simp; done)); (case hl => (first | (simp; done) | (simp; rfl) | (simp -implicitDefEqProofs; done) | (simp -implicitDefEqProofs; rfl))); (case hr => (first | (simp; done) | (simp; rfl) | (simp -implicitDefEqProofs; done) | (simp -implicitDefEqProofs; rfl))); (case hins => (first | (simp -implicitDefEqProofs; done) | (simp -implicitDefEqProofs; rfl) | rfl)); (case he => (first | rfl | (simp -implicitDefEqProofs; done))); (case hob => (first | (simp -implicitDefEqProofs; done) | (simp -implicitDefEqProofs; rfl) | rfl)); (case heo => (first | rfl | (simp -implicitDefEqProofs; done))); (case g1 => (first | assumption | omega)); (case hnw => (first | (simp; done) | (simp; rfl) | (simp -implicitDefEqProofs; done) | (simp -implicitDefEqProofs; rfl))); (case hok => (first | (simp; done) | (simp -implicitDefEqProofs; done))); (case hP => (first | (simp; done) | (simp; rfl) | (simp -implicitDefEqProofs; done) | (simp -implicitDefEqProofs; rfl))); (case hS => (first | (simp; done) | (simp; rfl) | (simp -implicitDefEqProofs; done) | (simp -implicitDefEqProofs; rfl))); (case hz => (first | (simp; done) | (simp -implicitDefEqProofs; done))); (case hs => (first | (simp -implicitDefEqProofs; done) | (simp -implicitDefEqProofs; rfl) | rfl)))
    | (apply WPL.callU (c_laws_toValueS _ ?g1); (case hg => (simp; done)); (case hd => (simp; done)); (case hl => (first | (simp; done) | (simp; rfl) | (simp -implicitDefEqProofs; done) | (simp -implicitDefEqProofs; rfl))); (case hr => (first | (simp; done) | (simp; rfl) | (simp -implicitDefEqProofs; done) | (simp -implicitDefEqProofs; rfl))); (case hins => (first | (simp -implicitDefEqProofs; done) | (simp -implicitDefEqProofs; rfl) | rfl)); (case he => (first | rfl | (simp -implicitDefEqProofs; done))); (case hob => (first | (simp -implicitDefEqProofs; done) | (simp -implicitDefEqProofs; rfl) | rfl)); (case heo => (first | rfl | (simp -implicitDefEqProofs; done))); (case g1 => (first | assumption | omega)); (case hnw => (first | (simp; done) | (simp; rfl) | (simp -implicitDefEqProofs; done) | (simp -implicitDefEqProofs; rfl))); (case hok => (first | (simp; done) | (simp -implicitDefEqProofs; done))); (case hP => (first | (simp; done) | (simp; rfl) | (simp -implicitDefEqProofs; done) | (simp -implicitDefEqProofs; rfl))); (case hS => (first | (simp; done) | (simp; rfl) | (simp -implicitDefEqProofs; done) | (simp -implicitDefEqProofs; rfl))); (case hz => (first | (simp; done) | (simp -implicitDefEqProofs; done))); (case hs => (first | (simp -implicitDefEqProofs; done) | (simp -implicitDefEqProofs; rfl) | rfl)))
    | (refine WPc.rq tok rfl fun K hK => ?_; simp -implicitDefEqProofs +contextual [-Int.not_le, -Int.not_lt, -Nat.not_le, -Nat.not_lt, -List.all_eq_true, -List.all_eq_false, -List.any_eq_true, -List.any_eq_false]; (fail_if_success guard_target =ₛ False); (repeat' (first | refine hK _ ?_ | refine And.intro ?_ ?_ | intro _)) <;> clear hK K)
    | (refine WPL.rn tok _ (by simp [ahead, isFn]; rfl) fun K hK => ?_; simp -implicitDefEqProofs +contextual [-Int.not_le, -Int.not_lt, -Nat.not_le, -Nat.not_lt, -List.all_eq_true, -List.all_eq_false, -List.any_eq_true, -List.any_eq_false]; (fail_if_success guard_target =ₛ False); (repeat' (first | refine hK _ ?_ | refine And.intro ?_ ?_ | intro _)) <;> clear hK K <;> (try simp only [Nat.reduceAdd, List.drop_succ_cons, List.drop_zero]))
    | (refine WPc.region ?_; simp only [List.toList_toArray]))
  · simp [Cl.ow]
  · exact ⟨rfl, rfl⟩
theorem c_laws_toCellS (l : List Cl) (h1 : l.length ≤ 1000000000) (h2 : ∀ c, c ∈ l → c.rm) : Con PP 16 [.fz (l.map Cl.cs)] [] [] (fun r o => r = .sl 7 6 [] 0 l.length ∧ o = [(7, heapR l)]) := by
  have hb1 : (88 : Int) * (l.length : Int) ≤ 281474976710656 := by omega
  have hb2 : (l.length : Int) ≤ 9223372036854775807 := by omega
  refine Con.of tok (nt := 23) Go.Proofs.Tryz.func16 (by kernel_rfl) rfl rfl rfl (Nat.le_of_ble_eq_true rfl) fun G => ?_
  simp only [entSt, tmOf, List.append_nil, List.cons_append, List.nil_append]
  repeat' (first
    | apply WPc.sq
    | apply WPc.block
    | (refine WPc.rq tok rfl fun K hK => ?_; simp -implicitDefEqProofs +contextual [-Int.not_le, -Int.not_lt, -Nat.not_le, -Nat.not_lt, -List.all_eq_true, -List.all_eq_false, -List.any_eq_true, -List.any_eq_false, hb1, hb2]; (fail_if_success guard_target =ₛ False); (repeat' (first | refine hK _ ?_ | refine And.intro ?_ ?_ | intro _)) <;> clear hK K))
  refine WPc.loopV (σ := Nat) (fun i => i ≤ l.length) (fun i => l.length - i) (fun i => [(4, .sc (.int .i64 i))]) (fun i => [(7, 88, 6, part [.sc (.int .i64 0), .sc (.string zs), .sc (.int .i64 0), .sc (.int .i64 0), .sc (.slice none 0 0), .sc (.slice none 0 0)] Cl.ow l i)]) [0, 3] 0 (by simp [part_zero]) (by simp [part_zero]) (by simp) ?_
  rintro i hi s hs
  simp at hs
  subst hs
  by_cases hlt : i < l.length
  · have hr := h2 _ (List.getElem_mem hlt)
    have hr1 := hr.names
    have hr2 := hr.vals
    have hl := part_len (z := [.sc (.int .i64 0), .sc (.string zs), .sc (.int .i64 0), .sc (.int .i64 0), .sc (.slice none 0 0), .sc (.slice none 0 0)]) (f := Cl.ow) hi
    have hge := part_ge (z := [.sc (.int .i64 0), .sc (.string zs), .sc (.int .i64 0), .sc (.int .i64 0), .sc (.slice none 0 0), .sc (.slice none 0 0)]) (f := Cl.ow) hlt
    have hn : ((((((part [.sc (.int .i64 0), .sc (.string zs), .sc (.int .i64 0), .sc (.int .i64 0), .sc (.slice none 0 0), .sc (.slice none 0 0)] Cl.ow l i).modify i fun r => r.set 0 (.sc (.int .i64 l[i].k))).modify i fun r => r.set 1 (.sc (.string l[i].s))).modify i fun r => r.set 2 (.sc (.int .i64 l[i].a))).modify i fun r => r.set 3 (.sc (.int .i64 l[i].b))).modify i fun r => r.set 4 (.sl 9 1 (l[i].names.map sC))).modify i (fun r => r.set 5 (.sl 29 3 (l[i].vals.map V.cs))) = part [.sc (.int .i64 0), .sc (.string zs), .sc (.int .i64 0), .sc (.int .i64 0), .sc (.slice none 0 0), .sc (.slice none 0 0)] Cl.ow l (i + 1) := by
      rw [List.modify_modify_eq, List.modify_modify_eq, List.modify_modify_eq, List.modify_modify_eq, List.modify_modify_eq]
      exact part_next hlt rfl
    repeat' (first
      | (refine WPL.detSt 20 20 900001 [] 0 4 ?_ ?_; (focus (simp; done)); refine fun K hK => ?_; simp -implicitDefEqProofs +contextual [-Int.not_le, -Int.not_lt, -Nat.not_le, -Nat.not_lt, -List.all_eq_true, -List.all_eq_false, -List.any_eq_true, -List.any_eq_false, Cl.cs, Cl.av, hlt, hl, hge, Cl.ow]; (fail_if_success guard_target =ₛ False); (repeat' (first | refine hK _ ?_ | refine And.intro ?_ ?_ | intro _)) <;> clear hK K)
      | (refine WPL.rnToSt tok 20 _ (by simp [isFn]; rfl) fun K hK => ?_; simp -implicitDefEqProofs +contextual [-Int.not_le, -Int.not_lt, -Nat.not_le, -Nat.not_lt, -List.all_eq_true, -List.all_eq_false, -List.any_eq_true, -List.any_eq_false, Cl.cs, Cl.av, hlt, hl, hge, Cl.ow]; (fail_if_success guard_target =ₛ False); (repeat' (first | refine hK _ ?_ | refine And.intro ?_ ?_ | intro _)) <;> clear hK K <;> (try simp only [Nat.reduceAdd, List.drop_succ_cons, List.drop_zero]))
      | (refine WPL.detSt 20 20 900002 [] 0 5 ?_ ?_; (focus (simp; done)); refine fun K hK => ?_; simp -implicitDefEqProofs +contextual [-Int.not_le, -Int.not_lt, -Nat.not_le, -Nat.not_lt, -List.all_eq_true, -List.all_eq_false, -List.any_eq_true, -List.any_eq_false, Cl.cs, Cl.av, hlt, hl, hge, Cl.ow]; (fail_if_success guard_target =ₛ False); (repeat' (first | refine hK _ ?_ | refine And.intro ?_ ?_ | intro _)) <;> clear hK K)
      | apply WPc.sq
      | apply WPc.block
      | apply WPc.skip
      | refine WPL.nil ?_
      | (apply WPL.callU (c_laws_toCell ⟨_, _, _, _, _, _⟩ ?g1 ?g2); (case hg => (simp; done)); (case hd => (simp; done)); (case hl => (first | (simp; done) | (simp; rfl) | (simp -implicitDefEqProofs [Cl.cs, Cl.av, hlt, hl, hge, Cl.ow]; done) | (simp -implicitDefEqProofs [Cl.cs, Cl.av, hlt, hl, hge, Cl.ow]; rfl))); (case hr => (first | (simp; done) | (simp; rfl) | (simp -implicitDefEqProofs [Cl.cs, Cl.av, hlt, hl, hge, Cl.ow]; done) | (simp -implicitDefEqProofs [Cl.cs, Cl.av, hlt, hl, hge, Cl.ow]; rfl))); (case hins => (first | (simp -implicitDefEqProofs [Cl.cs, Cl.av, hlt, hl, hge, Cl.ow]; done) | (simp -implicitDefEqProofs [Cl.cs, Cl.av, hlt, hl, hge, Cl.ow]; rfl) | rfl)); (case he => (first | rfl | (simp -implicitDefEqProofs [Cl.cs, Cl.av, hlt, hl, hge, Cl.ow]; done))); (case hob => (first | (simp -implicitDefEqProofs [Cl.cs, Cl.av, hlt, hl, hge, Cl.ow]; done) | (simp -implicitDefEqProofs [Cl.cs, Cl.av, hlt, hl, hge, Cl.ow]; rfl) | rfl)); (case heo => (first | rfl | (simp -implicitDefEqProofs [Cl.cs, Cl.av, hlt, hl, hge, Cl.ow]; done))); (case g1 => (first | assumption | (exact hr1) | (exact hr2) | omega)); (case g2 => (first | assumption | (exact hr1) | (exact hr2) | omega)); (case hnw => (first | (simp; done) | (simp; rfl) | (simp -implicitDefEqProofs [Cl.cs, Cl.av, hlt, hl, hge, Cl.ow]; done) | (simp -implicitDefEqProofs [Cl.cs, Cl.av, hlt, hl, hge, Cl.ow]; rfl))); (case hok => (first | (simp; done) | (simp -implicitDefEqProofs [Cl.cs, Cl.av, hlt, hl, hge, Cl.ow]; done))); (case hP => (first | (simp; done) | (simp; rfl) | (simp -implicitDefEqProofs [Cl.cs, Cl.av, hlt, hl, hge, Cl.ow]; done) | (simp -implicitDefEqProofs [Cl.cs, Cl.av, hlt, hl, hge, Cl.ow]; rfl))); (case hS => (first | (simp; done) | (simp; rfl) | (simp -implicitDefEqProofs [Cl.cs, Cl.av, hlt, hl, hge, Cl.ow]; done) | (simp -implicitDefEqProofs [Cl.cs, Cl.av, hlt, hl, hge, Cl.ow]; rfl))); (case hz => (first | (simp; done) | (simp -implicitDefEqProofs [Cl.cs, Cl.av, hlt, hl, hge, Cl.ow]; done))); (case hs => (first | (simp -implicitDefEqProofs [Cl.cs, Cl.av, hlt, hl, hge, Cl.ow]; done) | (simp -implicitDefEqProofs [Cl.cs, Cl.av, hlt, hl, hge, Cl.ow]; rfl) | rfl)))
      | (refine WPc.rq tok rfl fun K hK => ?_; simp -implicitDefEqProofs +contextual [-Int.not_le, -Int.not_lt, -Nat.not_le, -Nat.not_lt, -List.all_eq_true, -List.all_eq_false, -List.any_eq_true, -List.any_eq_false, Cl.cs, Cl.av, hlt, hl, hge, Cl.ow]; (fail_if_success guard_target =ₛ False); (repeat' (first | refine hK _ ?_ | refine And.intro ?_ ?_ | intro _)) <;> clear hK K)
      | (refine WPL.rn tok _ (by simp [ahead, isFn]; rfl) fun K hK => ?_; simp -implicitDefEqProofs +contextual [-Int.not_le, -Int.not_lt, -Nat.not_le, -Nat.not_lt, -List.all_eq_true, -List.all_eq_false, -List.any_eq_true, -List.any_eq_false, Cl.cs, Cl.av, hlt, hl, hge, Cl.ow]; (fail_if_success guard_target =ₛ False); (repeat' (first | refine hK _ ?_ | refine And.intro ?_ ?_ | intro _)) <;> clear hK K <;> (try simp only [Nat.reduceAdd, List.drop_succ_cons, List.drop_zero]))
      | (refine WPc.region ?_; simp only [List.toList_toArray])
      | (refine WPc.condT ?_ ?_; (focus (simp; done))))
    refine ⟨i + 1, ⟨hlt, by first | omega | (simp only; omega) | assumption⟩, rfl, rfl, ?_, ?_⟩ <;> simp (disch := omega) [wrap64, hn]
  · obtain rfl : i = l.length := by omega
    repeat' (first
      | apply WPc.sq
      | (refine WPc.ret (endP.own [(7, heapR l)] (.inr rfl) rfl rfl (by simp; rfl) ?_ ?_ (by simp)))
      | apply WPc.exit
      | (refine WPc.rq tok rfl fun K hK => ?_; simp -implicitDefEqProofs +contextual [-Int.not_le, -Int.not_lt, -Nat.not_le, -Nat.not_lt, -List.all_eq_true, -List.all_eq_false, -List.any_eq_true, -List.any_eq_false]; (fail_if_success guard_target =ₛ False); (repeat' (first | refine hK _ ?_ | refine And.intro ?_ ?_ | intro _)) <;> clear hK K)
      | (refine WPc.condF ?_ ?_; (focus (simp; done))))
    · simp [part_all, heapR]
    · exact ⟨rfl, rfl⟩
end Go.Own
set_option linter.unusedVariables false
set_option linter.unusedSimpArgs false
set_option linter.unusedSectionVars false
set_option maxRecDepth 1000000
set_option maxHeartbeats 4000000
namespace Go.Own
attribute [local irreducible] WPc WPL WPS WPS1 WPS2 HAny endP
variable [Laid]
open Go.Lib Go.RowKit
theorem c_laws_eqStringS (l : List ByteArray) : Con PP 103 [.fz (l.map sC), .fz (l.map sC)] [] [] (fun r o => r = .sc (.bool true)) := by
  refine Con.lenOf 0 Go.Proofs.Tryz.func103 (by kernel_rfl) (by kernel_rfl) rfl fun hlen => ?_
  simp at hlen
  refine Con.of tok (nt := 26) Go.Proofs.Tryz.func103 (by kernel_rfl) rfl rfl rfl (Nat.le_of_ble_eq_true rfl) fun G => ?_
  simp only [entSt, tmOf, List.append_nil, List.cons_append, List.nil_append]
  repeat' (first
    | apply WPc.sq
    | apply WPc.block
    | apply WPc.skip
    | (refine WPc.rq tok rfl fun K hK => ?_; simp -implicitDefEqProofs +contextual [-Int.not_le, -Int.not_lt, -Nat.not_le, -Nat.not_lt, -List.all_eq_true, -List.all_eq_false, -List.any_eq_true, -List.any_eq_false]; (fail_if_success guard_target =ₛ False); (repeat' (first | refine hK _ ?_ | refine And.intro ?_ ?_ | intro _)) <;> clear hK K)
    | (refine WPc.condF ?_ ?_; (focus (simp; done))))
  refine WPc.loopK (σ := Nat) (fun i => i ≤ l.length) (fun i => l.length - i) (fun i => [(5, .sc (.int .i64 i))])  [0, 1] 0 (by simp) (by simp) (by simp) ?_
  rintro i hi s hs
  simp at hs
  subst hs
  by_cases hlt : i < l.length
  · repeat' (first
      | apply WPc.sq
      | apply WPc.block
      | apply WPc.skip
      | (refine WPc.rq tok rfl fun K hK => ?_; simp -implicitDefEqProofs +contextual [-Int.not_le, -Int.not_lt, -Nat.not_le, -Nat.not_lt, -List.all_eq_true, -List.all_eq_false, -List.any_eq_true, -List.any_eq_false, sC, hlt]; (fail_if_success guard_target =ₛ False); (repeat' (first | refine hK _ ?_ | refine And.intro ?_ ?_ | intro _)) <;> clear hK K)
      | (refine WPc.sched (id := 6) tok [] [(0, []), (1, []), (2, []), (3, []), (4, []), (5, []), (6, []), (7, []), (8, [])] (by kernel_rfl) ?_)
      | (refine WPS.nil ?_)
      | (refine WPS.rn tok _ (by simp [aheadS]; rfl) fun K hK => ?_; simp -implicitDefEqProofs +contextual [-Int.not_le, -Int.not_lt, -Nat.not_le, -Nat.not_lt, -List.all_eq_true, -List.all_eq_false, -List.any_eq_true, -List.any_eq_false, sC, hlt]; (fail_if_success guard_target =ₛ False); (repeat' (first | refine hK _ ?_ | refine And.intro ?_ ?_ | intro _)) <;> clear hK K <;> (try simp only [Nat.reduceAdd, List.drop_succ_cons, List.drop_zero]))
      | (refine WPc.condT ?_ ?_; (focus (simp; done)))
      | (refine WPc.condF ?_ ?_; (focus (simp; done))))
    all_goals
      refine ⟨i + 1, ⟨hlt, by first | omega | (simp only; omega) | assumption⟩, rfl, rfl, ?_, ?_⟩ <;> simp (disch := omega) [wrap64]
  · repeat' (first
      | apply WPc.sq
      | (refine WPc.ret (endP.val (.inr rfl) rfl rfl (by simp; rfl) ?_))
      | apply WPc.exit
      | (refine WPc.rq tok rfl fun K hK => ?_; simp -implicitDefEqProofs +contextual [-Int.not_le, -Int.not_lt, -Nat.not_le, -Nat.not_lt, -List.all_eq_true, -List.all_eq_false, -List.any_eq_true, -List.any_eq_false, hlt]; (fail_if_success guard_target =ₛ False); (repeat' (first | refine hK _ ?_ | refine And.intro ?_ ?_ | intro _)) <;> clear hK K)
      | (refine WPc.condF ?_ ?_; (focus (simp; done))))
    all_goals rfl
theorem c_laws_eqValue (v : V) : Con PP 19 [v.av, v.av] [] [] (fun r o => r = .sc (.bool true)) := by
  refine Con.of tok (nt := 20) Go.Proofs.Tryz.func19 (by kernel_rfl) rfl rfl rfl (Nat.le_of_ble_eq_true rfl) fun G => ?_
  simp only [entSt, tmOf, List.append_nil, List.cons_append, List.nil_append, V.av]
  repeat' (first
    | apply WPc.sq
    | (refine WPc.ret (endP.val (.inr rfl) rfl rfl (by simp; rfl) ?_))
    | apply WPc.skip
    | (refine WPc.rq tok rfl fun K hK => ?_; simp -implicitDefEqProofs +contextual [-Int.not_le, -Int.not_lt, -Nat.not_le, -Nat.not_lt, -List.all_eq_true, -List.all_eq_false, -List.any_eq_true, -List.any_eq_false]; (fail_if_success guard_target =ₛ False); (repeat' (first | refine hK _ ?_ | refine And.intro ?_ ?_ | intro _)) <;> clear hK K)
    | (refine WPc.condF ?_ ?_; (focus (simp; done))))
  all_goals rfl
theorem c_laws_eqValueS (l : List V) : Con PP 20 [.fz (l.map V.cs), .fz (l.map V.cs)] [] [] (fun r o => r = .sc (.bool true)) := by
  refine Con.lenOf 0 Go.Proofs.Tryz.func20 (by kernel_rfl) (by kernel_rfl) rfl fun hlen => ?_
  simp at hlen
  refine Con.of tok (nt := 27) Go.Proofs.Tryz.func20 (by kernel_rfl) rfl rfl rfl (Nat.le_of_ble_eq_true rfl) fun G => ?_
  simp only [entSt, tmOf, List.append_nil, List.cons_append, List.nil_append]
  repeat' (first
    | apply WPc.sq
    | apply WPc.block
    | apply WPc.skip
    | (refine WPc.rq tok rfl fun K hK => ?_; simp -implicitDefEqProofs +contextual [-Int.not_le, -Int.not_lt, -Nat.not_le, -Nat.not_lt, -List.all_eq_true, -List.all_eq_false, -List.any_eq_true, -List.any_eq_false]; (fail_if_success guard_target =ₛ False); (repeat' (first | refine hK _ ?_ | refine And.intro ?_ ?_ | intro _)) <;> clear hK K)
    | (refine WPc.condF ?_ ?_; (focus (simp; done))))
  refine WPc.loopK (σ := Nat) (fun i => i ≤ l.length) (fun i => l.length - i) (fun i => [(5, .sc (.int .i64 i))])  [0, 1] 0 (by simp) (by simp) (by simp) ?_
  rintro i hi s hs
  simp at hs
  subst hs
  by_cases hlt : i < l.length
  · repeat' (first
      | apply WPc.sq
      | apply WPc.block
      | apply WPc.skip
      | (apply WPS.callL (hc := (c_laws_eqValue ⟨_, _, _⟩)); (case ho => exact rfl); (case hg => (simp; done)); (case hd => (simp; done)); (case hl => (first | (simp; done) | (simp; rfl) | (simp -implicitDefEqProofs [V.cs, V.av, hlt]; done) | (simp -implicitDefEqProofs [V.cs, V.av, hlt]; rfl))); (case hb => rfl); (case hins => (first | (simp -implicitDefEqProofs [V.cs, V.av, hlt]; done) | (simp -implicitDefEqProofs [V.cs, V.av, hlt]; rfl) | rfl)); (case he => (first | rfl | (simp -implicitDefEqProofs [V.cs, V.av, hlt]; done))); (case hz => (first | (exact .inl rfl) | (simp; done) | (exact .inr (by simp -implicitDefEqProofs [V.cs, V.av, hlt])))))
      | (refine WPc.rq tok rfl fun K hK => ?_; simp -implicitDefEqProofs +contextual [-Int.not_le, -Int.not_lt, -Nat.not_le, -Nat.not_lt, -List.all_eq_true, -List.all_eq_false, -List.any_eq_true, -List.any_eq_false, V.cs, V.av, hlt]; (fail_if_success guard_target =ₛ False); (repeat' (first | refine hK _ ?_ | refine And.intro ?_ ?_ | intro _)) <;> clear hK K)
      | (refine WPc.sched (id := 6) tok [] [(0, []), (1, []), (2, []), (3, []), (4, []), (5, []), (6, []), (7, []), (8, []), (9, [])] (by kernel_rfl) ?_)
      | (refine WPS.nil ?_)
      | (refine WPS.rn tok _ (by simp [aheadS]; rfl) fun K hK => ?_; simp -implicitDefEqProofs +contextual [-Int.not_le, -Int.not_lt, -Nat.not_le, -Nat.not_lt, -List.all_eq_true, -List.all_eq_false, -List.any_eq_true, -List.any_eq_false, V.cs, V.av, hlt]; (fail_if_success guard_target =ₛ False); (repeat' (first | refine hK _ ?_ | refine And.intro ?_ ?_ | intro _)) <;> clear hK K <;> (try simp only [Nat.reduceAdd, List.drop_succ_cons, List.drop_zero]))
      | (refine WPc.condT ?_ ?_; (focus (simp; done)))
      | (refine WPc.condF ?_ ?_; (focus (simp; done))))
    all_goals
      refine ⟨i + 1, ⟨hlt, by first | omega | (simp only; omega) | assumption⟩, rfl, rfl, ?_, ?_⟩ <;> simp (disch := omega) [wrap64]
  · repeat' (first
      | apply WPc.sq
      | (refine WPc.ret (endP.val (.inr rfl) rfl rfl (by simp; rfl) ?_))
      | apply WPc.exit
      | (refine WPc.rq tok rfl fun K hK => ?_; simp -implicitDefEqProofs +contextual [-Int.not_le, -Int.not_lt, -Nat.not_le, -Nat.not_lt, -List.all_eq_true, -List.all_eq_false, -List.any_eq_true, -List.any_eq_false, hlt]; (fail_if_success guard_target =ₛ False); (repeat' (first | refine hK _ ?_ | refine And.intro ?_ ?_ | intro _)) <;> clear hK K)
      | (refine WPc.condF ?_ ?_; (focus (simp; done))))
    all_goals rfl
theorem c_laws_eqCell (c : Cl) : Con PP 60 [c.av, c.av] [] [] (fun r o => r = .sc (.bool true)) := by
  refine Con.of tok (nt := 37) Go.Proofs.Tryz.func60 (by kernel_rfl) rfl rfl rfl (Nat.le_of_ble_eq_true rfl) fun G => ?_
  simp only [entSt, tmOf, List.append_nil, List.cons_append, List.nil_append, Cl.av]
  repeat' (first
    | apply WPc.sq
    | (refine WPc.ret (endP.val (.inr rfl) rfl rfl (by simp; rfl) ?_))
    | apply WPc.skip
    | refine WPL.nil ?_
    | (apply WPL.callL (c_laws_eqStringS _); (case hd => (simp; done)); (case hl => (first | (simp; done) | (simp; rfl) | (simp -implicitDefEqProofs; done) | (simp -implicitDefEqProofs; rfl))); (case hb => rfl); (case hins => (first | (simp -implicitDefEqProofs; done) | (simp -implicitDefEqProofs; rfl))); (case he => (first | rfl | (simp -implicitDefEqProofs; done))); (case hz => (first | (exact .inl rfl) | (simp; done) | (exact .inr (by simp -implicitDefEqProofs)))))
    | (apply WPL.callL (c_laws_eqValueS _); (case hd => (simp; done)); (case hl => (first | (simp; done) | (simp; rfl) | (simp -implicitDefEqProofs; done) | (simp -implicitDefEqProofs; rfl))); (case hb => rfl); (case hins => (first | (simp -implicitDefEqProofs; done) | (simp -implicitDefEqProofs; rfl))); (case he => (first | rfl | (simp -implicitDefEqProofs; done))); (case hz => (first | (exact .inl rfl) | (simp; done) | (exact .inr (by simp -implicitDefEqProofs)))))
    | (refine WPc.rq tok rfl fun K hK => ?_; simp -implicitDefEqProofs +contextual [-Int.not_le, -Int.not_lt, -Nat.not_le, -Nat.not_lt, -List.all_eq_true, -List.all_eq_false, -List.any_eq_true, -List.any_eq_false]; (fail_if_success guard_target =ₛ False); (repeat' (first | refine hK _ ?_ | refine And.intro ?_ ?_ | intro _)) <;> clear hK K)
    | (refine WPL.rn tok _ (by simp [ahead, isFn]; rfl) fun K hK => ?_; simp -implicitDefEqProofs +contextual [-Int.not_le, -Int.not_lt, -Nat.not_le, -Nat.not_lt, -List.all_eq_true, -List.all_eq_false, -List.any_eq_true, -List.any_eq_false]; (fail_if_success guard_target =ₛ False); (repeat' (first | refine hK _ ?_ | refine And.intro ?_ ?_ | intro _)) <;> clear hK K <;> (try simp only [Nat.reduceAdd, List.drop_succ_cons, List.drop_zero]))
    | (refine WPc.region ?_; simp only [List.toList_toArray])
    | (refine WPc.condF ?_ ?_; (focus (simp; done))))
  all_goals rfl
theorem c_laws_eqCellS (l : List Cl) : Con PP 18 [.fz (l.map Cl.cs), .fz (l.map Cl.cs)] [] [] (fun r o => r = .sc (.bool true)) := by
  refine Con.lenOf 0 Go.Proofs.Tryz.func18 (by kernel_rfl) (by kernel_rfl) rfl fun hlen => ?_
  simp at hlen
  refine Con.of tok (nt := 27) Go.Proofs.Tryz.func18 (by kernel_rfl) rfl rfl rfl (Nat.le_of_ble_eq_true rfl) fun G => ?_
  simp only [entSt, tmOf, List.append_nil, List.cons_append, List.nil_append]
  repeat' (first
    | apply WPc.sq
    | apply WPc.block
    | apply WPc.skip
    | (refine WPc.rq tok rfl fun K hK => ?_; simp -implicitDefEqProofs +contextual [-Int.not_le, -Int.not_lt, -Nat.not_le, -Nat.not_lt, -List.all_eq_true, -List.all_eq_false, -List.any_eq_true, -List.any_eq_false]; (fail_if_success guard_target =ₛ False); (repeat' (first | refine hK _ ?_ | refine And.intro ?_ ?_ | intro _)) <;> clear hK K)
    | (refine WPc.condF ?_ ?_; (focus (simp; done))))
  refine WPc.loopK (σ := Nat) (fun i => i ≤ l.length) (fun i => l.length - i) (fun i => [(5, .sc (.int .i64 i))])  [0, 1] 0 (by simp) (by simp) (by simp) ?_
  rintro i hi s hs
  simp at hs
  subst hs
  by_cases hlt : i < l.length
  · repeat' (first
      | apply WPc.sq
      | apply WPc.block
      | apply WPc.skip
      | (apply WPS.callL (hc := (c_laws_eqCell ⟨_, _, _, _, _, _⟩)); (case ho => exact rfl); (case hg => (simp; done)); (case hd => (simp; done)); (case hl => (first | (simp; done) | (simp; rfl) | (simp -implicitDefEqProofs [Cl.cs, Cl.av, hlt]; done) | (simp -implicitDefEqProofs [Cl.cs, Cl.av, hlt]; rfl))); (case hb => rfl); (case hins => (first | (simp -implicitDefEqProofs [Cl.cs, Cl.av, hlt]; done) | (simp -implicitDefEqProofs [Cl.cs, Cl.av, hlt]; rfl) | rfl)); (case he => (first | rfl | (simp -implicitDefEqProofs [Cl.cs, Cl.av, hlt]; done))); (case hz => (first | (exact .inl rfl) | (simp; done) | (exact .inr (by simp -implicitDefEqProofs [Cl.cs, Cl.av, hlt])))))
      | (refine WPc.rq tok rfl fun K hK => ?_; simp -implicitDefEqProofs +contextual [-Int.not_le, -Int.not_lt, -Nat.not_le, -Nat.not_lt, -List.all_eq_true, -List.all_eq_false, -List.any_eq_true, -List.any_eq_false, Cl.cs, Cl.av, hlt]; (fail_if_success guard_target =ₛ False); (repeat' (first | refine hK _ ?_ | refine And.intro ?_ ?_ | intro _)) <;> clear hK K)
      | (refine WPc.sched (id := 6) tok [] [(0, []), (1, []), (2, []), (3, []), (4, []), (5, []), (6, []), (7, []), (8, []), (9, [])] (by kernel_rfl) ?_)
      | (refine WPS.nil ?_)
      | (refine WPS.rn tok _ (by simp [aheadS]; rfl) fun K hK => ?_; simp -implicitDefEqProofs +contextual [-Int.not_le, -Int.not_lt, -Nat.not_le, -Nat.not_lt, -List.all_eq_true, -List.all_eq_false, -List.any_eq_true, -List.any_eq_false, Cl.cs, Cl.av, hlt]; (fail_if_success guard_target =ₛ False); (repeat' (first | refine hK _ ?_ | refine And.intro ?_ ?_ | intro _)) <;> clear hK K <;> (try simp only [Nat.reduceAdd, List.drop_succ_cons, List.drop_zero]))
      | (refine WPc.condT ?_ ?_; (focus (simp; done)))
      | (refine WPc.condF ?_ ?_; (focus (simp; done))))
    all_goals
      refine ⟨i + 1, ⟨hlt, by first | omega | (simp only; omega) | assumption⟩, rfl, rfl, ?_, ?_⟩ <;> simp (disch := omega) [wrap64]
  · repeat' (first
      | apply WPc.sq
      | (refine WPc.ret (endP.val (.inr rfl) rfl rfl (by simp; rfl) ?_))
      | apply WPc.exit
      | (refine WPc.rq tok rfl fun K hK => ?_; simp -implicitDefEqProofs +contextual [-Int.not_le, -Int.not_lt, -Nat.not_le, -Nat.not_lt, -List.all_eq_true, -List.all_eq_false, -List.any_eq_true, -List.any_eq_false, hlt]; (fail_if_success guard_target =ₛ False); (repeat' (first | refine hK _ ?_ | refine And.intro ?_ ?_ | intro _)) <;> clear hK K)
      | (refine WPc.condF ?_ ?_; (focus (simp; done))))
    all_goals rfl
end Go.Own
set_option linter.unusedVariables false
set_option linter.unusedSimpArgs false
set_option linter.unusedSectionVars false
set_option maxRecDepth 1000000
set_option maxHeartbeats 4000000
namespace Go.Own
attribute [local irreducible] WPc WPL WPS WPS1 WPS2 HAny endP
variable [Laid]
open Go.Lib Go.RowKit
def mt (k : Int) : ByteArray := if k ≤ 0 then ⟨#[109, 48]⟩ else ⟨#[109]⟩ ++ dec k
theorem c_laws_markText (k : Int) (h1 : k ≤ 9223372036854775807) : Con PP 61 [.sc (.int .i64 k)] [] [] (fun r o => r = .sc (.string (mt k))) := by
  by_cases hk : k ≤ 0
  · refine Con.of tok (nt := 20) Go.Proofs.Tryz.func61 (by kernel_rfl) rfl rfl rfl (Nat.le_of_ble_eq_true rfl) fun G => ?_
    simp only [entSt, tmOf, List.append_nil, List.cons_append, List.nil_append]
    repeat' (first
      | apply WPc.sq
      | (refine WPc.ret (endP.val (.inr rfl) rfl rfl (by simp; rfl) ?_))
      | (refine WPc.rq tok rfl fun K hK => ?_; simp -implicitDefEqProofs +contextual [-Int.not_le, -Int.not_lt, -Nat.not_le, -Nat.not_lt, -List.all_eq_true, -List.all_eq_false, -List.any_eq_true, -List.any_eq_false, hk]; (fail_if_success guard_target =ₛ False); (repeat' (first | refine hK _ ?_ | refine And.intro ?_ ?_ | intro _)) <;> clear hK K)
      | (refine WPc.condT ?_ ?_; (focus (simp; done))))
    all_goals (simp [mt, hk])
  have hdiv : ∀ m out, DecI k m out → IntKind.i64.wrap (m.tdiv 10) = m.tdiv 10 := fun m out hI => by
    have := hI.le
    have h2 : (m.tdiv 10).natAbs = m.natAbs / 10 := by rw [Int.natAbs_tdiv]; rfl
    have := hI.pos (by omega)
    have := Int.tdiv_nonneg this (show (0 : Int) ≤ 10 by omega)
    exact wrap64 (by omega) (by omega)
  refine Con.of tok (nt := 20) Go.Proofs.Tryz.func61 (by kernel_rfl) rfl rfl rfl (Nat.le_of_ble_eq_true rfl) fun G => ?_
  simp only [entSt, tmOf, List.append_nil, List.cons_append, List.nil_append]
  repeat' (first
    | apply WPc.sq
    | apply WPc.block
    | apply WPc.skip
    | (refine WPc.rq tok rfl fun K hK => ?_; simp -implicitDefEqProofs +contextual [-Int.not_le, -Int.not_lt, -Nat.not_le, -Nat.not_lt, -List.all_eq_true, -List.all_eq_false, -List.any_eq_true, -List.any_eq_false, hk]; (fail_if_success guard_target =ₛ False); (repeat' (first | refine hK _ ?_ | refine And.intro ?_ ?_ | intro _)) <;> clear hK K)
    | (refine WPc.condF ?_ ?_; (focus (simp; done))))
  refine WPc.loopK (σ := Int × ByteArray) (fun x => DecI k x.1 x.2) (fun x => x.1.natAbs) (fun x => [(0, .sc (.int .i64 x.1)), (3, .sc (.string x.2))])  [] (k, ⟨#[]⟩) (by simp) (by simp) (⟨by simp [ddig]; omega, by simp, fun h => by dsimp only; omega, by simp, by simp [ByteArray.size]⟩) ?_
  rintro ⟨m, out⟩ hI s hs
  simp at hs
  subst hs
  have hs := hI.sz
  dsimp only at hs hI
  have hp := hI.pos (by omega)
  by_cases hm : m = 0
  · subst hm
    have s1 : SAdd ⟨#[109]⟩ out := by unfold SAdd; have : (⟨#[109]⟩ : ByteArray).size = 1 := rfl; omega
    have he := hI.eq
    simp only [ddig, if_true, List.nil_append] at he
    have hd : dec k = out := by
      unfold dec itoa
      rw [if_neg (by omega), show k.toNat = k.natAbs by omega, he]
    repeat' (first
      | apply WPc.sq
      | (refine WPc.ret (endP.val (.inr rfl) rfl rfl (by simp; rfl) ?_))
      | apply WPc.exit
      | (refine WPc.rq tok rfl fun K hK => ?_; simp -implicitDefEqProofs +contextual [-Int.not_le, -Int.not_lt, -Nat.not_le, -Nat.not_lt, -List.all_eq_true, -List.all_eq_false, -List.any_eq_true, -List.any_eq_false, s1]; (fail_if_success guard_target =ₛ False); (repeat' (first | refine hK _ ?_ | refine And.intro ?_ ?_ | intro _)) <;> clear hK K)
      | (refine WPc.condF ?_ ?_; (focus (simp; done))))
    all_goals (simp only [mt, if_neg hk, hd])
  · have hm2 : 0 < m := by omega
    have s1 : ∀ c : Int, SAdd (strOfNums [c]) out := fun c => by unfold SAdd; rw [strOfNums_size]; simp; omega
    have hb := digit_byte m
    have hg : ¬ m.tmod 10 < 0 := by have := Int.tmod_nonneg 10 (show 0 ≤ m by omega); omega
    rw [if_neg hg] at hb
    have hn := hI.next (by omega) hm
    have hmm : (m.tdiv 10).natAbs < m.natAbs := by rw [Int.natAbs_tdiv]; show m.natAbs / 10 < _; omega
    repeat' (first
      | apply WPc.sq
      | apply WPc.block
      | apply WPc.skip
      | (refine WPc.rq tok rfl fun K hK => ?_; simp -implicitDefEqProofs +contextual [-Int.not_le, -Int.not_lt, -Nat.not_le, -Nat.not_lt, -List.all_eq_true, -List.all_eq_false, -List.any_eq_true, -List.any_eq_false, hm2, s1]; (fail_if_success guard_target =ₛ False); (repeat' (first | refine hK _ ?_ | refine And.intro ?_ ?_ | intro _)) <;> clear hK K)
      | (refine WPc.condT ?_ ?_; (focus (simp; done))))
    all_goals
      refine ⟨(m.tdiv 10, nextD m out), ⟨hn, by first | omega | (simp only; omega) | assumption⟩, rfl, rfl, ?_, ?_⟩ <;> simp (disch := omega) [wrap64, nextD, hb, hdiv _ _ hI]
def over (new old : List (List C)) (i : Nat) : List (List C) := new.take i ++ old.drop i
section
variable {new old : List (List C)} {i : Nat}
theorem over_zero : over new old 0 = old := by simp [over]
theorem over_all (h : new.length = old.length) : over new old old.length = new := by simp [over, List.take_of_length_le (Nat.le_of_eq h)]
theorem over_len (h : new.length = old.length) : (over new old i).length = old.length := by simp [over]; omega
theorem over_get (h : new.length = old.length) (hi : i < old.length) : (over new old i)[i]? = some old[i] := by
  unfold over
  rw [List.getElem?_append_right (by simp; omega), List.getElem?_drop]
  simp only [List.length_take, Nat.min_eq_left (show i ≤ new.length by omega), Nat.sub_self, Nat.add_zero]
  exact List.getElem?_eq_getElem hi
theorem over_ge (h : new.length = old.length) (hi : i < old.length) (p : i < (over new old i).length) : (over new old i)[i] = old[i] := by
  have := over_get (new := new) h hi
  rw [List.getElem?_eq_getElem p] at this
  exact Option.some.inj this
theorem over_next {g : List C → List C} (h : new.length = old.length) (hi : i < old.length) (hg : new[i]? = some (g old[i])) : (over new old i).modify i g = over new old (i + 1) := by
  apply List.ext_getElem?
  intro j
  rw [List.getElem?_modify]
  by_cases hj : i = j
  · subst hj
    rw [over_get h hi]
    unfold over
    rw [List.getElem?_append_left (by simp; omega), List.getElem?_take_of_lt (by omega), hg]
    simp
  · simp only [hj, if_false]
    unfold over
    by_cases h1 : j < i
    · rw [List.getElem?_append_left (by simp; omega), List.getElem?_append_left (by simp; omega), List.getElem?_take_of_lt h1, List.getElem?_take_of_lt (by omega)]
      simp
    · rw [List.getElem?_append_right (by simp; omega), List.getElem?_append_right (by simp; omega), List.getElem?_drop, List.getElem?_drop]
      simp only [List.length_take, Nat.min_eq_left (show i ≤ new.length by omega), Nat.min_eq_left (show i + 1 ≤ new.length by omega), Option.map_eq_map, Option.map_id']
      rw [show i + (j - i) = j by omega, show i + 1 + (j - (i + 1)) = j by omega]
end
def marksS (k : Int) (n : Nat) : List ByteArray := (List.range n).map fun i => mt (k + (i : Nat))
theorem marksS_len (k : Int) (n : Nat) : (marksS k n).length = n := by simp [marksS]
theorem c_laws_markStringS (l : List ByteArray) (k : Int) (h1 : -1000000000000 ≤ k) (h2 : k ≤ 1000000000000) (h3 : l.length ≤ 1000000000) : Con PP 62 [.sl 0 1 [] 0 l.length, .sc (.int .i64 k)] [(0, 9, 1, l.map sC)] [0] (fun r o => r = .sc (.int .i64 (k + l.length)) ∧ o = [(0, 9, 1, (marksS k l.length).map sC)]) := by
  have hm : ((marksS k l.length).map sC).length = (l.map sC).length := by simp [marksS]
  refine Con.of tok (nt := 20) Go.Proofs.Tryz.func62 (by kernel_rfl) rfl rfl rfl (Nat.le_of_ble_eq_true rfl) fun G => ?_
  simp only [entSt, tmOf, List.append_nil, List.cons_append, List.nil_append]
  repeat' (first
    | apply WPc.sq
    | apply WPc.block
    | (refine WPc.rq tok rfl fun K hK => ?_; simp -implicitDefEqProofs +contextual [-Int.not_le, -Int.not_lt, -Nat.not_le, -Nat.not_lt, -List.all_eq_true, -List.all_eq_false, -List.any_eq_true, -List.any_eq_false]; (fail_if_success guard_target =ₛ False); (repeat' (first | refine hK _ ?_ | refine And.intro ?_ ?_ | intro _)) <;> clear hK K))
  refine WPc.loopV (σ := Nat) (fun i => i ≤ l.length) (fun i => l.length - i) (fun i => [(5, .sc (.int .i64 i)), (1, .sc (.int .i64 (k + i)))]) (fun i => [(0, 9, 1, over ((marksS k l.length).map sC) (l.map sC) i)]) [0, 20] 0 (by simp [over_zero]) (by simp [over_zero]) (by simp) ?_
  rintro i hi s hs
  simp at hs
  subst hs
  by_cases hlt : i < l.length
  · have hl := over_len (i := i) hm
    have hge := over_ge (i := i) hm (by simpa using hlt)
    have hn := over_next (i := i) (g := fun r => r.set 0 (.sc (.string (mt (k + i))))) hm (by simpa using hlt) (by simp [marksS, sC, hlt])
    simp only [List.length_map, List.getElem_map] at hl hge
    repeat' (first
      | apply WPc.sq
      | apply WPc.block
      | apply WPc.skip
      | refine WPL.nil ?_
      | (apply WPL.callL (c_laws_markText _ ?g1); (case hd => (simp; done)); (case hl => (first | (simp; done) | (simp; rfl) | (simp -implicitDefEqProofs [sC, hlt, hl, hge]; done) | (simp -implicitDefEqProofs [sC, hlt, hl, hge]; rfl))); (case hb => rfl); (case hins => (first | (simp -implicitDefEqProofs [sC, hlt, hl, hge]; done) | (simp -implicitDefEqProofs [sC, hlt, hl, hge]; rfl))); (case he => (first | rfl | (simp -implicitDefEqProofs [sC, hlt, hl, hge]; done))); (case g1 => (first | assumption | omega)); (case hz => (first | (exact .inl rfl) | (simp; done) | (exact .inr (by simp -implicitDefEqProofs [sC, hlt, hl, hge])))))
      | (refine WPc.rq tok rfl fun K hK => ?_; simp -implicitDefEqProofs +contextual [-Int.not_le, -Int.not_lt, -Nat.not_le, -Nat.not_lt, -List.all_eq_true, -List.all_eq_false, -List.any_eq_true, -List.any_eq_false, sC, hlt, hl, hge]; (fail_if_success guard_target =ₛ False); (repeat' (first | refine hK _ ?_ | refine And.intro ?_ ?_ | intro _)) <;> clear hK K)
      | (refine WPL.rn tok _ (by simp [ahead, isFn]; rfl) fun K hK => ?_; simp -implicitDefEqProofs +contextual [-Int.not_le, -Int.not_lt, -Nat.not_le, -Nat.not_lt, -List.all_eq_true, -List.all_eq_false, -List.any_eq_true, -List.any_eq_false, sC, hlt, hl, hge]; (fail_if_success guard_target =ₛ False); (repeat' (first | refine hK _ ?_ | refine And.intro ?_ ?_ | intro _)) <;> clear hK K <;> (try simp only [Nat.reduceAdd, List.drop_succ_cons, List.drop_zero]))
      | (refine WPc.region ?_; simp only [List.toList_toArray])
      | (refine WPc.condT ?_ ?_; (focus (simp; done))))
    refine ⟨i + 1, ⟨hlt, by first | omega | (simp only; omega) | assumption⟩, rfl, rfl, ?_, ?_⟩ <;> simp (disch := omega) [wrap64, hn]
    all_goals (refine fit_int ?_; omega)
  · obtain rfl : i = l.length := by omega
    have ha := over_all hm
    simp only [List.length_map] at ha
    repeat' (first
      | apply WPc.sq
      | (refine WPc.ret (endP.own [(0, 9, 1, (marksS k l.length).map sC)] (.inr rfl) rfl rfl (by simp; rfl) ?_ ?_ (by simp)))
      | apply WPc.exit
      | (refine WPc.rq tok rfl fun K hK => ?_; simp -implicitDefEqProofs +contextual [-Int.not_le, -Int.not_lt, -Nat.not_le, -Nat.not_lt, -List.all_eq_true, -List.all_eq_false, -List.any_eq_true, -List.any_eq_false]; (fail_if_success guard_target =ₛ False); (repeat' (first | refine hK _ ?_ | refine And.intro ?_ ?_ | intro _)) <;> clear hK K)
      | (refine WPc.condF ?_ ?_; (focus (simp; done))))
    · simp [ha]
    · exact ⟨rfl, rfl⟩
def markV (k : Int) : V := ⟨k, k + 1, mt (k + 2)⟩
def marksV (k : Int) (n : Nat) : List V := (List.range n).map fun i => markV (k + 3 * (i : Nat))
theorem marksV_len (k : Int) (n : Nat) : (marksV k n).length = n := by simp [marksV]
theorem c_laws_markValueS (l : List V) (k : Int) (h1 : -1000000000000 ≤ k) (h2 : k ≤ 1000000000000) (h3 : l.length ≤ 1000000000) : Con PP 22 [.sl 0 3 [] 0 l.length, .sc (.int .i64 k)] [(0, 29, 3, l.map V.cs)] [0] (fun r o => r = .sc (.int .i64 (k + 3 * l.length)) ∧ o = [(0, 29, 3, (marksV k l.length).map V.cs)]) := by
  have hm : ((marksV k l.length).map V.cs).length = (l.map V.cs).length := by simp [marksV]
  refine Con.of tok (nt := 35) Go.Proofs.Tryz.func22 (by kernel_rfl) rfl rfl rfl (Nat.le_of_ble_eq_true rfl) fun G => ?_
  simp only [entSt, tmOf, List.append_nil, List.cons_append, List.nil_append]
  repeat' (first
    | apply WPc.sq
    | apply WPc.block
    | (refine WPc.rq tok rfl fun K hK => ?_; simp -implicitDefEqProofs +contextual [-Int.not_le, -Int.not_lt, -Nat.not_le, -Nat.not_lt, -List.all_eq_true, -List.all_eq_false, -List.any_eq_true, -List.any_eq_false]; (fail_if_success guard_target =ₛ False); (repeat' (first | refine hK _ ?_ | refine And.intro ?_ ?_ | intro _)) <;> clear hK K))
  refine WPc.loopV (σ := Nat) (fun i => i ≤ l.length) (fun i => l.length - i) (fun i => [(5, .sc (.int .i64 i)), (1, .sc (.int .i64 (k + 3 * (i : Nat))))]) (fun i => [(0, 29, 3, over ((marksV k l.length).map V.cs) (l.map V.cs) i)]) [0, 35] 0 (by simp [over_zero]) (by simp [over_zero]) (by simp) ?_
  rintro i hi s hs
  simp at hs
  subst hs
  by_cases hlt : i < l.length
  · have hl := over_len (i := i) hm
    have hge := over_ge (i := i) hm (by simpa using hlt)
    have hn : (((over ((marksV k l.length).map V.cs) (l.map V.cs) i).modify i fun r => r.set 0 (.sc (.int .i64 (k + 3 * (i : Nat))))).modify i fun r => r.set 1 (.sc (.int .i64 (k + 3 * (i : Nat) + 1)))).modify i (fun r => r.set 2 (.sc (.string (mt (k + 3 * (i : Nat) + 2))))) = over ((marksV k l.length).map V.cs) (l.map V.cs) (i + 1) := by
      rw [List.modify_modify_eq, List.modify_modify_eq]
      exact over_next hm (by simpa using hlt) (by simp [marksV, markV, V.cs, hlt])
    simp only [List.length_map, List.getElem_map] at hl hge
    have e1 : IntKind.i64.wrap (k + 3 * (i : Nat) + 1) = k + 3 * (i : Nat) + 1 := wrap64 (by omega) (by omega)
    have e2 : IntKind.i64.wrap (k + 3 * (i : Nat) + 1 + 1) = k + 3 * (i : Nat) + 2 := by rw [wrap64 (by omega) (by omega)]; omega
    have e3 : IntKind.i64.wrap (k + 3 * (i : Nat) + 2 + 1) = k + 3 * (i : Nat) + 3 := by rw [wrap64 (by omega) (by omega)]; omega
    repeat' (first
      | apply WPc.sq
      | apply WPc.block
      | apply WPc.skip
      | refine WPL.nil ?_
      | (apply WPL.callL (c_laws_markText _ ?g1); (case hd => (simp; done)); (case hl => (first | (simp; done) | (simp; rfl) | (simp -implicitDefEqProofs [V.cs, hlt, hl, hge, e1, e2, e3]; done) | (simp -implicitDefEqProofs [V.cs, hlt, hl, hge, e1, e2, e3]; rfl))); (case hb => rfl); (case hins => (first | (simp -implicitDefEqProofs [V.cs, hlt, hl, hge, e1, e2, e3]; done) | (simp -implicitDefEqProofs [V.cs, hlt, hl, hge, e1, e2, e3]; rfl))); (case he => (first | rfl | (simp -implicitDefEqProofs [V.cs, hlt, hl, hge, e1, e2, e3]; done))); (case g1 => (first | assumption | omega)); (case hz => (first | (exact .inl rfl) | (simp; done) | (exact .inr (by simp -implicitDefEqProofs [V.cs, hlt, hl, hge, e1, e2, e3])))))
      | (refine WPc.rq tok rfl fun K hK => ?_; simp -implicitDefEqProofs +contextual [-Int.not_le, -Int.not_lt, -Nat.not_le, -Nat.not_lt, -List.all_eq_true, -List.all_eq_false, -List.any_eq_true, -List.any_eq_false, V.cs, hlt, hl, hge, e1, e2, e3]; (fail_if_success guard_target =ₛ False); (repeat' (first | refine hK _ ?_ | refine And.intro ?_ ?_ | intro _)) <;> clear hK K)
      | (refine WPL.rn tok _ (by simp [ahead, isFn]; rfl) fun K hK => ?_; simp -implicitDefEqProofs +contextual [-Int.not_le, -Int.not_lt, -Nat.not_le, -Nat.not_lt, -List.all_eq_true, -List.all_eq_false, -List.any_eq_true, -List.any_eq_false, V.cs, hlt, hl, hge, e1, e2, e3]; (fail_if_success guard_target =ₛ False); (repeat' (first | refine hK _ ?_ | refine And.intro ?_ ?_ | intro _)) <;> clear hK K <;> (try simp only [Nat.reduceAdd, List.drop_succ_cons, List.drop_zero]))
      | (refine WPc.region ?_; simp only [List.toList_toArray])
      | (refine WPc.condT ?_ ?_; (focus (simp; done))))
    refine ⟨i + 1, ⟨hlt, by first | omega | (simp only; omega) | assumption⟩, rfl, rfl, ?_, ?_⟩ <;> simp (disch := omega) [wrap64, hn]
    all_goals (refine fit_int ?_; omega)
  · obtain rfl : i = l.length := by omega
    have ha := over_all hm
    simp only [List.length_map] at ha
    repeat' (first
      | apply WPc.sq
      | (refine WPc.ret (endP.own [(0, 29, 3, (marksV k l.length).map V.cs)] (.inr rfl) rfl rfl (by simp; rfl) ?_ ?_ (by simp)))
      | apply WPc.exit
      | (refine WPc.rq tok rfl fun K hK => ?_; simp -implicitDefEqProofs +contextual [-Int.not_le, -Int.not_lt, -Nat.not_le, -Nat.not_lt, -List.all_eq_true, -List.all_eq_false, -List.any_eq_true, -List.any_eq_false]; (fail_if_success guard_target =ₛ False); (repeat' (first | refine hK _ ?_ | refine And.intro ?_ ?_ | intro _)) <;> clear hK K)
      | (refine WPc.condF ?_ ?_; (focus (simp; done))))
    · simp [ha]
    · exact ⟨rfl, rfl⟩
end Go.Own
set_option linter.unusedVariables false
set_option linter.unusedSimpArgs false
set_option linter.unusedSectionVars false
set_option maxRecDepth 1000000
set_option maxHeartbeats 4000000
namespace Go.Own
attribute [local irreducible] WPc WPL WPS WPS1 WPS2 HAny endP
variable [Laid]
open Go.Lib Go.RowKit
def markC (k : Int) (c : Cl) : Cl := ⟨k, mt (k + 1), k + 2, k + 3, marksS (k + 4) c.names.length, marksV (k + 4 + c.names.length) c.vals.length⟩
def mk (c : Cl) : Nat := 4 + c.names.length + 3 * c.vals.length
def marksC (k : Int) (h : List Cl) : List Cl := h.mapIdx fun i c => markC (k + sumTo mk h i) c
def sumC (h : List Cl) : Nat := (h.map mk).sum
theorem c_laws_markCellS (h : List Cl) (k : Int) (h1 : -1000000000 ≤ k) (h2 : k ≤ 1000000000) (h3 : h.length ≤ 1000000000) (h4 : sumC h ≤ 1000000000) : Con PP 21 [.sl 0 6 [] 0 h.length, .sc (.int .i64 k)] [(0, 88, 6, h.map Cl.ow)] [0] (fun r o => r = .sc (.int .i64 (k + sumC h)) ∧ o = [(0, 88, 6, (marksC k h).map Cl.ow)]) := by
  have hm : ((marksC k h).map Cl.ow).length = (h.map Cl.ow).length := by simp [marksC]
  refine Con.of tok (nt := 56) Go.Proofs.Tryz.func21 (by kernel_rfl) rfl rfl rfl (Nat.le_of_ble_eq_true rfl) fun G => ?_
  simp only [entSt, tmOf, List.append_nil, List.cons_append, List.nil_append]
  repeat' (first
    | apply WPc.sq
    | apply WPc.block
    | (refine WPc.rq tok rfl fun K hK => ?_; simp -implicitDefEqProofs +contextual [-Int.not_le, -Int.not_lt, -Nat.not_le, -Nat.not_lt, -List.all_eq_true, -List.all_eq_false, -List.any_eq_true, -List.any_eq_false]; (fail_if_success guard_target =ₛ False); (repeat' (first | refine hK _ ?_ | refine And.intro ?_ ?_ | intro _)) <;> clear hK K))
  refine WPc.loopV (σ := Nat) (fun i => i ≤ h.length) (fun i => h.length - i) (fun i => [(5, .sc (.int .i64 i)), (1, .sc (.int .i64 (k + sumTo mk h i)))]) (fun i => [(0, 88, 6, over ((marksC k h).map Cl.ow) (h.map Cl.ow) i)]) [0, 56] 0 (by simp [over_zero, sumTo_zero]) (by simp [over_zero, sumTo_zero]) (by simp) ?_
  rintro i hi s hs
  simp at hs
  subst hs
  by_cases hlt : i < h.length
  · have hl := over_len (i := i) hm
    have hge := over_ge (i := i) hm (by simpa using hlt)
    have hgo := over_get (i := i) hm (by simpa using hlt)
    simp only [List.length_map, List.getElem_map] at hl hge hgo
    have hs := sumTo_next (f := mk) hlt
    have hsl := sumTo_le mk h (i + 1)
    have hmk : mk h[i] = 4 + h[i].names.length + 3 * h[i].vals.length := rfl
    unfold sumC at h4
    have e1 : IntKind.i64.wrap (k + sumTo mk h i + 1) = k + sumTo mk h i + 1 := wrap64 (by omega) (by omega)
    have e2 : IntKind.i64.wrap (k + sumTo mk h i + 1 + 1) = k + sumTo mk h i + 2 := by rw [wrap64 (by omega) (by omega)]; omega
    have e3 : IntKind.i64.wrap (k + sumTo mk h i + 2 + 1) = k + sumTo mk h i + 3 := by rw [wrap64 (by omega) (by omega)]; omega
    have e4 : IntKind.i64.wrap (k + sumTo mk h i + 3 + 1) = k + sumTo mk h i + 4 := by rw [wrap64 (by omega) (by omega)]; omega
    have hn1 : h[i].names.length ≤ 1000000000 := by omega
    have hn2 : h[i].vals.length ≤ 1000000000 := by omega
    have hn : ∀ u v : C, ((((((((over ((marksC k h).map Cl.ow) (h.map Cl.ow) i).modify i fun r => r.set 0 (.sc (.int .i64 (k + sumTo mk h i)))).modify i fun r => r.set 1 (.sc (.string (mt (k + sumTo mk h i + 1))))).modify i fun r => r.set 2 (.sc (.int .i64 (k + sumTo mk h i + 2)))).modify i fun r => r.set 3 (.sc (.int .i64 (k + sumTo mk h i + 3)))).modify i fun r => r.set 4 u).modify i fun r => r.set 4 (.sl 9 1 ((marksS (k + sumTo mk h i + 4) h[i].names.length).map sC))).modify i fun r => r.set 5 v).modify i (fun r => r.set 5 (.sl 29 3 ((marksV (k + sumTo mk h i + 4 + h[i].names.length) h[i].vals.length).map V.cs))) = over ((marksC k h).map Cl.ow) (h.map Cl.ow) (i + 1) := fun u v => by
      rw [List.modify_modify_eq, List.modify_modify_eq, List.modify_modify_eq, List.modify_modify_eq, List.modify_modify_eq, List.modify_modify_eq, List.modify_modify_eq]
      exact over_next hm (by simpa using hlt) (by simp [marksC, markC, Cl.ow, hlt])
    repeat' (first
      | (refine WPL.focAt 47 0 900001 1056 [] i 4 ?_ ?_; (focus (simp; done)); refine fun u K hK => ?_; simp -implicitDefEqProofs +contextual [-Int.not_le, -Int.not_lt, -Nat.not_le, -Nat.not_lt, -List.all_eq_true, -List.all_eq_false, -List.any_eq_true, -List.any_eq_false, Cl.ow, hlt, hl, hge, hgo, e1, e2, e3, e4, marksS_len, marksV_len]; (fail_if_success guard_target =ₛ False); (repeat' (first | refine hK _ ?_ | refine And.intro ?_ ?_ | intro _)) <;> clear hK K)
      | (refine WPL.attAt (some 1) 0 900001 1056 [] i 4 ?_ rfl ?_; (focus (simp; done)); refine fun K hK => ?_; simp -implicitDefEqProofs +contextual [-Int.not_le, -Int.not_lt, -Nat.not_le, -Nat.not_lt, -List.all_eq_true, -List.all_eq_false, -List.any_eq_true, -List.any_eq_false, Cl.ow, hlt, hl, hge, hgo, e1, e2, e3, e4, marksS_len, marksV_len]; (fail_if_success guard_target =ₛ False); (repeat' (first | refine hK _ ?_ | refine And.intro ?_ ?_ | intro _)) <;> clear hK K)
      | (refine WPL.focAt 54 0 900002 1056 [] i 5 ?_ ?_; (focus (simp; done)); refine fun u K hK => ?_; simp -implicitDefEqProofs +contextual [-Int.not_le, -Int.not_lt, -Nat.not_le, -Nat.not_lt, -List.all_eq_true, -List.all_eq_false, -List.any_eq_true, -List.any_eq_false, Cl.ow, hlt, hl, hge, hgo, e1, e2, e3, e4, marksS_len, marksV_len]; (fail_if_success guard_target =ₛ False); (repeat' (first | refine hK _ ?_ | refine And.intro ?_ ?_ | intro _)) <;> clear hK K)
      | (refine WPL.attAt (some 1) 0 900002 1056 [] i 5 ?_ rfl ?_; (focus (simp; done)); refine fun K hK => ?_; simp -implicitDefEqProofs +contextual [-Int.not_le, -Int.not_lt, -Nat.not_le, -Nat.not_lt, -List.all_eq_true, -List.all_eq_false, -List.any_eq_true, -List.any_eq_false, Cl.ow, hlt, hl, hge, hgo, e1, e2, e3, e4, marksS_len, marksV_len]; (fail_if_success guard_target =ₛ False); (repeat' (first | refine hK _ ?_ | refine And.intro ?_ ?_ | intro _)) <;> clear hK K)
      | (refine WPL.rnTo tok 47 _ (by simp [isFn]; rfl) fun K hK => ?_; simp -implicitDefEqProofs +contextual [-Int.not_le, -Int.not_lt, -Nat.not_le, -Nat.not_lt, -List.all_eq_true, -List.all_eq_false, -List.any_eq_true, -List.any_eq_false, Cl.ow, hlt, hl, hge, hgo, e1, e2, e3, e4, marksS_len, marksV_len]; (fail_if_success guard_target =ₛ False); (repeat' (first | refine hK _ ?_ | refine And.intro ?_ ?_ | intro _)) <;> clear hK K <;> (try simp only [Nat.reduceAdd, List.drop_succ_cons, List.drop_zero]))
      | (refine WPL.rnTo tok 54 _ (by simp [isFn]; rfl) fun K hK => ?_; simp -implicitDefEqProofs +contextual [-Int.not_le, -Int.not_lt, -Nat.not_le, -Nat.not_lt, -List.all_eq_true, -List.all_eq_false, -List.any_eq_true, -List.any_eq_false, Cl.ow, hlt, hl, hge, hgo, e1, e2, e3, e4, marksS_len, marksV_len]; (fail_if_success guard_target =ₛ False); (repeat' (first | refine hK _ ?_ | refine And.intro ?_ ?_ | intro _)) <;> clear hK K <;> (try simp only [Nat.reduceAdd, List.drop_succ_cons, List.drop_zero]))
      | apply WPc.sq
      | apply WPc.block
      | apply WPc.skip
      | refine WPL.nil ?_
      | (apply WPL.callL (c_laws_markText _ ?g1); (case hd => (simp; done)); (case hl => (first | (simp; done) | (simp; rfl) | (simp -implicitDefEqProofs [Cl.ow, hlt, hl, hge, hgo, e1, e2, e3, e4, marksS_len, marksV_len]; done) | (simp -implicitDefEqProofs [Cl.ow, hlt, hl, hge, hgo, e1, e2, e3, e4, marksS_len, marksV_len]; rfl))); (case hb => rfl); (case hins => (first | (simp -implicitDefEqProofs [Cl.ow, hlt, hl, hge, hgo, e1, e2, e3, e4, marksS_len, marksV_len]; done) | (simp -implicitDefEqProofs [Cl.ow, hlt, hl, hge, hgo, e1, e2, e3, e4, marksS_len, marksV_len]; rfl))); (case he => (first | rfl | (simp -implicitDefEqProofs [Cl.ow, hlt, hl, hge, hgo, e1, e2, e3, e4, marksS_len, marksV_len]; done))); (case g1 => (first | assumption | omega)); (case hz => (first | (exact .inl rfl) | (simp; done) | (exact .inr (by simp -implicitDefEqProofs [Cl.ow, hlt, hl, hge, hgo, e1, e2, e3, e4, marksS_len, marksV_len])))))
      | (apply WPL.callU (c_laws_markStringS _ _ ?g1 ?g2 ?g3); (case hg => (simp; done)); (case hd => (simp; done)); (case hl => (first | (simp; done) | (simp; rfl) | (simp -implicitDefEqProofs [Cl.ow, hlt, hl, hge, hgo, e1, e2, e3, e4, marksS_len, marksV_len]; done) | (simp -implicitDefEqProofs [Cl.ow, hlt, hl, hge, hgo, e1, e2, e3, e4, marksS_len, marksV_len]; rfl))); (case hr => (first | (simp; done) | (simp; rfl) | (simp -implicitDefEqProofs [Cl.ow, hlt, hl, hge, hgo, e1, e2, e3, e4, marksS_len, marksV_len]; done) | (simp -implicitDefEqProofs [Cl.ow, hlt, hl, hge, hgo, e1, e2, e3, e4, marksS_len, marksV_len]; rfl))); (case hins => (first | (simp -implicitDefEqProofs [Cl.ow, hlt, hl, hge, hgo, e1, e2, e3, e4, marksS_len, marksV_len]; done) | (simp -implicitDefEqProofs [Cl.ow, hlt, hl, hge, hgo, e1, e2, e3, e4, marksS_len, marksV_len]; rfl) | rfl)); (case he => (first | rfl | (simp -implicitDefEqProofs [Cl.ow, hlt, hl, hge, hgo, e1, e2, e3, e4, marksS_len, marksV_len]; done))); (case hob => (first | (simp -implicitDefEqProofs [Cl.ow, hlt, hl, hge, hgo, e1, e2, e3, e4, marksS_len, marksV_len]; done) | (simp -implicitDefEqProofs [Cl.ow, hlt, hl, hge, hgo, e1, e2, e3, e4, marksS_len, marksV_len]; rfl) | rfl)); (case heo => (first | rfl | (simp -implicitDefEqProofs [Cl.ow, hlt, hl, hge, hgo, e1, e2, e3, e4, marksS_len, marksV_len]; done))); (case g1 => (first | assumption | omega)); (case g2 => (first | assumption | omega)); (case g3 => (first | assumption | omega)); (case hnw => (first | (simp; done) | (simp; rfl) | (simp -implicitDefEqProofs [Cl.ow, hlt, hl, hge, hgo, e1, e2, e3, e4, marksS_len, marksV_len]; done) | (simp -implicitDefEqProofs [Cl.ow, hlt, hl, hge, hgo, e1, e2, e3, e4, marksS_len, marksV_len]; rfl))); (case hok => (first | (simp; done) | (simp -implicitDefEqProofs [Cl.ow, hlt, hl, hge, hgo, e1, e2, e3, e4, marksS_len, marksV_len]; done))); (case hP => (first | (simp; done) | (simp; rfl) | (simp -implicitDefEqProofs [Cl.ow, hlt, hl, hge, hgo, e1, e2, e3, e4, marksS_len, marksV_len]; done) | (simp -implicitDefEqProofs [Cl.ow, hlt, hl, hge, hgo, e1, e2, e3, e4, marksS_len, marksV_len]; rfl))); (case hS => (first | (simp; done) | (simp; rfl) | (simp -implicitDefEqProofs [Cl.ow, hlt, hl, hge, hgo, e1, e2, e3, e4, marksS_len, marksV_len]; done) | (simp -implicitDefEqProofs [Cl.ow, hlt, hl, hge, hgo, e1, e2, e3, e4, marksS_len, marksV_len]; rfl))); (case hz => (first | (simp; done) | (simp -implicitDefEqProofs [Cl.ow, hlt, hl, hge, hgo, e1, e2, e3, e4, marksS_len, marksV_len]; done))); (case hs => (first | (simp -implicitDefEqProofs [Cl.ow, hlt, hl, hge, hgo, e1, e2, e3, e4, marksS_len, marksV_len]; done) | (simp -implicitDefEqProofs [Cl.ow, hlt, hl, hge, hgo, e1, e2, e3, e4, marksS_len, marksV_len]; rfl) | rfl)))
      | (apply WPL.callU (c_laws_markValueS _ _ ?g1 ?g2 ?g3); (case hg => (simp; done)); (case hd => (simp; done)); (case hl => (first | (simp; done) | (simp; rfl) | (simp -implicitDefEqProofs [Cl.ow, hlt, hl, hge, hgo, e1, e2, e3, e4, marksS_len, marksV_len]; done) | (simp -implicitDefEqProofs [Cl.ow, hlt, hl, hge, hgo, e1, e2, e3, e4, marksS_len, marksV_len]; rfl))); (case hr => (first | (simp; done) | (simp; rfl) | (simp -implicitDefEqProofs [Cl.ow, hlt, hl, hge, hgo, e1, e2, e3, e4, marksS_len, marksV_len]; done) | (simp -implicitDefEqProofs [Cl.ow, hlt, hl, hge, hgo, e1, e2, e3, e4, marksS_len, marksV_len]; rfl))); (case hins => (first | (simp -implicitDefEqProofs [Cl.ow, hlt, hl, hge, hgo, e1, e2, e3, e4, marksS_len, marksV_len]; done) | (simp -implicitDefEqProofs [Cl.ow, hlt, hl, hge, hgo, e1, e2, e3, e4, marksS_len, marksV_len]; rfl) | rfl)); (case he => (first | rfl | (simp -implicitDefEqProofs [Cl.ow, hlt, hl, hge, hgo, e1, e2, e3, e4, marksS_len, marksV_len]; done))); (case hob => (first | (simp -implicitDefEqProofs [Cl.ow, hlt, hl, hge, hgo, e1, e2, e3, e4, marksS_len, marksV_len]; done) | (simp -implicitDefEqProofs [Cl.ow, hlt, hl, hge, hgo, e1, e2, e3, e4, marksS_len, marksV_len]; rfl) | rfl)); (case heo => (first | rfl | (simp -implicitDefEqProofs [Cl.ow, hlt, hl, hge, hgo, e1, e2, e3, e4, marksS_len, marksV_len]; done))); (case g1 => (first | assumption | omega)); (case g2 => (first | assumption | omega)); (case g3 => (first | assumption | omega)); (case hnw => (first | (simp; done) | (simp; rfl) | (simp -implicitDefEqProofs [Cl.ow, hlt, hl, hge, hgo, e1, e2, e3, e4, marksS_len, marksV_len]; done) | (simp -implicitDefEqProofs [Cl.ow, hlt, hl, hge, hgo, e1, e2, e3, e4, marksS_len, marksV_len]; rfl))); (case hok => (first | (simp; done) | (simp -implicitDefEqProofs [Cl.ow, hlt, hl, hge, hgo, e1, e2, e3, e4, marksS_len, marksV_len]; done))); (case hP => (first | (simp; done) | (simp; rfl) | (simp -implicitDefEqProofs [Cl.ow, hlt, hl, hge, hgo, e1, e2, e3, e4, marksS_len, marksV_len]; done) | (simp -implicitDefEqProofs [Cl.ow, hlt, hl, hge, hgo, e1, e2, e3, e4, marksS_len, marksV_len]; rfl))); (case hS => (first | (simp; done) | (simp; rfl) | (simp -implicitDefEqProofs [Cl.ow, hlt, hl, hge, hgo, e1, e2, e3, e4, marksS_len, marksV_len]; done) | (simp -implicitDefEqProofs [Cl.ow, hlt, hl, hge, hgo, e1, e2, e3, e4, marksS_len, marksV_len]; rfl))); (case hz => (first | (simp; done) | (simp -implicitDefEqProofs [Cl.ow, hlt, hl, hge, hgo, e1, e2, e3, e4, marksS_len, marksV_len]; done))); (case hs => (first | (simp -implicitDefEqProofs [Cl.ow, hlt, hl, hge, hgo, e1, e2, e3, e4, marksS_len, marksV_len]; done) | (simp -implicitDefEqProofs [Cl.ow, hlt, hl, hge, hgo, e1, e2, e3, e4, marksS_len, marksV_len]; rfl) | rfl)))
      | (refine WPc.rq tok rfl fun K hK => ?_; simp -implicitDefEqProofs +contextual [-Int.not_le, -Int.not_lt, -Nat.not_le, -Nat.not_lt, -List.all_eq_true, -List.all_eq_false, -List.any_eq_true, -List.any_eq_false, Cl.ow, hlt, hl, hge, hgo, e1, e2, e3, e4, marksS_len, marksV_len]; (fail_if_success guard_target =ₛ False); (repeat' (first | refine hK _ ?_ | refine And.intro ?_ ?_ | intro _)) <;> clear hK K)
      | (refine WPL.rn tok _ (by simp [ahead, isFn]; rfl) fun K hK => ?_; simp -implicitDefEqProofs +contextual [-Int.not_le, -Int.not_lt, -Nat.not_le, -Nat.not_lt, -List.all_eq_true, -List.all_eq_false, -List.any_eq_true, -List.any_eq_false, Cl.ow, hlt, hl, hge, hgo, e1, e2, e3, e4, marksS_len, marksV_len]; (fail_if_success guard_target =ₛ False); (repeat' (first | refine hK _ ?_ | refine And.intro ?_ ?_ | intro _)) <;> clear hK K <;> (try simp only [Nat.reduceAdd, List.drop_succ_cons, List.drop_zero]))
      | (refine WPc.region ?_; simp only [List.toList_toArray])
      | (refine WPc.condT ?_ ?_; (focus (simp; done))))
    refine ⟨i + 1, ⟨hlt, by first | omega | (simp only; omega) | assumption⟩, rfl, rfl, ?_, ?_⟩ <;> simp (disch := omega) [wrap64, hn]
    all_goals (refine fit_int ?_; omega)
  · obtain rfl : i = h.length := by omega
    have ha := over_all hm
    simp only [List.length_map] at ha
    repeat' (first
      | apply WPc.sq
      | (refine WPc.ret (endP.own [(0, 88, 6, (marksC k h).map Cl.ow)] (.inr rfl) rfl rfl (by simp; rfl) ?_ ?_ (by simp)))
      | apply WPc.exit
      | (refine WPc.rq tok rfl fun K hK => ?_; simp -implicitDefEqProofs +contextual [-Int.not_le, -Int.not_lt, -Nat.not_le, -Nat.not_lt, -List.all_eq_true, -List.all_eq_false, -List.any_eq_true, -List.any_eq_false]; (fail_if_success guard_target =ₛ False); (repeat' (first | refine hK _ ?_ | refine And.intro ?_ ?_ | intro _)) <;> clear hK K)
      | (refine WPc.condF ?_ ?_; (focus (simp; done))))
    · simp [ha]
    · refine ⟨?_, rfl⟩
      rw [sumTo_all]; rfl
end Go.Own
set_option linter.unusedVariables false
set_option linter.unusedSimpArgs false
set_option linter.unusedSectionVars false
set_option maxRecDepth 1000000
set_option maxHeartbeats 4000000
namespace Go.Own
attribute [local irreducible] WPc WPL WPS WPS1 WPS2 HAny endP
variable [Laid]
open Go.Lib Go.RowKit
theorem marksS_get (k : Int) (n i : Nat) (hi : i < (marksS k n).length) : (marksS k n)[i] = mt (k + i) := by simp [marksS]
theorem marksV_get (k : Int) (n i : Nat) (hi : i < (marksV k n).length) : (marksV k n)[i] = markV (k + 3 * i) := by simp [marksV]
theorem marksC_get (k : Int) (h : List Cl) (i : Nat) (hi : i < h.length) (hi' : i < (marksC k h).length) : (marksC k h)[i] = markC (k + sumTo mk h i) h[i] := by simp [marksC]
theorem marksC_len (k : Int) (h : List Cl) : (marksC k h).length = h.length := by simp [marksC]
theorem c_laws_heldStringS (n : Nat) (k : Int) (h1 : -1000000000000 ≤ k) (h2 : k ≤ 1000000000000) (h3 : n ≤ 1000000000) : Con PP 63 [.fz ((marksS k n).map sC), .sc (.int .i64 k)] [] [] (fun r o => r = .sc (.int .i64 (k + n))) := by
  have hml := marksS_len k n
  refine Con.of tok (nt := 22) Go.Proofs.Tryz.func63 (by kernel_rfl) rfl rfl rfl (Nat.le_of_ble_eq_true rfl) fun G => ?_
  simp only [entSt, tmOf, List.append_nil, List.cons_append, List.nil_append]
  repeat' (first
    | apply WPc.sq
    | apply WPc.block
    | (refine WPc.rq tok rfl fun K hK => ?_; simp -implicitDefEqProofs +contextual [-Int.not_le, -Int.not_lt, -Nat.not_le, -Nat.not_lt, -List.all_eq_true, -List.all_eq_false, -List.any_eq_true, -List.any_eq_false]; (fail_if_success guard_target =ₛ False); (repeat' (first | refine hK _ ?_ | refine And.intro ?_ ?_ | intro _)) <;> clear hK K))
  refine WPc.loopK (σ := Nat) (fun i => i ≤ n) (fun i => n - i) (fun i => [(5, .sc (.int .i64 i)), (1, .sc (.int .i64 (k + i)))])  [0] 0 (by simp) (by simp) (by simp) ?_
  rintro i hi s hs
  simp at hs
  subst hs
  by_cases hlt : i < n
  · have hg := marksS_get k n i
    repeat' (first
      | apply WPc.sq
      | apply WPc.block
      | apply WPc.skip
      | (apply WPS.callL (hc := (c_laws_markText _ ?g1)); (case ho => exact rfl); (case hg => (simp; done)); (case hd => (simp; done)); (case hl => (first | (simp; done) | (simp; rfl) | (simp -implicitDefEqProofs [sC, hlt, hml, hg]; done) | (simp -implicitDefEqProofs [sC, hlt, hml, hg]; rfl))); (case hb => rfl); (case hins => (first | (simp -implicitDefEqProofs [sC, hlt, hml, hg]; done) | (simp -implicitDefEqProofs [sC, hlt, hml, hg]; rfl) | rfl)); (case he => (first | rfl | (simp -implicitDefEqProofs [sC, hlt, hml, hg]; done))); (case g1 => (first | assumption | omega)); (case hz => (first | (exact .inl rfl) | (simp; done) | (exact .inr (by simp -implicitDefEqProofs [sC, hlt, hml, hg])))))
      | (refine WPc.rq tok rfl fun K hK => ?_; simp -implicitDefEqProofs +contextual [-Int.not_le, -Int.not_lt, -Nat.not_le, -Nat.not_lt, -List.all_eq_true, -List.all_eq_false, -List.any_eq_true, -List.any_eq_false, sC, hlt, hml, hg]; (fail_if_success guard_target =ₛ False); (repeat' (first | refine hK _ ?_ | refine And.intro ?_ ?_ | intro _)) <;> clear hK K)
      | (refine WPc.sched (id := 4) tok [] [(0, []), (1, []), (2, []), (3, []), (4, []), (5, []), (6, [])] (by kernel_rfl) ?_)
      | (refine WPS.nil ?_)
      | (refine WPS.rn tok _ (by simp [aheadS]; rfl) fun K hK => ?_; simp -implicitDefEqProofs +contextual [-Int.not_le, -Int.not_lt, -Nat.not_le, -Nat.not_lt, -List.all_eq_true, -List.all_eq_false, -List.any_eq_true, -List.any_eq_false, sC, hlt, hml, hg]; (fail_if_success guard_target =ₛ False); (repeat' (first | refine hK _ ?_ | refine And.intro ?_ ?_ | intro _)) <;> clear hK K <;> (try simp only [Nat.reduceAdd, List.drop_succ_cons, List.drop_zero]))
      | (refine WPc.condT ?_ ?_; (focus (simp; done)))
      | (refine WPc.condF ?_ ?_; (focus (simp; done))))
    all_goals
      refine ⟨i + 1, ⟨hlt, by first | omega | (simp only; omega) | assumption⟩, rfl, rfl, ?_, ?_⟩ <;> simp (disch := omega) [wrap64]
    all_goals (refine fit_int ?_; omega)
  · obtain rfl : i = n := by omega
    repeat' (first
      | apply WPc.sq
      | (refine WPc.ret (endP.val (.inr rfl) rfl rfl (by simp; rfl) ?_))
      | apply WPc.exit
      | (refine WPc.rq tok rfl fun K hK => ?_; simp -implicitDefEqProofs +contextual [-Int.not_le, -Int.not_lt, -Nat.not_le, -Nat.not_lt, -List.all_eq_true, -List.all_eq_false, -List.any_eq_true, -List.any_eq_false, hml]; (fail_if_success guard_target =ₛ False); (repeat' (first | refine hK _ ?_ | refine And.intro ?_ ?_ | intro _)) <;> clear hK K)
      | (refine WPc.condF ?_ ?_; (focus (simp; done))))
    all_goals rfl
theorem c_laws_heldValueS (n : Nat) (k : Int) (h1 : -1000000000000 ≤ k) (h2 : k ≤ 1000000000000) (h3 : n ≤ 1000000000) : Con PP 64 [.fz ((marksV k n).map V.cs), .sc (.int .i64 k)] [] [] (fun r o => r = .sc (.int .i64 (k + 3 * n))) := by
  have hml := marksV_len k n
  refine Con.of tok (nt := 41) Go.Proofs.Tryz.func64 (by kernel_rfl) rfl rfl rfl (Nat.le_of_ble_eq_true rfl) fun G => ?_
  simp only [entSt, tmOf, List.append_nil, List.cons_append, List.nil_append]
  repeat' (first
    | apply WPc.sq
    | apply WPc.block
    | (refine WPc.rq tok rfl fun K hK => ?_; simp -implicitDefEqProofs +contextual [-Int.not_le, -Int.not_lt, -Nat.not_le, -Nat.not_lt, -List.all_eq_true, -List.all_eq_false, -List.any_eq_true, -List.any_eq_false]; (fail_if_success guard_target =ₛ False); (repeat' (first | refine hK _ ?_ | refine And.intro ?_ ?_ | intro _)) <;> clear hK K))
  refine WPc.loopK (σ := Nat) (fun i => i ≤ n) (fun i => n - i) (fun i => [(5, .sc (.int .i64 i)), (1, .sc (.int .i64 (k + 3 * (i : Nat))))])  [0] 0 (by simp) (by simp) (by simp) ?_
  rintro i hi s hs
  simp at hs
  subst hs
  by_cases hlt : i < n
  · have hg := marksV_get k n i
    have e1 : IntKind.i64.wrap (k + 3 * (i : Nat) + 1) = k + 3 * (i : Nat) + 1 := wrap64 (by omega) (by omega)
    have e2 : IntKind.i64.wrap (k + 3 * (i : Nat) + 1 + 1) = k + 3 * (i : Nat) + 2 := by rw [wrap64 (by omega) (by omega)]; omega
    repeat' (first
      | apply WPc.sq
      | apply WPc.block
      | apply WPc.skip
      | (apply WPS.callL (hc := (c_laws_markText _ ?g1)); (case ho => exact rfl); (case hg => (simp; done)); (case hd => (simp; done)); (case hl => (first | (simp; done) | (simp; rfl) | (simp -implicitDefEqProofs [V.cs, markV, hlt, hml, hg, e1, e2]; done) | (simp -implicitDefEqProofs [V.cs, markV, hlt, hml, hg, e1, e2]; rfl))); (case hb => rfl); (case hins => (first | (simp -implicitDefEqProofs [V.cs, markV, hlt, hml, hg, e1, e2]; done) | (simp -implicitDefEqProofs [V.cs, markV, hlt, hml, hg, e1, e2]; rfl) | rfl)); (case he => (first | rfl | (simp -implicitDefEqProofs [V.cs, markV, hlt, hml, hg, e1, e2]; done))); (case g1 => (first | assumption | omega)); (case hz => (first | (exact .inl rfl) | (simp; done) | (exact .inr (by simp -implicitDefEqProofs [V.cs, markV, hlt, hml, hg, e1, e2])))))
      | (refine WPc.rq tok rfl fun K hK => ?_; simp -implicitDefEqProofs +contextual [-Int.not_le, -Int.not_lt, -Nat.not_le, -Nat.not_lt, -List.all_eq_true, -List.all_eq_false, -List.any_eq_true, -List.any_eq_false, V.cs, markV, hlt, hml, hg, e1, e2]; (fail_if_success guard_target =ₛ False); (repeat' (first | refine hK _ ?_ | refine And.intro ?_ ?_ | intro _)) <;> clear hK K)
      | (refine WPc.sched (id := 10) tok [] [(0, []), (1, []), (2, []), (3, []), (4, []), (5, []), (6, []), (7, [])] (by kernel_rfl) ?_)
      | (refine WPS.nil ?_)
      | (refine WPS.rn tok _ (by simp [aheadS]; rfl) fun K hK => ?_; simp -implicitDefEqProofs +contextual [-Int.not_le, -Int.not_lt, -Nat.not_le, -Nat.not_lt, -List.all_eq_true, -List.all_eq_false, -List.any_eq_true, -List.any_eq_false, V.cs, markV, hlt, hml, hg, e1, e2]; (fail_if_success guard_target =ₛ False); (repeat' (first | refine hK _ ?_ | refine And.intro ?_ ?_ | intro _)) <;> clear hK K <;> (try simp only [Nat.reduceAdd, List.drop_succ_cons, List.drop_zero]))
      | (refine WPc.condT ?_ ?_; (focus (simp; done)))
      | (refine WPc.condF ?_ ?_; (focus (simp; done))))
    all_goals
      refine ⟨i + 1, ⟨hlt, by first | omega | (simp only; omega) | assumption⟩, rfl, rfl, ?_, ?_⟩ <;> simp (disch := omega) [wrap64]
    all_goals (refine fit_int ?_; omega)
  · obtain rfl : i = n := by omega
    repeat' (first
      | apply WPc.sq
      | (refine WPc.ret (endP.val (.inr rfl) rfl rfl (by simp; rfl) ?_))
      | apply WPc.exit
      | (refine WPc.rq tok rfl fun K hK => ?_; simp -implicitDefEqProofs +contextual [-Int.not_le, -Int.not_lt, -Nat.not_le, -Nat.not_lt, -List.all_eq_true, -List.all_eq_false, -List.any_eq_true, -List.any_eq_false, hml]; (fail_if_success guard_target =ₛ False); (repeat' (first | refine hK _ ?_ | refine And.intro ?_ ?_ | intro _)) <;> clear hK K)
      | (refine WPc.condF ?_ ?_; (focus (simp; done))))
    all_goals rfl
theorem c_laws_heldCellS (h : List Cl) (k : Int) (h1 : 0 ≤ k) (h2 : k ≤ 1000000000) (h3 : h.length ≤ 1000000000) (h4 : sumC h ≤ 1000000000) : Con PP 23 [.fz ((marksC k h).map Cl.cs), .sc (.int .i64 k)] [] [] (fun r o => r = .sc (.int .i64 (k + sumC h))) := by
  have hml := marksC_len k h
  refine Con.of tok (nt := 68) Go.Proofs.Tryz.func23 (by kernel_rfl) rfl rfl rfl (Nat.le_of_ble_eq_true rfl) fun G => ?_
  simp only [entSt, tmOf, List.append_nil, List.cons_append, List.nil_append]
  repeat' (first
    | apply WPc.sq
    | apply WPc.block
    | (refine WPc.rq tok rfl fun K hK => ?_; simp -implicitDefEqProofs +contextual [-Int.not_le, -Int.not_lt, -Nat.not_le, -Nat.not_lt, -List.all_eq_true, -List.all_eq_false, -List.any_eq_true, -List.any_eq_false]; (fail_if_success guard_target =ₛ False); (repeat' (first | refine hK _ ?_ | refine And.intro ?_ ?_ | intro _)) <;> clear hK K))
  refine WPc.loopK (σ := Nat) (fun i => i ≤ h.length) (fun i => h.length - i) (fun i => [(5, .sc (.int .i64 i)), (1, .sc (.int .i64 (k + sumTo mk h i)))])  [0] 0 (by simp [sumTo_zero]) (by simp [sumTo_zero]) (by simp) ?_
  rintro i hi s hs
  simp at hs
  subst hs
  by_cases hlt : i < h.length
  · have hg := marksC_get k h i hlt
    have hs := sumTo_next (f := mk) hlt
    have hsl := sumTo_le mk h (i + 1)
    have hmk : mk h[i] = 4 + h[i].names.length + 3 * h[i].vals.length := rfl
    unfold sumC at h4
    have e1 : IntKind.i64.wrap (k + sumTo mk h i + 1) = k + sumTo mk h i + 1 := wrap64 (by omega) (by omega)
    have e2 : IntKind.i64.wrap (k + sumTo mk h i + 1 + 1) = k + sumTo mk h i + 2 := by rw [wrap64 (by omega) (by omega)]; omega
    have e3 : IntKind.i64.wrap (k + sumTo mk h i + 2 + 1) = k + sumTo mk h i + 3 := by rw [wrap64 (by omega) (by omega)]; omega
    have e4 : IntKind.i64.wrap (k + sumTo mk h i + 3 + 1) = k + sumTo mk h i + 4 := by rw [wrap64 (by omega) (by omega)]; omega
    repeat' (first
      | apply WPc.sq
      | apply WPc.block
      | apply WPc.skip
      | refine WPL.nil ?_
      | (apply WPL.callL (c_laws_heldStringS _ _ ?g1 ?g2 ?g3); (case hd => (simp; done)); (case hl => (first | (simp; done) | (simp; rfl) | (simp -implicitDefEqProofs [Cl.cs, markC, hlt, hml, hg, e1, e2, e3, e4]; done) | (simp -implicitDefEqProofs [Cl.cs, markC, hlt, hml, hg, e1, e2, e3, e4]; rfl))); (case hb => rfl); (case hins => (first | (simp -implicitDefEqProofs [Cl.cs, markC, hlt, hml, hg, e1, e2, e3, e4]; done) | (simp -implicitDefEqProofs [Cl.cs, markC, hlt, hml, hg, e1, e2, e3, e4]; rfl))); (case he => (first | rfl | (simp -implicitDefEqProofs [Cl.cs, markC, hlt, hml, hg, e1, e2, e3, e4]; done))); (case g1 => (first | assumption | omega)); (case g2 => (first | assumption | omega)); (case g3 => (first | assumption | omega)); (case hz => (first | (exact .inl rfl) | (simp; done) | (exact .inr (by simp -implicitDefEqProofs [Cl.cs, markC, hlt, hml, hg, e1, e2, e3, e4])))))
      | (apply WPL.callL (c_laws_heldValueS _ _ ?g1 ?g2 ?g3); (case hd => (simp; done)); (case hl => (first | (simp; done) | (simp; rfl) | (simp -implicitDefEqProofs [Cl.cs, markC, hlt, hml, hg, e1, e2, e3, e4]; done) | (simp -implicitDefEqProofs [Cl.cs, markC, hlt, hml, hg, e1, e2, e3, e4]; rfl))); (case hb => rfl); (case hins => (first | (simp -implicitDefEqProofs [Cl.cs, markC, hlt, hml, hg, e1, e2, e3, e4]; done) | (simp -implicitDefEqProofs [Cl.cs, markC, hlt, hml, hg, e1, e2, e3, e4]; rfl))); (case he => (first | rfl | (simp -implicitDefEqProofs [Cl.cs, markC, hlt, hml, hg, e1, e2, e3, e4]; done))); (case g1 => (first | assumption | omega)); (case g2 => (first | assumption | omega)); (case g3 => (first | assumption | omega)); (case hz => (first | (exact .inl rfl) | (simp; done) | (exact .inr (by simp -implicitDefEqProofs [Cl.cs, markC, hlt, hml, hg, e1, e2, e3, e4])))))
      | (apply WPS.callL (hc := (c_laws_markText _ ?g1)); (case ho => exact rfl); (case hg => (simp; done)); (case hd => (simp; done)); (case hl => (first | (simp; done) | (simp; rfl) | (simp -implicitDefEqProofs [Cl.cs, markC, hlt, hml, hg, e1, e2, e3, e4]; done) | (simp -implicitDefEqProofs [Cl.cs, markC, hlt, hml, hg, e1, e2, e3, e4]; rfl))); (case hb => rfl); (case hins => (first | (simp -implicitDefEqProofs [Cl.cs, markC, hlt, hml, hg, e1, e2, e3, e4]; done) | (simp -implicitDefEqProofs [Cl.cs, markC, hlt, hml, hg, e1, e2, e3, e4]; rfl) | rfl)); (case he => (first | rfl | (simp -implicitDefEqProofs [Cl.cs, markC, hlt, hml, hg, e1, e2, e3, e4]; done))); (case g1 => (first | assumption | omega)); (case hz => (first | (exact .inl rfl) | (simp; done) | (exact .inr (by simp -implicitDefEqProofs [Cl.cs, markC, hlt, hml, hg, e1, e2, e3, e4])))))
      | (refine WPc.rq tok rfl fun K hK => ?_; simp -implicitDefEqProofs +contextual [-Int.not_le, -Int.not_lt, -Nat.not_le, -Nat.not_lt, -List.all_eq_true, -List.all_eq_false, -List.any_eq_true, -List.any_eq_false, Cl.cs, markC, hlt, hml, hg, e1, e2, e3, e4]; (fail_if_success guard_target =ₛ False); (repeat' (first | refine hK _ ?_ | refine And.intro ?_ ?_ | intro _)) <;> clear hK K)
      | (refine WPL.rn tok _ (by simp [ahead, isFn]; rfl) fun K hK => ?_; simp -implicitDefEqProofs +contextual [-Int.not_le, -Int.not_lt, -Nat.not_le, -Nat.not_lt, -List.all_eq_true, -List.all_eq_false, -List.any_eq_true, -List.any_eq_false, Cl.cs, markC, hlt, hml, hg, e1, e2, e3, e4]; (fail_if_success guard_target =ₛ False); (repeat' (first | refine hK _ ?_ | refine And.intro ?_ ?_ | intro _)) <;> clear hK K <;> (try simp only [Nat.reduceAdd, List.drop_succ_cons, List.drop_zero]))
      | (refine WPc.sched (id := 7) tok [] [(0, []), (1, []), (2, []), (3, []), (4, []), (5, []), (6, []), (7, [])] (by kernel_rfl) ?_)
      | (refine WPS.nil ?_)
      | (refine WPS.rn tok _ (by simp [aheadS]; rfl) fun K hK => ?_; simp -implicitDefEqProofs +contextual [-Int.not_le, -Int.not_lt, -Nat.not_le, -Nat.not_lt, -List.all_eq_true, -List.all_eq_false, -List.any_eq_true, -List.any_eq_false, Cl.cs, markC, hlt, hml, hg, e1, e2, e3, e4]; (fail_if_success guard_target =ₛ False); (repeat' (first | refine hK _ ?_ | refine And.intro ?_ ?_ | intro _)) <;> clear hK K <;> (try simp only [Nat.reduceAdd, List.drop_succ_cons, List.drop_zero]))
      | (refine WPc.region ?_; simp only [List.toList_toArray])
      | (refine WPc.condT ?_ ?_; (focus (simp; done)))
      | (refine WPc.condF ?_ ?_; (focus (simp; done)))
      | (refine WPc.cond (by simp [-Bool.not_eq_eq_eq_not]; rfl) (fun hq => ?_) (fun hq => ?_) <;> simp only [hq] <;> (try (exfalso; (simp only [decide_eq_true_eq, decide_eq_false_iff_not] at hq); omega))))
    all_goals
      refine ⟨i + 1, ⟨hlt, by first | omega | (simp only; omega) | assumption⟩, rfl, rfl, ?_, ?_⟩ <;> simp (disch := omega) [wrap64]
    all_goals (refine fit_int ?_; omega)
  · obtain rfl : i = h.length := by omega
    repeat' (first
      | apply WPc.sq
      | (refine WPc.ret (endP.val (.inr rfl) rfl rfl (by simp; rfl) ?_))
      | apply WPc.exit
      | (refine WPc.rq tok rfl fun K hK => ?_; simp -implicitDefEqProofs +contextual [-Int.not_le, -Int.not_lt, -Nat.not_le, -Nat.not_lt, -List.all_eq_true, -List.all_eq_false, -List.any_eq_true, -List.any_eq_false, hml]; (fail_if_success guard_target =ₛ False); (repeat' (first | refine hK _ ?_ | refine And.intro ?_ ?_ | intro _)) <;> clear hK K)
      | (refine WPc.condF ?_ ?_; (focus (simp; done))))
    rw [sumTo_all]; rfl
end Go.Own
set_option linter.unusedVariables false
set_option linter.unusedSimpArgs false
set_option linter.unusedSectionVars false
set_option maxRecDepth 1000000
set_option maxHeartbeats 8000000
namespace Go.Own
attribute [local irreducible] WPc WPL WPS WPS1 WPS2 HAny endP
variable [Laid]
open Go.Lib Go.RowKit
theorem mem_sum {α : Type} {f : α → Nat} {l : List α} {x : α} (h : x ∈ l) : f x ≤ (l.map f).sum := by
  induction l with
  | nil => cases h
  | cons y l ih =>
    simp only [List.map_cons, List.sum_cons]
    rcases List.mem_cons.1 h with rfl | h
    · omega
    · have := ih h; omega
theorem sum_mk (h : List Cl) : sumC h ≤ 4 * costH h := by
  unfold sumC costH
  induction h with
  | nil => simp
  | cons c h ih =>
    simp only [List.map_cons, List.sum_cons, List.length_cons] at ih ⊢
    have : mk c ≤ 4 + 3 * costC c := by unfold mk costC costS costV; omega
    omega
theorem small {h : List Cl} (hc : costH h ≤ 1048576) : (∀ c, c ∈ h → c.sm) ∧ (∀ c, c ∈ h → c.rm) ∧ h.length ≤ 1048576 := by
  have hl : h.length ≤ costH h := by unfold costH; omega
  have hm : ∀ c, c ∈ h → costC c ≤ 1048576 := fun c hcm => by
    have := mem_sum (f := costC) hcm
    unfold costH at hc
    omega
  refine ⟨fun c hcm => ?_, fun c hcm => ?_, by omega⟩
  · have := hm c hcm
    unfold costC costS costV at this
    refine ⟨by omega, fun x hx => ?_, fun v hv => ?_⟩
    · have := mem_sum (f := ByteArray.size) hx; omega
    · have := mem_sum (f := fun v : V => v.s.size) hv
      unfold V.sm
      omega
  · have := hm c hcm
    unfold costC costS costV at this
    exact ⟨by omega, by omega⟩
theorem smallV {a : List V} (hc : costV a ≤ 1048576) : (∀ v, v ∈ a → v.sm) ∧ a.length ≤ 1048576 := by
  unfold costV at hc
  refine ⟨fun v hv => ?_, by omega⟩
  have := mem_sum (f := fun v : V => v.s.size) hv
  unfold V.sm
  omega
theorem pH_len (h : List Cl) (s : ByteArray) (a : List V) : (pH h s a).length ≤ h.length + 1 := by
  unfold pH primH allocH
  split
  · split
    · split
      · simp
      · omega
    · omega
  · omega
theorem pH_sum (h : List Cl) (s : ByteArray) (a : List V) : sumC (pH h s a) ≤ sumC h + 4 + 3 * a.length := by
  unfold pH primH allocH
  split
  · split
    · split
      · simp [sumC, consC, mk]; omega
      · omega
    · omega
  · omega
theorem c_laws_FnExactPrim [F : Facts.Of] (h : List Cl) (s : ByteArray) (a : List V) (h1 : s.size ≤ 9223372036854775807) (h2 : ∀ c, c ∈ h → c.tx) (h3 : ∀ v, v ∈ a → v.s.size ≤ 9223372036854775807) : Con PP 4 [.fz (h.map Cl.cs), .sc (.string s), .fz (a.map V.cs)] [] [] (fun r o => r = .sc (.bool true)) := by
  by_cases g1 : s.size ≤ 1048576
  · by_cases g2 : (costH h : Int) ≤ 1048576
    · have e2 : szR 1048576 (costH h) = 1048576 - costH h := szR_ok g2
      by_cases g3 : (costV a : Int) ≤ 1048576 - costH h
      · have e3 : szR (1048576 - costH h) (costV a) = 1048576 - costH h - costV a := szR_ok g3
        obtain ⟨s1, s2, s3⟩ := small (h := h) (by omega)
        obtain ⟨s4, s5⟩ := smallV (a := a) (by omega)
        have s6 := sum_mk h
        have s7 := pH_len h s a
        have s8 := pH_sum h s a
        have hdz : dzLL (List.take (pH h s a).length ((marksC 1 (pH h s a)).map Cl.ow)) = (marksC 1 (pH h s a)).map Cl.cs := by
          rw [List.take_of_length_le (by simp [marksC]), dz_ow]
        refine Con.of tok (nt := 151) Go.Proofs.Tryz.func4 (by kernel_rfl) rfl rfl rfl (Nat.le_of_ble_eq_true rfl) fun G => ?_
        simp only [entSt, tmOf, List.append_nil, List.cons_append, List.nil_append]
        repeat' (first
          | apply WPc.sq
          | (refine WPc.ret (endP.val (.inr rfl) rfl rfl (by simp; rfl) ?_))
          | apply WPc.skip
          | refine WPL.nil ?_
          | (apply WPL.callL (c_laws_szCellS _ _ ?g1 ?g2 ?g3); (case hd => (simp; done)); (case hl => (first | (simp; done) | (simp; rfl) | (simp -implicitDefEqProofs [e2, e3, PrimR, heapR, V.av, marksC_len, marksV_len, marksS_len, hdz]; done) | (simp -implicitDefEqProofs [e2, e3, PrimR, heapR, V.av, marksC_len, marksV_len, marksS_len, hdz]; rfl))); (case hb => rfl); (case hins => (first | (simp -implicitDefEqProofs [e2, e3, PrimR, heapR, V.av, marksC_len, marksV_len, marksS_len, hdz]; done) | (simp -implicitDefEqProofs [e2, e3, PrimR, heapR, V.av, marksC_len, marksV_len, marksS_len, hdz]; rfl))); (case he => (first | rfl | (simp -implicitDefEqProofs [e2, e3, PrimR, heapR, V.av, marksC_len, marksV_len, marksS_len, hdz]; done))); (case g1 => (first | assumption | omega)); (case g2 => (first | assumption | omega)); (case g3 => (first | assumption | omega)); (case hz => (first | (exact .inl rfl) | (simp; done) | (exact .inr (by simp -implicitDefEqProofs [e2, e3, PrimR, heapR, V.av, marksC_len, marksV_len, marksS_len, hdz])))))
          | (apply WPL.callL (c_laws_szValueS _ _ ?g1 ?g2 ?g3); (case hd => (simp; done)); (case hl => (first | (simp; done) | (simp; rfl) | (simp -implicitDefEqProofs [e2, e3, PrimR, heapR, V.av, marksC_len, marksV_len, marksS_len, hdz]; done) | (simp -implicitDefEqProofs [e2, e3, PrimR, heapR, V.av, marksC_len, marksV_len, marksS_len, hdz]; rfl))); (case hb => rfl); (case hins => (first | (simp -implicitDefEqProofs [e2, e3, PrimR, heapR, V.av, marksC_len, marksV_len, marksS_len, hdz]; done) | (simp -implicitDefEqProofs [e2, e3, PrimR, heapR, V.av, marksC_len, marksV_len, marksS_len, hdz]; rfl))); (case he => (first | rfl | (simp -implicitDefEqProofs [e2, e3, PrimR, heapR, V.av, marksC_len, marksV_len, marksS_len, hdz]; done))); (case g1 => (first | assumption | omega)); (case g2 => (first | assumption | omega)); (case g3 => (first | assumption | omega)); (case hz => (first | (exact .inl rfl) | (simp; done) | (exact .inr (by simp -implicitDefEqProofs [e2, e3, PrimR, heapR, V.av, marksC_len, marksV_len, marksS_len, hdz])))))
          | (apply WPL.callU (c_laws_toCellS _ ?g1 ?g2); (case hg => (simp; done)); (case hd => (simp; done)); (case hl => (first | (simp; done) | (simp; rfl) | (simp -implicitDefEqProofs [e2, e3, PrimR, heapR, V.av, marksC_len, marksV_len, marksS_len, hdz]; done) | (simp -implicitDefEqProofs [e2, e3, PrimR, heapR, V.av, marksC_len, marksV_len, marksS_len, hdz]; rfl))); (case hr => (first | (simp; done) | (simp; rfl) | (simp -implicitDefEqProofs [e2, e3, PrimR, heapR, V.av, marksC_len, marksV_len, marksS_len, hdz]; done) | (simp -implicitDefEqProofs [e2, e3, PrimR, heapR, V.av, marksC_len, marksV_len, marksS_len, hdz]; rfl))); (case hins => (first | (simp -implicitDefEqProofs [e2, e3, PrimR, heapR, V.av, marksC_len, marksV_len, marksS_len, hdz]; done) | (simp -implicitDefEqProofs [e2, e3, PrimR, heapR, V.av, marksC_len, marksV_len, marksS_len, hdz]; rfl) | rfl)); (case he => (first | rfl | (simp -implicitDefEqProofs [e2, e3, PrimR, heapR, V.av, marksC_len, marksV_len, marksS_len, hdz]; done))); (case hob => (first | (simp -implicitDefEqProofs [e2, e3, PrimR, heapR, V.av, marksC_len, marksV_len, marksS_len, hdz]; done) | (simp -implicitDefEqProofs [e2, e3, PrimR, heapR, V.av, marksC_len, marksV_len, marksS_len, hdz]; rfl) | rfl)); (case heo => (first | rfl | (simp -implicitDefEqProofs [e2, e3, PrimR, heapR, V.av, marksC_len, marksV_len, marksS_len, hdz]; done))); (case g1 => (first | assumption | omega)); (case g2 => (first | assumption | omega)); (case hnw => (first | (simp; done) | (simp; rfl) | (simp -implicitDefEqProofs [e2, e3, PrimR, heapR, V.av, marksC_len, marksV_len, marksS_len, hdz]; done) | (simp -implicitDefEqProofs [e2, e3, PrimR, heapR, V.av, marksC_len, marksV_len, marksS_len, hdz]; rfl))); (case hok => (first | (simp; done) | (simp -implicitDefEqProofs [e2, e3, PrimR, heapR, V.av, marksC_len, marksV_len, marksS_len, hdz]; done))); (case hP => (first | (simp; done) | (simp; rfl) | (simp -implicitDefEqProofs [e2, e3, PrimR, heapR, V.av, marksC_len, marksV_len, marksS_len, hdz]; done) | (simp -implicitDefEqProofs [e2, e3, PrimR, heapR, V.av, marksC_len, marksV_len, marksS_len, hdz]; rfl))); (case hS => (first | (simp; done) | (simp; rfl) | (simp -implicitDefEqProofs [e2, e3, PrimR, heapR, V.av, marksC_len, marksV_len, marksS_len, hdz]; done) | (simp -implicitDefEqProofs [e2, e3, PrimR, heapR, V.av, marksC_len, marksV_len, marksS_len, hdz]; rfl))); (case hz => (first | (simp; done) | (simp -implicitDefEqProofs [e2, e3, PrimR, heapR, V.av, marksC_len, marksV_len, marksS_len, hdz]; done))); (case hs => (first | (simp -implicitDefEqProofs [e2, e3, PrimR, heapR, V.av, marksC_len, marksV_len, marksS_len, hdz]; done) | (simp -implicitDefEqProofs [e2, e3, PrimR, heapR, V.av, marksC_len, marksV_len, marksS_len, hdz]; rfl) | rfl)))
          | (apply WPL.callU (c_laws_toValueS _ ?g1); (case hg => (simp; done)); (case hd => (simp; done)); (case hl => (first | (simp; done) | (simp; rfl) | (simp -implicitDefEqProofs [e2, e3, PrimR, heapR, V.av, marksC_len, marksV_len, marksS_len, hdz]; done) | (simp -implicitDefEqProofs [e2, e3, PrimR, heapR, V.av, marksC_len, marksV_len, marksS_len, hdz]; rfl))); (case hr => (first | (simp; done) | (simp; rfl) | (simp -implicitDefEqProofs [e2, e3, PrimR, heapR, V.av, marksC_len, marksV_len, marksS_len, hdz]; done) | (simp -implicitDefEqProofs [e2, e3, PrimR, heapR, V.av, marksC_len, marksV_len, marksS_len, hdz]; rfl))); (case hins => (first | (simp -implicitDefEqProofs [e2, e3, PrimR, heapR, V.av, marksC_len, marksV_len, marksS_len, hdz]; done) | (simp -implicitDefEqProofs [e2, e3, PrimR, heapR, V.av, marksC_len, marksV_len, marksS_len, hdz]; rfl) | rfl)); (case he => (first | rfl | (simp -implicitDefEqProofs [e2, e3, PrimR, heapR, V.av, marksC_len, marksV_len, marksS_len, hdz]; done))); (case hob => (first | (simp -implicitDefEqProofs [e2, e3, PrimR, heapR, V.av, marksC_len, marksV_len, marksS_len, hdz]; done) | (simp -implicitDefEqProofs [e2, e3, PrimR, heapR, V.av, marksC_len, marksV_len, marksS_len, hdz]; rfl) | rfl)); (case heo => (first | rfl | (simp -implicitDefEqProofs [e2, e3, PrimR, heapR, V.av, marksC_len, marksV_len, marksS_len, hdz]; done))); (case g1 => (first | assumption | omega)); (case hnw => (first | (simp; done) | (simp; rfl) | (simp -implicitDefEqProofs [e2, e3, PrimR, heapR, V.av, marksC_len, marksV_len, marksS_len, hdz]; done) | (simp -implicitDefEqProofs [e2, e3, PrimR, heapR, V.av, marksC_len, marksV_len, marksS_len, hdz]; rfl))); (case hok => (first | (simp; done) | (simp -implicitDefEqProofs [e2, e3, PrimR, heapR, V.av, marksC_len, marksV_len, marksS_len, hdz]; done))); (case hP => (first | (simp; done) | (simp; rfl) | (simp -implicitDefEqProofs [e2, e3, PrimR, heapR, V.av, marksC_len, marksV_len, marksS_len, hdz]; done) | (simp -implicitDefEqProofs [e2, e3, PrimR, heapR, V.av, marksC_len, marksV_len, marksS_len, hdz]; rfl))); (case hS => (first | (simp; done) | (simp; rfl) | (simp -implicitDefEqProofs [e2, e3, PrimR, heapR, V.av, marksC_len, marksV_len, marksS_len, hdz]; done) | (simp -implicitDefEqProofs [e2, e3, PrimR, heapR, V.av, marksC_len, marksV_len, marksS_len, hdz]; rfl))); (case hz => (first | (simp; done) | (simp -implicitDefEqProofs [e2, e3, PrimR, heapR, V.av, marksC_len, marksV_len, marksS_len, hdz]; done))); (case hs => (first | (simp -implicitDefEqProofs [e2, e3, PrimR, heapR, V.av, marksC_len, marksV_len, marksS_len, hdz]; done) | (simp -implicitDefEqProofs [e2, e3, PrimR, heapR, V.av, marksC_len, marksV_len, marksS_len, hdz]; rfl) | rfl)))
          | (apply WPL.callU (c_spec_Prim _ _ _ ?g1 ?g2 ?g3 ?g4); (case hg => (simp; done)); (case hd => (simp; done)); (case hl => (first | (simp; done) | (simp; rfl) | (simp -implicitDefEqProofs [e2, e3, PrimR, heapR, V.av, marksC_len, marksV_len, marksS_len, hdz]; done) | (simp -implicitDefEqProofs [e2, e3, PrimR, heapR, V.av, marksC_len, marksV_len, marksS_len, hdz]; rfl))); (case hr => (first | (simp; done) | (simp; rfl) | (simp -implicitDefEqProofs [e2, e3, PrimR, heapR, V.av, marksC_len, marksV_len, marksS_len, hdz]; done) | (simp -implicitDefEqProofs [e2, e3, PrimR, heapR, V.av, marksC_len, marksV_len, marksS_len, hdz]; rfl))); (case hins => (first | (simp -implicitDefEqProofs [e2, e3, PrimR, heapR, V.av, marksC_len, marksV_len, marksS_len, hdz]; done) | (simp -implicitDefEqProofs [e2, e3, PrimR, heapR, V.av, marksC_len, marksV_len, marksS_len, hdz]; rfl) | rfl)); (case he => (first | rfl | (simp -implicitDefEqProofs [e2, e3, PrimR, heapR, V.av, marksC_len, marksV_len, marksS_len, hdz]; done))); (case hob => (first | (simp -implicitDefEqProofs [e2, e3, PrimR, heapR, V.av, marksC_len, marksV_len, marksS_len, hdz]; done) | (simp -implicitDefEqProofs [e2, e3, PrimR, heapR, V.av, marksC_len, marksV_len, marksS_len, hdz]; rfl) | rfl)); (case heo => (first | rfl | (simp -implicitDefEqProofs [e2, e3, PrimR, heapR, V.av, marksC_len, marksV_len, marksS_len, hdz]; done))); (case g1 => (first | assumption | omega)); (case g2 => (first | assumption | omega)); (case g3 => (first | assumption | omega)); (case g4 => (first | assumption | omega)); (case hnw => (first | (simp; done) | (simp; rfl) | (simp -implicitDefEqProofs [e2, e3, PrimR, heapR, V.av, marksC_len, marksV_len, marksS_len, hdz]; done) | (simp -implicitDefEqProofs [e2, e3, PrimR, heapR, V.av, marksC_len, marksV_len, marksS_len, hdz]; rfl))); (case hok => (first | (simp; done) | (simp -implicitDefEqProofs [e2, e3, PrimR, heapR, V.av, marksC_len, marksV_len, marksS_len, hdz]; done))); (case hP => (first | (simp; done) | (simp; rfl) | (simp -implicitDefEqProofs [e2, e3, PrimR, heapR, V.av, marksC_len, marksV_len, marksS_len, hdz]; done) | (simp -implicitDefEqProofs [e2, e3, PrimR, heapR, V.av, marksC_len, marksV_len, marksS_len, hdz]; rfl))); (case hS => (first | (simp; done) | (simp; rfl) | (simp -implicitDefEqProofs [e2, e3, PrimR, heapR, V.av, marksC_len, marksV_len, marksS_len, hdz]; done) | (simp -implicitDefEqProofs [e2, e3, PrimR, heapR, V.av, marksC_len, marksV_len, marksS_len, hdz]; rfl))); (case hz => (first | (simp; done) | (simp -implicitDefEqProofs [e2, e3, PrimR, heapR, V.av, marksC_len, marksV_len, marksS_len, hdz]; done))); (case hs => (first | (simp -implicitDefEqProofs [e2, e3, PrimR, heapR, V.av, marksC_len, marksV_len, marksS_len, hdz]; done) | (simp -implicitDefEqProofs [e2, e3, PrimR, heapR, V.av, marksC_len, marksV_len, marksS_len, hdz]; rfl) | rfl)))
          | (apply WPL.callU (c_impl_Prim _ _ _ ?g1 ?g2 ?g3 ?g4 ?g5); (case hg => (simp; done)); (case hd => (simp; done)); (case hl => (first | (simp; done) | (simp; rfl) | (simp -implicitDefEqProofs [e2, e3, PrimR, heapR, V.av, marksC_len, marksV_len, marksS_len, hdz]; done) | (simp -implicitDefEqProofs [e2, e3, PrimR, heapR, V.av, marksC_len, marksV_len, marksS_len, hdz]; rfl))); (case hr => (first | (simp; done) | (simp; rfl) | (simp -implicitDefEqProofs [e2, e3, PrimR, heapR, V.av, marksC_len, marksV_len, marksS_len, hdz]; done) | (simp -implicitDefEqProofs [e2, e3, PrimR, heapR, V.av, marksC_len, marksV_len, marksS_len, hdz]; rfl))); (case hins => (first | (simp -implicitDefEqProofs [e2, e3, PrimR, heapR, V.av, marksC_len, marksV_len, marksS_len, hdz]; done) | (simp -implicitDefEqProofs [e2, e3, PrimR, heapR, V.av, marksC_len, marksV_len, marksS_len, hdz]; rfl) | rfl)); (case he => (first | rfl | (simp -implicitDefEqProofs [e2, e3, PrimR, heapR, V.av, marksC_len, marksV_len, marksS_len, hdz]; done))); (case hob => (first | (simp -implicitDefEqProofs [e2, e3, PrimR, heapR, V.av, marksC_len, marksV_len, marksS_len, hdz]; done) | (simp -implicitDefEqProofs [e2, e3, PrimR, heapR, V.av, marksC_len, marksV_len, marksS_len, hdz]; rfl) | rfl)); (case heo => (first | rfl | (simp -implicitDefEqProofs [e2, e3, PrimR, heapR, V.av, marksC_len, marksV_len, marksS_len, hdz]; done))); (case g1 => (first | assumption | omega)); (case g2 => (first | assumption | omega)); (case g3 => (first | assumption | omega)); (case g4 => (first | assumption | omega)); (case g5 => (first | assumption | omega)); (case hnw => (first | (simp; done) | (simp; rfl) | (simp -implicitDefEqProofs [e2, e3, PrimR, heapR, V.av, marksC_len, marksV_len, marksS_len, hdz]; done) | (simp -implicitDefEqProofs [e2, e3, PrimR, heapR, V.av, marksC_len, marksV_len, marksS_len, hdz]; rfl))); (case hok => (first | (simp; done) | (simp -implicitDefEqProofs [e2, e3, PrimR, heapR, V.av, marksC_len, marksV_len, marksS_len, hdz]; done))); (case hP => (first | (simp; done) | (simp; rfl) | (simp -implicitDefEqProofs [e2, e3, PrimR, heapR, V.av, marksC_len, marksV_len, marksS_len, hdz]; done) | (simp -implicitDefEqProofs [e2, e3, PrimR, heapR, V.av, marksC_len, marksV_len, marksS_len, hdz]; rfl))); (case hS => (first | (simp; done) | (simp; rfl) | (simp -implicitDefEqProofs [e2, e3, PrimR, heapR, V.av, marksC_len, marksV_len, marksS_len, hdz]; done) | (simp -implicitDefEqProofs [e2, e3, PrimR, heapR, V.av, marksC_len, marksV_len, marksS_len, hdz]; rfl))); (case hz => (first | (simp; done) | (simp -implicitDefEqProofs [e2, e3, PrimR, heapR, V.av, marksC_len, marksV_len, marksS_len, hdz]; done))); (case hs => (first | (simp -implicitDefEqProofs [e2, e3, PrimR, heapR, V.av, marksC_len, marksV_len, marksS_len, hdz]; done) | (simp -implicitDefEqProofs [e2, e3, PrimR, heapR, V.av, marksC_len, marksV_len, marksS_len, hdz]; rfl) | rfl)))
          | (apply WPL.callL (c_laws_eqCellS _); (case hd => (simp; done)); (case hl => (first | (simp; done) | (simp; rfl) | (simp -implicitDefEqProofs [e2, e3, PrimR, heapR, V.av, marksC_len, marksV_len, marksS_len, hdz]; done) | (simp -implicitDefEqProofs [e2, e3, PrimR, heapR, V.av, marksC_len, marksV_len, marksS_len, hdz]; rfl))); (case hb => rfl); (case hins => (first | (simp -implicitDefEqProofs [e2, e3, PrimR, heapR, V.av, marksC_len, marksV_len, marksS_len, hdz]; done) | (simp -implicitDefEqProofs [e2, e3, PrimR, heapR, V.av, marksC_len, marksV_len, marksS_len, hdz]; rfl))); (case he => (first | rfl | (simp -implicitDefEqProofs [e2, e3, PrimR, heapR, V.av, marksC_len, marksV_len, marksS_len, hdz]; done))); (case hz => (first | (exact .inl rfl) | (simp; done) | (exact .inr (by simp -implicitDefEqProofs [e2, e3, PrimR, heapR, V.av, marksC_len, marksV_len, marksS_len, hdz])))))
          | (apply WPL.callLt (c_laws_eqCellS _); (case hg => (simp; done)); (case hd => (simp; done)); (case hl => (first | (simp; done) | (simp; rfl) | (simp -implicitDefEqProofs [e2, e3, PrimR, heapR, V.av, marksC_len, marksV_len, marksS_len, hdz]; done) | (simp -implicitDefEqProofs [e2, e3, PrimR, heapR, V.av, marksC_len, marksV_len, marksS_len, hdz]; rfl))); (case hb => rfl); (case hins => (first | (simp -implicitDefEqProofs [e2, e3, PrimR, heapR, V.av, marksC_len, marksV_len, marksS_len, hdz]; done) | (simp -implicitDefEqProofs [e2, e3, PrimR, heapR, V.av, marksC_len, marksV_len, marksS_len, hdz]; rfl))); (case he => (first | rfl | (simp -implicitDefEqProofs [e2, e3, PrimR, heapR, V.av, marksC_len, marksV_len, marksS_len, hdz]; done))); (case hz => (first | (exact .inl rfl) | (simp; done) | (exact .inr (by simp -implicitDefEqProofs [e2, e3, PrimR, heapR, V.av, marksC_len, marksV_len, marksS_len, hdz])))))
          | (apply WPL.callLt (c_laws_eqValue ⟨_, _, _⟩); (case hg => (simp; done)); (case hd => (simp; done)); (case hl => (first | (simp; done) | (simp; rfl) | (simp -implicitDefEqProofs [e2, e3, PrimR, heapR, V.av, marksC_len, marksV_len, marksS_len, hdz]; done) | (simp -implicitDefEqProofs [e2, e3, PrimR, heapR, V.av, marksC_len, marksV_len, marksS_len, hdz]; rfl))); (case hb => rfl); (case hins => (first | (simp -implicitDefEqProofs [e2, e3, PrimR, heapR, V.av, marksC_len, marksV_len, marksS_len, hdz]; done) | (simp -implicitDefEqProofs [e2, e3, PrimR, heapR, V.av, marksC_len, marksV_len, marksS_len, hdz]; rfl))); (case he => (first | rfl | (simp -implicitDefEqProofs [e2, e3, PrimR, heapR, V.av, marksC_len, marksV_len, marksS_len, hdz]; done))); (case hz => (first | (exact .inl rfl) | (simp; done) | (exact .inr (by simp -implicitDefEqProofs [e2, e3, PrimR, heapR, V.av, marksC_len, marksV_len, marksS_len, hdz])))))
          | (apply WPL.callL (c_laws_eqValueS _); (case hd => (simp; done)); (case hl => (first | (simp; done) | (simp; rfl) | (simp -implicitDefEqProofs [e2, e3, PrimR, heapR, V.av, marksC_len, marksV_len, marksS_len, hdz]; done) | (simp -implicitDefEqProofs [e2, e3, PrimR, heapR, V.av, marksC_len, marksV_len, marksS_len, hdz]; rfl))); (case hb => rfl); (case hins => (first | (simp -implicitDefEqProofs [e2, e3, PrimR, heapR, V.av, marksC_len, marksV_len, marksS_len, hdz]; done) | (simp -implicitDefEqProofs [e2, e3, PrimR, heapR, V.av, marksC_len, marksV_len, marksS_len, hdz]; rfl))); (case he => (first | rfl | (simp -implicitDefEqProofs [e2, e3, PrimR, heapR, V.av, marksC_len, marksV_len, marksS_len, hdz]; done))); (case hz => (first | (exact .inl rfl) | (simp; done) | (exact .inr (by simp -implicitDefEqProofs [e2, e3, PrimR, heapR, V.av, marksC_len, marksV_len, marksS_len, hdz])))))
          | (apply WPL.callU (c_laws_markCellS _ _ ?g1 ?g2 ?g3 ?g4); (case hg => (simp; done)); (case hd => (simp; done)); (case hl => (first | (simp; done) | (simp; rfl) | (simp -implicitDefEqProofs [e2, e3, PrimR, heapR, V.av, marksC_len, marksV_len, marksS_len, hdz]; done) | (simp -implicitDefEqProofs [e2, e3, PrimR, heapR, V.av, marksC_len, marksV_len, marksS_len, hdz]; rfl))); (case hr => (first | (simp; done) | (simp; rfl) | (simp -implicitDefEqProofs [e2, e3, PrimR, heapR, V.av, marksC_len, marksV_len, marksS_len, hdz]; done) | (simp -implicitDefEqProofs [e2, e3, PrimR, heapR, V.av, marksC_len, marksV_len, marksS_len, hdz]; rfl))); (case hins => (first | (simp -implicitDefEqProofs [e2, e3, PrimR, heapR, V.av, marksC_len, marksV_len, marksS_len, hdz]; done) | (simp -implicitDefEqProofs [e2, e3, PrimR, heapR, V.av, marksC_len, marksV_len, marksS_len, hdz]; rfl) | rfl)); (case he => (first | rfl | (simp -implicitDefEqProofs [e2, e3, PrimR, heapR, V.av, marksC_len, marksV_len, marksS_len, hdz]; done))); (case hob => (first | (simp -implicitDefEqProofs [e2, e3, PrimR, heapR, V.av, marksC_len, marksV_len, marksS_len, hdz]; done) | (simp -implicitDefEqProofs [e2, e3, PrimR, heapR, V.av, marksC_len, marksV_len, marksS_len, hdz]; rfl) | rfl)); (case heo => (first | rfl | (simp -implicitDefEqProofs [e2, e3, PrimR, heapR, V.av, marksC_len, marksV_len, marksS_len, hdz]; done))); (case g1 => (first | assumption | omega)); (case g2 => (first | assumption | omega)); (case g3 => (first | assumption | omega)); (case g4 => (first | assumption | omega)); (case hnw => (first | (simp; done) | (simp; rfl) | (simp -implicitDefEqProofs [e2, e3, PrimR, heapR, V.av, marksC_len, marksV_len, marksS_len, hdz]; done) | (simp -implicitDefEqProofs [e2, e3, PrimR, heapR, V.av, marksC_len, marksV_len, marksS_len, hdz]; rfl))); (case hok => (first | (simp; done) | (simp -implicitDefEqProofs [e2, e3, PrimR, heapR, V.av, marksC_len, marksV_len, marksS_len, hdz]; done))); (case hP => (first | (simp; done) | (simp; rfl) | (simp -implicitDefEqProofs [e2, e3, PrimR, heapR, V.av, marksC_len, marksV_len, marksS_len, hdz]; done) | (simp -implicitDefEqProofs [e2, e3, PrimR, heapR, V.av, marksC_len, marksV_len, marksS_len, hdz]; rfl))); (case hS => (first | (simp; done) | (simp; rfl) | (simp -implicitDefEqProofs [e2, e3, PrimR, heapR, V.av, marksC_len, marksV_len, marksS_len, hdz]; done) | (simp -implicitDefEqProofs [e2, e3, PrimR, heapR, V.av, marksC_len, marksV_len, marksS_len, hdz]; rfl))); (case hz => (first | (simp; done) | (simp -implicitDefEqProofs [e2, e3, PrimR, heapR, V.av, marksC_len, marksV_len, marksS_len, hdz]; done))); (case hs => (first | (simp -implicitDefEqProofs [e2, e3, PrimR, heapR, V.av, marksC_len, marksV_len, marksS_len, hdz]; done) | (simp -implicitDefEqProofs [e2, e3, PrimR, heapR, V.av, marksC_len, marksV_len, marksS_len, hdz]; rfl) | rfl)))
          | (apply WPL.callU (c_laws_markValueS _ _ ?g1 ?g2 ?g3); (case hg => (simp; done)); (case hd => (simp; done)); (case hl => (first | (simp; done) | (simp; rfl) | (simp -implicitDefEqProofs [e2, e3, PrimR, heapR, V.av, marksC_len, marksV_len, marksS_len, hdz]; done) | (simp -implicitDefEqProofs [e2, e3, PrimR, heapR, V.av, marksC_len, marksV_len, marksS_len, hdz]; rfl))); (case hr => (first | (simp; done) | (simp; rfl) | (simp -implicitDefEqProofs [e2, e3, PrimR, heapR, V.av, marksC_len, marksV_len, marksS_len, hdz]; done) | (simp -implicitDefEqProofs [e2, e3, PrimR, heapR, V.av, marksC_len, marksV_len, marksS_len, hdz]; rfl))); (case hins => (first | (simp -implicitDefEqProofs [e2, e3, PrimR, heapR, V.av, marksC_len, marksV_len, marksS_len, hdz]; done) | (simp -implicitDefEqProofs [e2, e3, PrimR, heapR, V.av, marksC_len, marksV_len, marksS_len, hdz]; rfl) | rfl)); (case he => (first | rfl | (simp -implicitDefEqProofs [e2, e3, PrimR, heapR, V.av, marksC_len, marksV_len, marksS_len, hdz]; done))); (case hob => (first | (simp -implicitDefEqProofs [e2, e3, PrimR, heapR, V.av, marksC_len, marksV_len, marksS_len, hdz]; done) | (simp -implicitDefEqProofs [e2, e3, PrimR, heapR, V.av, marksC_len, marksV_len, marksS_len, hdz]; rfl) | rfl)); (case heo => (first | rfl | (simp -implicitDefEqProofs [e2, e3, PrimR, heapR, V.av, marksC_len, marksV_len, marksS_len, hdz]; done))); (case g1 => (first | assumption | omega)); (case g2 => (first | assumption | omega)); (case g3 => (first | assumption | omega)); (case hnw => (first | (simp; done) | (simp; rfl) | (simp -implicitDefEqProofs [e2, e3, PrimR, heapR, V.av, marksC_len, marksV_len, marksS_len, hdz]; done) | (simp -implicitDefEqProofs [e2, e3, PrimR, heapR, V.av, marksC_len, marksV_len, marksS_len, hdz]; rfl))); (case hok => (first | (simp; done) | (simp -implicitDefEqProofs [e2, e3, PrimR, heapR, V.av, marksC_len, marksV_len, marksS_len, hdz]; done))); (case hP => (first | (simp; done) | (simp; rfl) | (simp -implicitDefEqProofs [e2, e3, PrimR, heapR, V.av, marksC_len, marksV_len, marksS_len, hdz]; done) | (simp -implicitDefEqProofs [e2, e3, PrimR, heapR, V.av, marksC_len, marksV_len, marksS_len, hdz]; rfl))); (case hS => (first | (simp; done) | (simp; rfl) | (simp -implicitDefEqProofs [e2, e3, PrimR, heapR, V.av, marksC_len, marksV_len, marksS_len, hdz]; done) | (simp -implicitDefEqProofs [e2, e3, PrimR, heapR, V.av, marksC_len, marksV_len, marksS_len, hdz]; rfl))); (case hz => (first | (simp; done) | (simp -implicitDefEqProofs [e2, e3, PrimR, heapR, V.av, marksC_len, marksV_len, marksS_len, hdz]; done))); (case hs => (first | (simp -implicitDefEqProofs [e2, e3, PrimR, heapR, V.av, marksC_len, marksV_len, marksS_len, hdz]; done) | (simp -implicitDefEqProofs [e2, e3, PrimR, heapR, V.av, marksC_len, marksV_len, marksS_len, hdz]; rfl) | rfl)))
          | (apply WPL.callL (c_laws_heldCellS _ _ ?g1 ?g2 ?g3 ?g4); (case hd => (simp; done)); (case hl => (first | (simp; done) | (simp; rfl) | (simp -implicitDefEqProofs [e2, e3, PrimR, heapR, V.av, marksC_len, marksV_len, marksS_len, hdz]; done) | (simp -implicitDefEqProofs [e2, e3, PrimR, heapR, V.av, marksC_len, marksV_len, marksS_len, hdz]; rfl))); (case hb => rfl); (case hins => (first | (simp -implicitDefEqProofs [e2, e3, PrimR, heapR, V.av, marksC_len, marksV_len, marksS_len, hdz]; done) | (simp -implicitDefEqProofs [e2, e3, PrimR, heapR, V.av, marksC_len, marksV_len, marksS_len, hdz]; rfl))); (case he => (first | rfl | (simp -implicitDefEqProofs [e2, e3, PrimR, heapR, V.av, marksC_len, marksV_len, marksS_len, hdz]; done))); (case g1 => (first | assumption | omega)); (case g2 => (first | assumption | omega)); (case g3 => (first | assumption | omega)); (case g4 => (first | assumption | omega)); (case hz => (first | (exact .inl rfl) | (simp; done) | (exact .inr (by simp -implicitDefEqProofs [e2, e3, PrimR, heapR, V.av, marksC_len, marksV_len, marksS_len, hdz])))))
          | (refine WPL.call0f ?_ ?_ ?_; (focus (simp; done)); (focus (simp; done)))
          | (refine WPc.rq tok rfl fun K hK => ?_; simp -implicitDefEqProofs +contextual [-Int.not_le, -Int.not_lt, -Nat.not_le, -Nat.not_lt, -List.all_eq_true, -List.all_eq_false, -List.any_eq_true, -List.any_eq_false, e2, e3, PrimR, heapR, V.av, marksC_len, marksV_len, marksS_len, hdz]; (fail_if_success guard_target =ₛ False); (repeat' (first | refine hK _ ?_ | refine And.intro ?_ ?_ | intro _)) <;> clear hK K)
          | (refine WPL.rn tok _ (by simp [ahead, isFn]; rfl) fun K hK => ?_; simp -implicitDefEqProofs +contextual [-Int.not_le, -Int.not_lt, -Nat.not_le, -Nat.not_lt, -List.all_eq_true, -List.all_eq_false, -List.any_eq_true, -List.any_eq_false, e2, e3, PrimR, heapR, V.av, marksC_len, marksV_len, marksS_len, hdz]; (fail_if_success guard_target =ₛ False); (repeat' (first | refine hK _ ?_ | refine And.intro ?_ ?_ | intro _)) <;> clear hK K <;> (try simp only [Nat.reduceAdd, List.drop_succ_cons, List.drop_zero]))
          | (refine WPc.region ?_; simp only [List.toList_toArray])
          | (refine WPc.condT ?_ ?_; (focus (simp; done)))
          | (refine WPc.condF ?_ ?_; (focus (simp; done)))
          | (refine WPc.cond (by simp [-Bool.not_eq_eq_eq_not]; rfl) (fun hq => ?_) (fun hq => ?_) <;> simp only [hq] <;> (try (exfalso; (simp only [decide_eq_true_eq, decide_eq_false_iff_not] at hq); omega))))
        all_goals first
          | rfl
          | (exfalso; omega)
      · have e3 : szR (1048576 - costH h) (costV a) = -1 := szR_no (by omega)
        refine Con.of tok (nt := 151) Go.Proofs.Tryz.func4 (by kernel_rfl) rfl rfl rfl (Nat.le_of_ble_eq_true rfl) fun G => ?_
        simp only [entSt, tmOf, List.append_nil, List.cons_append, List.nil_append]
        repeat' (first
          | apply WPc.sq
          | (refine WPc.ret (endP.val (.inr rfl) rfl rfl (by simp; rfl) ?_))
          | apply WPc.skip
          | refine WPL.nil ?_
          | (apply WPL.callL (c_laws_szCellS _ _ ?g1 ?g2 ?g3); (case hd => (simp; done)); (case hl => (first | (simp; done) | (simp; rfl) | (simp -implicitDefEqProofs [e2, e3]; done) | (simp -implicitDefEqProofs [e2, e3]; rfl))); (case hb => rfl); (case hins => (first | (simp -implicitDefEqProofs [e2, e3]; done) | (simp -implicitDefEqProofs [e2, e3]; rfl))); (case he => (first | rfl | (simp -implicitDefEqProofs [e2, e3]; done))); (case g1 => (first | assumption | omega)); (case g2 => (first | assumption | omega)); (case g3 => (first | assumption | omega)); (case hz => (first | (exact .inl rfl) | (simp; done) | (exact .inr (by simp -implicitDefEqProofs [e2, e3])))))
          | (apply WPL.callL (c_laws_szValueS _ _ ?g1 ?g2 ?g3); (case hd => (simp; done)); (case hl => (first | (simp; done) | (simp; rfl) | (simp -implicitDefEqProofs [e2, e3]; done) | (simp -implicitDefEqProofs [e2, e3]; rfl))); (case hb => rfl); (case hins => (first | (simp -implicitDefEqProofs [e2, e3]; done) | (simp -implicitDefEqProofs [e2, e3]; rfl))); (case he => (first | rfl | (simp -implicitDefEqProofs [e2, e3]; done))); (case g1 => (first | assumption | omega)); (case g2 => (first | assumption | omega)); (case g3 => (first | assumption | omega)); (case hz => (first | (exact .inl rfl) | (simp; done) | (exact .inr (by simp -implicitDefEqProofs [e2, e3])))))
          | (refine WPc.rq tok rfl fun K hK => ?_; simp -implicitDefEqProofs +contextual [-Int.not_le, -Int.not_lt, -Nat.not_le, -Nat.not_lt, -List.all_eq_true, -List.all_eq_false, -List.any_eq_true, -List.any_eq_false, e2, e3]; (fail_if_success guard_target =ₛ False); (repeat' (first | refine hK _ ?_ | refine And.intro ?_ ?_ | intro _)) <;> clear hK K)
          | (refine WPL.rn tok _ (by simp [ahead, isFn]; rfl) fun K hK => ?_; simp -implicitDefEqProofs +contextual [-Int.not_le, -Int.not_lt, -Nat.not_le, -Nat.not_lt, -List.all_eq_true, -List.all_eq_false, -List.any_eq_true, -List.any_eq_false, e2, e3]; (fail_if_success guard_target =ₛ False); (repeat' (first | refine hK _ ?_ | refine And.intro ?_ ?_ | intro _)) <;> clear hK K <;> (try simp only [Nat.reduceAdd, List.drop_succ_cons, List.drop_zero]))
          | (refine WPc.region ?_; simp only [List.toList_toArray])
          | (refine WPc.condT ?_ ?_; (focus (simp; done)))
          | (refine WPc.cond (by simp [-Bool.not_eq_eq_eq_not]; rfl) (fun hq => ?_) (fun hq => ?_) <;> simp only [hq] <;> (try (exfalso; (simp only [decide_eq_true_eq, decide_eq_false_iff_not] at hq); omega))))
        all_goals rfl
    · have e2 : szR 1048576 (costH h) = -1 := szR_no (by omega)
      refine Con.of tok (nt := 151) Go.Proofs.Tryz.func4 (by kernel_rfl) rfl rfl rfl (Nat.le_of_ble_eq_true rfl) fun G => ?_
      simp only [entSt, tmOf, List.append_nil, List.cons_append, List.nil_append]
      repeat' (first
        | apply WPc.sq
        | (refine WPc.ret (endP.val (.inr rfl) rfl rfl (by simp; rfl) ?_))
        | apply WPc.skip
        | refine WPL.nil ?_
        | (apply WPL.callL (c_laws_szCellS _ _ ?g1 ?g2 ?g3); (case hd => (simp; done)); (case hl => (first | (simp; done) | (simp; rfl) | (simp -implicitDefEqProofs [e2]; done) | (simp -implicitDefEqProofs [e2]; rfl))); (case hb => rfl); (case hins => (first | (simp -implicitDefEqProofs [e2]; done) | (simp -implicitDefEqProofs [e2]; rfl))); (case he => (first | rfl | (simp -implicitDefEqProofs [e2]; done))); (case g1 => (first | assumption | omega)); (case g2 => (first | assumption | omega)); (case g3 => (first | assumption | omega)); (case hz => (first | (exact .inl rfl) | (simp; done) | (exact .inr (by simp -implicitDefEqProofs [e2])))))
        | (refine WPc.rq tok rfl fun K hK => ?_; simp -implicitDefEqProofs +contextual [-Int.not_le, -Int.not_lt, -Nat.not_le, -Nat.not_lt, -List.all_eq_true, -List.all_eq_false, -List.any_eq_true, -List.any_eq_false, e2]; (fail_if_success guard_target =ₛ False); (repeat' (first | refine hK _ ?_ | refine And.intro ?_ ?_ | intro _)) <;> clear hK K)
        | (refine WPL.rn tok _ (by simp [ahead, isFn]; rfl) fun K hK => ?_; simp -implicitDefEqProofs +contextual [-Int.not_le, -Int.not_lt, -Nat.not_le, -Nat.not_lt, -List.all_eq_true, -List.all_eq_false, -List.any_eq_true, -List.any_eq_false, e2]; (fail_if_success guard_target =ₛ False); (repeat' (first | refine hK _ ?_ | refine And.intro ?_ ?_ | intro _)) <;> clear hK K <;> (try simp only [Nat.reduceAdd, List.drop_succ_cons, List.drop_zero]))
        | (refine WPc.region ?_; simp only [List.toList_toArray])
        | (refine WPc.condT ?_ ?_; (focus (simp; done)))
        | (refine WPc.cond (by simp [-Bool.not_eq_eq_eq_not]; rfl) (fun hq => ?_) (fun hq => ?_) <;> simp only [hq] <;> (try (exfalso; (simp only [decide_eq_true_eq, decide_eq_false_iff_not] at hq); omega))))
      all_goals rfl
  · refine Con.of tok (nt := 151) Go.Proofs.Tryz.func4 (by kernel_rfl) rfl rfl rfl (Nat.le_of_ble_eq_true rfl) fun G => ?_
    simp only [entSt, tmOf, List.append_nil, List.cons_append, List.nil_append]
    repeat' (first
      | apply WPc.sq
      | (refine WPc.ret (endP.val (.inr rfl) rfl rfl (by simp; rfl) ?_))
      | (refine WPc.rq tok rfl fun K hK => ?_; simp -implicitDefEqProofs +contextual [-Int.not_le, -Int.not_lt, -Nat.not_le, -Nat.not_lt, -List.all_eq_true, -List.all_eq_false, -List.any_eq_true, -List.any_eq_false]; (fail_if_success guard_target =ₛ False); (repeat' (first | refine hK _ ?_ | refine And.intro ?_ ?_ | intro _)) <;> clear hK K)
      | (refine WPc.cond (by simp [-Bool.not_eq_eq_eq_not]; rfl) (fun hq => ?_) (fun hq => ?_) <;> simp only [hq] <;> (try (exfalso; (simp only [decide_eq_true_eq, decide_eq_false_iff_not] at hq); omega))))
    all_goals rfl
end Go.Own
set_option linter.unusedVariables false
set_option linter.unusedSectionVars false
set_option linter.unusedSimpArgs false
namespace Go.Own
variable {P : Program} {tt : Nat → Option TI} {w0 : World} {β0 : Blk} {st st' : St} {β : Blk} {a : Act} {w w' : World} [Laid]
attribute [simp] frzSt frzT frz1 frz0
def bC (x : Int) : List C := [.sc (.int .u8 x)]
class Code where
  u : Value
  b : List Int
  rd : ∀ w, Laid.ok w → FR (fun k => k < Laid.n) w (.fz (b.map bC)) u
  one : u.oneCell' = true
attribute [simp] Code.one
def codeS [K : Code] (st : St) (t : Nat) : St := { st with tm := (t, .fz (K.b.map bC)) :: st.tm }
theorem Gst.code [K : Code] {t : Nat} (hv : lk st.tm t = .sc K.u) : Gst st (codeS st t) := fun w0 β0 β a w hr => by
  refine ⟨β, hr.sameB ?_, fun _ _ h => h⟩
  have hl := hr.laid
  have hq := hr.rel
  refine ⟨hq.nt, hq.df, fun n => ?_, hq.ob, hq.uq, hq.lt, hq.fr, hq.old, hq.hs, hq.os, hq.tape, hq.output⟩
  simp only [codeS, lk]
  split
  · rename_i e
    subst e
    have := hq.tm t
    rw [hv] at this
    rw [this.sc_inv]
    exact .fz _ _ ((K.rd w hl.ok).mono fun b hb _ => ⟨hl.fz b hb, rfl⟩)
  · exact hq.tm n
theorem WPL.codeAt [C : Code] {ops : Array Oper} {l : List Oper} {Ψ : St → Prop} (d t : Nat) (hd : dstOf l = some d)
    (h : ∀ K : St → Prop, (∀ s, WPL P ops l s Ψ → K s) → lk st.tm t = .sc C.u ∧ K (codeS st t)) : WPL P ops l st Ψ := by
  obtain ⟨h1, h2⟩ := h (fun s => WPL P ops l s Ψ) fun _ h => h
  exact WPL.gst (Gst.code h1) h2
theorem WPS.codeAt [C : Code] {ops : Array Oper} {l : List (Nat × List Nat)} {Ψ : St → Prop} (d t : Nat) (hd : dstS ops l = some d)
    (h : ∀ K : St → Prop, (∀ s, WPS P ops l s Ψ → K s) → lk st.tm t = .sc C.u ∧ K (codeS st t)) : WPS P ops l st Ψ := by
  obtain ⟨h1, h2⟩ := h (fun s => WPS P ops l s Ψ) fun _ h => h
  exact WPS.gst (Gst.code h1) h2
attribute [simp] codeS
theorem schedF_tied {te : List (Nat × List Nat)} {ops : Array Oper} : ∀ {l : List (Nat × List Nat)} {listed : Array Bool}, schedF te ops listed l = true → tiedB te = true
  | [], listed, h => by simp only [schedF, Bool.and_eq_true] at h; exact h.2
  | (k, T) :: r, listed, h => by simp only [schedF, Bool.and_eq_true] at h; exact schedF_tied h.2
theorem tied_at : ∀ {te : List (Nat × List Nat)} (_ : tiedB te = true) {n : Nat} (_ : 500000 ≤ n) (_ : n < 900000) (e : Nat), n ∈ teOf te e → n - 500000 ∈ teOf te e
  | [], _, n, _, _, e, hm => by simp [teOf] at hm
  | (k, T) :: r, h, n, h1, h2, e, hm => by
    simp only [tiedB, List.all_cons, Bool.and_eq_true] at h
    simp only [teOf] at hm ⊢
    split
    · rename_i hk
      rw [if_pos hk] at hm
      have := List.all_eq_true.1 h.1 n hm
      simpa [h1, h2] using this
    · rename_i hk
      rw [if_neg hk] at hm
      exact tied_at (by simpa [tiedB] using h.2) h1 h2 e hm
theorem Rel.detS2 (hr : Rel w0 β0 st β a w) {id nid i j : Nat} {path : Pth} (h : Own.detS st id nid path i j = some st') :
    ∃ p, Rel w0 β0 st' (parted id p nid β) a w ∧ id < DD ∧ nid < DD := by
  unfold Own.detS at h
  split at h
  · rename_i e k es hlo
    split at h
    · rename_i ep kp row hn
      split at h
      · rename_i e1 k1 xs hc
        split at h
        · rename_i hq
          obtain ⟨q1, q2, q3⟩ := hq
          injection h with h
          subst h
          obtain ⟨r, hi, hj⟩ := cellIn_get hc
          obtain ⟨g1, g2⟩ := hr.detach q1 hlo hn hi hj
          refine ⟨_, ⟨g1.nt, g1.df, fun t => ?_, g1.ob, g1.uq, g1.lt, g1.fr, g1.old, g1.hs, g1.os, g1.tape, g1.output⟩, q2, q3⟩
          dsimp only
          rw [lk_renT]
          exact (hr.tm t).parted q1
        · simp at h
      · simp at h
    · simp at h
  · simp at h
theorem WPS.detAt {ops : Array Oper} {l : List (Nat × List Nat)} {Ψ : St → Prop} (d id nid : Nat) (path : Pth) (i j : Nat) (hd : dstS ops l = some d) (hn : nid = id + 500000 ∧ id < 400000)
    (h : ∀ K : St → Prop, (∀ s, WPS P ops l s Ψ → K s) → ∃ s, Own.detS st id nid path i j = some s ∧ K s) : WPS P ops l st Ψ := by
  obtain ⟨s, h1, h2⟩ := h (fun s => WPS P ops l s Ψ) fun _ h => h
  intro te listed e1 e2 w0 β0 β a w hr
  obtain ⟨p, g1, g3, g4⟩ := hr.rel.detS2 h1
  refine wpAnyF_anti _ _ a w ?_ (h2 te listed e1 e2 w0 β0 _ a w (hr.next g1 parted_fr (below2 g3 g4)))
  rintro e b ⟨q1, q2⟩
  refine ⟨q1, fun id' p hb hm => ?_⟩
  simp only [parted] at hb
  split at hb
  · simp at hb
  · rename_i i0 p0 hp
    split at hb
    · simp at hb
    · split at hb
      · rename_i hc
        injection hb with hb
        injection hb with hb hb2
        subst hb
        have := tied_at (schedF_tied e2) (n := nid) (by omega) (by omega) e hm
        rw [hn.1] at this
        simp only [Nat.add_sub_cancel] at this
        exact q2 _ _ hp (hc.1 ▸ this)
      · injection hb with hb
        injection hb with hb hb2
        exact q2 _ _ hp (hb ▸ hm)
def selO (ob : List (Nat × Root)) : List Nat → Option (List (Nat × Root))
  | [] => some []
  | i :: is => match lo ob i, selO ob is with
    | some r, some l => some ((i, r) :: l)
    | _, _ => none
theorem fitO_sel : ∀ {is : List Nat} {l : List (Nat × Root)}, selO st.ob is = some l → FitO st l
  | [], l, h => by simp only [selO, Option.some.injEq] at h; subst h; trivial
  | i :: is, l, h => by
    simp only [selO] at h
    split at h
    · rename_i r l' h1 h2
      injection h with h
      subst h
      exact ⟨⟨_, h1, .inl rfl⟩, fitO_sel h2⟩
    · simp at h
theorem endP.sel {nt : Nat} {rs : List ResultVar} {G : Nat → Value} {ins : List AV} {keep : List Nat} {Φ : AV → List (Nat × Root) → Prop} {e : Exit} {s : St} {r : AV} {ob' : List (Nat × Root)} (is : List Nat) (he : e = .normal ∨ e = .ret) (hs : s.nt = nt) (hg : s.G = G)
    (h : resA tt s rs = some r) (hO : selO s.ob is = some ob') (hΦ : Φ r ob') (hk : ∀ i, i ∈ keep → ∀ v, ins[i]? = some v → lk s.tm (nt + i) = v) : endP tt nt rs G ins keep Φ e s := endP.own ob' he hs hg h (fitO_sel hO) hΦ hk
attribute [simp] selO
end Go.Own
