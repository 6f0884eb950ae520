import Derived.Test.YtfanjfmgacfpjaaGreatDoorTd
import Derived.Deep.Slices
import Derived.ChangeArms
import Derived.Test.YtfanjfmgacfpjaaGreatDoorCards
import Derived.Test.YtfanjfmgacfpjaaGreatDoorTie
import Derived.OpenShut
import Derived.Deep.DeepHandedRow
import Derived.Lib.LaidTab
import Derived.Carry
import Derived.Lay
import Derived.SevenTiedAt
/- The card of FnPrim is proved, for every input: whatever the bytes, the law's function returns true and leaves its argument as it was. Conditions: package-level variables start as the program's text lays them (the card ties them to the pruned copy of the project that lies in the seat); no other condition. -/
set_option linter.unusedVariables false
set_option linter.unusedSimpArgs false
set_option linter.unusedSectionVars false
set_option maxRecDepth 1000000
set_option maxHeartbeats 4000000
namespace Go.Own
attribute [local irreducible] WPc WPL WPS WPS1 WPS2 HAny endP
variable [Laid] [K : Code]
open Go.Lib Go.RowKit
structure Cur where
  i : Int
  h : Int
def Cur.root [K : Code] (c : Cur) : Root := (110, 3, [[.sc K.u, .sc (.int .i64 c.i), .sc (.int .i64 c.h)]])
@[simp] theorem Cur.sc (c : Cur) : scLL c.root.2.2 = true := rfl
@[simp] theorem bC.len (c : Int) : (bC c).length = 1 := rfl
@[simp] theorem bC.frz (c : Int) : (bC c).map Own.frz = bC c := rfl
@[simp] theorem bC.pln (c : Int) : (bC c).all plainC = true := rfl
@[simp] theorem bC.lenA (l : List Int) : lenAll 1 (l.map bC) = true := lenAll_map bC.len l
@[simp] theorem bC.frzA (l : List Int) : frzAll (l.map bC) = l.map bC := frzAll_map bC.frz l
@[simp] theorem bC.plnA (l : List Int) : plainAll (l.map bC) = true := plainAll_map bC.pln l
structure Cur.good (c : Cur) : Prop where
  lo : 0 ≤ c.i
  hi : c.i ≤ K.b.length
  sz : K.b.length ≤ 2097152
theorem c_laws_big : Con PP 7 [.sc K.u] [] [] (fun r o => r = .sc (.bool (decide (1048576 < (K.b.length : Int))))) := by
  refine Con.of tok (nt := 6) Go.Proofs.Tryz.func7 (by kernel_rfl) rfl rfl rfl (Nat.le_of_ble_eq_true rfl) fun G => ?_
  simp only [entSt, tmOf, List.append_nil, List.cons_append, List.nil_append]
  repeat' (first
    | (refine WPL.codeAt 4 3 ?_ ?_; (focus (simp; done)); refine fun K hK => ?_; simp -implicitDefEqProofs +contextual [-Int.not_le, -Int.not_lt, -Nat.not_le, -Nat.not_lt, -List.all_eq_true, -List.all_eq_false, -List.any_eq_true, -List.any_eq_false]; (fail_if_success guard_target =ₛ False); (repeat' (first | refine hK _ ?_ | refine And.intro ?_ ?_ | intro _)) <;> clear hK K)
    | (refine WPL.rnTo tok 4 _ (by simp [isFn]; rfl) fun K hK => ?_; simp -implicitDefEqProofs +contextual [-Int.not_le, -Int.not_lt, -Nat.not_le, -Nat.not_lt, -List.all_eq_true, -List.all_eq_false, -List.any_eq_true, -List.any_eq_false]; (fail_if_success guard_target =ₛ False); (repeat' (first | refine hK _ ?_ | refine And.intro ?_ ?_ | intro _)) <;> clear hK K <;> (try simp only [Nat.reduceAdd, List.drop_succ_cons, List.drop_zero]))
    | apply WPc.sq
    | (refine WPc.ret (endP.val (.inr rfl) rfl rfl (by simp; rfl) ?_))
    | refine WPL.nil ?_
    | (refine WPc.rq tok rfl fun K hK => ?_; simp -implicitDefEqProofs +contextual [-Int.not_le, -Int.not_lt, -Nat.not_le, -Nat.not_lt, -List.all_eq_true, -List.all_eq_false, -List.any_eq_true, -List.any_eq_false]; (fail_if_success guard_target =ₛ False); (repeat' (first | refine hK _ ?_ | refine And.intro ?_ ?_ | intro _)) <;> clear hK K)
    | (refine WPL.rn tok _ (by simp [ahead, isFn]; rfl) fun K hK => ?_; simp -implicitDefEqProofs +contextual [-Int.not_le, -Int.not_lt, -Nat.not_le, -Nat.not_lt, -List.all_eq_true, -List.all_eq_false, -List.any_eq_true, -List.any_eq_false]; (fail_if_success guard_target =ₛ False); (repeat' (first | refine hK _ ?_ | refine And.intro ?_ ?_ | intro _)) <;> clear hK K <;> (try simp only [Nat.reduceAdd, List.drop_succ_cons, List.drop_zero]))
    | (refine WPc.region ?_; simp only [List.toList_toArray]))
  all_goals rfl
theorem c_spec_l1Size (m : Int) : Con PP 35 [.sc K.u, .sc (.int .i64 m)] [] [] (fun r o => ∃ y : Int, (y ≤ m) ∧ r = .sc (.int .i64 y) ∧ o = []) := by
  refine Con.of tok (nt := 15) Go.Proofs.Tryz.func35 (by kernel_rfl) rfl rfl rfl (Nat.le_of_ble_eq_true rfl) fun G => ?_
  simp only [entSt, tmOf, List.append_nil, List.cons_append, List.nil_append]
  repeat' (first
    | (refine WPL.codeAt 7 6 ?_ ?_; (focus (simp; done)); refine fun K hK => ?_; simp -implicitDefEqProofs +contextual [-Int.not_le, -Int.not_lt, -Nat.not_le, -Nat.not_lt, -List.all_eq_true, -List.all_eq_false, -List.any_eq_true, -List.any_eq_false]; (fail_if_success guard_target =ₛ False); (repeat' (first | refine hK _ ?_ | refine And.intro ?_ ?_ | intro _)) <;> clear hK K)
    | (refine WPL.rnTo tok 7 _ (by simp [isFn]; rfl) fun K hK => ?_; simp -implicitDefEqProofs +contextual [-Int.not_le, -Int.not_lt, -Nat.not_le, -Nat.not_lt, -List.all_eq_true, -List.all_eq_false, -List.any_eq_true, -List.any_eq_false]; (fail_if_success guard_target =ₛ False); (repeat' (first | refine hK _ ?_ | refine And.intro ?_ ?_ | intro _)) <;> clear hK K <;> (try simp only [Nat.reduceAdd, List.drop_succ_cons, List.drop_zero]))
    | apply WPc.sq
    | (refine WPc.ret (endP.val (.inr rfl) rfl rfl (by simp; rfl) ?_))
    | apply WPc.skip
    | refine WPL.nil ?_
    | (refine WPc.rq tok rfl fun K hK => ?_; simp -implicitDefEqProofs +contextual [-Int.not_le, -Int.not_lt, -Nat.not_le, -Nat.not_lt, -List.all_eq_true, -List.all_eq_false, -List.any_eq_true, -List.any_eq_false]; (fail_if_success guard_target =ₛ False); (repeat' (first | refine hK _ ?_ | refine And.intro ?_ ?_ | intro _)) <;> clear hK K)
    | (refine WPL.rn tok _ (by simp [ahead, isFn]; rfl) fun K hK => ?_; simp -implicitDefEqProofs +contextual [-Int.not_le, -Int.not_lt, -Nat.not_le, -Nat.not_lt, -List.all_eq_true, -List.all_eq_false, -List.any_eq_true, -List.any_eq_false]; (fail_if_success guard_target =ₛ False); (repeat' (first | refine hK _ ?_ | refine And.intro ?_ ?_ | intro _)) <;> clear hK K <;> (try simp only [Nat.reduceAdd, List.drop_succ_cons, List.drop_zero]))
    | (refine WPc.region ?_; simp only [List.toList_toArray])
    | (refine WPc.cond (by simp [-Bool.not_eq_eq_eq_not]; rfl) (fun hq => ?_) (fun hq => ?_) <;> simp only [hq] <;> (try (exfalso; (simp only [decide_eq_true_eq, decide_eq_false_iff_not] at hq); omega))))
  all_goals (simp only [decide_eq_true_eq, decide_eq_false_iff_not] at hq)
  · exact ⟨m, Int.le_refl m, rfl, rfl⟩
  · exact ⟨_, Int.not_lt.1 hq, rfl, rfl⟩
def Cur.nx (c : Cur) : Int := IntKind.i64.wrap (IntKind.i64.wrap (c.h * 6364136223846793005) + 1442695040888963407)
theorem c_spec_l1Byte (c : Cur) (hc : c.good) : Con PP 81 [.ptr 0 3 [] 0 0] [(0, c.root)] [0] (fun r o => ∃ y : Int × Cur, (y.2.good ∧ 0 ≤ y.1 ∧ y.1 ≤ 255) ∧ r = .sc (.int .i64 y.1) ∧ o = [(0, y.2.root)]) := by
  obtain ⟨hi, hl, hb⟩ := hc
  by_cases hlt : c.i < K.b.length
  · have hn : c.i.toNat < K.b.length := by omega
    have hw : IntKind.i64.wrap (c.i + 1) = c.i + 1 := wrap64 (by omega) (by omega)
    refine Con.of tok (nt := 58) Go.Proofs.Tryz.func81 (by kernel_rfl) rfl rfl rfl (Nat.le_of_ble_eq_true rfl) fun G => ?_
    simp only [entSt, tmOf, List.append_nil, List.cons_append, List.nil_append, Cur.root]
    repeat' (first
      | (refine WPS.codeAt 33 32 ?_ ?_; (focus (simp; done)); refine fun K hK => ?_; simp -implicitDefEqProofs +contextual [-Int.not_le, -Int.not_lt, -Nat.not_le, -Nat.not_lt, -List.all_eq_true, -List.all_eq_false, -List.any_eq_true, -List.any_eq_false, bC, hi, hlt, hn, hw]; (fail_if_success guard_target =ₛ False); (repeat' (first | refine hK _ ?_ | refine And.intro ?_ ?_ | intro _)) <;> clear hK K)
      | (refine WPS.codeAt 44 39 ?_ ?_; (focus (simp; done)); refine fun K hK => ?_; simp -implicitDefEqProofs +contextual [-Int.not_le, -Int.not_lt, -Nat.not_le, -Nat.not_lt, -List.all_eq_true, -List.all_eq_false, -List.any_eq_true, -List.any_eq_false, bC, hi, hlt, hn, hw]; (fail_if_success guard_target =ₛ False); (repeat' (first | refine hK _ ?_ | refine And.intro ?_ ?_ | intro _)) <;> clear hK K)
      | (refine WPS.rnTo tok 33 _ (by simp; rfl) fun K hK => ?_; simp -implicitDefEqProofs +contextual [-Int.not_le, -Int.not_lt, -Nat.not_le, -Nat.not_lt, -List.all_eq_true, -List.all_eq_false, -List.any_eq_true, -List.any_eq_false, bC, hi, hlt, hn, hw]; (fail_if_success guard_target =ₛ False); (repeat' (first | refine hK _ ?_ | refine And.intro ?_ ?_ | intro _)) <;> clear hK K <;> (try simp only [Nat.reduceAdd, List.drop_succ_cons, List.drop_zero]))
      | (refine WPS.rnTo tok 44 _ (by simp; rfl) fun K hK => ?_; simp -implicitDefEqProofs +contextual [-Int.not_le, -Int.not_lt, -Nat.not_le, -Nat.not_lt, -List.all_eq_true, -List.all_eq_false, -List.any_eq_true, -List.any_eq_false, bC, hi, hlt, hn, hw]; (fail_if_success guard_target =ₛ False); (repeat' (first | refine hK _ ?_ | refine And.intro ?_ ?_ | intro _)) <;> clear hK K <;> (try simp only [Nat.reduceAdd, List.drop_succ_cons, List.drop_zero]))
      | apply WPc.sq
      | (apply WPc.ret; apply endP.sel (is := [0]) (he := .inr rfl); (case hs => rfl); (case hg => rfl); (case h => (simp; rfl)); (case hO => (simp; rfl)); (case hk => (simp; done)))
      | (refine WPc.rq tok rfl fun K hK => ?_; simp -implicitDefEqProofs +contextual [-Int.not_le, -Int.not_lt, -Nat.not_le, -Nat.not_lt, -List.all_eq_true, -List.all_eq_false, -List.any_eq_true, -List.any_eq_false, bC, hi, hlt, hn, hw]; (fail_if_success guard_target =ₛ False); (repeat' (first | refine hK _ ?_ | refine And.intro ?_ ?_ | intro _)) <;> clear hK K)
      | (refine WPc.sched (id := 2) tok [] [(0, []), (1, []), (2, []), (3, []), (4, []), (5, []), (6, []), (7, []), (8, []), (9, []), (10, []), (11, []), (12, [])] (by kernel_rfl) ?_)
      | (refine WPc.sched (id := 3) tok [] [(0, []), (1, []), (2, []), (3, []), (4, []), (5, []), (6, []), (7, []), (8, []), (9, [])] (by kernel_rfl) ?_)
      | (refine WPc.sched (id := 4) tok [] [(0, []), (1, []), (2, []), (3, []), (4, []), (5, []), (6, []), (7, []), (8, []), (9, []), (10, []), (11, []), (12, []), (13, []), (14, [])] (by kernel_rfl) ?_)
      | (refine WPS.nil ?_)
      | (refine WPS.rn tok _ (by simp [aheadS]; rfl) fun K hK => ?_; simp -implicitDefEqProofs +contextual [-Int.not_le, -Int.not_lt, -Nat.not_le, -Nat.not_lt, -List.all_eq_true, -List.all_eq_false, -List.any_eq_true, -List.any_eq_false, bC, hi, hlt, hn, hw]; (fail_if_success guard_target =ₛ False); (repeat' (first | refine hK _ ?_ | refine And.intro ?_ ?_ | intro _)) <;> clear hK K <;> (try simp only [Nat.reduceAdd, List.drop_succ_cons, List.drop_zero]))
      | (refine WPc.condT ?_ ?_; (focus (simp; done))))
    exact ⟨⟨_, ⟨c.i + 1, c.nx⟩⟩, ⟨⟨by simp; omega, by simp; omega, hb⟩, (andI_mask _ 255 (by decide)).1, (andI_mask _ 255 (by decide)).2⟩, rfl, rfl⟩
  · refine Con.of tok (nt := 58) Go.Proofs.Tryz.func81 (by kernel_rfl) rfl rfl rfl (Nat.le_of_ble_eq_true rfl) fun G => ?_
    simp only [entSt, tmOf, List.append_nil, List.cons_append, List.nil_append, Cur.root]
    repeat' (first
      | (refine WPS.codeAt 33 32 ?_ ?_; (focus (simp; done)); refine fun K hK => ?_; simp -implicitDefEqProofs +contextual [-Int.not_le, -Int.not_lt, -Nat.not_le, -Nat.not_lt, -List.all_eq_true, -List.all_eq_false, -List.any_eq_true, -List.any_eq_false, bC, hlt]; (fail_if_success guard_target =ₛ False); (repeat' (first | refine hK _ ?_ | refine And.intro ?_ ?_ | intro _)) <;> clear hK K)
      | (refine WPS.rnTo tok 33 _ (by simp; rfl) fun K hK => ?_; simp -implicitDefEqProofs +contextual [-Int.not_le, -Int.not_lt, -Nat.not_le, -Nat.not_lt, -List.all_eq_true, -List.all_eq_false, -List.any_eq_true, -List.any_eq_false, bC, hlt]; (fail_if_success guard_target =ₛ False); (repeat' (first | refine hK _ ?_ | refine And.intro ?_ ?_ | intro _)) <;> clear hK K <;> (try simp only [Nat.reduceAdd, List.drop_succ_cons, List.drop_zero]))
      | apply WPc.sq
      | (apply WPc.ret; apply endP.sel (is := [0]) (he := .inr rfl); (case hs => rfl); (case hg => rfl); (case h => (simp; rfl)); (case hO => (simp; rfl)); (case hk => (simp; done)))
      | apply WPc.skip
      | (refine WPc.rq tok rfl fun K hK => ?_; simp -implicitDefEqProofs +contextual [-Int.not_le, -Int.not_lt, -Nat.not_le, -Nat.not_lt, -List.all_eq_true, -List.all_eq_false, -List.any_eq_true, -List.any_eq_false, bC, hlt]; (fail_if_success guard_target =ₛ False); (repeat' (first | refine hK _ ?_ | refine And.intro ?_ ?_ | intro _)) <;> clear hK K)
      | (refine WPc.sched (id := 2) tok [] [(0, []), (1, []), (2, []), (3, []), (4, []), (5, []), (6, []), (7, []), (8, []), (9, []), (10, []), (11, []), (12, [])] (by kernel_rfl) ?_)
      | (refine WPc.sched (id := 3) tok [] [(0, []), (1, []), (2, []), (3, []), (4, []), (5, []), (6, []), (7, []), (8, []), (9, [])] (by kernel_rfl) ?_)
      | (refine WPS.nil ?_)
      | (refine WPS.rn tok _ (by simp [aheadS]; rfl) fun K hK => ?_; simp -implicitDefEqProofs +contextual [-Int.not_le, -Int.not_lt, -Nat.not_le, -Nat.not_lt, -List.all_eq_true, -List.all_eq_false, -List.any_eq_true, -List.any_eq_false, bC, hlt]; (fail_if_success guard_target =ₛ False); (repeat' (first | refine hK _ ?_ | refine And.intro ?_ ?_ | intro _)) <;> clear hK K <;> (try simp only [Nat.reduceAdd, List.drop_succ_cons, List.drop_zero]))
      | (refine WPc.condF ?_ ?_; (focus (simp; done))))
    exact ⟨⟨_, ⟨c.i, c.nx⟩⟩, ⟨⟨hi, hl, hb⟩, (andI_mask _ 255 (by decide)).1, (andI_mask _ 255 (by decide)).2⟩, rfl, rfl⟩
def bel (n y : Int) : Prop := 0 ≤ y ∧ (0 < n → y < n) ∧ (n ≤ 0 → y = 0)
theorem bel_mod {n x : Int} (hn : 0 < n) (hx : 0 ≤ x) : bel n (x.tmod n) := ⟨Int.tmod_nonneg n hx, fun _ => Int.tmod_lt_of_pos x hn, fun h => absurd h (by omega)⟩
theorem four_bytes {a b c d : Int} (ha : 0 ≤ a ∧ a ≤ 255) (hb : 0 ≤ b ∧ b ≤ 255) (hc : 0 ≤ c ∧ c ≤ 255) (hd : 0 ≤ d ∧ d ≤ 255) :
    0 ≤ IntKind.i64.wrap (IntKind.i64.wrap (IntKind.i64.wrap (IntKind.i64.wrap (a * 16777216) + IntKind.i64.wrap (b * 65536)) + IntKind.i64.wrap (c * 256)) + d) := by
  rw [wrap64 (x := a * 16777216) (by omega) (by omega), wrap64 (x := b * 65536) (by omega) (by omega), wrap64 (x := c * 256) (by omega) (by omega), wrap64 (x := a * 16777216 + b * 65536) (by omega) (by omega), wrap64 (x := a * 16777216 + b * 65536 + c * 256) (by omega) (by omega), wrap64 (by omega) (by omega)]
  omega
theorem c_spec_l1Below (c : Cur) (n : Int) (hc : c.good) : Con PP 39 [.ptr 0 3 [] 0 0, .sc (.int .i64 n)] [(0, c.root)] [0] (fun r o => ∃ y : Int × Cur, (y.2.good ∧ bel n y.1) ∧ r = .sc (.int .i64 y.1) ∧ o = [(0, y.2.root)]) := by
  by_cases h0 : n ≤ 0
  · refine Con.of tok (nt := 37) Go.Proofs.Tryz.func39 (by kernel_rfl) rfl rfl rfl (Nat.le_of_ble_eq_true rfl) fun G => ?_
    simp only [entSt, tmOf, List.append_nil, List.cons_append, List.nil_append]
    repeat' (first
      | apply WPc.sq
      | (apply WPc.ret; apply endP.sel (is := [0]) (he := .inr rfl); (case hs => rfl); (case hg => rfl); (case h => (simp; rfl)); (case hO => (simp; rfl)); (case hk => (simp; done)))
      | (refine WPc.rq tok rfl fun K hK => ?_; simp -implicitDefEqProofs +contextual [-Int.not_le, -Int.not_lt, -Nat.not_le, -Nat.not_lt, -List.all_eq_true, -List.all_eq_false, -List.any_eq_true, -List.any_eq_false, h0]; (fail_if_success guard_target =ₛ False); (repeat' (first | refine hK _ ?_ | refine And.intro ?_ ?_ | intro _)) <;> clear hK K)
      | (refine WPc.condT ?_ ?_; (focus (simp; done))))
    · exact ⟨(0, c), ⟨hc, Int.le_refl 0, fun h => absurd h (by omega), fun _ => rfl⟩, rfl, rfl⟩
  · have hz : ¬ n = 0 := by omega
    by_cases h1 : n ≤ 256
    · refine Con.of tok (nt := 37) Go.Proofs.Tryz.func39 (by kernel_rfl) rfl rfl rfl (Nat.le_of_ble_eq_true rfl) fun G => ?_
      simp only [entSt, tmOf, List.append_nil, List.cons_append, List.nil_append]
      repeat' (first
        | apply WPc.sq
        | (apply WPc.ret; apply endP.sel (is := [0]) (he := .inr rfl); (case hs => rfl); (case hg => rfl); (case h => (simp; rfl)); (case hO => (simp; rfl)); (case hk => (simp; done)))
        | apply WPc.skip
        | refine WPL.nil ?_
        | (apply WPL.callR (c_spec_l1Byte ⟨_, _⟩ ?g1); (case hg => (simp; done)); (case hd => (simp; done)); (case hl => (first | (simp; done) | (simp; rfl) | (simp -implicitDefEqProofs [h0, h1, hz]; done) | (simp -implicitDefEqProofs [h0, h1, hz]; rfl))); (case hr => (first | (simp; done) | (simp; rfl) | (simp -implicitDefEqProofs [h0, h1, hz]; done) | (simp -implicitDefEqProofs [h0, h1, hz]; rfl))); (case hins => (first | (simp -implicitDefEqProofs [h0, h1, hz]; done) | (simp -implicitDefEqProofs [h0, h1, hz]; rfl) | rfl)); (case he => (first | rfl | (simp -implicitDefEqProofs [h0, h1, hz]; done))); (case hob => (first | (simp -implicitDefEqProofs [h0, h1, hz]; done) | (simp -implicitDefEqProofs [h0, h1, hz]; rfl) | rfl)); (case heo => (first | rfl | (simp -implicitDefEqProofs [h0, h1, hz]; done))); (case g1 => (first | assumption | (simp_all; done))); (case hnw => (intro _; first | (simp; done) | (simp; rfl))); (case hok => (first | (simp; done) | (simp -implicitDefEqProofs [h0, h1, hz]; done))); (case hP => (first | (simp; done) | (simp; rfl) | (simp -implicitDefEqProofs [h0, h1, hz]; done) | (simp -implicitDefEqProofs [h0, h1, hz]; rfl))); (case hS => (first | (simp; done) | (simp; rfl) | (simp -implicitDefEqProofs [h0, h1, hz]; done) | (simp -implicitDefEqProofs [h0, h1, hz]; rfl))); (case hz => (intro _ _; first | (simp; done) | (simp -implicitDefEqProofs [h0, h1, hz]; done))); (intro y hy s hs; simp at hs; subst hs))
        | (refine WPc.rq tok rfl fun K hK => ?_; simp -implicitDefEqProofs +contextual [-Int.not_le, -Int.not_lt, -Nat.not_le, -Nat.not_lt, -List.all_eq_true, -List.all_eq_false, -List.any_eq_true, -List.any_eq_false, h0, h1, hz]; (fail_if_success guard_target =ₛ False); (repeat' (first | refine hK _ ?_ | refine And.intro ?_ ?_ | intro _)) <;> clear hK K)
        | (refine WPL.rn tok _ (by simp [ahead, isFn]; rfl) fun K hK => ?_; simp -implicitDefEqProofs +contextual [-Int.not_le, -Int.not_lt, -Nat.not_le, -Nat.not_lt, -List.all_eq_true, -List.all_eq_false, -List.any_eq_true, -List.any_eq_false, h0, h1, hz]; (fail_if_success guard_target =ₛ False); (repeat' (first | refine hK _ ?_ | refine And.intro ?_ ?_ | intro _)) <;> clear hK K <;> (try simp only [Nat.reduceAdd, List.drop_succ_cons, List.drop_zero]))
        | (refine WPc.region ?_; simp only [List.toList_toArray])
        | (refine WPc.condT ?_ ?_; (focus (simp; done)))
        | (refine WPc.condF ?_ ?_; (focus (simp; done))))
      · exact ⟨(y.1.tmod n, y.2), ⟨hy.1, bel_mod (by omega) hy.2.1⟩, rfl, rfl⟩
    · refine Con.of tok (nt := 37) Go.Proofs.Tryz.func39 (by kernel_rfl) rfl rfl rfl (Nat.le_of_ble_eq_true rfl) fun G => ?_
      simp only [entSt, tmOf, List.append_nil, List.cons_append, List.nil_append]
      repeat' (first
        | apply WPc.sq
        | (apply WPc.ret; apply endP.sel (is := [0]) (he := .inr rfl); (case hs => rfl); (case hg => rfl); (case h => (simp; rfl)); (case hO => (simp; rfl)); (case hk => (simp; done)))
        | apply WPc.skip
        | refine WPL.nil ?_
        | (apply WPL.callR (c_spec_l1Byte ⟨_, _⟩ ?g1); (case hg => (simp; done)); (case hd => (simp; done)); (case hl => (first | (simp; done) | (simp; rfl) | (simp -implicitDefEqProofs [h0, h1, hz]; done) | (simp -implicitDefEqProofs [h0, h1, hz]; rfl))); (case hr => (first | (simp; done) | (simp; rfl) | (simp -implicitDefEqProofs [h0, h1, hz]; done) | (simp -implicitDefEqProofs [h0, h1, hz]; rfl))); (case hins => (first | (simp -implicitDefEqProofs [h0, h1, hz]; done) | (simp -implicitDefEqProofs [h0, h1, hz]; rfl) | rfl)); (case he => (first | rfl | (simp -implicitDefEqProofs [h0, h1, hz]; done))); (case hob => (first | (simp -implicitDefEqProofs [h0, h1, hz]; done) | (simp -implicitDefEqProofs [h0, h1, hz]; rfl) | rfl)); (case heo => (first | rfl | (simp -implicitDefEqProofs [h0, h1, hz]; done))); (case g1 => (first | assumption | (simp_all; done))); (case hnw => (intro _; first | (simp; done) | (simp; rfl))); (case hok => (first | (simp; done) | (simp -implicitDefEqProofs [h0, h1, hz]; done))); (case hP => (first | (simp; done) | (simp; rfl) | (simp -implicitDefEqProofs [h0, h1, hz]; done) | (simp -implicitDefEqProofs [h0, h1, hz]; rfl))); (case hS => (first | (simp; done) | (simp; rfl) | (simp -implicitDefEqProofs [h0, h1, hz]; done) | (simp -implicitDefEqProofs [h0, h1, hz]; rfl))); (case hz => (intro _ _; first | (simp; done) | (simp -implicitDefEqProofs [h0, h1, hz]; done))); (intro y hy s hs; simp at hs; subst hs))
        | (refine WPc.rq tok rfl fun K hK => ?_; simp -implicitDefEqProofs +contextual [-Int.not_le, -Int.not_lt, -Nat.not_le, -Nat.not_lt, -List.all_eq_true, -List.all_eq_false, -List.any_eq_true, -List.any_eq_false, h0, h1, hz]; (fail_if_success guard_target =ₛ False); (repeat' (first | refine hK _ ?_ | refine And.intro ?_ ?_ | intro _)) <;> clear hK K)
        | (refine WPL.rn tok _ (by simp [ahead, isFn]; rfl) fun K hK => ?_; simp -implicitDefEqProofs +contextual [-Int.not_le, -Int.not_lt, -Nat.not_le, -Nat.not_lt, -List.all_eq_true, -List.all_eq_false, -List.any_eq_true, -List.any_eq_false, h0, h1, hz]; (fail_if_success guard_target =ₛ False); (repeat' (first | refine hK _ ?_ | refine And.intro ?_ ?_ | intro _)) <;> clear hK K <;> (try simp only [Nat.reduceAdd, List.drop_succ_cons, List.drop_zero]))
        | (refine WPc.region ?_; simp only [List.toList_toArray])
        | (refine WPc.condF ?_ ?_; (focus (simp; done))))
      · rename_i y1 hy1 y2 hy2 y3 hy3
        refine ⟨(Int.tmod _ n, y.2), ⟨hy.1, ?_⟩, rfl, rfl⟩
        exact bel_mod (by omega) (four_bytes hy1.2 hy2.2 hy3.2 hy.2)
theorem c_spec_l1Once (c : Cur) (n : Int) (hc : c.good) : Con PP 38 [.ptr 0 3 [] 0 0, .sc (.int .i64 n)] [(0, c.root)] [0] (fun r o => ∃ y : Bool × Cur, (y.2.good) ∧ r = .sc (.bool y.1) ∧ o = [(0, y.2.root)]) := by
  refine Con.of tok (nt := 9) Go.Proofs.Tryz.func38 (by kernel_rfl) rfl rfl rfl (Nat.le_of_ble_eq_true rfl) fun G => ?_
  simp only [entSt, tmOf, List.append_nil, List.cons_append, List.nil_append]
  repeat' (first
    | apply WPc.sq
    | (apply WPc.ret; apply endP.sel (is := [0]) (he := .inr rfl); (case hs => rfl); (case hg => rfl); (case h => (simp; rfl)); (case hO => (simp; rfl)); (case hk => (simp; done)))
    | refine WPL.nil ?_
    | (apply WPL.callR (c_spec_l1Below ⟨_, _⟩ _ ?g1); (case hg => (simp; done)); (case hd => (simp; done)); (case hl => (first | (simp; done) | (simp; rfl) | (simp -implicitDefEqProofs; done) | (simp -implicitDefEqProofs; rfl))); (case hr => (first | (simp; done) | (simp; rfl) | (simp -implicitDefEqProofs; done) | (simp -implicitDefEqProofs; rfl))); (case hins => (first | (simp -implicitDefEqProofs; done) | (simp -implicitDefEqProofs; rfl) | rfl)); (case he => (first | rfl | (simp -implicitDefEqProofs; done))); (case hob => (first | (simp -implicitDefEqProofs; done) | (simp -implicitDefEqProofs; rfl) | rfl)); (case heo => (first | rfl | (simp -implicitDefEqProofs; done))); (case g1 => (first | assumption | (simp_all; done))); (case hnw => (intro _; first | (simp; done) | (simp; rfl))); (case hok => (first | (simp; done) | (simp -implicitDefEqProofs; done))); (case hP => (first | (simp; done) | (simp; rfl) | (simp -implicitDefEqProofs; done) | (simp -implicitDefEqProofs; rfl))); (case hS => (first | (simp; done) | (simp; rfl) | (simp -implicitDefEqProofs; done) | (simp -implicitDefEqProofs; rfl))); (case hz => (intro _ _; first | (simp; done) | (simp -implicitDefEqProofs; done))); (intro y hy s hs; simp at hs; subst hs))
    | (refine WPc.rq tok rfl fun K hK => ?_; simp -implicitDefEqProofs +contextual [-Int.not_le, -Int.not_lt, -Nat.not_le, -Nat.not_lt, -List.all_eq_true, -List.all_eq_false, -List.any_eq_true, -List.any_eq_false]; (fail_if_success guard_target =ₛ False); (repeat' (first | refine hK _ ?_ | refine And.intro ?_ ?_ | intro _)) <;> clear hK K)
    | (refine WPL.rn tok _ (by simp [ahead, isFn]; rfl) fun K hK => ?_; simp -implicitDefEqProofs +contextual [-Int.not_le, -Int.not_lt, -Nat.not_le, -Nat.not_lt, -List.all_eq_true, -List.all_eq_false, -List.any_eq_true, -List.any_eq_false]; (fail_if_success guard_target =ₛ False); (repeat' (first | refine hK _ ?_ | refine And.intro ?_ ?_ | intro _)) <;> clear hK K <;> (try simp only [Nat.reduceAdd, List.drop_succ_cons, List.drop_zero]))
    | (refine WPc.region ?_; simp only [List.toList_toArray]))
  · exact ⟨(_, y.2), hy.1, rfl, rfl⟩
theorem c_spec_l1Pick (c : Cur) (l : List ByteArray) (hc : c.good) (h0 : 0 < l.length) : Con PP 36 [.ptr 0 3 [] 0 0, .fz (l.map sC)] [(0, c.root)] [0] (fun r o => ∃ y : ByteArray × Cur, (y.2.good ∧ y.1 ∈ l) ∧ r = .sc (.string y.1) ∧ o = [(0, y.2.root)]) := by
  refine Con.of tok (nt := 12) Go.Proofs.Tryz.func36 (by kernel_rfl) rfl rfl rfl (Nat.le_of_ble_eq_true rfl) fun G => ?_
  simp only [entSt, tmOf, List.append_nil, List.cons_append, List.nil_append]
  repeat' (first
    | apply WPc.sq
    | (apply WPL.callR (c_spec_l1Below ⟨_, _⟩ _ ?g1); (case hg => (simp; done)); (case hd => (simp; done)); (case hl => (first | (simp; done) | (simp; rfl) | (simp -implicitDefEqProofs [sC]; done) | (simp -implicitDefEqProofs [sC]; rfl))); (case hr => (first | (simp; done) | (simp; rfl) | (simp -implicitDefEqProofs [sC]; done) | (simp -implicitDefEqProofs [sC]; rfl))); (case hins => (first | (simp -implicitDefEqProofs [sC]; done) | (simp -implicitDefEqProofs [sC]; rfl) | rfl)); (case he => (first | rfl | (simp -implicitDefEqProofs [sC]; done))); (case hob => (first | (simp -implicitDefEqProofs [sC]; done) | (simp -implicitDefEqProofs [sC]; rfl) | rfl)); (case heo => (first | rfl | (simp -implicitDefEqProofs [sC]; done))); (case g1 => (first | assumption | (simp_all; done))); (case hnw => (intro _; first | (simp; done) | (simp; rfl))); (case hok => (first | (simp; done) | (simp -implicitDefEqProofs [sC]; done))); (case hP => (first | (simp; done) | (simp; rfl) | (simp -implicitDefEqProofs [sC]; done) | (simp -implicitDefEqProofs [sC]; rfl))); (case hS => (first | (simp; done) | (simp; rfl) | (simp -implicitDefEqProofs [sC]; done) | (simp -implicitDefEqProofs [sC]; rfl))); (case hz => (intro _ _; first | (simp; done) | (simp -implicitDefEqProofs [sC]; done))); (intro y hy s hs; simp at hs; subst hs))
    | (refine WPc.rq tok rfl fun K hK => ?_; simp -implicitDefEqProofs +contextual [-Int.not_le, -Int.not_lt, -Nat.not_le, -Nat.not_lt, -List.all_eq_true, -List.all_eq_false, -List.any_eq_true, -List.any_eq_false, sC]; (fail_if_success guard_target =ₛ False); (repeat' (first | refine hK _ ?_ | refine And.intro ?_ ?_ | intro _)) <;> clear hK K)
    | (refine WPL.rn tok _ (by simp [ahead, isFn]; rfl) fun K hK => ?_; simp -implicitDefEqProofs +contextual [-Int.not_le, -Int.not_lt, -Nat.not_le, -Nat.not_lt, -List.all_eq_true, -List.all_eq_false, -List.any_eq_true, -List.any_eq_false, sC]; (fail_if_success guard_target =ₛ False); (repeat' (first | refine hK _ ?_ | refine And.intro ?_ ?_ | intro _)) <;> clear hK K <;> (try simp only [Nat.reduceAdd, List.drop_succ_cons, List.drop_zero]))
    | (refine WPc.region ?_; simp only [List.toList_toArray]))
  obtain ⟨hg, g0, g1, _⟩ := hy
  have g1 := g1 (by omega)
  have hn : y.1.toNat < l.length := by omega
  repeat' (first
    | (apply WPc.ret; apply endP.sel (is := [0]) (he := .inr rfl); (case hs => rfl); (case hg => rfl); (case h => (simp; rfl)); (case hO => (simp; rfl)); (case hk => (simp; done)))
    | refine WPL.nil ?_
    | (refine WPL.rn tok _ (by simp [ahead, isFn]; rfl) fun K hK => ?_; simp -implicitDefEqProofs +contextual [-Int.not_le, -Int.not_lt, -Nat.not_le, -Nat.not_lt, -List.all_eq_true, -List.all_eq_false, -List.any_eq_true, -List.any_eq_false, sC, g0, g1, hn]; (fail_if_success guard_target =ₛ False); (repeat' (first | refine hK _ ?_ | refine And.intro ?_ ?_ | intro _)) <;> clear hK K <;> (try simp only [Nat.reduceAdd, List.drop_succ_cons, List.drop_zero])))
  · exact ⟨(l[y.1.toNat], y.2), ⟨hg, List.getElem_mem hn⟩, rfl, rfl⟩
def iC (x : Int) : List C := [.sc (.int .i64 x)]
@[simp] theorem iC.len (c : Int) : (iC c).length = 1 := rfl
@[simp] theorem iC.frz (c : Int) : (iC c).map Own.frz = iC c := rfl
@[simp] theorem iC.pln (c : Int) : (iC c).all plainC = true := rfl
@[simp] theorem iC.lenA (l : List Int) : lenAll 1 (l.map iC) = true := lenAll_map iC.len l
@[simp] theorem iC.frzA (l : List Int) : frzAll (l.map iC) = l.map iC := frzAll_map iC.frz l
@[simp] theorem iC.plnA (l : List Int) : plainAll (l.map iC) = true := plainAll_map iC.pln l
theorem c_spec_l1PickInt (c : Cur) (l : List Int) (hc : c.good) (h0 : 0 < l.length) : Con PP 42 [.ptr 0 3 [] 0 0, .fz (l.map iC)] [(0, c.root)] [0] (fun r o => ∃ y : Int × Cur, (y.2.good ∧ y.1 ∈ l) ∧ r = .sc (.int .i64 y.1) ∧ o = [(0, y.2.root)]) := by
  refine Con.of tok (nt := 12) Go.Proofs.Tryz.func42 (by kernel_rfl) rfl rfl rfl (Nat.le_of_ble_eq_true rfl) fun G => ?_
  simp only [entSt, tmOf, List.append_nil, List.cons_append, List.nil_append]
  repeat' (first
    | apply WPc.sq
    | (apply WPL.callR (c_spec_l1Below ⟨_, _⟩ _ ?g1); (case hg => (simp; done)); (case hd => (simp; done)); (case hl => (first | (simp; done) | (simp; rfl) | (simp -implicitDefEqProofs [iC]; done) | (simp -implicitDefEqProofs [iC]; rfl))); (case hr => (first | (simp; done) | (simp; rfl) | (simp -implicitDefEqProofs [iC]; done) | (simp -implicitDefEqProofs [iC]; rfl))); (case hins => (first | (simp -implicitDefEqProofs [iC]; done) | (simp -implicitDefEqProofs [iC]; rfl) | rfl)); (case he => (first | rfl | (simp -implicitDefEqProofs [iC]; done))); (case hob => (first | (simp -implicitDefEqProofs [iC]; done) | (simp -implicitDefEqProofs [iC]; rfl) | rfl)); (case heo => (first | rfl | (simp -implicitDefEqProofs [iC]; done))); (case g1 => (first | assumption | (simp_all; done))); (case hnw => (intro _; first | (simp; done) | (simp; rfl))); (case hok => (first | (simp; done) | (simp -implicitDefEqProofs [iC]; done))); (case hP => (first | (simp; done) | (simp; rfl) | (simp -implicitDefEqProofs [iC]; done) | (simp -implicitDefEqProofs [iC]; rfl))); (case hS => (first | (simp; done) | (simp; rfl) | (simp -implicitDefEqProofs [iC]; done) | (simp -implicitDefEqProofs [iC]; rfl))); (case hz => (intro _ _; first | (simp; done) | (simp -implicitDefEqProofs [iC]; done))); (intro y hy s hs; simp at hs; subst hs))
    | (refine WPc.rq tok rfl fun K hK => ?_; simp -implicitDefEqProofs +contextual [-Int.not_le, -Int.not_lt, -Nat.not_le, -Nat.not_lt, -List.all_eq_true, -List.all_eq_false, -List.any_eq_true, -List.any_eq_false, iC]; (fail_if_success guard_target =ₛ False); (repeat' (first | refine hK _ ?_ | refine And.intro ?_ ?_ | intro _)) <;> clear hK K)
    | (refine WPL.rn tok _ (by simp [ahead, isFn]; rfl) fun K hK => ?_; simp -implicitDefEqProofs +contextual [-Int.not_le, -Int.not_lt, -Nat.not_le, -Nat.not_lt, -List.all_eq_true, -List.all_eq_false, -List.any_eq_true, -List.any_eq_false, iC]; (fail_if_success guard_target =ₛ False); (repeat' (first | refine hK _ ?_ | refine And.intro ?_ ?_ | intro _)) <;> clear hK K <;> (try simp only [Nat.reduceAdd, List.drop_succ_cons, List.drop_zero]))
    | (refine WPc.region ?_; simp only [List.toList_toArray]))
  obtain ⟨hg, g0, g1, _⟩ := hy
  have g1 := g1 (by omega)
  have hn : y.1.toNat < l.length := by omega
  repeat' (first
    | (apply WPc.ret; apply endP.sel (is := [0]) (he := .inr rfl); (case hs => rfl); (case hg => rfl); (case h => (simp; rfl)); (case hO => (simp; rfl)); (case hk => (simp; done)))
    | refine WPL.nil ?_
    | (refine WPL.rn tok _ (by simp [ahead, isFn]; rfl) fun K hK => ?_; simp -implicitDefEqProofs +contextual [-Int.not_le, -Int.not_lt, -Nat.not_le, -Nat.not_lt, -List.all_eq_true, -List.all_eq_false, -List.any_eq_true, -List.any_eq_false, iC, g0, g1, hn]; (fail_if_success guard_target =ₛ False); (repeat' (first | refine hK _ ?_ | refine And.intro ?_ ?_ | intro _)) <;> clear hK K <;> (try simp only [Nat.reduceAdd, List.drop_succ_cons, List.drop_zero])))
  · exact ⟨(l[y.1.toNat], y.2), ⟨hg, List.getElem_mem hn⟩, rfl, rfl⟩
theorem c_spec_l1New (hb : K.b.length ≤ 2097152) : Con PP 33 [.sc K.u] [] [] (fun r o => ∃ y : Cur, (y.good) ∧ r = .ptr 31 3 [] 0 0 ∧ o = [(31, y.root)]) := by
  refine Con.of tok (nt := 32) Go.Proofs.Tryz.func33 (by kernel_rfl) rfl rfl rfl (Nat.le_of_ble_eq_true rfl) fun G => ?_
  simp only [entSt, tmOf, List.append_nil, List.cons_append, List.nil_append]
  repeat' (first
    | (refine WPL.codeAt 6 5 ?_ ?_; (focus (simp; done)); refine fun K hK => ?_; simp -implicitDefEqProofs +contextual [-Int.not_le, -Int.not_lt, -Nat.not_le, -Nat.not_lt, -List.all_eq_true, -List.all_eq_false, -List.any_eq_true, -List.any_eq_false, bC]; (fail_if_success guard_target =ₛ False); (repeat' (first | refine hK _ ?_ | refine And.intro ?_ ?_ | intro _)) <;> clear hK K)
    | (refine WPL.rnTo tok 6 _ (by simp [isFn]; rfl) fun K hK => ?_; simp -implicitDefEqProofs +contextual [-Int.not_le, -Int.not_lt, -Nat.not_le, -Nat.not_lt, -List.all_eq_true, -List.all_eq_false, -List.any_eq_true, -List.any_eq_false, bC]; (fail_if_success guard_target =ₛ False); (repeat' (first | refine hK _ ?_ | refine And.intro ?_ ?_ | intro _)) <;> clear hK K <;> (try simp only [Nat.reduceAdd, List.drop_succ_cons, List.drop_zero]))
    | apply WPc.sq
    | apply WPc.block
    | refine WPL.nil ?_
    | (refine WPc.rq tok rfl fun K hK => ?_; simp -implicitDefEqProofs +contextual [-Int.not_le, -Int.not_lt, -Nat.not_le, -Nat.not_lt, -List.all_eq_true, -List.all_eq_false, -List.any_eq_true, -List.any_eq_false, bC]; (fail_if_success guard_target =ₛ False); (repeat' (first | refine hK _ ?_ | refine And.intro ?_ ?_ | intro _)) <;> clear hK K)
    | (refine WPL.rn tok _ (by simp [ahead, isFn]; rfl) fun K hK => ?_; simp -implicitDefEqProofs +contextual [-Int.not_le, -Int.not_lt, -Nat.not_le, -Nat.not_lt, -List.all_eq_true, -List.all_eq_false, -List.any_eq_true, -List.any_eq_false, bC]; (fail_if_success guard_target =ₛ False); (repeat' (first | refine hK _ ?_ | refine And.intro ?_ ?_ | intro _)) <;> clear hK K <;> (try simp only [Nat.reduceAdd, List.drop_succ_cons, List.drop_zero]))
    | (refine WPc.region ?_; simp only [List.toList_toArray]))
  refine WPc.loopK (σ := Nat × Int) (fun x => x.1 ≤ K.b.length) (fun x => K.b.length - x.1) (fun x => [(4, .sc (.int .i64 x.1)), (3, .sc (.int .i64 x.2))])  [0] (0, IntKind.i64.wrap (10101 + (K.b.length : Int))) (by simp) (by simp) (Nat.zero_le _) ?_
  rintro ⟨i, v⟩ hI s hs
  simp at hs
  subst hs
  dsimp only at hI ⊢
  by_cases hlt : i < K.b.length ∧ i < 4000
  · obtain ⟨hlt, h4⟩ := hlt
    have hw : IntKind.i64.wrap ((i : Int) + 1) = i + 1 := wrap64 (by omega) (by omega)
    repeat' (first
      | (refine WPL.codeAt 10 9 ?_ ?_; (focus (simp; done)); refine fun K hK => ?_; simp -implicitDefEqProofs +contextual [-Int.not_le, -Int.not_lt, -Nat.not_le, -Nat.not_lt, -List.all_eq_true, -List.all_eq_false, -List.any_eq_true, -List.any_eq_false, bC, hlt, h4, hw]; (fail_if_success guard_target =ₛ False); (repeat' (first | refine hK _ ?_ | refine And.intro ?_ ?_ | intro _)) <;> clear hK K)
      | (refine WPL.codeAt 22 20 ?_ ?_; (focus (simp; done)); refine fun K hK => ?_; simp -implicitDefEqProofs +contextual [-Int.not_le, -Int.not_lt, -Nat.not_le, -Nat.not_lt, -List.all_eq_true, -List.all_eq_false, -List.any_eq_true, -List.any_eq_false, bC, hlt, h4, hw]; (fail_if_success guard_target =ₛ False); (repeat' (first | refine hK _ ?_ | refine And.intro ?_ ?_ | intro _)) <;> clear hK K)
      | (refine WPL.rnTo tok 10 _ (by simp [isFn]; rfl) fun K hK => ?_; simp -implicitDefEqProofs +contextual [-Int.not_le, -Int.not_lt, -Nat.not_le, -Nat.not_lt, -List.all_eq_true, -List.all_eq_false, -List.any_eq_true, -List.any_eq_false, bC, hlt, h4, hw]; (fail_if_success guard_target =ₛ False); (repeat' (first | refine hK _ ?_ | refine And.intro ?_ ?_ | intro _)) <;> clear hK K <;> (try simp only [Nat.reduceAdd, List.drop_succ_cons, List.drop_zero]))
      | (refine WPL.rnTo tok 22 _ (by simp [isFn]; rfl) fun K hK => ?_; simp -implicitDefEqProofs +contextual [-Int.not_le, -Int.not_lt, -Nat.not_le, -Nat.not_lt, -List.all_eq_true, -List.all_eq_false, -List.any_eq_true, -List.any_eq_false, bC, hlt, h4, hw]; (fail_if_success guard_target =ₛ False); (repeat' (first | refine hK _ ?_ | refine And.intro ?_ ?_ | intro _)) <;> clear hK K <;> (try simp only [Nat.reduceAdd, List.drop_succ_cons, List.drop_zero]))
      | apply WPc.sq
      | apply WPc.block
      | apply WPc.skip
      | refine WPL.nil ?_
      | (refine WPc.rq tok rfl fun K hK => ?_; simp -implicitDefEqProofs +contextual [-Int.not_le, -Int.not_lt, -Nat.not_le, -Nat.not_lt, -List.all_eq_true, -List.all_eq_false, -List.any_eq_true, -List.any_eq_false, bC, hlt, h4, hw]; (fail_if_success guard_target =ₛ False); (repeat' (first | refine hK _ ?_ | refine And.intro ?_ ?_ | intro _)) <;> clear hK K)
      | (refine WPL.rn tok _ (by simp [ahead, isFn]; rfl) fun K hK => ?_; simp -implicitDefEqProofs +contextual [-Int.not_le, -Int.not_lt, -Nat.not_le, -Nat.not_lt, -List.all_eq_true, -List.all_eq_false, -List.any_eq_true, -List.any_eq_false, bC, hlt, h4, hw]; (fail_if_success guard_target =ₛ False); (repeat' (first | refine hK _ ?_ | refine And.intro ?_ ?_ | intro _)) <;> clear hK K <;> (try simp only [Nat.reduceAdd, List.drop_succ_cons, List.drop_zero]))
      | (refine WPc.region ?_; simp only [List.toList_toArray])
      | (refine WPc.cond (by simp [-Bool.not_eq_eq_eq_not]; rfl) (fun hq => ?_) (fun hq => ?_) <;> simp only [hq] <;> (try (exfalso; (simp only [decide_eq_true_eq, decide_eq_false_iff_not] at hq); omega))))
    refine ⟨(i + 1, andI (IntKind.i64.wrap (IntKind.i64.wrap (IntKind.i64.wrap (v * 131) + IntKind.i64.wrap K.b[i]) + 7)) 1073741823), ⟨by simp; omega, by first | omega | (simp only; omega) | assumption⟩, rfl, rfl, ?_, ?_⟩ <;> simp (disch := omega) [wrap64]
  · by_cases hl2 : i < K.b.length
    · have h4 : ¬ i < 4000 := fun h => hlt ⟨hl2, h⟩
      repeat' (first
        | (refine WPL.codeAt 10 9 ?_ ?_; (focus (simp; done)); refine fun K hK => ?_; simp -implicitDefEqProofs +contextual [-Int.not_le, -Int.not_lt, -Nat.not_le, -Nat.not_lt, -List.all_eq_true, -List.all_eq_false, -List.any_eq_true, -List.any_eq_false, bC, hl2, h4]; (fail_if_success guard_target =ₛ False); (repeat' (first | refine hK _ ?_ | refine And.intro ?_ ?_ | intro _)) <;> clear hK K)
        | (refine WPL.rnTo tok 10 _ (by simp [isFn]; rfl) fun K hK => ?_; simp -implicitDefEqProofs +contextual [-Int.not_le, -Int.not_lt, -Nat.not_le, -Nat.not_lt, -List.all_eq_true, -List.all_eq_false, -List.any_eq_true, -List.any_eq_false, bC, hl2, h4]; (fail_if_success guard_target =ₛ False); (repeat' (first | refine hK _ ?_ | refine And.intro ?_ ?_ | intro _)) <;> clear hK K <;> (try simp only [Nat.reduceAdd, List.drop_succ_cons, List.drop_zero]))
        | apply WPc.sq
        | (apply WPc.ret; apply endP.sel (is := [31]) (he := .inr rfl); (case hs => rfl); (case hg => rfl); (case h => (simp; rfl)); (case hO => (simp; rfl)); (case hk => (simp; done)))
        | apply WPc.exit
        | refine WPL.nil ?_
        | (refine WPc.rq tok rfl fun K hK => ?_; simp -implicitDefEqProofs +contextual [-Int.not_le, -Int.not_lt, -Nat.not_le, -Nat.not_lt, -List.all_eq_true, -List.all_eq_false, -List.any_eq_true, -List.any_eq_false, bC, hl2, h4]; (fail_if_success guard_target =ₛ False); (repeat' (first | refine hK _ ?_ | refine And.intro ?_ ?_ | intro _)) <;> clear hK K)
        | (refine WPL.rn tok _ (by simp [ahead, isFn]; rfl) fun K hK => ?_; simp -implicitDefEqProofs +contextual [-Int.not_le, -Int.not_lt, -Nat.not_le, -Nat.not_lt, -List.all_eq_true, -List.all_eq_false, -List.any_eq_true, -List.any_eq_false, bC, hl2, h4]; (fail_if_success guard_target =ₛ False); (repeat' (first | refine hK _ ?_ | refine And.intro ?_ ?_ | intro _)) <;> clear hK K <;> (try simp only [Nat.reduceAdd, List.drop_succ_cons, List.drop_zero]))
        | (refine WPc.region ?_; simp only [List.toList_toArray])
        | (refine WPc.cond (by simp [-Bool.not_eq_eq_eq_not]; rfl) (fun hq => ?_) (fun hq => ?_) <;> simp only [hq] <;> (try (exfalso; (simp only [decide_eq_true_eq, decide_eq_false_iff_not] at hq); omega))))
      exact ⟨⟨0, v⟩, ⟨Int.le_refl 0, by simp, hb⟩, rfl, rfl⟩
    · repeat' (first
        | (refine WPL.codeAt 10 9 ?_ ?_; (focus (simp; done)); refine fun K hK => ?_; simp -implicitDefEqProofs +contextual [-Int.not_le, -Int.not_lt, -Nat.not_le, -Nat.not_lt, -List.all_eq_true, -List.all_eq_false, -List.any_eq_true, -List.any_eq_false, bC, hl2]; (fail_if_success guard_target =ₛ False); (repeat' (first | refine hK _ ?_ | refine And.intro ?_ ?_ | intro _)) <;> clear hK K)
        | (refine WPL.rnTo tok 10 _ (by simp [isFn]; rfl) fun K hK => ?_; simp -implicitDefEqProofs +contextual [-Int.not_le, -Int.not_lt, -Nat.not_le, -Nat.not_lt, -List.all_eq_true, -List.all_eq_false, -List.any_eq_true, -List.any_eq_false, bC, hl2]; (fail_if_success guard_target =ₛ False); (repeat' (first | refine hK _ ?_ | refine And.intro ?_ ?_ | intro _)) <;> clear hK K <;> (try simp only [Nat.reduceAdd, List.drop_succ_cons, List.drop_zero]))
        | apply WPc.sq
        | (apply WPc.ret; apply endP.sel (is := [31]) (he := .inr rfl); (case hs => rfl); (case hg => rfl); (case h => (simp; rfl)); (case hO => (simp; rfl)); (case hk => (simp; done)))
        | apply WPc.exit
        | refine WPL.nil ?_
        | (refine WPc.rq tok rfl fun K hK => ?_; simp -implicitDefEqProofs +contextual [-Int.not_le, -Int.not_lt, -Nat.not_le, -Nat.not_lt, -List.all_eq_true, -List.all_eq_false, -List.any_eq_true, -List.any_eq_false, bC, hl2]; (fail_if_success guard_target =ₛ False); (repeat' (first | refine hK _ ?_ | refine And.intro ?_ ?_ | intro _)) <;> clear hK K)
        | (refine WPL.rn tok _ (by simp [ahead, isFn]; rfl) fun K hK => ?_; simp -implicitDefEqProofs +contextual [-Int.not_le, -Int.not_lt, -Nat.not_le, -Nat.not_lt, -List.all_eq_true, -List.all_eq_false, -List.any_eq_true, -List.any_eq_false, bC, hl2]; (fail_if_success guard_target =ₛ False); (repeat' (first | refine hK _ ?_ | refine And.intro ?_ ?_ | intro _)) <;> clear hK K <;> (try simp only [Nat.reduceAdd, List.drop_succ_cons, List.drop_zero]))
        | (refine WPc.region ?_; simp only [List.toList_toArray])
        | (refine WPc.condF ?_ ?_; (focus (simp; done))))
      exact ⟨⟨0, v⟩, ⟨Int.le_refl 0, by simp, hb⟩, rfl, rfl⟩
end Go.Own
set_option linter.unusedVariables false
set_option linter.unusedSimpArgs false
set_option linter.unusedSectionVars false
set_option maxRecDepth 1000000
set_option maxHeartbeats 4000000
namespace Go.Own
attribute [local irreducible] WPc WPL WPS WPS1 WPS2 HAny endP
variable [Laid] [K : Code]
open Go.Lib Go.RowKit
theorem c_spec_l1Below_fin (c : Cur) (n : Nat) (hc : c.good) (hn : 0 < n) : Con PP 39 [.ptr 0 3 [] 0 0, .sc (.int .i64 (n : Int))] [(0, c.root)] [0] (fun r o => ∃ y : Fin n × Cur, (y.2.good) ∧ r = .sc (.int .i64 (y.1.val : Int)) ∧ o = [(0, y.2.root)]) :=
  (c_spec_l1Below c n hc).mono fun r o ⟨y, ⟨h1, h2, h3, _⟩, h4, h5⟩ => by
    have h3 := h3 (by omega)
    refine ⟨(⟨y.1.toNat, by omega⟩, y.2), h1, ?_, h5⟩
    rw [h4]; simp [Int.toNat_of_nonneg h2]
def sA : ByteArray := ⟨#[97]⟩
def sX : ByteArray := ⟨#[120]⟩
def sIf : ByteArray := ⟨#[105, 102]⟩
theorem c_spec_l1PickInt_a (c : Cur) (hc : c.good) : Con PP 42 [.ptr 0 3 [] 0 0, .fz [[.sc (.int .i64 0)], [.sc (.int .i64 1)], [.sc (.int .i64 7)], [.sc (.int .i64 (-3))], [.sc (.int .i64 1000000)], [.sc (.int .i64 40)]]] [(0, c.root)] [0] (fun r o => ∃ y : Int × Cur, (y.2.good) ∧ r = .sc (.int .i64 y.1) ∧ o = [(0, y.2.root)]) :=
  (c_spec_l1PickInt c [0, 1, 7, -3, 1000000, 40] hc (by decide)).mono fun r o ⟨y, h, h2⟩ => ⟨y, h.1, h2⟩
theorem c_spec_l1PickInt_b (c : Cur) (hc : c.good) : Con PP 42 [.ptr 0 3 [] 0 0, .fz [[.sc (.int .i64 (-1))], [.sc (.int .i64 2)], [.sc (.int .i64 9)], [.sc (.int .i64 1000001)]]] [(0, c.root)] [0] (fun r o => ∃ y : Int × Cur, (y.2.good) ∧ r = .sc (.int .i64 y.1) ∧ o = [(0, y.2.root)]) :=
  (c_spec_l1PickInt c [-1, 2, 9, 1000001] hc (by decide)).mono fun r o ⟨y, h, h2⟩ => ⟨y, h.1, h2⟩
theorem c_spec_l1Pick_a (c : Cur) (hc : c.good) : Con PP 36 [.ptr 0 3 [] 0 0, .fz [[.sc (.string sA)], [.sc (.string sX)], [.sc (.string sIf)]]] [(0, c.root)] [0] (fun r o => ∃ y : ByteArray × Cur, (y.2.good ∧ y.1.size < 4294967000) ∧ r = .sc (.string y.1) ∧ o = [(0, y.2.root)]) :=
  (c_spec_l1Pick c [sA, sX, sIf] hc (by decide)).mono fun r o ⟨y, h, h2⟩ => ⟨y, ⟨h.1, by have := h.2; simp at this; rcases this with h | h | h <;> rw [h] <;> decide⟩, h2⟩
theorem c_spec_l6Val (c : Cur) (h : List Cl) (hc : c.good) : Con PP 80 [.ptr 0 3 [] 0 0, .fz (h.map Cl.cs)] [(0, c.root)] [0] (fun r o => ∃ y : V × Cur, (y.2.good ∧ y.1.sm) ∧ r = y.1.av ∧ o = [(0, y.2.root)]) := by
  by_cases h0 : 0 < h.length
  · refine Con.of tok (nt := 55) Go.Proofs.Tryz.func80 (by kernel_rfl) rfl rfl rfl (Nat.le_of_ble_eq_true rfl) fun G => ?_
    simp only [entSt, tmOf, List.append_nil, List.cons_append, List.nil_append, V.av]
    repeat' (first
      | apply WPc.sq
      | apply WPc.block
      | (apply WPc.ret; apply endP.sel (is := [0]) (he := .inr rfl); (case hs => rfl); (case hg => rfl); (case h => (simp; rfl)); (case hO => (simp; rfl)); (case hk => (simp; done)))
      | apply WPc.skip
      | refine WPL.nil ?_
      | (apply WPL.callR (c_spec_l1Once ⟨_, _⟩ _ ?g1); (case hg => (simp; done)); (case hd => (simp; done)); (case hl => (first | (simp; done) | (simp; rfl) | (simp -implicitDefEqProofs [h0, Cl.cs, V.cs]; done) | (simp -implicitDefEqProofs [h0, Cl.cs, V.cs]; rfl))); (case hr => (first | (simp; done) | (simp; rfl) | (simp -implicitDefEqProofs [h0, Cl.cs, V.cs]; done) | (simp -implicitDefEqProofs [h0, Cl.cs, V.cs]; rfl))); (case hins => (first | (simp -implicitDefEqProofs [h0, Cl.cs, V.cs]; done) | (simp -implicitDefEqProofs [h0, Cl.cs, V.cs]; rfl) | rfl)); (case he => (first | rfl | (simp -implicitDefEqProofs [h0, Cl.cs, V.cs]; done))); (case hob => (first | (simp -implicitDefEqProofs [h0, Cl.cs, V.cs]; done) | (simp -implicitDefEqProofs [h0, Cl.cs, V.cs]; rfl) | rfl)); (case heo => (first | rfl | (simp -implicitDefEqProofs [h0, Cl.cs, V.cs]; done))); (case g1 => (first | assumption | omega | decide | (simp_all; done))); (case hnw => (intro _; first | (simp; done) | (simp; rfl))); (case hok => (first | (simp; done) | (simp -implicitDefEqProofs [h0, Cl.cs, V.cs]; done))); (case hP => (first | (simp; done) | (simp; rfl) | (simp -implicitDefEqProofs [h0, Cl.cs, V.cs]; done) | (simp -implicitDefEqProofs [h0, Cl.cs, V.cs]; rfl))); (case hS => (first | (simp; done) | (simp; rfl) | (simp -implicitDefEqProofs [h0, Cl.cs, V.cs]; done) | (simp -implicitDefEqProofs [h0, Cl.cs, V.cs]; rfl))); (case hz => (intro _ _; first | (simp; done) | (simp -implicitDefEqProofs [h0, Cl.cs, V.cs]; done))); (intro y hy s hs; simp at hs; subst hs))
      | (apply WPL.callR (c_spec_l1Below_fin ⟨_, _⟩ _ ?g1 ?g2); (case hg => (simp; done)); (case hd => (simp; done)); (case hl => (first | (simp; done) | (simp; rfl) | (simp -implicitDefEqProofs [h0, Cl.cs, V.cs]; done) | (simp -implicitDefEqProofs [h0, Cl.cs, V.cs]; rfl))); (case hr => (first | (simp; done) | (simp; rfl) | (simp -implicitDefEqProofs [h0, Cl.cs, V.cs]; done) | (simp -implicitDefEqProofs [h0, Cl.cs, V.cs]; rfl))); (case hins => (first | (simp -implicitDefEqProofs [h0, Cl.cs, V.cs]; done) | (simp -implicitDefEqProofs [h0, Cl.cs, V.cs]; rfl) | rfl)); (case he => (first | rfl | (simp -implicitDefEqProofs [h0, Cl.cs, V.cs]; done))); (case hob => (first | (simp -implicitDefEqProofs [h0, Cl.cs, V.cs]; done) | (simp -implicitDefEqProofs [h0, Cl.cs, V.cs]; rfl) | rfl)); (case heo => (first | rfl | (simp -implicitDefEqProofs [h0, Cl.cs, V.cs]; done))); (case g1 => (first | assumption | omega | decide | (simp_all; done))); (case g2 => (first | assumption | omega | decide | (simp_all; done))); (case hnw => (intro _; first | (simp; done) | (simp; rfl))); (case hok => (first | (simp; done) | (simp -implicitDefEqProofs [h0, Cl.cs, V.cs]; done))); (case hP => (first | (simp; done) | (simp; rfl) | (simp -implicitDefEqProofs [h0, Cl.cs, V.cs]; done) | (simp -implicitDefEqProofs [h0, Cl.cs, V.cs]; rfl))); (case hS => (first | (simp; done) | (simp; rfl) | (simp -implicitDefEqProofs [h0, Cl.cs, V.cs]; done) | (simp -implicitDefEqProofs [h0, Cl.cs, V.cs]; rfl))); (case hz => (intro _ _; first | (simp; done) | (simp -implicitDefEqProofs [h0, Cl.cs, V.cs]; done))); (intro y hy s hs; simp at hs; subst hs))
      | (apply WPL.callR (c_spec_l1PickInt_a ⟨_, _⟩ ?g1); (case hg => (simp; done)); (case hd => (simp; done)); (case hl => (first | (simp; done) | (simp; rfl) | (simp -implicitDefEqProofs [h0, Cl.cs, V.cs]; done) | (simp -implicitDefEqProofs [h0, Cl.cs, V.cs]; rfl))); (case hr => (first | (simp; done) | (simp; rfl) | (simp -implicitDefEqProofs [h0, Cl.cs, V.cs]; done) | (simp -implicitDefEqProofs [h0, Cl.cs, V.cs]; rfl))); (case hins => (first | (simp -implicitDefEqProofs [h0, Cl.cs, V.cs]; done) | (simp -implicitDefEqProofs [h0, Cl.cs, V.cs]; rfl) | rfl)); (case he => (first | rfl | (simp -implicitDefEqProofs [h0, Cl.cs, V.cs]; done))); (case hob => (first | (simp -implicitDefEqProofs [h0, Cl.cs, V.cs]; done) | (simp -implicitDefEqProofs [h0, Cl.cs, V.cs]; rfl) | rfl)); (case heo => (first | rfl | (simp -implicitDefEqProofs [h0, Cl.cs, V.cs]; done))); (case g1 => (first | assumption | omega | decide | (simp_all; done))); (case hnw => (intro _; first | (simp; done) | (simp; rfl))); (case hok => (first | (simp; done) | (simp -implicitDefEqProofs [h0, Cl.cs, V.cs]; done))); (case hP => (first | (simp; done) | (simp; rfl) | (simp -implicitDefEqProofs [h0, Cl.cs, V.cs]; done) | (simp -implicitDefEqProofs [h0, Cl.cs, V.cs]; rfl))); (case hS => (first | (simp; done) | (simp; rfl) | (simp -implicitDefEqProofs [h0, Cl.cs, V.cs]; done) | (simp -implicitDefEqProofs [h0, Cl.cs, V.cs]; rfl))); (case hz => (intro _ _; first | (simp; done) | (simp -implicitDefEqProofs [h0, Cl.cs, V.cs]; done))); (intro y hy s hs; simp at hs; subst hs))
      | (apply WPL.callR (c_spec_l1Pick_a ⟨_, _⟩ ?g1); (case hg => (simp; done)); (case hd => (simp; done)); (case hl => (first | (simp; done) | (simp; rfl) | (simp -implicitDefEqProofs [h0, Cl.cs, V.cs]; done) | (simp -implicitDefEqProofs [h0, Cl.cs, V.cs]; rfl))); (case hr => (first | (simp; done) | (simp; rfl) | (simp -implicitDefEqProofs [h0, Cl.cs, V.cs]; done) | (simp -implicitDefEqProofs [h0, Cl.cs, V.cs]; rfl))); (case hins => (first | (simp -implicitDefEqProofs [h0, Cl.cs, V.cs]; done) | (simp -implicitDefEqProofs [h0, Cl.cs, V.cs]; rfl) | rfl)); (case he => (first | rfl | (simp -implicitDefEqProofs [h0, Cl.cs, V.cs]; done))); (case hob => (first | (simp -implicitDefEqProofs [h0, Cl.cs, V.cs]; done) | (simp -implicitDefEqProofs [h0, Cl.cs, V.cs]; rfl) | rfl)); (case heo => (first | rfl | (simp -implicitDefEqProofs [h0, Cl.cs, V.cs]; done))); (case g1 => (first | assumption | omega | decide | (simp_all; done))); (case hnw => (intro _; first | (simp; done) | (simp; rfl))); (case hok => (first | (simp; done) | (simp -implicitDefEqProofs [h0, Cl.cs, V.cs]; done))); (case hP => (first | (simp; done) | (simp; rfl) | (simp -implicitDefEqProofs [h0, Cl.cs, V.cs]; done) | (simp -implicitDefEqProofs [h0, Cl.cs, V.cs]; rfl))); (case hS => (first | (simp; done) | (simp; rfl) | (simp -implicitDefEqProofs [h0, Cl.cs, V.cs]; done) | (simp -implicitDefEqProofs [h0, Cl.cs, V.cs]; rfl))); (case hz => (intro _ _; first | (simp; done) | (simp -implicitDefEqProofs [h0, Cl.cs, V.cs]; done))); (intro y hy s hs; simp at hs; subst hs))
      | (refine WPc.rq tok rfl fun K hK => ?_; simp -implicitDefEqProofs +contextual [-Int.not_le, -Int.not_lt, -Nat.not_le, -Nat.not_lt, -List.all_eq_true, -List.all_eq_false, -List.any_eq_true, -List.any_eq_false, h0, Cl.cs, V.cs]; (fail_if_success guard_target =ₛ False); (repeat' (first | refine hK _ ?_ | refine And.intro ?_ ?_ | intro _)) <;> clear hK K)
      | (refine WPL.rn tok _ (by simp [ahead, isFn]; rfl) fun K hK => ?_; simp -implicitDefEqProofs +contextual [-Int.not_le, -Int.not_lt, -Nat.not_le, -Nat.not_lt, -List.all_eq_true, -List.all_eq_false, -List.any_eq_true, -List.any_eq_false, h0, Cl.cs, V.cs]; (fail_if_success guard_target =ₛ False); (repeat' (first | refine hK _ ?_ | refine And.intro ?_ ?_ | intro _)) <;> clear hK K <;> (try simp only [Nat.reduceAdd, List.drop_succ_cons, List.drop_zero]))
      | (refine WPc.region ?_; simp only [List.toList_toArray])
      | (refine WPc.condT ?_ ?_; (focus (simp; done)))
      | (refine WPc.cond (by simp [-Bool.not_eq_eq_eq_not]; rfl) (fun hq => ?_) (fun hq => ?_) <;> simp only [hq] <;> (try (exfalso; (simp only [decide_eq_true_eq, decide_eq_false_iff_not] at hq); omega))))
    all_goals (first | (refine ⟨(⟨_, _, _⟩, y.2), ⟨?_, ?_⟩, rfl, rfl⟩ <;> first | exact hy | exact hy.1 | exact hy.2 | exact (show (0 : Nat) < 4294967000 by decide) | (simp_all [V.sm]; done)))
  · refine Con.of tok (nt := 55) Go.Proofs.Tryz.func80 (by kernel_rfl) rfl rfl rfl (Nat.le_of_ble_eq_true rfl) fun G => ?_
    simp only [entSt, tmOf, List.append_nil, List.cons_append, List.nil_append, V.av]
    repeat' (first
      | apply WPc.sq
      | apply WPc.block
      | (apply WPc.ret; apply endP.sel (is := [0]) (he := .inr rfl); (case hs => rfl); (case hg => rfl); (case h => (simp; rfl)); (case hO => (simp; rfl)); (case hk => (simp; done)))
      | apply WPc.skip
      | refine WPL.nil ?_
      | (apply WPL.callR (c_spec_l1Below_fin ⟨_, _⟩ _ ?g1 ?g2); (case hg => (simp; done)); (case hd => (simp; done)); (case hl => (first | (simp; done) | (simp; rfl) | (simp -implicitDefEqProofs [h0, Cl.cs, V.cs]; done) | (simp -implicitDefEqProofs [h0, Cl.cs, V.cs]; rfl))); (case hr => (first | (simp; done) | (simp; rfl) | (simp -implicitDefEqProofs [h0, Cl.cs, V.cs]; done) | (simp -implicitDefEqProofs [h0, Cl.cs, V.cs]; rfl))); (case hins => (first | (simp -implicitDefEqProofs [h0, Cl.cs, V.cs]; done) | (simp -implicitDefEqProofs [h0, Cl.cs, V.cs]; rfl) | rfl)); (case he => (first | rfl | (simp -implicitDefEqProofs [h0, Cl.cs, V.cs]; done))); (case hob => (first | (simp -implicitDefEqProofs [h0, Cl.cs, V.cs]; done) | (simp -implicitDefEqProofs [h0, Cl.cs, V.cs]; rfl) | rfl)); (case heo => (first | rfl | (simp -implicitDefEqProofs [h0, Cl.cs, V.cs]; done))); (case g1 => (first | assumption | omega | decide | (simp_all; done))); (case g2 => (first | assumption | omega | decide | (simp_all; done))); (case hnw => (intro _; first | (simp; done) | (simp; rfl))); (case hok => (first | (simp; done) | (simp -implicitDefEqProofs [h0, Cl.cs, V.cs]; done))); (case hP => (first | (simp; done) | (simp; rfl) | (simp -implicitDefEqProofs [h0, Cl.cs, V.cs]; done) | (simp -implicitDefEqProofs [h0, Cl.cs, V.cs]; rfl))); (case hS => (first | (simp; done) | (simp; rfl) | (simp -implicitDefEqProofs [h0, Cl.cs, V.cs]; done) | (simp -implicitDefEqProofs [h0, Cl.cs, V.cs]; rfl))); (case hz => (intro _ _; first | (simp; done) | (simp -implicitDefEqProofs [h0, Cl.cs, V.cs]; done))); (intro y hy s hs; simp at hs; subst hs))
      | (apply WPL.callR (c_spec_l1PickInt_a ⟨_, _⟩ ?g1); (case hg => (simp; done)); (case hd => (simp; done)); (case hl => (first | (simp; done) | (simp; rfl) | (simp -implicitDefEqProofs [h0, Cl.cs, V.cs]; done) | (simp -implicitDefEqProofs [h0, Cl.cs, V.cs]; rfl))); (case hr => (first | (simp; done) | (simp; rfl) | (simp -implicitDefEqProofs [h0, Cl.cs, V.cs]; done) | (simp -implicitDefEqProofs [h0, Cl.cs, V.cs]; rfl))); (case hins => (first | (simp -implicitDefEqProofs [h0, Cl.cs, V.cs]; done) | (simp -implicitDefEqProofs [h0, Cl.cs, V.cs]; rfl) | rfl)); (case he => (first | rfl | (simp -implicitDefEqProofs [h0, Cl.cs, V.cs]; done))); (case hob => (first | (simp -implicitDefEqProofs [h0, Cl.cs, V.cs]; done) | (simp -implicitDefEqProofs [h0, Cl.cs, V.cs]; rfl) | rfl)); (case heo => (first | rfl | (simp -implicitDefEqProofs [h0, Cl.cs, V.cs]; done))); (case g1 => (first | assumption | omega | decide | (simp_all; done))); (case hnw => (intro _; first | (simp; done) | (simp; rfl))); (case hok => (first | (simp; done) | (simp -implicitDefEqProofs [h0, Cl.cs, V.cs]; done))); (case hP => (first | (simp; done) | (simp; rfl) | (simp -implicitDefEqProofs [h0, Cl.cs, V.cs]; done) | (simp -implicitDefEqProofs [h0, Cl.cs, V.cs]; rfl))); (case hS => (first | (simp; done) | (simp; rfl) | (simp -implicitDefEqProofs [h0, Cl.cs, V.cs]; done) | (simp -implicitDefEqProofs [h0, Cl.cs, V.cs]; rfl))); (case hz => (intro _ _; first | (simp; done) | (simp -implicitDefEqProofs [h0, Cl.cs, V.cs]; done))); (intro y hy s hs; simp at hs; subst hs))
      | (apply WPL.callR (c_spec_l1Pick_a ⟨_, _⟩ ?g1); (case hg => (simp; done)); (case hd => (simp; done)); (case hl => (first | (simp; done) | (simp; rfl) | (simp -implicitDefEqProofs [h0, Cl.cs, V.cs]; done) | (simp -implicitDefEqProofs [h0, Cl.cs, V.cs]; rfl))); (case hr => (first | (simp; done) | (simp; rfl) | (simp -implicitDefEqProofs [h0, Cl.cs, V.cs]; done) | (simp -implicitDefEqProofs [h0, Cl.cs, V.cs]; rfl))); (case hins => (first | (simp -implicitDefEqProofs [h0, Cl.cs, V.cs]; done) | (simp -implicitDefEqProofs [h0, Cl.cs, V.cs]; rfl) | rfl)); (case he => (first | rfl | (simp -implicitDefEqProofs [h0, Cl.cs, V.cs]; done))); (case hob => (first | (simp -implicitDefEqProofs [h0, Cl.cs, V.cs]; done) | (simp -implicitDefEqProofs [h0, Cl.cs, V.cs]; rfl) | rfl)); (case heo => (first | rfl | (simp -implicitDefEqProofs [h0, Cl.cs, V.cs]; done))); (case g1 => (first | assumption | omega | decide | (simp_all; done))); (case hnw => (intro _; first | (simp; done) | (simp; rfl))); (case hok => (first | (simp; done) | (simp -implicitDefEqProofs [h0, Cl.cs, V.cs]; done))); (case hP => (first | (simp; done) | (simp; rfl) | (simp -implicitDefEqProofs [h0, Cl.cs, V.cs]; done) | (simp -implicitDefEqProofs [h0, Cl.cs, V.cs]; rfl))); (case hS => (first | (simp; done) | (simp; rfl) | (simp -implicitDefEqProofs [h0, Cl.cs, V.cs]; done) | (simp -implicitDefEqProofs [h0, Cl.cs, V.cs]; rfl))); (case hz => (intro _ _; first | (simp; done) | (simp -implicitDefEqProofs [h0, Cl.cs, V.cs]; done))); (intro y hy s hs; simp at hs; subst hs))
      | (refine WPL.call0f ?_ ?_ ?_; (focus (simp; done)); (focus (simp; done)))
      | (refine WPc.rq tok rfl fun K hK => ?_; simp -implicitDefEqProofs +contextual [-Int.not_le, -Int.not_lt, -Nat.not_le, -Nat.not_lt, -List.all_eq_true, -List.all_eq_false, -List.any_eq_true, -List.any_eq_false, h0, Cl.cs, V.cs]; (fail_if_success guard_target =ₛ False); (repeat' (first | refine hK _ ?_ | refine And.intro ?_ ?_ | intro _)) <;> clear hK K)
      | (refine WPL.rn tok _ (by simp [ahead, isFn]; rfl) fun K hK => ?_; simp -implicitDefEqProofs +contextual [-Int.not_le, -Int.not_lt, -Nat.not_le, -Nat.not_lt, -List.all_eq_true, -List.all_eq_false, -List.any_eq_true, -List.any_eq_false, h0, Cl.cs, V.cs]; (fail_if_success guard_target =ₛ False); (repeat' (first | refine hK _ ?_ | refine And.intro ?_ ?_ | intro _)) <;> clear hK K <;> (try simp only [Nat.reduceAdd, List.drop_succ_cons, List.drop_zero]))
      | (refine WPc.region ?_; simp only [List.toList_toArray])
      | (refine WPc.condT ?_ ?_; (focus (simp; done)))
      | (refine WPc.condF ?_ ?_; (focus (simp; done)))
      | (refine WPc.cond (by simp [-Bool.not_eq_eq_eq_not]; rfl) (fun hq => ?_) (fun hq => ?_) <;> simp only [hq] <;> (try (exfalso; (simp only [decide_eq_true_eq, decide_eq_false_iff_not] at hq); omega))))
    all_goals (first | (refine ⟨(⟨_, _, _⟩, y.2), ⟨?_, ?_⟩, rfl, rfl⟩ <;> first | exact hy | exact hy.1 | exact hy.2 | exact (show (0 : Nat) < 4294967000 by decide) | (simp_all [V.sm]; done)))
end Go.Own
set_option linter.unusedVariables false
set_option linter.unusedSimpArgs false
set_option linter.unusedSectionVars false
set_option maxRecDepth 1000000
set_option maxHeartbeats 4000000
namespace Go.Own
attribute [local irreducible] WPc WPL WPS WPS1 WPS2 HAny endP
variable [Laid] [K : Code]
open Go.Lib Go.RowKit
theorem vOut {k n : Int} {s : ByteArray} {c : Cur}  (h1 : c.good) (h2 : s.size < 4294967000) : ∃ y : V × Cur, (y.2.good ∧ y.1.sm) ∧ AV.agg [.sc (.int .i64 k), .sc (.int .i64 n), .sc (.string s)] = AV.agg [.sc (.int .i64 y.1.k), .sc (.int .i64 y.1.n), .sc (.string y.1.s)] ∧ [(0, c.root)] = [(0, y.2.root)] := ⟨(⟨k, n, s⟩, c), ⟨h1, h2⟩, rfl, rfl⟩
theorem c_spec_l6AnyVal (c : Cur) (h : List Cl) (hc : c.good) : Con PP 43 [.ptr 0 3 [] 0 0, .fz (h.map Cl.cs)] [(0, c.root)] [0] (fun r o => ∃ y : V × Cur, (y.2.good ∧ y.1.sm) ∧ r = y.1.av ∧ o = [(0, y.2.root)]) := by
  refine Con.of tok (nt := 27) Go.Proofs.Tryz.func43 (by kernel_rfl) rfl rfl rfl (Nat.le_of_ble_eq_true rfl) fun G => ?_
  simp only [entSt, tmOf, List.append_nil, List.cons_append, List.nil_append, V.av]
  repeat' (first
    | apply WPc.sq
    | apply WPc.block
    | (apply WPc.ret; apply endP.sel (is := [0]) (he := .inr rfl); (case hs => rfl); (case hg => rfl); (case h => (simp; rfl)); (case hO => (simp; rfl)); (case hk => (simp; done)))
    | apply WPc.skip
    | refine WPL.nil ?_
    | (apply WPL.callR (c_spec_l6Val ⟨_, _⟩ _ ?g1); (case hg => (simp; done)); (case hd => (simp; done)); (case hl => (first | (simp; done) | (simp; rfl) | (simp -implicitDefEqProofs [Cl.cs, V.cs, V.av]; done) | (simp -implicitDefEqProofs [Cl.cs, V.cs, V.av]; rfl))); (case hr => (first | (simp; done) | (simp; rfl) | (simp -implicitDefEqProofs [Cl.cs, V.cs, V.av]; done) | (simp -implicitDefEqProofs [Cl.cs, V.cs, V.av]; rfl))); (case hins => (first | (simp -implicitDefEqProofs [Cl.cs, V.cs, V.av]; done) | (simp -implicitDefEqProofs [Cl.cs, V.cs, V.av]; rfl) | rfl)); (case he => (first | rfl | (simp -implicitDefEqProofs [Cl.cs, V.cs, V.av]; done))); (case hob => (first | (simp -implicitDefEqProofs [Cl.cs, V.cs, V.av]; done) | (simp -implicitDefEqProofs [Cl.cs, V.cs, V.av]; rfl) | rfl)); (case heo => (first | rfl | (simp -implicitDefEqProofs [Cl.cs, V.cs, V.av]; done))); (case g1 => (first | assumption | omega | decide | (simp_all; done))); (case hnw => (intro _; first | (simp; done) | (simp; rfl))); (case hok => (first | (simp; done) | (simp -implicitDefEqProofs [Cl.cs, V.cs, V.av]; done))); (case hP => (first | (simp; done) | (simp; rfl) | (simp -implicitDefEqProofs [Cl.cs, V.cs, V.av]; done) | (simp -implicitDefEqProofs [Cl.cs, V.cs, V.av]; rfl))); (case hS => (first | (simp; done) | (simp; rfl) | (simp -implicitDefEqProofs [Cl.cs, V.cs, V.av]; done) | (simp -implicitDefEqProofs [Cl.cs, V.cs, V.av]; rfl))); (case hz => (intro _ _; first | (simp; done) | (simp -implicitDefEqProofs [Cl.cs, V.cs, V.av]; done))); (intro y hy s hs; simp at hs; subst hs))
    | (apply WPL.callR (c_spec_l1Once ⟨_, _⟩ _ ?g1); (case hg => (simp; done)); (case hd => (simp; done)); (case hl => (first | (simp; done) | (simp; rfl) | (simp -implicitDefEqProofs [Cl.cs, V.cs, V.av]; done) | (simp -implicitDefEqProofs [Cl.cs, V.cs, V.av]; rfl))); (case hr => (first | (simp; done) | (simp; rfl) | (simp -implicitDefEqProofs [Cl.cs, V.cs, V.av]; done) | (simp -implicitDefEqProofs [Cl.cs, V.cs, V.av]; rfl))); (case hins => (first | (simp -implicitDefEqProofs [Cl.cs, V.cs, V.av]; done) | (simp -implicitDefEqProofs [Cl.cs, V.cs, V.av]; rfl) | rfl)); (case he => (first | rfl | (simp -implicitDefEqProofs [Cl.cs, V.cs, V.av]; done))); (case hob => (first | (simp -implicitDefEqProofs [Cl.cs, V.cs, V.av]; done) | (simp -implicitDefEqProofs [Cl.cs, V.cs, V.av]; rfl) | rfl)); (case heo => (first | rfl | (simp -implicitDefEqProofs [Cl.cs, V.cs, V.av]; done))); (case g1 => (first | assumption | omega | decide | (simp_all; done))); (case hnw => (intro _; first | (simp; done) | (simp; rfl))); (case hok => (first | (simp; done) | (simp -implicitDefEqProofs [Cl.cs, V.cs, V.av]; done))); (case hP => (first | (simp; done) | (simp; rfl) | (simp -implicitDefEqProofs [Cl.cs, V.cs, V.av]; done) | (simp -implicitDefEqProofs [Cl.cs, V.cs, V.av]; rfl))); (case hS => (first | (simp; done) | (simp; rfl) | (simp -implicitDefEqProofs [Cl.cs, V.cs, V.av]; done) | (simp -implicitDefEqProofs [Cl.cs, V.cs, V.av]; rfl))); (case hz => (intro _ _; first | (simp; done) | (simp -implicitDefEqProofs [Cl.cs, V.cs, V.av]; done))); (intro y hy s hs; simp at hs; subst hs))
    | (apply WPL.callR (c_spec_l1Below_fin ⟨_, _⟩ _ ?g1 ?g2); (case hg => (simp; done)); (case hd => (simp; done)); (case hl => (first | (simp; done) | (simp; rfl) | (simp -implicitDefEqProofs [Cl.cs, V.cs, V.av]; done) | (simp -implicitDefEqProofs [Cl.cs, V.cs, V.av]; rfl))); (case hr => (first | (simp; done) | (simp; rfl) | (simp -implicitDefEqProofs [Cl.cs, V.cs, V.av]; done) | (simp -implicitDefEqProofs [Cl.cs, V.cs, V.av]; rfl))); (case hins => (first | (simp -implicitDefEqProofs [Cl.cs, V.cs, V.av]; done) | (simp -implicitDefEqProofs [Cl.cs, V.cs, V.av]; rfl) | rfl)); (case he => (first | rfl | (simp -implicitDefEqProofs [Cl.cs, V.cs, V.av]; done))); (case hob => (first | (simp -implicitDefEqProofs [Cl.cs, V.cs, V.av]; done) | (simp -implicitDefEqProofs [Cl.cs, V.cs, V.av]; rfl) | rfl)); (case heo => (first | rfl | (simp -implicitDefEqProofs [Cl.cs, V.cs, V.av]; done))); (case g1 => (first | assumption | omega | decide | (simp_all; done))); (case g2 => (first | assumption | omega | decide | (simp_all; done))); (case hnw => (intro _; first | (simp; done) | (simp; rfl))); (case hok => (first | (simp; done) | (simp -implicitDefEqProofs [Cl.cs, V.cs, V.av]; done))); (case hP => (first | (simp; done) | (simp; rfl) | (simp -implicitDefEqProofs [Cl.cs, V.cs, V.av]; done) | (simp -implicitDefEqProofs [Cl.cs, V.cs, V.av]; rfl))); (case hS => (first | (simp; done) | (simp; rfl) | (simp -implicitDefEqProofs [Cl.cs, V.cs, V.av]; done) | (simp -implicitDefEqProofs [Cl.cs, V.cs, V.av]; rfl))); (case hz => (intro _ _; first | (simp; done) | (simp -implicitDefEqProofs [Cl.cs, V.cs, V.av]; done))); (intro y hy s hs; simp at hs; subst hs))
    | (apply WPL.callR (c_spec_l1PickInt_b ⟨_, _⟩ ?g1); (case hg => (simp; done)); (case hd => (simp; done)); (case hl => (first | (simp; done) | (simp; rfl) | (simp -implicitDefEqProofs [Cl.cs, V.cs, V.av]; done) | (simp -implicitDefEqProofs [Cl.cs, V.cs, V.av]; rfl))); (case hr => (first | (simp; done) | (simp; rfl) | (simp -implicitDefEqProofs [Cl.cs, V.cs, V.av]; done) | (simp -implicitDefEqProofs [Cl.cs, V.cs, V.av]; rfl))); (case hins => (first | (simp -implicitDefEqProofs [Cl.cs, V.cs, V.av]; done) | (simp -implicitDefEqProofs [Cl.cs, V.cs, V.av]; rfl) | rfl)); (case he => (first | rfl | (simp -implicitDefEqProofs [Cl.cs, V.cs, V.av]; done))); (case hob => (first | (simp -implicitDefEqProofs [Cl.cs, V.cs, V.av]; done) | (simp -implicitDefEqProofs [Cl.cs, V.cs, V.av]; rfl) | rfl)); (case heo => (first | rfl | (simp -implicitDefEqProofs [Cl.cs, V.cs, V.av]; done))); (case g1 => (first | assumption | omega | decide | (simp_all; done))); (case hnw => (intro _; first | (simp; done) | (simp; rfl))); (case hok => (first | (simp; done) | (simp -implicitDefEqProofs [Cl.cs, V.cs, V.av]; done))); (case hP => (first | (simp; done) | (simp; rfl) | (simp -implicitDefEqProofs [Cl.cs, V.cs, V.av]; done) | (simp -implicitDefEqProofs [Cl.cs, V.cs, V.av]; rfl))); (case hS => (first | (simp; done) | (simp; rfl) | (simp -implicitDefEqProofs [Cl.cs, V.cs, V.av]; done) | (simp -implicitDefEqProofs [Cl.cs, V.cs, V.av]; rfl))); (case hz => (intro _ _; first | (simp; done) | (simp -implicitDefEqProofs [Cl.cs, V.cs, V.av]; done))); (intro y hy s hs; simp at hs; subst hs))
    | (refine WPc.rq tok rfl fun K hK => ?_; simp -implicitDefEqProofs +contextual [-Int.not_le, -Int.not_lt, -Nat.not_le, -Nat.not_lt, -List.all_eq_true, -List.all_eq_false, -List.any_eq_true, -List.any_eq_false, Cl.cs, V.cs, V.av]; (fail_if_success guard_target =ₛ False); (repeat' (first | refine hK _ ?_ | refine And.intro ?_ ?_ | intro _)) <;> clear hK K)
    | (refine WPL.rn tok _ (by simp [ahead, isFn]; rfl) fun K hK => ?_; simp -implicitDefEqProofs +contextual [-Int.not_le, -Int.not_lt, -Nat.not_le, -Nat.not_lt, -List.all_eq_true, -List.all_eq_false, -List.any_eq_true, -List.any_eq_false, Cl.cs, V.cs, V.av]; (fail_if_success guard_target =ₛ False); (repeat' (first | refine hK _ ?_ | refine And.intro ?_ ?_ | intro _)) <;> clear hK K <;> (try simp only [Nat.reduceAdd, List.drop_succ_cons, List.drop_zero]))
    | (refine WPc.region ?_; simp only [List.toList_toArray])
    | (refine WPc.cond (by simp [-Bool.not_eq_eq_eq_not]; rfl) (fun hq => ?_) (fun hq => ?_) <;> simp only [hq] <;> (try (exfalso; (simp only [decide_eq_true_eq, decide_eq_false_iff_not] at hq); omega))))
  all_goals (first | (refine vOut ?_ ?_ <;> first | exact hy | exact hy.1 | exact hy.2 | exact (show (0 : Nat) < 4294967000 by decide) | exact (show (1 : Nat) < 4294967000 by decide) | (simp_all [V.sm]; done)))
end Go.Own
set_option linter.unusedVariables false
set_option linter.unusedSimpArgs false
set_option linter.unusedSectionVars false
set_option maxRecDepth 1000000
set_option maxHeartbeats 4000000
namespace Go.Own
attribute [local irreducible] WPc WPL WPS WPS1 WPS2 HAny endP
variable [Laid] [K : Code]
open Go.Lib Go.RowKit
def sLib : ByteArray := ⟨#[108, 105, 98, 58, 112, 116]⟩
structure Hd (B : Nat) (m : Int) (h : List Cl) : Prop where
  sm : ∀ c, c ∈ h → c.sm
  rm : ∀ c, c ∈ h → c.names.length ≤ B ∧ c.vals.length ≤ B
  sz : (h.length : Int) ≤ max m 0
theorem Hd.mono {B : Nat} {m : Int} {h : List Cl} (H : Hd B m h) : Hd (B + 1) m h := ⟨H.sm, fun c hc => by have := H.rm c hc; omega, H.sz⟩
theorem mem_modify {α : Type} {l : List α} {i : Nat} {f : α → α} {x : α} (h : x ∈ l.modify i f) : x ∈ l ∨ ∃ y, y ∈ l ∧ x = f y := by
  obtain ⟨j, hj⟩ := List.mem_iff_getElem?.1 h
  rw [List.getElem?_modify] at hj
  cases hl : l[j]? with
  | none => simp [hl] at hj
  | some y =>
    simp [hl] at hj
    split at hj
    · exact .inr ⟨y, List.mem_iff_getElem?.2 ⟨j, hl⟩, hj.symm⟩
    · exact .inl (hj ▸ List.mem_iff_getElem?.2 ⟨j, hl⟩)
theorem Hd.upd {B : Nat} {m : Int} {h : List Cl} (H : Hd B m h) (i : Nat) (f : Cl → Cl) (h1 : ∀ c, c.sm → (f c).sm) (h2 : ∀ c, c.names.length ≤ B ∧ c.vals.length ≤ B → (f c).names.length ≤ B + 1 ∧ (f c).vals.length ≤ B + 1) : Hd (B + 1) m (h.modify i f) := by
  refine ⟨fun d hd => ?_, fun d hd => ?_, by simpa using H.sz⟩
  · rcases mem_modify hd with hd | ⟨c, hc, rfl⟩
    · exact H.sm d hd
    · exact h1 c (H.sm c hc)
  · rcases mem_modify hd with hd | ⟨c, hc, rfl⟩
    · have := H.rm d hd; omega
    · exact h2 c (H.rm c hc)
theorem modify_ow {h : List Cl} {i : Nat} {f : Cl → Cl} {g : List C → List C} (hg : ∀ c, g c.ow = (f c).ow) : (h.map Cl.ow).modify i g = (h.modify i f).map Cl.ow := by
  apply List.ext_getElem?
  intro j
  rw [List.getElem?_modify, List.getElem?_map, List.getElem?_map, List.getElem?_modify]
  cases h[j]? with
  | none => rfl
  | some c => simp only [Option.map_some, Option.map_eq_map]; split <;> simp [hg]
theorem modify_ow2 {h : List Cl} {i : Nat} {f : Cl → Cl} {g : List C → List C} (hg : ∀ c, h[i]? = some c → g c.ow = (f c).ow) : (h.map Cl.ow).modify i g = (h.modify i f).map Cl.ow := by
  apply List.ext_getElem?
  intro j
  rw [List.getElem?_modify, List.getElem?_map, List.getElem?_map, List.getElem?_modify]
  cases hj : h[j]? with
  | none => rfl
  | some c =>
    simp only [Option.map_some, Option.map_eq_map]
    split
    · rename_i e; subst e; simp [hg c hj]
    · rfl
theorem c_spec_l1PickInt_c (c : Cur) (hc : c.good) : Con PP 42 [.ptr 0 3 [] 0 0, .fz [[.sc (.int .i64 (-1))], [.sc (.int .i64 1000)], [.sc (.int .i64 1001)]]] [(0, c.root)] [0] (fun r o => ∃ y : Int × Cur, (y.2.good) ∧ r = .sc (.int .i64 y.1) ∧ o = [(0, y.2.root)]) :=
  (c_spec_l1PickInt c [-1, 1000, 1001] hc (by decide)).mono fun r o ⟨y, h, h2⟩ => ⟨y, h.1, h2⟩
theorem c_spec_l1Pick_b (c : Cur) (hc : c.good) : Con PP 36 [.ptr 0 3 [] 0 0, .fz [[.sc (.string zs)], [.sc (.string ⟨#[122]⟩)]]] [(0, c.root)] [0] (fun r o => ∃ y : ByteArray × Cur, (y.2.good ∧ y.1.size < 4294967000) ∧ r = .sc (.string y.1) ∧ o = [(0, y.2.root)]) :=
  (c_spec_l1Pick c [zs, ⟨#[122]⟩] hc (by decide)).mono fun r o ⟨y, h, h2⟩ => ⟨y, ⟨h.1, by have := h.2; simp at this; rcases this with h | h <;> rw [h] <;> decide⟩, h2⟩
theorem Hd.snoc {B : Nat} {m : Int} {h : List Cl} (H : Hd B m h) {c : Cl} (h1 : c.sm) (h2 : c.names.length ≤ B ∧ c.vals.length ≤ B) (h3 : (h.length : Int) < max m 0) : Hd B m (h ++ [c]) := by
  refine ⟨fun d hd => ?_, fun d hd => ?_, by simp; omega⟩
  · rcases List.mem_append.1 hd with hd | hd
    · exact H.sm d hd
    · simp at hd; subst hd; exact h1
  · rcases List.mem_append.1 hd with hd | hd
    · exact H.rm d hd
    · simp at hd; subst hd; exact h2
theorem c_spec_l6Heap (c : Cur) (m : Int) (hc : c.good) (hm : m ≤ 1000) : Con PP 34 [.ptr 0 3 [] 0 0, .sc (.int .i64 m)] [(0, c.root)] [0] (fun r o => ∃ y : List Cl × Cur, (y.2.good ∧ Hd 1001 m y.1) ∧ r = .sl 900001 6 [] 0 y.1.length ∧ o = [(0, y.2.root), (900001, heapR y.1)]) := by
  refine Con.of tok (nt := 104) Go.Proofs.Tryz.func34 (by kernel_rfl) rfl rfl rfl (Nat.le_of_ble_eq_true rfl) fun G => ?_
  simp only [entSt, tmOf, List.append_nil, List.cons_append, List.nil_append]
  repeat' (first
    | apply WPc.sq
    | apply WPc.block
    | refine WPL.nil ?_
    | (apply WPL.callR (c_spec_l1Below ⟨_, _⟩ _ ?g1); (case hg => (simp; done)); (case hd => (simp; done)); (case hl => (first | (simp; done) | (simp; rfl) | (simp -implicitDefEqProofs; done) | (simp -implicitDefEqProofs; rfl))); (case hr => (first | (simp; done) | (simp; rfl) | (simp -implicitDefEqProofs; done) | (simp -implicitDefEqProofs; rfl))); (case hins => (first | (simp -implicitDefEqProofs; done) | (simp -implicitDefEqProofs; rfl) | rfl)); (case he => (first | rfl | (simp -implicitDefEqProofs; done))); (case hob => (first | (simp -implicitDefEqProofs; done) | (simp -implicitDefEqProofs; rfl) | rfl)); (case heo => (first | rfl | (simp -implicitDefEqProofs; done))); (case g1 => (first | assumption | omega | decide | (simp_all; done))); (case hnw => (intro _; first | (simp; done) | (simp; rfl))); (case hok => (first | (simp; done) | (simp -implicitDefEqProofs; done))); (case hP => (first | (simp; done) | (simp; rfl) | (simp -implicitDefEqProofs; done) | (simp -implicitDefEqProofs; rfl))); (case hS => (first | (simp; done) | (simp; rfl) | (simp -implicitDefEqProofs; done) | (simp -implicitDefEqProofs; rfl))); (case hz => (intro _ _; first | (simp; done) | (simp -implicitDefEqProofs; done))); (intro y hy s hs; simp at hs; subst hs))
    | (refine WPc.rq tok rfl fun K hK => ?_; simp -implicitDefEqProofs +contextual [-Int.not_le, -Int.not_lt, -Nat.not_le, -Nat.not_lt, -List.all_eq_true, -List.all_eq_false, -List.any_eq_true, -List.any_eq_false]; (fail_if_success guard_target =ₛ False); (repeat' (first | refine hK _ ?_ | refine And.intro ?_ ?_ | intro _)) <;> clear hK K)
    | (refine WPL.rn tok _ (by simp [ahead, isFn]; rfl) fun K hK => ?_; simp -implicitDefEqProofs +contextual [-Int.not_le, -Int.not_lt, -Nat.not_le, -Nat.not_lt, -List.all_eq_true, -List.all_eq_false, -List.any_eq_true, -List.any_eq_false]; (fail_if_success guard_target =ₛ False); (repeat' (first | refine hK _ ?_ | refine And.intro ?_ ?_ | intro _)) <;> clear hK K <;> (try simp only [Nat.reduceAdd, List.drop_succ_cons, List.drop_zero]))
    | (refine WPc.region ?_; simp only [List.toList_toArray]))
  obtain ⟨hg, g0, g1, g2⟩ := hy
  refine WPc.loopV (σ := List Cl × Cur × Int) (fun x => x.2.1.good ∧ Hd 1000 m x.1 ∧ 0 ≤ x.2.2 ∧ x.1.length + x.2.2 ≤ max m 0) (fun x => x.2.2.toNat) (fun x => [(5, .sl 8 6 [] 0 x.1.length), (6, .sc (.int .i64 x.2.2))]) (fun x => [(0, x.2.1.root), (8, heapR x.1)]) [0, 104] ([], y.2, y.1) (by simp [heapR, Cur.root]) (by simp [heapR, Cur.root]) (⟨hg, ⟨by simp, by simp, by simp; omega⟩, g0, by simp; omega⟩) ?_
  rintro ⟨h, d, n⟩ ⟨hg, hH, g0, gs⟩ s hs
  simp at hs
  subst hs
  dsimp only at hg hH g0 gs ⊢
  by_cases hn : 0 < n
  · have hw : IntKind.i64.wrap (n - 1) = n - 1 := wrap64 (by omega) (by omega)
    have hb1 : (h.length + 1) * 88 ≤ 140737488355328 := by omega
    have hb2 : h.length + 1 ≤ 9223372036854775807 := by omega
    repeat' (first
      | (refine WPL.adAt 27 26 4 900001 9 1 ?_ ?_; (focus (simp; done)); refine fun K hK => ?_; simp -implicitDefEqProofs +contextual [-Int.not_le, -Int.not_lt, -Nat.not_le, -Nat.not_lt, -List.all_eq_true, -List.all_eq_false, -List.any_eq_true, -List.any_eq_false, hn, hw, hb1, hb2, V.cs, V.av, heapR]; (fail_if_success guard_target =ₛ False); (repeat' (first | refine hK _ ?_ | refine And.intro ?_ ?_ | intro _)) <;> clear hK K)
      | (refine WPL.adAt 37 36 4 900001 9 1 ?_ ?_; (focus (simp; done)); refine fun K hK => ?_; simp -implicitDefEqProofs +contextual [-Int.not_le, -Int.not_lt, -Nat.not_le, -Nat.not_lt, -List.all_eq_true, -List.all_eq_false, -List.any_eq_true, -List.any_eq_false, hn, hw, hb1, hb2, V.cs, V.av, heapR]; (fail_if_success guard_target =ₛ False); (repeat' (first | refine hK _ ?_ | refine And.intro ?_ ?_ | intro _)) <;> clear hK K)
      | (refine WPL.rnTo tok 27 _ (by simp [isFn]; rfl) fun K hK => ?_; simp -implicitDefEqProofs +contextual [-Int.not_le, -Int.not_lt, -Nat.not_le, -Nat.not_lt, -List.all_eq_true, -List.all_eq_false, -List.any_eq_true, -List.any_eq_false, hn, hw, hb1, hb2, V.cs, V.av, heapR]; (fail_if_success guard_target =ₛ False); (repeat' (first | refine hK _ ?_ | refine And.intro ?_ ?_ | intro _)) <;> clear hK K <;> (try simp only [Nat.reduceAdd, List.drop_succ_cons, List.drop_zero]))
      | (refine WPL.rnTo tok 37 _ (by simp [isFn]; rfl) fun K hK => ?_; simp -implicitDefEqProofs +contextual [-Int.not_le, -Int.not_lt, -Nat.not_le, -Nat.not_lt, -List.all_eq_true, -List.all_eq_false, -List.any_eq_true, -List.any_eq_false, hn, hw, hb1, hb2, V.cs, V.av, heapR]; (fail_if_success guard_target =ₛ False); (repeat' (first | refine hK _ ?_ | refine And.intro ?_ ?_ | intro _)) <;> clear hK K <;> (try simp only [Nat.reduceAdd, List.drop_succ_cons, List.drop_zero]))
      | apply WPc.sq
      | apply WPc.block
      | apply WPc.skip
      | refine WPL.nil ?_
      | (apply WPL.callR (c_spec_l1Below_fin ⟨_, _⟩ _ ?g1 ?g2); (case hg => (simp; done)); (case hd => (simp; done)); (case hl => (first | (simp; done) | (simp; rfl) | (simp -implicitDefEqProofs [hn, hw, hb1, hb2, V.cs, V.av, heapR]; done) | (simp -implicitDefEqProofs [hn, hw, hb1, hb2, V.cs, V.av, heapR]; rfl))); (case hr => (first | (simp; done) | (simp; rfl) | (simp -implicitDefEqProofs [hn, hw, hb1, hb2, V.cs, V.av, heapR]; done) | (simp -implicitDefEqProofs [hn, hw, hb1, hb2, V.cs, V.av, heapR]; rfl))); (case hins => (first | (simp -implicitDefEqProofs [hn, hw, hb1, hb2, V.cs, V.av, heapR]; done) | (simp -implicitDefEqProofs [hn, hw, hb1, hb2, V.cs, V.av, heapR]; rfl) | rfl)); (case he => (first | rfl | (simp -implicitDefEqProofs [hn, hw, hb1, hb2, V.cs, V.av, heapR]; done))); (case hob => (first | (simp -implicitDefEqProofs [hn, hw, hb1, hb2, V.cs, V.av, heapR]; done) | (simp -implicitDefEqProofs [hn, hw, hb1, hb2, V.cs, V.av, heapR]; rfl) | rfl)); (case heo => (first | rfl | (simp -implicitDefEqProofs [hn, hw, hb1, hb2, V.cs, V.av, heapR]; done))); (case g1 => (first | assumption | omega | decide | (simp_all; done))); (case g2 => (first | assumption | omega | decide | (simp_all; done))); (case hnw => (intro _; first | (simp; done) | (simp; rfl))); (case hok => (first | (simp; done) | (simp -implicitDefEqProofs [hn, hw, hb1, hb2, V.cs, V.av, heapR]; done))); (case hP => (first | (simp; done) | (simp; rfl) | (simp -implicitDefEqProofs [hn, hw, hb1, hb2, V.cs, V.av, heapR]; done) | (simp -implicitDefEqProofs [hn, hw, hb1, hb2, V.cs, V.av, heapR]; rfl))); (case hS => (first | (simp; done) | (simp; rfl) | (simp -implicitDefEqProofs [hn, hw, hb1, hb2, V.cs, V.av, heapR]; done) | (simp -implicitDefEqProofs [hn, hw, hb1, hb2, V.cs, V.av, heapR]; rfl))); (case hz => (intro _ _; first | (simp; done) | (simp -implicitDefEqProofs [hn, hw, hb1, hb2, V.cs, V.av, heapR]; done))); (intro y hy s hs; simp at hs; subst hs))
      | (apply WPL.callR (c_spec_l6Val ⟨_, _⟩ _ ?g1); (case hg => (simp; done)); (case hd => (simp; done)); (case hl => (first | (simp; done) | (simp; rfl) | (simp -implicitDefEqProofs [hn, hw, hb1, hb2, V.cs, V.av, heapR]; done) | (simp -implicitDefEqProofs [hn, hw, hb1, hb2, V.cs, V.av, heapR]; rfl))); (case hr => (first | (simp; done) | (simp; rfl) | (simp -implicitDefEqProofs [hn, hw, hb1, hb2, V.cs, V.av, heapR]; done) | (simp -implicitDefEqProofs [hn, hw, hb1, hb2, V.cs, V.av, heapR]; rfl))); (case hins => (first | (simp -implicitDefEqProofs [hn, hw, hb1, hb2, V.cs, V.av, heapR]; done) | (simp -implicitDefEqProofs [hn, hw, hb1, hb2, V.cs, V.av, heapR]; rfl) | rfl)); (case he => (first | rfl | (simp -implicitDefEqProofs [hn, hw, hb1, hb2, V.cs, V.av, heapR]; done))); (case hob => (first | (simp -implicitDefEqProofs [hn, hw, hb1, hb2, V.cs, V.av, heapR]; done) | (simp -implicitDefEqProofs [hn, hw, hb1, hb2, V.cs, V.av, heapR]; rfl) | rfl)); (case heo => (first | rfl | (simp -implicitDefEqProofs [hn, hw, hb1, hb2, V.cs, V.av, heapR]; done))); (case g1 => (first | assumption | omega | decide | (simp_all; done))); (case hnw => (intro _; first | (simp; done) | (simp; rfl))); (case hok => (first | (simp; done) | (simp -implicitDefEqProofs [hn, hw, hb1, hb2, V.cs, V.av, heapR]; done))); (case hP => (first | (simp; done) | (simp; rfl) | (simp -implicitDefEqProofs [hn, hw, hb1, hb2, V.cs, V.av, heapR]; done) | (simp -implicitDefEqProofs [hn, hw, hb1, hb2, V.cs, V.av, heapR]; rfl))); (case hS => (first | (simp; done) | (simp; rfl) | (simp -implicitDefEqProofs [hn, hw, hb1, hb2, V.cs, V.av, heapR]; done) | (simp -implicitDefEqProofs [hn, hw, hb1, hb2, V.cs, V.av, heapR]; rfl))); (case hz => (intro _ _; first | (simp; done) | (simp -implicitDefEqProofs [hn, hw, hb1, hb2, V.cs, V.av, heapR]; done))); (intro y hy s hs; simp at hs; subst hs))
      | (refine WPc.rq tok rfl fun K hK => ?_; simp -implicitDefEqProofs +contextual [-Int.not_le, -Int.not_lt, -Nat.not_le, -Nat.not_lt, -List.all_eq_true, -List.all_eq_false, -List.any_eq_true, -List.any_eq_false, hn, hw, hb1, hb2, V.cs, V.av, heapR]; (fail_if_success guard_target =ₛ False); (repeat' (first | refine hK _ ?_ | refine And.intro ?_ ?_ | intro _)) <;> clear hK K)
      | (refine WPL.rn tok _ (by simp [ahead, isFn]; rfl) fun K hK => ?_; simp -implicitDefEqProofs +contextual [-Int.not_le, -Int.not_lt, -Nat.not_le, -Nat.not_lt, -List.all_eq_true, -List.all_eq_false, -List.any_eq_true, -List.any_eq_false, hn, hw, hb1, hb2, V.cs, V.av, heapR]; (fail_if_success guard_target =ₛ False); (repeat' (first | refine hK _ ?_ | refine And.intro ?_ ?_ | intro _)) <;> clear hK K <;> (try simp only [Nat.reduceAdd, List.drop_succ_cons, List.drop_zero]))
      | (refine WPc.region ?_; simp only [List.toList_toArray])
      | (refine WPc.condT ?_ ?_; (focus (simp; done)))
      | (refine WPc.cond (by simp [-Bool.not_eq_eq_eq_not]; rfl) (fun hq => ?_) (fun hq => ?_) <;> simp only [hq] <;> (try (exfalso; (simp only [decide_eq_true_eq, decide_eq_false_iff_not] at hq); omega))))
    · refine ⟨(h ++ [⟨3, sLib, 1, 0, [], [y.1]⟩], y.2, n - 1), ⟨⟨hy.1, hH.snoc ⟨show sLib.size < 4294967000 by decide, by simp, by simp [hy.2]⟩ ⟨by simp, by simp⟩ (by omega), by simp; omega, by simp; omega⟩, by first | omega | (simp only; omega) | assumption⟩, rfl, rfl, ?_, ?_⟩ <;> simp (disch := omega) [wrap64, heapR, Cl.ow, V.cs, Cur.root, sLib]
    · refine ⟨(h ++ [⟨2, zs, 0, 0, [sX], [y.1]⟩], y.2, n - 1), ⟨⟨hy.1, hH.snoc ⟨show zs.size < 4294967000 by decide, by simp; decide, by simp [hy.2]⟩ ⟨by simp, by simp⟩ (by omega), by simp; omega, by simp; omega⟩, by first | omega | (simp only; omega) | assumption⟩, rfl, rfl, ?_, ?_⟩ <;> simp (disch := omega) [wrap64, heapR, Cl.ow, V.cs, Cur.root, sC, sX]
    · rename_i y1 hy1
      refine ⟨(h ++ [⟨1, zs, 0, 0, [], [y1.1, y.1]⟩], y.2, n - 1), ⟨⟨hy.1, hH.snoc ⟨show zs.size < 4294967000 by decide, by simp, by simp [hy.2, hy1.2]⟩ ⟨by simp, by simp⟩ (by omega), by simp; omega, by simp; omega⟩, by first | omega | (simp only; omega) | assumption⟩, rfl, rfl, ?_, ?_⟩ <;> simp (disch := omega) [wrap64, heapR, Cl.ow, V.cs, Cur.root]
  · repeat' (first
      | (refine WPc.renR 8 900001 fun K hK => ?_; simp -implicitDefEqProofs +contextual [-Int.not_le, -Int.not_lt, -Nat.not_le, -Nat.not_lt, -List.all_eq_true, -List.all_eq_false, -List.any_eq_true, -List.any_eq_false, hn, heapR, Cl.ow]; (fail_if_success guard_target =ₛ False); (repeat' (first | refine hK _ ?_ | refine And.intro ?_ ?_ | intro _)) <;> clear hK K)
      | apply WPc.sq
      | apply WPc.block
      | (apply WPc.ret; apply endP.sel (is := [0, 900001]) (he := .inr rfl); (case hs => rfl); (case hg => rfl); (case h => (simp; rfl)); (case hO => (simp; rfl)); (case hk => (simp; done)))
      | apply WPc.skip
      | apply WPc.exit
      | refine WPL.nil ?_
      | (apply WPL.callR (c_spec_l1Below_fin ⟨_, _⟩ _ ?g1 ?g2); (case hg => (simp; done)); (case hd => (simp; done)); (case hl => (first | (simp; done) | (simp; rfl) | (simp -implicitDefEqProofs [hn, heapR, Cl.ow]; done) | (simp -implicitDefEqProofs [hn, heapR, Cl.ow]; rfl))); (case hr => (first | (simp; done) | (simp; rfl) | (simp -implicitDefEqProofs [hn, heapR, Cl.ow]; done) | (simp -implicitDefEqProofs [hn, heapR, Cl.ow]; rfl))); (case hins => (first | (simp -implicitDefEqProofs [hn, heapR, Cl.ow]; done) | (simp -implicitDefEqProofs [hn, heapR, Cl.ow]; rfl) | rfl)); (case he => (first | rfl | (simp -implicitDefEqProofs [hn, heapR, Cl.ow]; done))); (case hob => (first | (simp -implicitDefEqProofs [hn, heapR, Cl.ow]; done) | (simp -implicitDefEqProofs [hn, heapR, Cl.ow]; rfl) | rfl)); (case heo => (first | rfl | (simp -implicitDefEqProofs [hn, heapR, Cl.ow]; done))); (case g1 => (first | assumption | omega | decide | (simp_all; done))); (case g2 => (first | assumption | omega | decide | (simp_all; done))); (case hnw => (intro _; first | (simp; done) | (simp; rfl))); (case hok => (first | (simp; done) | (simp -implicitDefEqProofs [hn, heapR, Cl.ow]; done))); (case hP => (first | (simp; done) | (simp; rfl) | (simp -implicitDefEqProofs [hn, heapR, Cl.ow]; done) | (simp -implicitDefEqProofs [hn, heapR, Cl.ow]; rfl))); (case hS => (first | (simp; done) | (simp; rfl) | (simp -implicitDefEqProofs [hn, heapR, Cl.ow]; done) | (simp -implicitDefEqProofs [hn, heapR, Cl.ow]; rfl))); (case hz => (intro _ _; first | (simp; done) | (simp -implicitDefEqProofs [hn, heapR, Cl.ow]; done))); (intro y hy s hs; simp at hs; subst hs))
      | (apply WPL.callR (c_spec_l1Once ⟨_, _⟩ _ ?g1); (case hg => (simp; done)); (case hd => (simp; done)); (case hl => (first | (simp; done) | (simp; rfl) | (simp -implicitDefEqProofs [hn, heapR, Cl.ow]; done) | (simp -implicitDefEqProofs [hn, heapR, Cl.ow]; rfl))); (case hr => (first | (simp; done) | (simp; rfl) | (simp -implicitDefEqProofs [hn, heapR, Cl.ow]; done) | (simp -implicitDefEqProofs [hn, heapR, Cl.ow]; rfl))); (case hins => (first | (simp -implicitDefEqProofs [hn, heapR, Cl.ow]; done) | (simp -implicitDefEqProofs [hn, heapR, Cl.ow]; rfl) | rfl)); (case he => (first | rfl | (simp -implicitDefEqProofs [hn, heapR, Cl.ow]; done))); (case hob => (first | (simp -implicitDefEqProofs [hn, heapR, Cl.ow]; done) | (simp -implicitDefEqProofs [hn, heapR, Cl.ow]; rfl) | rfl)); (case heo => (first | rfl | (simp -implicitDefEqProofs [hn, heapR, Cl.ow]; done))); (case g1 => (first | assumption | omega | decide | (simp_all; done))); (case hnw => (intro _; first | (simp; done) | (simp; rfl))); (case hok => (first | (simp; done) | (simp -implicitDefEqProofs [hn, heapR, Cl.ow]; done))); (case hP => (first | (simp; done) | (simp; rfl) | (simp -implicitDefEqProofs [hn, heapR, Cl.ow]; done) | (simp -implicitDefEqProofs [hn, heapR, Cl.ow]; rfl))); (case hS => (first | (simp; done) | (simp; rfl) | (simp -implicitDefEqProofs [hn, heapR, Cl.ow]; done) | (simp -implicitDefEqProofs [hn, heapR, Cl.ow]; rfl))); (case hz => (intro _ _; first | (simp; done) | (simp -implicitDefEqProofs [hn, heapR, Cl.ow]; done))); (intro y hy s hs; simp at hs; subst hs))
      | (apply WPL.callR (c_spec_l1PickInt_c ⟨_, _⟩ ?g1); (case hg => (simp; done)); (case hd => (simp; done)); (case hl => (first | (simp; done) | (simp; rfl) | (simp -implicitDefEqProofs [hn, heapR, Cl.ow]; done) | (simp -implicitDefEqProofs [hn, heapR, Cl.ow]; rfl))); (case hr => (first | (simp; done) | (simp; rfl) | (simp -implicitDefEqProofs [hn, heapR, Cl.ow]; done) | (simp -implicitDefEqProofs [hn, heapR, Cl.ow]; rfl))); (case hins => (first | (simp -implicitDefEqProofs [hn, heapR, Cl.ow]; done) | (simp -implicitDefEqProofs [hn, heapR, Cl.ow]; rfl) | rfl)); (case he => (first | rfl | (simp -implicitDefEqProofs [hn, heapR, Cl.ow]; done))); (case hob => (first | (simp -implicitDefEqProofs [hn, heapR, Cl.ow]; done) | (simp -implicitDefEqProofs [hn, heapR, Cl.ow]; rfl) | rfl)); (case heo => (first | rfl | (simp -implicitDefEqProofs [hn, heapR, Cl.ow]; done))); (case g1 => (first | assumption | omega | decide | (simp_all; done))); (case hnw => (intro _; first | (simp; done) | (simp; rfl))); (case hok => (first | (simp; done) | (simp -implicitDefEqProofs [hn, heapR, Cl.ow]; done))); (case hP => (first | (simp; done) | (simp; rfl) | (simp -implicitDefEqProofs [hn, heapR, Cl.ow]; done) | (simp -implicitDefEqProofs [hn, heapR, Cl.ow]; rfl))); (case hS => (first | (simp; done) | (simp; rfl) | (simp -implicitDefEqProofs [hn, heapR, Cl.ow]; done) | (simp -implicitDefEqProofs [hn, heapR, Cl.ow]; rfl))); (case hz => (intro _ _; first | (simp; done) | (simp -implicitDefEqProofs [hn, heapR, Cl.ow]; done))); (intro y hy s hs; simp at hs; subst hs))
      | (apply WPL.callR (c_spec_l1Pick_b ⟨_, _⟩ ?g1); (case hg => (simp; done)); (case hd => (simp; done)); (case hl => (first | (simp; done) | (simp; rfl) | (simp -implicitDefEqProofs [hn, heapR, Cl.ow]; done) | (simp -implicitDefEqProofs [hn, heapR, Cl.ow]; rfl))); (case hr => (first | (simp; done) | (simp; rfl) | (simp -implicitDefEqProofs [hn, heapR, Cl.ow]; done) | (simp -implicitDefEqProofs [hn, heapR, Cl.ow]; rfl))); (case hins => (first | (simp -implicitDefEqProofs [hn, heapR, Cl.ow]; done) | (simp -implicitDefEqProofs [hn, heapR, Cl.ow]; rfl) | rfl)); (case he => (first | rfl | (simp -implicitDefEqProofs [hn, heapR, Cl.ow]; done))); (case hob => (first | (simp -implicitDefEqProofs [hn, heapR, Cl.ow]; done) | (simp -implicitDefEqProofs [hn, heapR, Cl.ow]; rfl) | rfl)); (case heo => (first | rfl | (simp -implicitDefEqProofs [hn, heapR, Cl.ow]; done))); (case g1 => (first | assumption | omega | decide | (simp_all; done))); (case hnw => (intro _; first | (simp; done) | (simp; rfl))); (case hok => (first | (simp; done) | (simp -implicitDefEqProofs [hn, heapR, Cl.ow]; done))); (case hP => (first | (simp; done) | (simp; rfl) | (simp -implicitDefEqProofs [hn, heapR, Cl.ow]; done) | (simp -implicitDefEqProofs [hn, heapR, Cl.ow]; rfl))); (case hS => (first | (simp; done) | (simp; rfl) | (simp -implicitDefEqProofs [hn, heapR, Cl.ow]; done) | (simp -implicitDefEqProofs [hn, heapR, Cl.ow]; rfl))); (case hz => (intro _ _; first | (simp; done) | (simp -implicitDefEqProofs [hn, heapR, Cl.ow]; done))); (intro y hy s hs; simp at hs; subst hs))
      | (refine WPL.call0f ?_ ?_ ?_; (focus (simp; done)); (focus (simp; done)))
      | (refine WPc.rq tok rfl fun K hK => ?_; simp -implicitDefEqProofs +contextual [-Int.not_le, -Int.not_lt, -Nat.not_le, -Nat.not_lt, -List.all_eq_true, -List.all_eq_false, -List.any_eq_true, -List.any_eq_false, hn, heapR, Cl.ow]; (fail_if_success guard_target =ₛ False); (repeat' (first | refine hK _ ?_ | refine And.intro ?_ ?_ | intro _)) <;> clear hK K)
      | (refine WPL.rn tok _ (by simp [ahead, isFn]; rfl) fun K hK => ?_; simp -implicitDefEqProofs +contextual [-Int.not_le, -Int.not_lt, -Nat.not_le, -Nat.not_lt, -List.all_eq_true, -List.all_eq_false, -List.any_eq_true, -List.any_eq_false, hn, heapR, Cl.ow]; (fail_if_success guard_target =ₛ False); (repeat' (first | refine hK _ ?_ | refine And.intro ?_ ?_ | intro _)) <;> clear hK K <;> (try simp only [Nat.reduceAdd, List.drop_succ_cons, List.drop_zero]))
      | (refine WPc.sched (id := 18) tok [(9, [0, 89, 1089, 2089]), (10, [89, 90, 1089, 2089]), (11, [8, 90, 91, 500008]), (14, [8, 91, 500008])] [(0, [0, 8, 89, 90, 91, 1089, 2089, 500008]), (1, [0, 8, 89, 90, 91, 1089, 2089, 500008]), (2, [0, 89, 90, 1089, 2089]), (3, [0, 89, 90, 1089, 2089]), (4, [0, 89, 90, 1089, 2089]), (5, [0, 89, 90, 1089, 2089]), (6, [0, 89, 90, 1089, 2089]), (7, []), (8, []), (9, [0, 89, 1089, 2089]), (10, [89, 90, 1089, 2089]), (11, [8, 90, 91, 500008]), (12, []), (13, []), (14, [8, 91, 500008])] (by kernel_rfl) ?_)
      | (refine WPS.rn tok _ (by simp [aheadS]; rfl) fun K hK => ?_; simp -implicitDefEqProofs +contextual [-Int.not_le, -Int.not_lt, -Nat.not_le, -Nat.not_lt, -List.all_eq_true, -List.all_eq_false, -List.any_eq_true, -List.any_eq_false, hn, heapR, Cl.ow]; (fail_if_success guard_target =ₛ False); (repeat' (first | refine hK _ ?_ | refine And.intro ?_ ?_ | intro _)) <;> clear hK K <;> (try simp only [Nat.reduceAdd, List.drop_succ_cons, List.drop_zero]))
      | (refine WPc.region ?_; simp only [List.toList_toArray])
      | (refine WPc.condF ?_ ?_; (focus (simp; done)))
      | (refine WPc.cond (by simp [-Bool.not_eq_eq_eq_not]; rfl) (fun hq => ?_) (fun hq => ?_) <;> simp only [hq] <;> (try (exfalso; (simp only [decide_eq_true_eq, decide_eq_false_iff_not] at hq); omega))))
    · rename_i y1 hy1 y0 hy0
      exact ⟨(h.modify y1.1 fun c => { c with k := y.1 }, y.2), ⟨hy, hH.upd _ _ (fun c hc => ⟨hc.s, hc.names, hc.vals⟩) (fun c hc => by simp; omega)⟩, by simp, by simp only [heapR]; rw [modify_ow (f := fun c => { c with k := y.1 }) fun c => rfl]⟩
    · rename_i y1 hy1 hq1
      have hv := (hH.rm _ (List.getElem_mem y1.1.2)).2
      have hv1 : (h[y1.1.1].vals.length + 1) * 32 ≤ 140737488355328 := by omega
      have hv2 : h[y1.1.1].vals.length + 1 ≤ 9223372036854775807 := by omega
      repeat' (first
        | (refine WPc.renR 8 900001 fun K hK => ?_; simp -implicitDefEqProofs +contextual [-Int.not_le, -Int.not_lt, -Nat.not_le, -Nat.not_lt, -List.all_eq_true, -List.all_eq_false, -List.any_eq_true, -List.any_eq_false, hn, heapR, Cl.ow, hv1, hv2, V.av]; (fail_if_success guard_target =ₛ False); (repeat' (first | refine hK _ ?_ | refine And.intro ?_ ?_ | intro _)) <;> clear hK K)
        | (refine WPS.detAt 91 8 500008 [] y1.1.1 5 ?_ (by decide) ?_; (focus (simp; done)); refine fun K hK => ?_; simp -implicitDefEqProofs +contextual [-Int.not_le, -Int.not_lt, -Nat.not_le, -Nat.not_lt, -List.all_eq_true, -List.all_eq_false, -List.any_eq_true, -List.any_eq_false, hn, heapR, Cl.ow, hv1, hv2, V.av]; (fail_if_success guard_target =ₛ False); (repeat' (first | refine hK _ ?_ | refine And.intro ?_ ?_ | intro _)) <;> clear hK K)
        | apply WPc.sq
        | (apply WPc.ret; apply endP.sel (is := [0, 900001]) (he := .inr rfl); (case hs => rfl); (case hg => rfl); (case h => (simp; rfl)); (case hO => (simp; rfl)); (case hk => (simp; done)))
        | (apply WPS.callR (hc := (c_spec_l6AnyVal ⟨_, _⟩ _ ?g1)); (case ho => exact rfl); (case hg => (simp; done)); (case hd => (simp; done)); (case hl => (first | (simp; done) | (simp; rfl) | (simp -implicitDefEqProofs [hn, heapR, Cl.ow, hv1, hv2, V.av]; done) | (simp -implicitDefEqProofs [hn, heapR, Cl.ow, hv1, hv2, V.av]; rfl))); (case hr => (first | (simp; done) | (simp; rfl) | (simp -implicitDefEqProofs [hn, heapR, Cl.ow, hv1, hv2, V.av]; done) | (simp -implicitDefEqProofs [hn, heapR, Cl.ow, hv1, hv2, V.av]; rfl))); (case hins => (first | (simp -implicitDefEqProofs [hn, heapR, Cl.ow, hv1, hv2, V.av]; done) | (simp -implicitDefEqProofs [hn, heapR, Cl.ow, hv1, hv2, V.av]; rfl) | rfl)); (case he => (first | rfl | (simp -implicitDefEqProofs [hn, heapR, Cl.ow, hv1, hv2, V.av]; done))); (case hob => (first | (simp -implicitDefEqProofs [hn, heapR, Cl.ow, hv1, hv2, V.av]; done) | (simp -implicitDefEqProofs [hn, heapR, Cl.ow, hv1, hv2, V.av]; rfl) | rfl)); (case heo => (first | rfl | (simp -implicitDefEqProofs [hn, heapR, Cl.ow, hv1, hv2, V.av]; done))); (case g1 => (first | assumption | omega | decide | (simp_all; done))); (case hnw => (intro _; first | (simp; done) | (simp; rfl))); (case hok => (first | (simp; done) | (simp -implicitDefEqProofs [hn, heapR, Cl.ow, hv1, hv2, V.av]; done))); (case hP => (first | (simp; done) | (simp; rfl) | (simp -implicitDefEqProofs [hn, heapR, Cl.ow, hv1, hv2, V.av]; done) | (simp -implicitDefEqProofs [hn, heapR, Cl.ow, hv1, hv2, V.av]; rfl))); (case hS => (first | (simp; done) | (simp; rfl) | (simp -implicitDefEqProofs [hn, heapR, Cl.ow, hv1, hv2, V.av]; done) | (simp -implicitDefEqProofs [hn, heapR, Cl.ow, hv1, hv2, V.av]; rfl))); (case hz => (intro _ _; first | (simp; done) | (simp -implicitDefEqProofs [hn, heapR, Cl.ow, hv1, hv2, V.av]; done))); (case hT => (simp; done)); (intro y hy s hs; simp at hs; subst hs))
        | (refine WPc.rq tok rfl fun K hK => ?_; simp -implicitDefEqProofs +contextual [-Int.not_le, -Int.not_lt, -Nat.not_le, -Nat.not_lt, -List.all_eq_true, -List.all_eq_false, -List.any_eq_true, -List.any_eq_false, hn, heapR, Cl.ow, hv1, hv2, V.av]; (fail_if_success guard_target =ₛ False); (repeat' (first | refine hK _ ?_ | refine And.intro ?_ ?_ | intro _)) <;> clear hK K)
        | (refine WPS.nil ?_)
        | (refine WPS.rn tok _ (by simp [aheadS]; rfl) fun K hK => ?_; simp -implicitDefEqProofs +contextual [-Int.not_le, -Int.not_lt, -Nat.not_le, -Nat.not_lt, -List.all_eq_true, -List.all_eq_false, -List.any_eq_true, -List.any_eq_false, hn, heapR, Cl.ow, hv1, hv2, V.av]; (fail_if_success guard_target =ₛ False); (repeat' (first | refine hK _ ?_ | refine And.intro ?_ ?_ | intro _)) <;> clear hK K <;> (try simp only [Nat.reduceAdd, List.drop_succ_cons, List.drop_zero]))
        | (refine WPS.eff tok fun K hK => ?_; simp -implicitDefEqProofs +contextual [-Int.not_le, -Int.not_lt, -Nat.not_le, -Nat.not_lt, -List.all_eq_true, -List.all_eq_false, -List.any_eq_true, -List.any_eq_false, hn, heapR, Cl.ow, hv1, hv2, V.av]; (fail_if_success guard_target =ₛ False); (repeat' (first | refine hK _ ?_ | refine And.intro ?_ ?_ | intro _)) <;> clear hK K))
      refine ⟨(h.modify y1.1 fun c => { c with vals := c.vals ++ [y.1] }, y.2), ⟨hy.1, hH.upd _ _ (fun c hc => ⟨hc.s, hc.names, fun v hv => ?_⟩) (fun c hc => by simp; omega)⟩, by simp, ?_⟩
      · rcases List.mem_append.1 hv with hv | hv
        · exact hc.vals v hv
        · simp at hv; subst hv; exact hy.2
      · simp only [heapR]
        rw [List.modify_modify_eq, ← modify_ow2 (g := fun r => r.set 5 (C.sl 29 3 (List.map V.cs h[y1.1.1].vals ++ [y.1.cs]))) (h := h) fun c hc => ?_]
        · congr 6
          funext r
          simp [Function.comp, V.cs]
        · rw [List.getElem?_eq_getElem y1.1.2] at hc
          injection hc with hc
          subst hc
          simp [Cl.ow]
    · rename_i y1 hy1 y0 hy0 hq0 hq1
      exact ⟨(h.modify y1.1 fun c => { c with a := y.1 }, y.2), ⟨hy, hH.upd _ _ (fun c hc => ⟨hc.s, hc.names, hc.vals⟩) (fun c hc => by simp; omega)⟩, by simp, by simp only [heapR]; rw [modify_ow (f := fun c => { c with a := y.1 }) fun c => rfl]⟩
    · rename_i y1 hy1 y0 hy0 hq0 hq1
      exact ⟨(h.modify y1.1 fun c => { c with s := y.1 }, y.2), ⟨hy.1, hH.upd _ _ (fun c hc => ⟨hy.2, hc.names, hc.vals⟩) (fun c hc => by simp; omega)⟩, by simp, by simp only [heapR]; rw [modify_ow (f := fun c => { c with s := y.1 }) fun c => rfl]⟩
    · exact ⟨(h, y.2), ⟨hy, hH.mono⟩, rfl, rfl⟩
    · exact ⟨(h, d), ⟨hg, hH.mono⟩, rfl, rfl⟩
end Go.Own
set_option linter.unusedVariables false
set_option linter.unusedSimpArgs false
set_option linter.unusedSectionVars false
set_option maxRecDepth 1000000
set_option maxHeartbeats 4000000
namespace Go.Own
attribute [local irreducible] WPc WPL WPS WPS1 WPS2 HAny endP
variable [Laid] [K : Code]
open Go.Lib Go.RowKit
theorem arity_le (s : ByteArray) : arity s ≤ 4 := by
  unfold arity
  repeat' split
  all_goals decide
def ops15 : List ByteArray := [⟨#[43]⟩, ⟨#[45]⟩, ⟨#[42]⟩, ⟨#[60]⟩, ⟨#[61]⟩, sCons, sCar, sCdr, sNull, sPair, sNot, sEq, ⟨#[112, 114, 105, 110, 116]⟩, ⟨#[109, 97, 107, 101]⟩, ⟨#[120]⟩]
theorem ops15_sz : ∀ s, s ∈ ops15 → 0 < s.size ∧ s.size < 10 := by
  intro s h
  simp only [ops15, List.mem_cons, List.not_mem_nil, or_false] at h
  rcases h with h | h | h | h | h | h | h | h | h | h | h | h | h | h | h <;> subst h <;> decide
theorem c_spec_l1Pick_o (c : Cur) (hc : c.good) : Con PP 36 [.ptr 0 3 [] 0 0, .fz (ops15.map sC)] [(0, c.root)] [0] (fun r o => ∃ y : ByteArray × Cur, (y.2.good ∧ 0 < y.1.size ∧ y.1.size < 10) ∧ r = .sc (.string y.1) ∧ o = [(0, y.2.root)]) :=
  (c_spec_l1Pick c ops15 hc (by decide)).mono fun r o ⟨y, h, h2⟩ => ⟨y, ⟨h.1, ops15_sz _ h.2⟩, h2⟩
theorem c_spec_l1PickInt_d (c : Cur) (hc : c.good) : Con PP 42 [.ptr 0 3 [] 0 0, .fz [[.sc (.int .i64 0)], [.sc (.int .i64 3)], [.sc (.int .i64 (-5))], [.sc (.int .i64 1000)], [.sc (.int .i64 1000000)]]] [(0, c.root)] [0] (fun r o => ∃ y : Int × Cur, (y.2.good) ∧ r = .sc (.int .i64 y.1) ∧ o = [(0, y.2.root)]) :=
  (c_spec_l1PickInt c [0, 3, -5, 1000, 1000000] hc (by decide)).mono fun r o ⟨y, h, h2⟩ => ⟨y, h.1, h2⟩
structure Dr where
  h : List Cl
  s : ByteArray
  a : List V
structure Dr.ok (d : Dr) : Prop where
  h : Hd 1001 10 d.h
  s : d.s.size < 10
  a : ∀ v, v ∈ d.a → v.sm
  al : d.a.length ≤ 4
theorem sm_snoc {a : List V} {v : V} (h : ∀ v, v ∈ a → v.sm) (hv : v.sm) : ∀ x, x ∈ a ++ [v] → x.sm := fun x hx => by
  rcases List.mem_append.1 hx with hx | hx
  · exact h x hx
  · simp at hx; subst hx; exact hv
theorem Hd.up {B : Nat} {m n : Int} {h : List Cl} (H : Hd B m h) (hm : m ≤ n) : Hd B n h := ⟨H.sm, H.rm, by have := H.sz; omega⟩
theorem c_spec_DrawPrim (hb : K.b.length ≤ 2097152) : Con PP 8 [.sc K.u] [] [] (fun r o => ∃ y : Dr, y.ok ∧ r = .tup [.sl 900001 6 [] 0 y.h.length, .sc (.string y.s), .sl 900002 3 [] 0 y.a.length] ∧ o = [(900001, heapR y.h), (900002, (29, 3, y.a.map V.cs))]) := by
  refine Con.of tok (nt := 60) Go.Proofs.Tryz.func8 (by kernel_rfl) rfl rfl rfl (Nat.le_of_ble_eq_true rfl) fun G => ?_
  simp only [entSt, tmOf, List.append_nil, List.cons_append, List.nil_append]
  repeat' (first
    | apply WPc.sq
    | apply WPc.block
    | apply WPc.skip
    | refine WPL.nil ?_
    | (apply WPL.callR (c_spec_l1New ?g1); (case hg => (simp; done)); (case hd => (simp; done)); (case hl => (first | (simp; done) | (simp; rfl) | (simp -implicitDefEqProofs [heapR]; done) | (simp -implicitDefEqProofs [heapR]; rfl))); (case hr => (first | (simp; done) | (simp; rfl) | (simp -implicitDefEqProofs [heapR]; done) | (simp -implicitDefEqProofs [heapR]; rfl))); (case hins => (first | (simp -implicitDefEqProofs [heapR]; done) | (simp -implicitDefEqProofs [heapR]; rfl) | rfl)); (case he => (first | rfl | (simp -implicitDefEqProofs [heapR]; done))); (case hob => (first | (simp -implicitDefEqProofs [heapR]; done) | (simp -implicitDefEqProofs [heapR]; rfl) | rfl)); (case heo => (first | rfl | (simp -implicitDefEqProofs [heapR]; done))); (case g1 => (first | assumption | omega | decide | (simp_all; done))); (case hnw => (intro _; first | (simp; done) | (simp; rfl))); (case hok => (first | (simp; done) | (simp -implicitDefEqProofs [heapR]; done))); (case hP => (first | (simp; done) | (simp; rfl) | (simp -implicitDefEqProofs [heapR]; done) | (simp -implicitDefEqProofs [heapR]; rfl))); (case hS => (first | (simp; done) | (simp; rfl) | (simp -implicitDefEqProofs [heapR]; done) | (simp -implicitDefEqProofs [heapR]; rfl))); (case hz => (intro _ _; first | (simp; done) | (simp -implicitDefEqProofs [heapR]; done))); (intro y hy s hs; simp at hs; subst hs))
    | (apply WPL.callR (c_spec_l1Size _); (case hg => (simp; done)); (case hd => (simp; done)); (case hl => (first | (simp; done) | (simp; rfl) | (simp -implicitDefEqProofs [heapR]; done) | (simp -implicitDefEqProofs [heapR]; rfl))); (case hr => (first | (simp; done) | (simp; rfl) | (simp -implicitDefEqProofs [heapR]; done) | (simp -implicitDefEqProofs [heapR]; rfl))); (case hins => (first | (simp -implicitDefEqProofs [heapR]; done) | (simp -implicitDefEqProofs [heapR]; rfl) | rfl)); (case he => (first | rfl | (simp -implicitDefEqProofs [heapR]; done))); (case hob => (first | (simp -implicitDefEqProofs [heapR]; done) | (simp -implicitDefEqProofs [heapR]; rfl) | rfl)); (case heo => (first | rfl | (simp -implicitDefEqProofs [heapR]; done))); (case hnw => (intro _; first | (simp; done) | (simp; rfl))); (case hok => (first | (simp; done) | (simp -implicitDefEqProofs [heapR]; done))); (case hP => (first | (simp; done) | (simp; rfl) | (simp -implicitDefEqProofs [heapR]; done) | (simp -implicitDefEqProofs [heapR]; rfl))); (case hS => (first | (simp; done) | (simp; rfl) | (simp -implicitDefEqProofs [heapR]; done) | (simp -implicitDefEqProofs [heapR]; rfl))); (case hz => (intro _ _; first | (simp; done) | (simp -implicitDefEqProofs [heapR]; done))); (intro y hy s hs; simp at hs; subst hs))
    | (apply WPL.callR (c_spec_l6Heap ⟨_, _⟩ _ ?g1 ?g2); (case hg => (simp; done)); (case hd => (simp; done)); (case hl => (first | (simp; done) | (simp; rfl) | (simp -implicitDefEqProofs [heapR]; done) | (simp -implicitDefEqProofs [heapR]; rfl))); (case hr => (first | (simp; done) | (simp; rfl) | (simp -implicitDefEqProofs [heapR]; done) | (simp -implicitDefEqProofs [heapR]; rfl))); (case hins => (first | (simp -implicitDefEqProofs [heapR]; done) | (simp -implicitDefEqProofs [heapR]; rfl) | rfl)); (case he => (first | rfl | (simp -implicitDefEqProofs [heapR]; done))); (case hob => (first | (simp -implicitDefEqProofs [heapR]; done) | (simp -implicitDefEqProofs [heapR]; rfl) | rfl)); (case heo => (first | rfl | (simp -implicitDefEqProofs [heapR]; done))); (case g1 => (first | assumption | omega | decide | (simp_all; done))); (case g2 => (first | assumption | omega | decide | (simp_all; done))); (case hnw => (intro _; first | (simp; done) | (simp; rfl))); (case hok => (first | (simp; done) | (simp -implicitDefEqProofs [heapR]; done))); (case hP => (first | (simp; done) | (simp; rfl) | (simp -implicitDefEqProofs [heapR]; done) | (simp -implicitDefEqProofs [heapR]; rfl))); (case hS => (first | (simp; done) | (simp; rfl) | (simp -implicitDefEqProofs [heapR]; done) | (simp -implicitDefEqProofs [heapR]; rfl))); (case hz => (intro _ _; first | (simp; done) | (simp -implicitDefEqProofs [heapR]; done))); (intro y hy s hs; simp at hs; subst hs))
    | (apply WPL.callR (c_spec_l1Pick_o ⟨_, _⟩ ?g1); (case hg => (simp; done)); (case hd => (simp; done)); (case hl => (first | (simp; done) | (simp; rfl) | (simp -implicitDefEqProofs [heapR]; done) | (simp -implicitDefEqProofs [heapR]; rfl))); (case hr => (first | (simp; done) | (simp; rfl) | (simp -implicitDefEqProofs [heapR]; done) | (simp -implicitDefEqProofs [heapR]; rfl))); (case hins => (first | (simp -implicitDefEqProofs [heapR]; done) | (simp -implicitDefEqProofs [heapR]; rfl) | rfl)); (case he => (first | rfl | (simp -implicitDefEqProofs [heapR]; done))); (case hob => (first | (simp -implicitDefEqProofs [heapR]; done) | (simp -implicitDefEqProofs [heapR]; rfl) | rfl)); (case heo => (first | rfl | (simp -implicitDefEqProofs [heapR]; done))); (case g1 => (first | assumption | omega | decide | (simp_all; done))); (case hnw => (intro _; first | (simp; done) | (simp; rfl))); (case hok => (first | (simp; done) | (simp -implicitDefEqProofs [heapR]; done))); (case hP => (first | (simp; done) | (simp; rfl) | (simp -implicitDefEqProofs [heapR]; done) | (simp -implicitDefEqProofs [heapR]; rfl))); (case hS => (first | (simp; done) | (simp; rfl) | (simp -implicitDefEqProofs [heapR]; done) | (simp -implicitDefEqProofs [heapR]; rfl))); (case hz => (intro _ _; first | (simp; done) | (simp -implicitDefEqProofs [heapR]; done))); (intro y hy s hs; simp at hs; subst hs))
    | (apply WPL.callL (c_spec_Arity _); (case hd => (simp; done)); (case hl => (first | (simp; done) | (simp; rfl) | (simp -implicitDefEqProofs [heapR]; done) | (simp -implicitDefEqProofs [heapR]; rfl))); (case hb => rfl); (case hins => (first | (simp -implicitDefEqProofs [heapR]; done) | (simp -implicitDefEqProofs [heapR]; rfl))); (case he => (first | rfl | (simp -implicitDefEqProofs [heapR]; done))); (case hz => (first | (exact .inl rfl) | (simp; done) | (exact .inr (by simp -implicitDefEqProofs [heapR])))))
    | (apply WPL.callR (c_spec_l1Once ⟨_, _⟩ _ ?g1); (case hg => (simp; done)); (case hd => (simp; done)); (case hl => (first | (simp; done) | (simp; rfl) | (simp -implicitDefEqProofs [heapR]; done) | (simp -implicitDefEqProofs [heapR]; rfl))); (case hr => (first | (simp; done) | (simp; rfl) | (simp -implicitDefEqProofs [heapR]; done) | (simp -implicitDefEqProofs [heapR]; rfl))); (case hins => (first | (simp -implicitDefEqProofs [heapR]; done) | (simp -implicitDefEqProofs [heapR]; rfl) | rfl)); (case he => (first | rfl | (simp -implicitDefEqProofs [heapR]; done))); (case hob => (first | (simp -implicitDefEqProofs [heapR]; done) | (simp -implicitDefEqProofs [heapR]; rfl) | rfl)); (case heo => (first | rfl | (simp -implicitDefEqProofs [heapR]; done))); (case g1 => (first | assumption | omega | decide | (simp_all; done))); (case hnw => (intro _; first | (simp; done) | (simp; rfl))); (case hok => (first | (simp; done) | (simp -implicitDefEqProofs [heapR]; done))); (case hP => (first | (simp; done) | (simp; rfl) | (simp -implicitDefEqProofs [heapR]; done) | (simp -implicitDefEqProofs [heapR]; rfl))); (case hS => (first | (simp; done) | (simp; rfl) | (simp -implicitDefEqProofs [heapR]; done) | (simp -implicitDefEqProofs [heapR]; rfl))); (case hz => (intro _ _; first | (simp; done) | (simp -implicitDefEqProofs [heapR]; done))); (intro y hy s hs; simp at hs; subst hs))
    | (apply WPL.callR (c_spec_l1Below_fin ⟨_, _⟩ _ ?g1 ?g2); (case hg => (simp; done)); (case hd => (simp; done)); (case hl => (first | (simp; done) | (simp; rfl) | (simp -implicitDefEqProofs [heapR]; done) | (simp -implicitDefEqProofs [heapR]; rfl))); (case hr => (first | (simp; done) | (simp; rfl) | (simp -implicitDefEqProofs [heapR]; done) | (simp -implicitDefEqProofs [heapR]; rfl))); (case hins => (first | (simp -implicitDefEqProofs [heapR]; done) | (simp -implicitDefEqProofs [heapR]; rfl) | rfl)); (case he => (first | rfl | (simp -implicitDefEqProofs [heapR]; done))); (case hob => (first | (simp -implicitDefEqProofs [heapR]; done) | (simp -implicitDefEqProofs [heapR]; rfl) | rfl)); (case heo => (first | rfl | (simp -implicitDefEqProofs [heapR]; done))); (case g1 => (first | assumption | omega | decide | (simp_all; done))); (case g2 => (first | assumption | omega | decide | (simp_all; done))); (case hnw => (intro _; first | (simp; done) | (simp; rfl))); (case hok => (first | (simp; done) | (simp -implicitDefEqProofs [heapR]; done))); (case hP => (first | (simp; done) | (simp; rfl) | (simp -implicitDefEqProofs [heapR]; done) | (simp -implicitDefEqProofs [heapR]; rfl))); (case hS => (first | (simp; done) | (simp; rfl) | (simp -implicitDefEqProofs [heapR]; done) | (simp -implicitDefEqProofs [heapR]; rfl))); (case hz => (intro _ _; first | (simp; done) | (simp -implicitDefEqProofs [heapR]; done))); (intro y hy s hs; simp at hs; subst hs))
    | (refine WPc.rq tok rfl fun K hK => ?_; simp -implicitDefEqProofs +contextual [-Int.not_le, -Int.not_lt, -Nat.not_le, -Nat.not_lt, -List.all_eq_true, -List.all_eq_false, -List.any_eq_true, -List.any_eq_false, heapR]; (fail_if_success guard_target =ₛ False); (repeat' (first | refine hK _ ?_ | refine And.intro ?_ ?_ | intro _)) <;> clear hK K)
    | (refine WPL.rn tok _ (by simp [ahead, isFn]; rfl) fun K hK => ?_; simp -implicitDefEqProofs +contextual [-Int.not_le, -Int.not_lt, -Nat.not_le, -Nat.not_lt, -List.all_eq_true, -List.all_eq_false, -List.any_eq_true, -List.any_eq_false, heapR]; (fail_if_success guard_target =ₛ False); (repeat' (first | refine hK _ ?_ | refine And.intro ?_ ?_ | intro _)) <;> clear hK K <;> (try simp only [Nat.reduceAdd, List.drop_succ_cons, List.drop_zero]))
    | (refine WPc.region ?_; simp only [List.toList_toArray])
    | (refine WPc.cond (by simp [-Bool.not_eq_eq_eq_not]; rfl) (fun hq => ?_) (fun hq => ?_) <;> simp only [hq] <;> (try (exfalso; (simp only [decide_eq_true_eq, decide_eq_false_iff_not] at hq); omega))))
  · rename_i c0 hc0 m hm hp hhp st hst b0 hb0
    have hn : ∀ k : Nat, k < y.1.val → k + 1 ≤ 4 := fun k h => by have h4 : y.1.val < 4 := y.1.isLt; omega
    refine WPc.loopV (σ := List V × Cur × Nat) (fun x => x.2.1.good ∧ (∀ v, v ∈ x.1 → v.sm) ∧ x.1.length = x.2.2 ∧ x.2.2 ≤ 4) (fun x => 5 - x.2.2) (fun x => [(9, .sl 26 3 [] 0 x.1.length), (10, .sc (.int .i64 x.2.2))]) (fun x => [(12, x.2.1.root), (16, heapR hp.1), (26, 29, 3, x.1.map V.cs)]) [5, 6, 7, 8] ([], y.2, 0) (by simp [heapR, Cur.root]) (by simp [heapR, Cur.root]) (⟨hy, by simp, rfl, by simp⟩) ?_
    rintro ⟨a, d, i⟩ ⟨hg, hs, hl, hi⟩ s hs
    simp at hs
    subst hs
    dsimp only at hg hs hl hi ⊢
    subst hl
    have hw : IntKind.i64.wrap ((a.length : Int) + 1) = a.length + 1 := wrap64 (by omega) (by omega)
    have hb1 : (a.length + 1) * 32 ≤ 140737488355328 := by omega
    have hb2 : a.length + 1 ≤ 9223372036854775807 := by omega
    have hs0 := hst.2.1
    repeat' (first
      | (refine WPc.renR 16 900001 fun K hK => ?_; simp -implicitDefEqProofs +contextual [-Int.not_le, -Int.not_lt, -Nat.not_le, -Nat.not_lt, -List.all_eq_true, -List.all_eq_false, -List.any_eq_true, -List.any_eq_false, heapR, V.av, hw, hb1, hb2, hs0]; (fail_if_success guard_target =ₛ False); (repeat' (first | refine hK _ ?_ | refine And.intro ?_ ?_ | intro _)) <;> clear hK K)
      | (refine WPc.renR 26 900002 fun K hK => ?_; simp -implicitDefEqProofs +contextual [-Int.not_le, -Int.not_lt, -Nat.not_le, -Nat.not_lt, -List.all_eq_true, -List.all_eq_false, -List.any_eq_true, -List.any_eq_false, heapR, V.av, hw, hb1, hb2, hs0]; (fail_if_success guard_target =ₛ False); (repeat' (first | refine hK _ ?_ | refine And.intro ?_ ?_ | intro _)) <;> clear hK K)
      | apply WPc.sq
      | apply WPc.block
      | (apply WPc.ret; apply endP.sel (is := [900001, 900002]) (he := .inr rfl); (case hs => rfl); (case hg => rfl); (case h => (simp; rfl)); (case hO => (simp; rfl)); (case hk => (simp; done)))
      | apply WPc.skip
      | apply WPc.exit
      | refine WPL.nil ?_
      | (apply WPL.callR (c_spec_l1Once ⟨_, _⟩ _ ?g1); (case hg => (simp; done)); (case hd => (simp; done)); (case hl => (first | (simp; done) | (simp; rfl) | (simp -implicitDefEqProofs [heapR, V.av, hw, hb1, hb2, hs0]; done) | (simp -implicitDefEqProofs [heapR, V.av, hw, hb1, hb2, hs0]; rfl))); (case hr => (first | (simp; done) | (simp; rfl) | (simp -implicitDefEqProofs [heapR, V.av, hw, hb1, hb2, hs0]; done) | (simp -implicitDefEqProofs [heapR, V.av, hw, hb1, hb2, hs0]; rfl))); (case hins => (first | (simp -implicitDefEqProofs [heapR, V.av, hw, hb1, hb2, hs0]; done) | (simp -implicitDefEqProofs [heapR, V.av, hw, hb1, hb2, hs0]; rfl) | rfl)); (case he => (first | rfl | (simp -implicitDefEqProofs [heapR, V.av, hw, hb1, hb2, hs0]; done))); (case hob => (first | (simp -implicitDefEqProofs [heapR, V.av, hw, hb1, hb2, hs0]; done) | (simp -implicitDefEqProofs [heapR, V.av, hw, hb1, hb2, hs0]; rfl) | rfl)); (case heo => (first | rfl | (simp -implicitDefEqProofs [heapR, V.av, hw, hb1, hb2, hs0]; done))); (case g1 => (first | assumption | omega | decide | (simp_all; done))); (case hnw => (intro _; first | (simp; done) | (simp; rfl))); (case hok => (first | (simp; done) | (simp -implicitDefEqProofs [heapR, V.av, hw, hb1, hb2, hs0]; done))); (case hP => (first | (simp; done) | (simp; rfl) | (simp -implicitDefEqProofs [heapR, V.av, hw, hb1, hb2, hs0]; done) | (simp -implicitDefEqProofs [heapR, V.av, hw, hb1, hb2, hs0]; rfl))); (case hS => (first | (simp; done) | (simp; rfl) | (simp -implicitDefEqProofs [heapR, V.av, hw, hb1, hb2, hs0]; done) | (simp -implicitDefEqProofs [heapR, V.av, hw, hb1, hb2, hs0]; rfl))); (case hz => (intro _ _; first | (simp; done) | (simp -implicitDefEqProofs [heapR, V.av, hw, hb1, hb2, hs0]; done))); (intro y hy s hs; simp at hs; subst hs))
      | (apply WPL.callL (c_spec_l1In _ _ _); (case hd => (simp; done)); (case hl => (first | (simp; done) | (simp; rfl) | (simp -implicitDefEqProofs [heapR, V.av, hw, hb1, hb2, hs0]; done) | (simp -implicitDefEqProofs [heapR, V.av, hw, hb1, hb2, hs0]; rfl))); (case hb => rfl); (case hins => (first | (simp -implicitDefEqProofs [heapR, V.av, hw, hb1, hb2, hs0]; done) | (simp -implicitDefEqProofs [heapR, V.av, hw, hb1, hb2, hs0]; rfl))); (case he => (first | rfl | (simp -implicitDefEqProofs [heapR, V.av, hw, hb1, hb2, hs0]; done))); (case hz => (first | (exact .inl rfl) | (simp; done) | (exact .inr (by simp -implicitDefEqProofs [heapR, V.av, hw, hb1, hb2, hs0])))))
      | (apply WPL.callLt (c_spec_l2In _ _ ?g1); (case hg => (simp; done)); (case hd => (simp; done)); (case hl => (first | (simp; done) | (simp; rfl) | (simp -implicitDefEqProofs [heapR, V.av, hw, hb1, hb2, hs0]; done) | (simp -implicitDefEqProofs [heapR, V.av, hw, hb1, hb2, hs0]; rfl))); (case hb => rfl); (case hins => (first | (simp -implicitDefEqProofs [heapR, V.av, hw, hb1, hb2, hs0]; done) | (simp -implicitDefEqProofs [heapR, V.av, hw, hb1, hb2, hs0]; rfl))); (case he => (first | rfl | (simp -implicitDefEqProofs [heapR, V.av, hw, hb1, hb2, hs0]; done))); (case g1 => (first | assumption | omega | decide | (simp_all; done))); (case hz => (first | (exact .inl rfl) | (simp; done) | (exact .inr (by simp -implicitDefEqProofs [heapR, V.av, hw, hb1, hb2, hs0])))))
      | (apply WPL.callR (c_spec_l1PickInt_d ⟨_, _⟩ ?g1); (case hg => (simp; done)); (case hd => (simp; done)); (case hl => (first | (simp; done) | (simp; rfl) | (simp -implicitDefEqProofs [heapR, V.av, hw, hb1, hb2, hs0]; done) | (simp -implicitDefEqProofs [heapR, V.av, hw, hb1, hb2, hs0]; rfl))); (case hr => (first | (simp; done) | (simp; rfl) | (simp -implicitDefEqProofs [heapR, V.av, hw, hb1, hb2, hs0]; done) | (simp -implicitDefEqProofs [heapR, V.av, hw, hb1, hb2, hs0]; rfl))); (case hins => (first | (simp -implicitDefEqProofs [heapR, V.av, hw, hb1, hb2, hs0]; done) | (simp -implicitDefEqProofs [heapR, V.av, hw, hb1, hb2, hs0]; rfl) | rfl)); (case he => (first | rfl | (simp -implicitDefEqProofs [heapR, V.av, hw, hb1, hb2, hs0]; done))); (case hob => (first | (simp -implicitDefEqProofs [heapR, V.av, hw, hb1, hb2, hs0]; done) | (simp -implicitDefEqProofs [heapR, V.av, hw, hb1, hb2, hs0]; rfl) | rfl)); (case heo => (first | rfl | (simp -implicitDefEqProofs [heapR, V.av, hw, hb1, hb2, hs0]; done))); (case g1 => (first | assumption | omega | decide | (simp_all; done))); (case hnw => (intro _; first | (simp; done) | (simp; rfl))); (case hok => (first | (simp; done) | (simp -implicitDefEqProofs [heapR, V.av, hw, hb1, hb2, hs0]; done))); (case hP => (first | (simp; done) | (simp; rfl) | (simp -implicitDefEqProofs [heapR, V.av, hw, hb1, hb2, hs0]; done) | (simp -implicitDefEqProofs [heapR, V.av, hw, hb1, hb2, hs0]; rfl))); (case hS => (first | (simp; done) | (simp; rfl) | (simp -implicitDefEqProofs [heapR, V.av, hw, hb1, hb2, hs0]; done) | (simp -implicitDefEqProofs [heapR, V.av, hw, hb1, hb2, hs0]; rfl))); (case hz => (intro _ _; first | (simp; done) | (simp -implicitDefEqProofs [heapR, V.av, hw, hb1, hb2, hs0]; done))); (intro y hy s hs; simp at hs; subst hs))
      | (apply WPL.callR (c_spec_l6AnyVal ⟨_, _⟩ _ ?g1); (case hg => (simp; done)); (case hd => (simp; done)); (case hl => (first | (simp; done) | (simp; rfl) | (simp -implicitDefEqProofs [heapR, V.av, hw, hb1, hb2, hs0]; done) | (simp -implicitDefEqProofs [heapR, V.av, hw, hb1, hb2, hs0]; rfl))); (case hr => (first | (simp; done) | (simp; rfl) | (simp -implicitDefEqProofs [heapR, V.av, hw, hb1, hb2, hs0]; done) | (simp -implicitDefEqProofs [heapR, V.av, hw, hb1, hb2, hs0]; rfl))); (case hins => (first | (simp -implicitDefEqProofs [heapR, V.av, hw, hb1, hb2, hs0]; done) | (simp -implicitDefEqProofs [heapR, V.av, hw, hb1, hb2, hs0]; rfl) | rfl)); (case he => (first | rfl | (simp -implicitDefEqProofs [heapR, V.av, hw, hb1, hb2, hs0]; done))); (case hob => (first | (simp -implicitDefEqProofs [heapR, V.av, hw, hb1, hb2, hs0]; done) | (simp -implicitDefEqProofs [heapR, V.av, hw, hb1, hb2, hs0]; rfl) | rfl)); (case heo => (first | rfl | (simp -implicitDefEqProofs [heapR, V.av, hw, hb1, hb2, hs0]; done))); (case g1 => (first | assumption | omega | decide | (simp_all; done))); (case hnw => (intro _; first | (simp; done) | (simp; rfl))); (case hok => (first | (simp; done) | (simp -implicitDefEqProofs [heapR, V.av, hw, hb1, hb2, hs0]; done))); (case hP => (first | (simp; done) | (simp; rfl) | (simp -implicitDefEqProofs [heapR, V.av, hw, hb1, hb2, hs0]; done) | (simp -implicitDefEqProofs [heapR, V.av, hw, hb1, hb2, hs0]; rfl))); (case hS => (first | (simp; done) | (simp; rfl) | (simp -implicitDefEqProofs [heapR, V.av, hw, hb1, hb2, hs0]; done) | (simp -implicitDefEqProofs [heapR, V.av, hw, hb1, hb2, hs0]; rfl))); (case hz => (intro _ _; first | (simp; done) | (simp -implicitDefEqProofs [heapR, V.av, hw, hb1, hb2, hs0]; done))); (intro y hy s hs; simp at hs; subst hs))
      | (refine WPL.call0f ?_ ?_ ?_; (focus (simp; done)); (focus (simp; done)))
      | (refine WPc.rq tok rfl fun K hK => ?_; simp -implicitDefEqProofs +contextual [-Int.not_le, -Int.not_lt, -Nat.not_le, -Nat.not_lt, -List.all_eq_true, -List.all_eq_false, -List.any_eq_true, -List.any_eq_false, heapR, V.av, hw, hb1, hb2, hs0]; (fail_if_success guard_target =ₛ False); (repeat' (first | refine hK _ ?_ | refine And.intro ?_ ?_ | intro _)) <;> clear hK K)
      | (refine WPL.rn tok _ (by simp [ahead, isFn]; rfl) fun K hK => ?_; simp -implicitDefEqProofs +contextual [-Int.not_le, -Int.not_lt, -Nat.not_le, -Nat.not_lt, -List.all_eq_true, -List.all_eq_false, -List.any_eq_true, -List.any_eq_false, heapR, V.av, hw, hb1, hb2, hs0]; (fail_if_success guard_target =ₛ False); (repeat' (first | refine hK _ ?_ | refine And.intro ?_ ?_ | intro _)) <;> clear hK K <;> (try simp only [Nat.reduceAdd, List.drop_succ_cons, List.drop_zero]))
      | (refine WPc.region ?_; simp only [List.toList_toArray])
      | (refine WPc.condF ?_ ?_; (focus (simp; done)))
      | (refine WPc.cond (by simp [-Bool.not_eq_eq_eq_not]; rfl) (fun hq => ?_) (fun hq => ?_) <;> simp only [hq] <;> (try (exfalso; (simp only [decide_eq_true_eq, decide_eq_false_iff_not] at hq); omega))))
    all_goals (try simp only [decide_eq_true_eq] at *)
    · have hn := hn _ (by assumption)
      refine ⟨(a ++ [⟨1, y.1, zs⟩], y.2, a.length + 1), ⟨⟨hy, sm_snoc hs (v := ⟨1, y.1, zs⟩) (show (0 : Nat) < 4294967000 by decide), by simp, hn⟩, by first | omega | (simp only; omega) | assumption⟩, rfl, rfl, ?_, ?_⟩ <;> simp (disch := omega) [wrap64, heapR, Cur.root, V.cs, hw]
    · have hn := hn _ (by assumption)
      refine ⟨(a ++ [y.1], y.2, a.length + 1), ⟨⟨hy.1, sm_snoc hs hy.2, by simp, hn⟩, by first | omega | (simp only; omega) | assumption⟩, rfl, rfl, ?_, ?_⟩ <;> simp (disch := omega) [wrap64, heapR, Cur.root, V.cs, hw]
    · have hn := hn _ (by assumption)
      refine ⟨(a ++ [y.1], y.2, a.length + 1), ⟨⟨hy.1, sm_snoc hs hy.2, by simp, hn⟩, by first | omega | (simp only; omega) | assumption⟩, rfl, rfl, ?_, ?_⟩ <;> simp (disch := omega) [wrap64, heapR, Cur.root, V.cs, hw]
    · have hn := hn _ (by assumption)
      refine ⟨(a ++ [y.1], y.2, a.length + 1), ⟨⟨hy.1, sm_snoc hs hy.2, by simp, hn⟩, by first | omega | (simp only; omega) | assumption⟩, rfl, rfl, ?_, ?_⟩ <;> simp (disch := omega) [wrap64, heapR, Cur.root, V.cs, hw]
    · exact ⟨⟨hp.1, st.1, a⟩, ⟨hhp.2.up hm, hst.2.2, hs, hi⟩, rfl, rfl⟩
  · rename_i c0 hc0 m hm hp hhp st hst
    have hn : ∀ k : Nat, (k : Int) < arity st.1 → k + 1 ≤ 4 := fun k h => by have := arity_le st.1; omega
    refine WPc.loopV (σ := List V × Cur × Nat) (fun x => x.2.1.good ∧ (∀ v, v ∈ x.1 → v.sm) ∧ x.1.length = x.2.2 ∧ x.2.2 ≤ 4) (fun x => 5 - x.2.2) (fun x => [(9, .sl 26 3 [] 0 x.1.length), (10, .sc (.int .i64 x.2.2))]) (fun x => [(12, x.2.1.root), (16, heapR hp.1), (26, 29, 3, x.1.map V.cs)]) [5, 6, 7, 8] ([], y.2, 0) (by simp [heapR, Cur.root]) (by simp [heapR, Cur.root]) (⟨hy, by simp, rfl, by simp⟩) ?_
    rintro ⟨a, d, i⟩ ⟨hg, hs, hl, hi⟩ s hs
    simp at hs
    subst hs
    dsimp only at hg hs hl hi ⊢
    subst hl
    have hw : IntKind.i64.wrap ((a.length : Int) + 1) = a.length + 1 := wrap64 (by omega) (by omega)
    have hb1 : (a.length + 1) * 32 ≤ 140737488355328 := by omega
    have hb2 : a.length + 1 ≤ 9223372036854775807 := by omega
    have hs0 := hst.2.1
    repeat' (first
      | (refine WPc.renR 16 900001 fun K hK => ?_; simp -implicitDefEqProofs +contextual [-Int.not_le, -Int.not_lt, -Nat.not_le, -Nat.not_lt, -List.all_eq_true, -List.all_eq_false, -List.any_eq_true, -List.any_eq_false, heapR, V.av, hw, hb1, hb2, hs0]; (fail_if_success guard_target =ₛ False); (repeat' (first | refine hK _ ?_ | refine And.intro ?_ ?_ | intro _)) <;> clear hK K)
      | (refine WPc.renR 26 900002 fun K hK => ?_; simp -implicitDefEqProofs +contextual [-Int.not_le, -Int.not_lt, -Nat.not_le, -Nat.not_lt, -List.all_eq_true, -List.all_eq_false, -List.any_eq_true, -List.any_eq_false, heapR, V.av, hw, hb1, hb2, hs0]; (fail_if_success guard_target =ₛ False); (repeat' (first | refine hK _ ?_ | refine And.intro ?_ ?_ | intro _)) <;> clear hK K)
      | apply WPc.sq
      | apply WPc.block
      | (apply WPc.ret; apply endP.sel (is := [900001, 900002]) (he := .inr rfl); (case hs => rfl); (case hg => rfl); (case h => (simp; rfl)); (case hO => (simp; rfl)); (case hk => (simp; done)))
      | apply WPc.skip
      | apply WPc.exit
      | refine WPL.nil ?_
      | (apply WPL.callR (c_spec_l1Once ⟨_, _⟩ _ ?g1); (case hg => (simp; done)); (case hd => (simp; done)); (case hl => (first | (simp; done) | (simp; rfl) | (simp -implicitDefEqProofs [heapR, V.av, hw, hb1, hb2, hs0]; done) | (simp -implicitDefEqProofs [heapR, V.av, hw, hb1, hb2, hs0]; rfl))); (case hr => (first | (simp; done) | (simp; rfl) | (simp -implicitDefEqProofs [heapR, V.av, hw, hb1, hb2, hs0]; done) | (simp -implicitDefEqProofs [heapR, V.av, hw, hb1, hb2, hs0]; rfl))); (case hins => (first | (simp -implicitDefEqProofs [heapR, V.av, hw, hb1, hb2, hs0]; done) | (simp -implicitDefEqProofs [heapR, V.av, hw, hb1, hb2, hs0]; rfl) | rfl)); (case he => (first | rfl | (simp -implicitDefEqProofs [heapR, V.av, hw, hb1, hb2, hs0]; done))); (case hob => (first | (simp -implicitDefEqProofs [heapR, V.av, hw, hb1, hb2, hs0]; done) | (simp -implicitDefEqProofs [heapR, V.av, hw, hb1, hb2, hs0]; rfl) | rfl)); (case heo => (first | rfl | (simp -implicitDefEqProofs [heapR, V.av, hw, hb1, hb2, hs0]; done))); (case g1 => (first | assumption | omega | decide | (simp_all; done))); (case hnw => (intro _; first | (simp; done) | (simp; rfl))); (case hok => (first | (simp; done) | (simp -implicitDefEqProofs [heapR, V.av, hw, hb1, hb2, hs0]; done))); (case hP => (first | (simp; done) | (simp; rfl) | (simp -implicitDefEqProofs [heapR, V.av, hw, hb1, hb2, hs0]; done) | (simp -implicitDefEqProofs [heapR, V.av, hw, hb1, hb2, hs0]; rfl))); (case hS => (first | (simp; done) | (simp; rfl) | (simp -implicitDefEqProofs [heapR, V.av, hw, hb1, hb2, hs0]; done) | (simp -implicitDefEqProofs [heapR, V.av, hw, hb1, hb2, hs0]; rfl))); (case hz => (intro _ _; first | (simp; done) | (simp -implicitDefEqProofs [heapR, V.av, hw, hb1, hb2, hs0]; done))); (intro y hy s hs; simp at hs; subst hs))
      | (apply WPL.callL (c_spec_l1In _ _ _); (case hd => (simp; done)); (case hl => (first | (simp; done) | (simp; rfl) | (simp -implicitDefEqProofs [heapR, V.av, hw, hb1, hb2, hs0]; done) | (simp -implicitDefEqProofs [heapR, V.av, hw, hb1, hb2, hs0]; rfl))); (case hb => rfl); (case hins => (first | (simp -implicitDefEqProofs [heapR, V.av, hw, hb1, hb2, hs0]; done) | (simp -implicitDefEqProofs [heapR, V.av, hw, hb1, hb2, hs0]; rfl))); (case he => (first | rfl | (simp -implicitDefEqProofs [heapR, V.av, hw, hb1, hb2, hs0]; done))); (case hz => (first | (exact .inl rfl) | (simp; done) | (exact .inr (by simp -implicitDefEqProofs [heapR, V.av, hw, hb1, hb2, hs0])))))
      | (apply WPL.callLt (c_spec_l2In _ _ ?g1); (case hg => (simp; done)); (case hd => (simp; done)); (case hl => (first | (simp; done) | (simp; rfl) | (simp -implicitDefEqProofs [heapR, V.av, hw, hb1, hb2, hs0]; done) | (simp -implicitDefEqProofs [heapR, V.av, hw, hb1, hb2, hs0]; rfl))); (case hb => rfl); (case hins => (first | (simp -implicitDefEqProofs [heapR, V.av, hw, hb1, hb2, hs0]; done) | (simp -implicitDefEqProofs [heapR, V.av, hw, hb1, hb2, hs0]; rfl))); (case he => (first | rfl | (simp -implicitDefEqProofs [heapR, V.av, hw, hb1, hb2, hs0]; done))); (case g1 => (first | assumption | omega | decide | (simp_all; done))); (case hz => (first | (exact .inl rfl) | (simp; done) | (exact .inr (by simp -implicitDefEqProofs [heapR, V.av, hw, hb1, hb2, hs0])))))
      | (apply WPL.callR (c_spec_l1PickInt_d ⟨_, _⟩ ?g1); (case hg => (simp; done)); (case hd => (simp; done)); (case hl => (first | (simp; done) | (simp; rfl) | (simp -implicitDefEqProofs [heapR, V.av, hw, hb1, hb2, hs0]; done) | (simp -implicitDefEqProofs [heapR, V.av, hw, hb1, hb2, hs0]; rfl))); (case hr => (first | (simp; done) | (simp; rfl) | (simp -implicitDefEqProofs [heapR, V.av, hw, hb1, hb2, hs0]; done) | (simp -implicitDefEqProofs [heapR, V.av, hw, hb1, hb2, hs0]; rfl))); (case hins => (first | (simp -implicitDefEqProofs [heapR, V.av, hw, hb1, hb2, hs0]; done) | (simp -implicitDefEqProofs [heapR, V.av, hw, hb1, hb2, hs0]; rfl) | rfl)); (case he => (first | rfl | (simp -implicitDefEqProofs [heapR, V.av, hw, hb1, hb2, hs0]; done))); (case hob => (first | (simp -implicitDefEqProofs [heapR, V.av, hw, hb1, hb2, hs0]; done) | (simp -implicitDefEqProofs [heapR, V.av, hw, hb1, hb2, hs0]; rfl) | rfl)); (case heo => (first | rfl | (simp -implicitDefEqProofs [heapR, V.av, hw, hb1, hb2, hs0]; done))); (case g1 => (first | assumption | omega | decide | (simp_all; done))); (case hnw => (intro _; first | (simp; done) | (simp; rfl))); (case hok => (first | (simp; done) | (simp -implicitDefEqProofs [heapR, V.av, hw, hb1, hb2, hs0]; done))); (case hP => (first | (simp; done) | (simp; rfl) | (simp -implicitDefEqProofs [heapR, V.av, hw, hb1, hb2, hs0]; done) | (simp -implicitDefEqProofs [heapR, V.av, hw, hb1, hb2, hs0]; rfl))); (case hS => (first | (simp; done) | (simp; rfl) | (simp -implicitDefEqProofs [heapR, V.av, hw, hb1, hb2, hs0]; done) | (simp -implicitDefEqProofs [heapR, V.av, hw, hb1, hb2, hs0]; rfl))); (case hz => (intro _ _; first | (simp; done) | (simp -implicitDefEqProofs [heapR, V.av, hw, hb1, hb2, hs0]; done))); (intro y hy s hs; simp at hs; subst hs))
      | (apply WPL.callR (c_spec_l6AnyVal ⟨_, _⟩ _ ?g1); (case hg => (simp; done)); (case hd => (simp; done)); (case hl => (first | (simp; done) | (simp; rfl) | (simp -implicitDefEqProofs [heapR, V.av, hw, hb1, hb2, hs0]; done) | (simp -implicitDefEqProofs [heapR, V.av, hw, hb1, hb2, hs0]; rfl))); (case hr => (first | (simp; done) | (simp; rfl) | (simp -implicitDefEqProofs [heapR, V.av, hw, hb1, hb2, hs0]; done) | (simp -implicitDefEqProofs [heapR, V.av, hw, hb1, hb2, hs0]; rfl))); (case hins => (first | (simp -implicitDefEqProofs [heapR, V.av, hw, hb1, hb2, hs0]; done) | (simp -implicitDefEqProofs [heapR, V.av, hw, hb1, hb2, hs0]; rfl) | rfl)); (case he => (first | rfl | (simp -implicitDefEqProofs [heapR, V.av, hw, hb1, hb2, hs0]; done))); (case hob => (first | (simp -implicitDefEqProofs [heapR, V.av, hw, hb1, hb2, hs0]; done) | (simp -implicitDefEqProofs [heapR, V.av, hw, hb1, hb2, hs0]; rfl) | rfl)); (case heo => (first | rfl | (simp -implicitDefEqProofs [heapR, V.av, hw, hb1, hb2, hs0]; done))); (case g1 => (first | assumption | omega | decide | (simp_all; done))); (case hnw => (intro _; first | (simp; done) | (simp; rfl))); (case hok => (first | (simp; done) | (simp -implicitDefEqProofs [heapR, V.av, hw, hb1, hb2, hs0]; done))); (case hP => (first | (simp; done) | (simp; rfl) | (simp -implicitDefEqProofs [heapR, V.av, hw, hb1, hb2, hs0]; done) | (simp -implicitDefEqProofs [heapR, V.av, hw, hb1, hb2, hs0]; rfl))); (case hS => (first | (simp; done) | (simp; rfl) | (simp -implicitDefEqProofs [heapR, V.av, hw, hb1, hb2, hs0]; done) | (simp -implicitDefEqProofs [heapR, V.av, hw, hb1, hb2, hs0]; rfl))); (case hz => (intro _ _; first | (simp; done) | (simp -implicitDefEqProofs [heapR, V.av, hw, hb1, hb2, hs0]; done))); (intro y hy s hs; simp at hs; subst hs))
      | (refine WPL.call0f ?_ ?_ ?_; (focus (simp; done)); (focus (simp; done)))
      | (refine WPc.rq tok rfl fun K hK => ?_; simp -implicitDefEqProofs +contextual [-Int.not_le, -Int.not_lt, -Nat.not_le, -Nat.not_lt, -List.all_eq_true, -List.all_eq_false, -List.any_eq_true, -List.any_eq_false, heapR, V.av, hw, hb1, hb2, hs0]; (fail_if_success guard_target =ₛ False); (repeat' (first | refine hK _ ?_ | refine And.intro ?_ ?_ | intro _)) <;> clear hK K)
      | (refine WPL.rn tok _ (by simp [ahead, isFn]; rfl) fun K hK => ?_; simp -implicitDefEqProofs +contextual [-Int.not_le, -Int.not_lt, -Nat.not_le, -Nat.not_lt, -List.all_eq_true, -List.all_eq_false, -List.any_eq_true, -List.any_eq_false, heapR, V.av, hw, hb1, hb2, hs0]; (fail_if_success guard_target =ₛ False); (repeat' (first | refine hK _ ?_ | refine And.intro ?_ ?_ | intro _)) <;> clear hK K <;> (try simp only [Nat.reduceAdd, List.drop_succ_cons, List.drop_zero]))
      | (refine WPc.region ?_; simp only [List.toList_toArray])
      | (refine WPc.condF ?_ ?_; (focus (simp; done)))
      | (refine WPc.cond (by simp [-Bool.not_eq_eq_eq_not]; rfl) (fun hq => ?_) (fun hq => ?_) <;> simp only [hq] <;> (try (exfalso; (simp only [decide_eq_true_eq, decide_eq_false_iff_not] at hq); omega))))
    all_goals (try simp only [decide_eq_true_eq] at *)
    · have hn := hn _ (by assumption)
      refine ⟨(a ++ [⟨1, y.1, zs⟩], y.2, a.length + 1), ⟨⟨hy, sm_snoc hs (v := ⟨1, y.1, zs⟩) (show (0 : Nat) < 4294967000 by decide), by simp, hn⟩, by first | omega | (simp only; omega) | assumption⟩, rfl, rfl, ?_, ?_⟩ <;> simp (disch := omega) [wrap64, heapR, Cur.root, V.cs, hw]
    · have hn := hn _ (by assumption)
      refine ⟨(a ++ [y.1], y.2, a.length + 1), ⟨⟨hy.1, sm_snoc hs hy.2, by simp, hn⟩, by first | omega | (simp only; omega) | assumption⟩, rfl, rfl, ?_, ?_⟩ <;> simp (disch := omega) [wrap64, heapR, Cur.root, V.cs, hw]
    · have hn := hn _ (by assumption)
      refine ⟨(a ++ [y.1], y.2, a.length + 1), ⟨⟨hy.1, sm_snoc hs hy.2, by simp, hn⟩, by first | omega | (simp only; omega) | assumption⟩, rfl, rfl, ?_, ?_⟩ <;> simp (disch := omega) [wrap64, heapR, Cur.root, V.cs, hw]
    · have hn := hn _ (by assumption)
      refine ⟨(a ++ [y.1], y.2, a.length + 1), ⟨⟨hy.1, sm_snoc hs hy.2, by simp, hn⟩, by first | omega | (simp only; omega) | assumption⟩, rfl, rfl, ?_, ?_⟩ <;> simp (disch := omega) [wrap64, heapR, Cur.root, V.cs, hw]
    · exact ⟨⟨hp.1, st.1, a⟩, ⟨hhp.2.up hm, hst.2.2, hs, hi⟩, rfl, rfl⟩
end Go.Own
set_option linter.unusedVariables false
set_option linter.unusedSimpArgs false
set_option linter.unusedSectionVars false
set_option maxRecDepth 1000000
set_option maxHeartbeats 4000000
namespace Go.Own
variable [Laid]
theorem valueOk_mono {h : List Cl} {c : Cl} {v : V} (hv : valueOk h v = true) : valueOk (h ++ [c]) v = true := by
  unfold valueOk at hv ⊢
  split
  · rename_i hk; rw [if_pos hk] at hv; exact hv
  · rename_i hk
    rw [if_neg hk] at hv
    simp only [Bool.and_eq_true] at hv ⊢
    refine ⟨hv.1, ?_⟩
    have hv := hv.2
    by_cases k1 : v.k = 1
    · rw [if_pos k1] at hv ⊢; exact hv
    by_cases k2 : v.k = 2
    · rw [if_neg k1, if_pos k2] at hv ⊢; exact hv
    by_cases k3 : v.k = 3
    · rw [if_neg k1, if_neg k2, if_pos k3] at hv ⊢; exact hv
    rw [if_neg k1, if_neg k2, if_neg k3] at hv ⊢
    simp only [Bool.and_eq_true, cellAt, decide_eq_true_eq] at hv ⊢
    refine ⟨hv.1, hv.2.1, ?_⟩
    have hv := hv.2.2
    cases hc : h[v.n.toNat]? with
    | none => simp [hc] at hv
    | some d =>
      obtain ⟨hlt, _⟩ := List.getElem?_eq_some_iff.1 hc
      rw [List.getElem?_append_left hlt, hc]
      simpa [hc] using hv
theorem valueOk_below {h : List Cl} {v : V} (hv : valueOk h v = true) : isBelow h.length v = true := by
  simp only [isBelow, Bool.not_eq_true', Bool.and_eq_false_iff, decide_eq_false_iff_not]
  by_cases hk : cellKind v.k = 0
  · exact .inl (by simp [hk])
  · right
    have h123 : ¬ v.k = 1 ∧ ¬ v.k = 2 ∧ ¬ v.k = 3 ∧ ¬ v.k = 4 := by
      refine ⟨?_, ?_, ?_, ?_⟩ <;> (intro e; simp [cellKind, e] at hk)
    unfold valueOk at hv
    rw [if_neg h123.2.2.2, if_neg h123.1, if_neg h123.2.1, if_neg h123.2.2.1] at hv
    simp only [Bool.and_eq_true, cellAt, decide_eq_true_eq] at hv
    have hv2 := hv.2.2.2
    have h0 := hv.2.2.1
    cases hc : h[v.n.toNat]? with
    | none => simp [hc] at hv2
    | some d =>
      obtain ⟨hlt, _⟩ := List.getElem?_eq_some_iff.1 hc
      omega
theorem heapOk_at {h : List Cl} (hh : heapOk h = true) {i : Nat} (hi : i < h.length) : okAt h i h[i] = true := by
  simp only [heapOk, Bool.and_eq_true, List.all_eq_true, List.mem_range] at hh
  have := hh.2 _ hi
  rwa [okI_eq hi] at this
theorem okAt_mono {h : List Cl} {c d : Cl} {i : Nat} (hd : okAt h i d = true) : okAt (h ++ [c]) i d = true := by
  simp only [okAt, Bool.and_eq_true] at hd ⊢
  exact ⟨⟨hd.1.1, List.all_eq_true.2 fun v hv => valueOk_mono (List.all_eq_true.1 hd.1.2 v hv)⟩, hd.2⟩
theorem heapOk_snoc {h : List Cl} {c : Cl} (hh : heapOk h = true) (hl : h.length < 300) (hc : okAt (h ++ [c]) h.length c = true) : heapOk (h ++ [c]) = true := by
  simp only [heapOk, Bool.and_eq_true, List.all_eq_true, List.mem_range, decide_eq_true_eq]
  refine ⟨by simp; omega, fun i hi => ?_⟩
  rw [okI_eq hi]
  by_cases he : i < h.length
  · rw [List.getElem_append_left he]; exact okAt_mono (heapOk_at hh he)
  · obtain rfl : i = h.length := by simp at hi; omega
    simpa using hc
theorem okAt_cons {h : List Cl} {x y : V} (hx : valueOk h x = true) (hy : valueOk h y = true) : okAt (h ++ [consC [x, y]]) h.length (consC [x, y]) = true := by
  simp [okAt, cellOk, consC, valueOk_mono hx, valueOk_mono hy, valueOk_below hx, valueOk_below hy]
theorem numR_no {n : Int} (h : (numR n).2 ≠ 0) : (numR n).1 = noV := by
  unfold numR at h ⊢; split at h <;> simp_all
theorem primV_no {h : List Cl} {s : ByteArray} {a b : V} (hs : s ≠ sCons) (hc : (primV h s a b).2 ≠ 0) : (primV h s a b).1 = noV := by
  unfold primV at hc ⊢
  simp only [hs, if_false] at hc ⊢
  repeat' split at hc
  all_goals (try (exact absurd rfl hc))
  all_goals simp_all only [if_true, if_false]
  · unfold partV at hc ⊢; split at hc <;> simp_all
  · unfold partV at hc ⊢; split at hc <;> simp_all
  · unfold arithV at hc ⊢
    split at hc
    · rename_i hk
      rw [if_pos hk]
      repeat' split at hc
      all_goals (try (exact absurd rfl hc))
      all_goals simp_all only [if_true, if_false]
      all_goals exact numR_no hc
    · rename_i hk; rw [if_neg hk]
theorem pr_bad {h : List Cl} {s : ByteArray} {a : List V} (hc : (pV h s a).2 ≠ 0) : (pV h s a).1 = noV ∧ (pH h s a).length = h.length := by
  unfold pV pH at *
  by_cases hg : good h s a = true
  · simp only [hg, if_true] at hc ⊢
    by_cases hs : s = sCons
    · subst hs
      have e : primV h sCons (arg a 0) (arg a 1) = allocV h 5 := by simp [primV, sCar, sCdr, sNull, sPair, sNot, sEq, sCons]
      rw [e] at hc ⊢
      unfold allocV at hc ⊢
      by_cases hl : h.length < 300
      · simp [hl] at hc
      · simp [hl, primH, allocH]
    · exact ⟨primV_no hs hc, by simp [primH, hs]⟩
  · simp [hg]
theorem boolV_ok {h : List Cl} (b : Bool) : valueOk h (boolV b) = true := by cases b <;> simp [valueOk, boolV, inRange]
theorem numR_ok {h : List Cl} {n : Int} (hc : (numR n).2 = 0) : valueOk h (numR n).1 = true := by
  unfold numR at hc ⊢
  split at hc
  · rename_i hr; rw [if_pos hr]; simp [valueOk, hr]
  · simp at hc
theorem partAt_ok {h : List Cl} {v : V} {k : Nat} (hh : heapOk h = true) (hv : valueOk h v = true) (hk : v.k = 5) (k2 : k < 2) : valueOk h (partAt h v k) = true := by
  obtain ⟨h0, hlt, h2⟩ := okPair_of hh hv hk
  have := heapOk_at hh hlt
  simp only [okAt, Bool.and_eq_true] at this
  have ha := List.all_eq_true.1 this.1.2
  have hk : k < h[v.n.toNat].vals.length := by omega
  simp only [partAt, List.getElem?_eq_getElem hlt, List.getElem?_eq_getElem hk, Option.getD_some]
  exact ha _ (List.getElem_mem hk)
theorem primV_ok {h : List Cl} {s : ByteArray} {a b : V} (hh : heapOk h = true) (ha : valueOk h a = true) (hs : s ≠ sCons) (hc : (primV h s a b).2 = 0) : valueOk h (primV h s a b).1 = true := by
  unfold primV at hc ⊢
  simp only [hs, if_false] at hc ⊢
  repeat' split at hc
  all_goals simp_all only [if_true, if_false]
  · unfold partV at hc ⊢
    split at hc
    · rename_i hk; rw [if_pos hk]; exact partAt_ok hh ha hk (by omega)
    · simp at hc
  · unfold partV at hc ⊢
    split at hc
    · rename_i hk; rw [if_pos hk]; exact partAt_ok hh ha hk (by omega)
    · simp at hc
  · exact boolV_ok _
  · exact boolV_ok _
  · exact boolV_ok _
  · exact boolV_ok _
  · unfold arithV at hc ⊢
    split at hc
    · rename_i hk
      rw [if_pos hk]
      repeat' split at hc
      all_goals simp_all only [if_true, if_false]
      all_goals first | exact boolV_ok _ | exact numR_ok hc | simp_all
    · simp at hc
def newP (h : List Cl) : V := ⟨5, h.length, zs⟩
theorem pr_ok {h : List Cl} {s : ByteArray} {a : List V} (hc : (pV h s a).2 = 0) :
    heapOk (pH h s a) = true ∧ valueOk (pH h s a) (pV h s a).1 = true ∧ (s ≠ sCons → (pH h s a).length = h.length) ∧
    (s = sCons → ∃ x y, a = [x, y] ∧ h.length < 300 ∧ pH h s a = h ++ [consC [x, y]] ∧ (pV h s a).1 = newP h) := by
  have hg : good h s a = true := by
    cases hg : good h s a with
    | true => rfl
    | false => simp [pV, hg] at hc
  obtain ⟨hh, hva, hcs⟩ := good_cases hg
  by_cases hs : s = sCons
  · subst hs
    rcases hcs with ⟨_, x, y, rfl⟩ | ⟨hu, _⟩
    · have e : pV h sCons [x, y] = allocV h 5 := by rw [pV, if_pos hg]; simp [primV, sCar, sCdr, sNull, sPair, sNot, sEq, sCons]
      rw [e] at hc
      have hl : h.length < 300 := by
        unfold allocV at hc
        by_cases hl : h.length < 300
        · exact hl
        · simp [hl] at hc
      have e2 : pH h sCons [x, y] = h ++ [consC [x, y]] := by simp [pH, hg, primH, allocH, hl]
      have e3 : (pV h sCons [x, y]).1 = newP h := by rw [e]; simp [allocV, hl, newP]
      have hok := heapOk_snoc hh hl (okAt_cons (hva x (by simp)) (hva y (by simp)))
      refine ⟨by rw [e2]; exact hok, ?_, fun h => absurd rfl h, fun _ => ⟨x, y, rfl, hl, e2, e3⟩⟩
      rw [e2, e3]
      simp [valueOk, newP, cellAt, cellKind, consC]
    · exfalso; revert hu; simp [uns, sCons, sCar, sCdr, sNull, sPair, sNot]
  · have e2 : pH h s a = h := by simp [pH, hg, primH, hs]
    rw [e2]
    refine ⟨hh, ?_, fun _ => rfl, fun h => absurd h hs⟩
    unfold pV at hc ⊢
    rw [if_pos hg] at hc ⊢
    have h0 : valueOk h (arg a 0) = true := by
      rcases hcs with ⟨_, x, y, rfl⟩ | ⟨_, x, rfl⟩
      · exact hva x (by simp)
      · exact hva x (by simp)
    exact primV_ok hh h0 hs hc
theorem pr_part {h : List Cl} {x y : V} (hh : heapOk (h ++ [consC [x, y]]) = true) (hv : valueOk (h ++ [consC [x, y]]) (newP h) = true) :
    pV (h ++ [consC [x, y]]) sCar [newP h] = (x, 0) ∧ pV (h ++ [consC [x, y]]) sCdr [newP h] = (y, 0) := by
  have p1 : plainP sCar = true := by decide +kernel
  have p2 : plainP sCdr = true := by decide +kernel
  have a1 : arity sCar = 1 := by decide +kernel
  have a2 : arity sCdr = 1 := by decide +kernel
  have g1 : good (h ++ [consC [x, y]]) sCar [newP h] = true := by simp [good, p1, a1, hh, hv]
  have g2 : good (h ++ [consC [x, y]]) sCdr [newP h] = true := by simp [good, p2, a2, hh, hv]
  refine ⟨?_, ?_⟩
  · rw [pV, if_pos g1]; simp [primV, arg, partV, partAt, newP, consC]
  · rw [pV, if_pos g2]; simp [primV, arg, partV, partAt, newP, consC, sCar, sCdr]
theorem truth_new (h : List Cl) : truth (newP h) = true := by simp [truth, V.eqb, newP]
theorem zs_sm : zs.size < 4294967000 := by decide
theorem noV_sm : noV.sm := zs_sm
theorem boolV_sm (b : Bool) : (boolV b).sm := zs_sm
theorem numR_sm (n : Int) : (numR n).1.sm := by unfold numR; split <;> exact zs_sm
theorem partAt_sm {h : List Cl} {v : V} {k : Nat} (hs : ∀ c, c ∈ h → c.sm) : (partAt h v k).sm := by
  unfold partAt
  split
  · rename_i c hc
    cases hv : c.vals[k]? with
    | none => exact noV_sm
    | some u => exact (hs c (List.mem_of_getElem? hc)).vals u (List.mem_of_getElem? hv)
  · exact noV_sm
theorem arithV_sm (s : ByteArray) (a b : V) : (arithV s a b).1.sm := by
  unfold arithV
  repeat' split
  all_goals first | exact zs_sm | exact boolV_sm _ | exact numR_sm _
theorem pV_sm {h : List Cl} {s : ByteArray} {a : List V} (hs : ∀ c, c ∈ h → c.sm) : (pV h s a).1.sm := by
  unfold pV
  split
  · unfold primV
    repeat' split
    all_goals first
      | exact boolV_sm _
      | exact arithV_sm _ _ _
      | (unfold partV; split <;> first | exact partAt_sm hs | exact noV_sm)
      | (unfold allocV; split <;> exact zs_sm)
  · exact noV_sm
theorem pH_mem {h : List Cl} {s : ByteArray} {a : List V} {c : Cl} (hc : c ∈ pH h s a) : c ∈ h ∨ c = consC a := by
  unfold pH at hc
  split at hc
  · unfold primH at hc
    split at hc
    · unfold allocH at hc
      split at hc
      · rcases List.mem_append.1 hc with hc | hc
        · exact .inl hc
        · simp at hc; exact .inr hc
      · exact .inl hc
    · exact .inl hc
  · exact .inl hc
theorem pH_sm {h : List Cl} {s : ByteArray} {a : List V} (hs : ∀ c, c ∈ h → c.sm) (ha : ∀ v, v ∈ a → v.sm) : ∀ c, c ∈ pH h s a → c.sm := fun c hc => by
  rcases pH_mem hc with hc | rfl
  · exact hs c hc
  · exact ⟨zs_sm, by simp [consC], fun v hv => ha v hv⟩
theorem pH_rm {h : List Cl} {s : ByteArray} {a : List V} (hs : ∀ c, c ∈ h → c.rm) (ha : a.length ≤ 1000000000) : ∀ c, c ∈ pH h s a → c.rm := fun c hc => by
  rcases pH_mem hc with hc | rfl
  · exact hs c hc
  · exact ⟨by simp [consC], ha⟩
end Go.Own
set_option linter.unusedVariables false
set_option linter.unusedSimpArgs false
set_option linter.unusedSectionVars false
set_option maxRecDepth 1000000
set_option maxHeartbeats 4000000
namespace Go.Own
attribute [local irreducible] WPc WPL WPS WPS1 WPS2 HAny endP
variable [Laid] [K : Code]
open Go.Lib Go.RowKit
theorem eqb_self (v : V) : v.eqb v = true := by simp [V.eqb]
theorem eqb_eta (v : V) : V.eqb ⟨v.k, v.n, v.s⟩ ⟨v.k, v.n, v.s⟩ = true := by simp [V.eqb]
theorem pH_ne {h : List Cl} {s : ByteArray} {a : List V} (hs : s ≠ sCons) : pH h s a = h := by
  unfold pH primH; split <;> simp [hs]
theorem c_laws_FnPrim [F : Facts.Of] : Con PP 3 [.sc K.u] [] [] (fun r o => r = .sc (.bool true)) := by
  by_cases hbig : 1048576 < (K.b.length : Int)
  · refine Con.of tok (nt := 126) Go.Proofs.Tryz.func3 (by kernel_rfl) rfl rfl rfl (Nat.le_of_ble_eq_true rfl) fun G => ?_
    simp only [entSt, tmOf, List.append_nil, List.cons_append, List.nil_append]
    repeat' (first
      | apply WPc.sq
      | (refine WPc.ret (endP.val (.inr rfl) rfl rfl (by simp; rfl) ?_))
      | refine WPL.nil ?_
      | (apply WPL.callL c_laws_big; (case hd => (simp; done)); (case hl => (first | (simp; done) | (simp; rfl) | (simp -implicitDefEqProofs [hbig]; done) | (simp -implicitDefEqProofs [hbig]; rfl))); (case hb => rfl); (case hins => (first | (simp -implicitDefEqProofs [hbig]; done) | (simp -implicitDefEqProofs [hbig]; rfl))); (case he => (first | rfl | (simp -implicitDefEqProofs [hbig]; done))); (case hz => (first | (exact .inl rfl) | (simp; done) | (exact .inr (by simp -implicitDefEqProofs [hbig])))))
      | (refine WPc.rq tok rfl fun K hK => ?_; simp -implicitDefEqProofs +contextual [-Int.not_le, -Int.not_lt, -Nat.not_le, -Nat.not_lt, -List.all_eq_true, -List.all_eq_false, -List.any_eq_true, -List.any_eq_false, hbig]; (fail_if_success guard_target =ₛ False); (repeat' (first | refine hK _ ?_ | refine And.intro ?_ ?_ | intro _)) <;> clear hK K)
      | (refine WPL.rn tok _ (by simp [ahead, isFn]; rfl) fun K hK => ?_; simp -implicitDefEqProofs +contextual [-Int.not_le, -Int.not_lt, -Nat.not_le, -Nat.not_lt, -List.all_eq_true, -List.all_eq_false, -List.any_eq_true, -List.any_eq_false, hbig]; (fail_if_success guard_target =ₛ False); (repeat' (first | refine hK _ ?_ | refine And.intro ?_ ?_ | intro _)) <;> clear hK K <;> (try simp only [Nat.reduceAdd, List.drop_succ_cons, List.drop_zero]))
      | (refine WPc.region ?_; simp only [List.toList_toArray])
      | (refine WPc.cond (by simp [-Bool.not_eq_eq_eq_not]; rfl) (fun hq => ?_) (fun hq => ?_) <;> simp only [hq] <;> (try (exfalso; (simp only [decide_eq_true_eq, decide_eq_false_iff_not] at hq); omega))))
    all_goals rfl
  have hb : K.b.length ≤ 2097152 := by omega
  refine Con.of tok (nt := 126) Go.Proofs.Tryz.func3 (by kernel_rfl) rfl rfl rfl (Nat.le_of_ble_eq_true rfl) fun G => ?_
  simp only [entSt, tmOf, List.append_nil, List.cons_append, List.nil_append]
  repeat' (first
    | apply WPc.sq
    | apply WPc.skip
    | refine WPL.nil ?_
    | (apply WPL.callL c_laws_big; (case hd => (simp; done)); (case hl => (first | (simp; done) | (simp; rfl) | (simp -implicitDefEqProofs [hbig]; done) | (simp -implicitDefEqProofs [hbig]; rfl))); (case hb => rfl); (case hins => (first | (simp -implicitDefEqProofs [hbig]; done) | (simp -implicitDefEqProofs [hbig]; rfl))); (case he => (first | rfl | (simp -implicitDefEqProofs [hbig]; done))); (case hz => (first | (exact .inl rfl) | (simp; done) | (exact .inr (by simp -implicitDefEqProofs [hbig])))))
    | (apply WPL.callR (c_spec_DrawPrim ?g1); (case hg => (simp; done)); (case hd => (simp; done)); (case hl => (first | (simp; done) | (simp; rfl) | (simp -implicitDefEqProofs [hbig]; done) | (simp -implicitDefEqProofs [hbig]; rfl))); (case hr => (first | (simp; done) | (simp; rfl) | (simp -implicitDefEqProofs [hbig]; done) | (simp -implicitDefEqProofs [hbig]; rfl))); (case hins => (first | (simp -implicitDefEqProofs [hbig]; done) | (simp -implicitDefEqProofs [hbig]; rfl) | rfl)); (case he => (first | rfl | (simp -implicitDefEqProofs [hbig]; done))); (case hob => (first | (simp -implicitDefEqProofs [hbig]; done) | (simp -implicitDefEqProofs [hbig]; rfl) | rfl)); (case heo => (first | rfl | (simp -implicitDefEqProofs [hbig]; done))); (case g1 => (first | assumption | omega)); (case hnw => (intro _; first | (simp; done) | (simp; rfl))); (case hok => (first | (simp; done) | (simp -implicitDefEqProofs [hbig]; done))); (case hP => (first | (simp; done) | (simp; rfl) | (simp -implicitDefEqProofs [hbig]; done) | (simp -implicitDefEqProofs [hbig]; rfl))); (case hS => (first | (simp; done) | (simp; rfl) | (simp -implicitDefEqProofs [hbig]; done) | (simp -implicitDefEqProofs [hbig]; rfl))); (case hz => (intro _ _; first | (simp; done) | (simp -implicitDefEqProofs [hbig]; done))); (intro y hy s hs; simp at hs; subst hs))
    | (refine WPc.rq tok rfl fun K hK => ?_; simp -implicitDefEqProofs +contextual [-Int.not_le, -Int.not_lt, -Nat.not_le, -Nat.not_lt, -List.all_eq_true, -List.all_eq_false, -List.any_eq_true, -List.any_eq_false, hbig]; (fail_if_success guard_target =ₛ False); (repeat' (first | refine hK _ ?_ | refine And.intro ?_ ?_ | intro _)) <;> clear hK K)
    | (refine WPL.rn tok _ (by simp [ahead, isFn]; rfl) fun K hK => ?_; simp -implicitDefEqProofs +contextual [-Int.not_le, -Int.not_lt, -Nat.not_le, -Nat.not_lt, -List.all_eq_true, -List.all_eq_false, -List.any_eq_true, -List.any_eq_false, hbig]; (fail_if_success guard_target =ₛ False); (repeat' (first | refine hK _ ?_ | refine And.intro ?_ ?_ | intro _)) <;> clear hK K <;> (try simp only [Nat.reduceAdd, List.drop_succ_cons, List.drop_zero]))
    | (refine WPc.region ?_; simp only [List.toList_toArray])
    | (refine WPc.cond (by simp [-Bool.not_eq_eq_eq_not]; rfl) (fun hq => ?_) (fun hq => ?_) <;> simp only [hq] <;> (try (exfalso; (simp only [decide_eq_true_eq, decide_eq_false_iff_not] at hq); omega))))
  obtain ⟨h, s, a⟩ := y
  obtain ⟨hH, hs, ha, hl⟩ := hy
  dsimp only at hH hs ha hl ⊢
  have s1 : s.size < 4294967000 := by omega
  have s2 : h.length ≤ 1000000000 := by have := hH.sz; omega
  have s3 : ∀ c, c ∈ h → c.rm := fun c hc => by have := hH.rm c hc; exact ⟨by omega, by omega⟩
  have s4 := hH.sm
  have t1 := pV_sm (h := h) (s := s) (a := a) s4
  have t2 := pH_sm (h := h) (s := s) (a := a) s4 ha
  have t3 := pH_rm (h := h) (s := s) (a := a) s3 (by omega)
  have t4 : (pH h s a).length ≤ 1000000000 := by have := pH_len h s a; have := hH.sz; omega
  have ht : V.sm ⟨(pV h s a).1.k, (pV h s a).1.n, (pV h s a).1.s⟩ := t1
  by_cases hc : (pV h s a).2 = 0
  · obtain ⟨o1, o2, o3, o4⟩ := pr_ok hc
    have o2' : valueOk (pH h s a) ⟨(pV h s a).1.k, (pV h s a).1.n, (pV h s a).1.s⟩ = true := o2
    by_cases hcons : s = sCons
    · obtain ⟨x, y, hxy, p2, p3, p4⟩ := o4 hcons
      have hs' : (s = ⟨#[99, 111, 110, 115]⟩) = True := by simpa [sCons] using hcons
      have a0 : 0 < a.length := by simp [hxy]
      have a1 : 1 < a.length := by simp [hxy]
      have a0' : (0 : Int) < (a.length : Int) := by omega
      have a1' : (1 : Int) < (a.length : Int) := by omega
      have e0 : a[0] = x := by simp [hxy]
      have e1 : a[1] = y := by simp [hxy]
      have u1 : ∀ v, v ∈ [(pV h s a).1] → v.sm := by simp [t1]
      have hq := pr_part (h := h) (x := x) (y := y) (p3 ▸ o1) (p3 ▸ p4 ▸ o2)
      rw [← p3, ← p4] at hq
      have hcar := c_impl_Prim (pH h s a) sCar [(pV h s a).1] (by decide) t2 u1 t4 t3
      have hcdr := c_impl_Prim (pH h s a) sCdr [(pV h s a).1] (by decide) t2 u1 t4 t3
      simp only [PrimR, hq.1, hq.2, pH_ne (show sCar ≠ sCons by decide), pH_ne (show sCdr ≠ sCons by decide)] at hcar hcdr
      simp only [sCar, sCdr, List.map_cons, List.map_nil, V.cs] at hcar hcdr
      have hw : IntKind.i64.wrap ((h.length : Int) + 1) = h.length + 1 := wrap64 (by omega) (by omega)
      have hL : ((pH h s a).length : Int) = h.length + 1 := by rw [p3]; simp
      have htr : truth ⟨(pV h s a).1.k, (pV h s a).1.n, (pV h s a).1.s⟩ = true := by show truth (pV h s a).1 = true; rw [p4]; exact truth_new h
      repeat' (first
        | apply WPc.sq
        | (refine WPc.ret (endP.val (.inr rfl) rfl rfl (by simp; rfl) ?_))
        | apply WPc.skip
        | refine WPL.nil ?_
        | (apply WPL.callU hcdr; (case hg => (simp; done)); (case hd => (simp; done)); (case hl => (first | (simp; done) | (simp; rfl) | (simp -implicitDefEqProofs [hc, o1, o2', hs', PrimR, heapR, V.av, V.cs, eqb_eta, a0, a1, a0', a1', e0, e1, hw, hL, htr]; done) | (simp -implicitDefEqProofs [hc, o1, o2', hs', PrimR, heapR, V.av, V.cs, eqb_eta, a0, a1, a0', a1', e0, e1, hw, hL, htr]; rfl))); (case hr => (first | (simp; done) | (simp; rfl) | (simp -implicitDefEqProofs [hc, o1, o2', hs', PrimR, heapR, V.av, V.cs, eqb_eta, a0, a1, a0', a1', e0, e1, hw, hL, htr]; done) | (simp -implicitDefEqProofs [hc, o1, o2', hs', PrimR, heapR, V.av, V.cs, eqb_eta, a0, a1, a0', a1', e0, e1, hw, hL, htr]; rfl))); (case hins => (first | (simp -implicitDefEqProofs [hc, o1, o2', hs', PrimR, heapR, V.av, V.cs, eqb_eta, a0, a1, a0', a1', e0, e1, hw, hL, htr]; done) | (simp -implicitDefEqProofs [hc, o1, o2', hs', PrimR, heapR, V.av, V.cs, eqb_eta, a0, a1, a0', a1', e0, e1, hw, hL, htr]; rfl) | rfl)); (case he => (first | rfl | (simp -implicitDefEqProofs [hc, o1, o2', hs', PrimR, heapR, V.av, V.cs, eqb_eta, a0, a1, a0', a1', e0, e1, hw, hL, htr]; done))); (case hob => (first | (simp -implicitDefEqProofs [hc, o1, o2', hs', PrimR, heapR, V.av, V.cs, eqb_eta, a0, a1, a0', a1', e0, e1, hw, hL, htr]; done) | (simp -implicitDefEqProofs [hc, o1, o2', hs', PrimR, heapR, V.av, V.cs, eqb_eta, a0, a1, a0', a1', e0, e1, hw, hL, htr]; rfl) | rfl)); (case heo => (first | rfl | (simp -implicitDefEqProofs [hc, o1, o2', hs', PrimR, heapR, V.av, V.cs, eqb_eta, a0, a1, a0', a1', e0, e1, hw, hL, htr]; done))); (case hnw => (first | (simp; done) | (simp; rfl) | (simp -implicitDefEqProofs [hc, o1, o2', hs', PrimR, heapR, V.av, V.cs, eqb_eta, a0, a1, a0', a1', e0, e1, hw, hL, htr]; done) | (simp -implicitDefEqProofs [hc, o1, o2', hs', PrimR, heapR, V.av, V.cs, eqb_eta, a0, a1, a0', a1', e0, e1, hw, hL, htr]; rfl))); (case hok => (first | (simp; done) | (simp -implicitDefEqProofs [hc, o1, o2', hs', PrimR, heapR, V.av, V.cs, eqb_eta, a0, a1, a0', a1', e0, e1, hw, hL, htr]; done))); (case hP => (first | (simp; done) | (simp; rfl) | (simp -implicitDefEqProofs [hc, o1, o2', hs', PrimR, heapR, V.av, V.cs, eqb_eta, a0, a1, a0', a1', e0, e1, hw, hL, htr]; done) | (simp -implicitDefEqProofs [hc, o1, o2', hs', PrimR, heapR, V.av, V.cs, eqb_eta, a0, a1, a0', a1', e0, e1, hw, hL, htr]; rfl))); (case hS => (first | (simp; done) | (simp; rfl) | (simp -implicitDefEqProofs [hc, o1, o2', hs', PrimR, heapR, V.av, V.cs, eqb_eta, a0, a1, a0', a1', e0, e1, hw, hL, htr]; done) | (simp -implicitDefEqProofs [hc, o1, o2', hs', PrimR, heapR, V.av, V.cs, eqb_eta, a0, a1, a0', a1', e0, e1, hw, hL, htr]; rfl))); (case hz => (first | (simp; done) | (simp -implicitDefEqProofs [hc, o1, o2', hs', PrimR, heapR, V.av, V.cs, eqb_eta, a0, a1, a0', a1', e0, e1, hw, hL, htr]; done))); (case hs => (first | (simp -implicitDefEqProofs [hc, o1, o2', hs', PrimR, heapR, V.av, V.cs, eqb_eta, a0, a1, a0', a1', e0, e1, hw, hL, htr]; done) | (simp -implicitDefEqProofs [hc, o1, o2', hs', PrimR, heapR, V.av, V.cs, eqb_eta, a0, a1, a0', a1', e0, e1, hw, hL, htr]; rfl) | rfl)))
        | (apply WPL.callU hcar; (case hg => (simp; done)); (case hd => (simp; done)); (case hl => (first | (simp; done) | (simp; rfl) | (simp -implicitDefEqProofs [hc, o1, o2', hs', PrimR, heapR, V.av, V.cs, eqb_eta, a0, a1, a0', a1', e0, e1, hw, hL, htr]; done) | (simp -implicitDefEqProofs [hc, o1, o2', hs', PrimR, heapR, V.av, V.cs, eqb_eta, a0, a1, a0', a1', e0, e1, hw, hL, htr]; rfl))); (case hr => (first | (simp; done) | (simp; rfl) | (simp -implicitDefEqProofs [hc, o1, o2', hs', PrimR, heapR, V.av, V.cs, eqb_eta, a0, a1, a0', a1', e0, e1, hw, hL, htr]; done) | (simp -implicitDefEqProofs [hc, o1, o2', hs', PrimR, heapR, V.av, V.cs, eqb_eta, a0, a1, a0', a1', e0, e1, hw, hL, htr]; rfl))); (case hins => (first | (simp -implicitDefEqProofs [hc, o1, o2', hs', PrimR, heapR, V.av, V.cs, eqb_eta, a0, a1, a0', a1', e0, e1, hw, hL, htr]; done) | (simp -implicitDefEqProofs [hc, o1, o2', hs', PrimR, heapR, V.av, V.cs, eqb_eta, a0, a1, a0', a1', e0, e1, hw, hL, htr]; rfl) | rfl)); (case he => (first | rfl | (simp -implicitDefEqProofs [hc, o1, o2', hs', PrimR, heapR, V.av, V.cs, eqb_eta, a0, a1, a0', a1', e0, e1, hw, hL, htr]; done))); (case hob => (first | (simp -implicitDefEqProofs [hc, o1, o2', hs', PrimR, heapR, V.av, V.cs, eqb_eta, a0, a1, a0', a1', e0, e1, hw, hL, htr]; done) | (simp -implicitDefEqProofs [hc, o1, o2', hs', PrimR, heapR, V.av, V.cs, eqb_eta, a0, a1, a0', a1', e0, e1, hw, hL, htr]; rfl) | rfl)); (case heo => (first | rfl | (simp -implicitDefEqProofs [hc, o1, o2', hs', PrimR, heapR, V.av, V.cs, eqb_eta, a0, a1, a0', a1', e0, e1, hw, hL, htr]; done))); (case hnw => (first | (simp; done) | (simp; rfl) | (simp -implicitDefEqProofs [hc, o1, o2', hs', PrimR, heapR, V.av, V.cs, eqb_eta, a0, a1, a0', a1', e0, e1, hw, hL, htr]; done) | (simp -implicitDefEqProofs [hc, o1, o2', hs', PrimR, heapR, V.av, V.cs, eqb_eta, a0, a1, a0', a1', e0, e1, hw, hL, htr]; rfl))); (case hok => (first | (simp; done) | (simp -implicitDefEqProofs [hc, o1, o2', hs', PrimR, heapR, V.av, V.cs, eqb_eta, a0, a1, a0', a1', e0, e1, hw, hL, htr]; done))); (case hP => (first | (simp; done) | (simp; rfl) | (simp -implicitDefEqProofs [hc, o1, o2', hs', PrimR, heapR, V.av, V.cs, eqb_eta, a0, a1, a0', a1', e0, e1, hw, hL, htr]; done) | (simp -implicitDefEqProofs [hc, o1, o2', hs', PrimR, heapR, V.av, V.cs, eqb_eta, a0, a1, a0', a1', e0, e1, hw, hL, htr]; rfl))); (case hS => (first | (simp; done) | (simp; rfl) | (simp -implicitDefEqProofs [hc, o1, o2', hs', PrimR, heapR, V.av, V.cs, eqb_eta, a0, a1, a0', a1', e0, e1, hw, hL, htr]; done) | (simp -implicitDefEqProofs [hc, o1, o2', hs', PrimR, heapR, V.av, V.cs, eqb_eta, a0, a1, a0', a1', e0, e1, hw, hL, htr]; rfl))); (case hz => (first | (simp; done) | (simp -implicitDefEqProofs [hc, o1, o2', hs', PrimR, heapR, V.av, V.cs, eqb_eta, a0, a1, a0', a1', e0, e1, hw, hL, htr]; done))); (case hs => (first | (simp -implicitDefEqProofs [hc, o1, o2', hs', PrimR, heapR, V.av, V.cs, eqb_eta, a0, a1, a0', a1', e0, e1, hw, hL, htr]; done) | (simp -implicitDefEqProofs [hc, o1, o2', hs', PrimR, heapR, V.av, V.cs, eqb_eta, a0, a1, a0', a1', e0, e1, hw, hL, htr]; rfl) | rfl)))
        | (apply WPL.callU (c_impl_Prim _ _ _ ?g1 ?g2 ?g3 ?g4 ?g5); (case hg => (simp; done)); (case hd => (simp; done)); (case hl => (first | (simp; done) | (simp; rfl) | (simp -implicitDefEqProofs [hc, o1, o2', hs', PrimR, heapR, V.av, V.cs, eqb_eta, a0, a1, a0', a1', e0, e1, hw, hL, htr]; done) | (simp -implicitDefEqProofs [hc, o1, o2', hs', PrimR, heapR, V.av, V.cs, eqb_eta, a0, a1, a0', a1', e0, e1, hw, hL, htr]; rfl))); (case hr => (first | (simp; done) | (simp; rfl) | (simp -implicitDefEqProofs [hc, o1, o2', hs', PrimR, heapR, V.av, V.cs, eqb_eta, a0, a1, a0', a1', e0, e1, hw, hL, htr]; done) | (simp -implicitDefEqProofs [hc, o1, o2', hs', PrimR, heapR, V.av, V.cs, eqb_eta, a0, a1, a0', a1', e0, e1, hw, hL, htr]; rfl))); (case hins => (first | (simp -implicitDefEqProofs [hc, o1, o2', hs', PrimR, heapR, V.av, V.cs, eqb_eta, a0, a1, a0', a1', e0, e1, hw, hL, htr]; done) | (simp -implicitDefEqProofs [hc, o1, o2', hs', PrimR, heapR, V.av, V.cs, eqb_eta, a0, a1, a0', a1', e0, e1, hw, hL, htr]; rfl) | rfl)); (case he => (first | rfl | (simp -implicitDefEqProofs [hc, o1, o2', hs', PrimR, heapR, V.av, V.cs, eqb_eta, a0, a1, a0', a1', e0, e1, hw, hL, htr]; done))); (case hob => (first | (simp -implicitDefEqProofs [hc, o1, o2', hs', PrimR, heapR, V.av, V.cs, eqb_eta, a0, a1, a0', a1', e0, e1, hw, hL, htr]; done) | (simp -implicitDefEqProofs [hc, o1, o2', hs', PrimR, heapR, V.av, V.cs, eqb_eta, a0, a1, a0', a1', e0, e1, hw, hL, htr]; rfl) | rfl)); (case heo => (first | rfl | (simp -implicitDefEqProofs [hc, o1, o2', hs', PrimR, heapR, V.av, V.cs, eqb_eta, a0, a1, a0', a1', e0, e1, hw, hL, htr]; done))); (case g1 => (first | assumption | omega)); (case g2 => (first | assumption | omega)); (case g3 => (first | assumption | omega)); (case g4 => (first | assumption | omega)); (case g5 => (first | assumption | omega)); (case hnw => (first | (simp; done) | (simp; rfl) | (simp -implicitDefEqProofs [hc, o1, o2', hs', PrimR, heapR, V.av, V.cs, eqb_eta, a0, a1, a0', a1', e0, e1, hw, hL, htr]; done) | (simp -implicitDefEqProofs [hc, o1, o2', hs', PrimR, heapR, V.av, V.cs, eqb_eta, a0, a1, a0', a1', e0, e1, hw, hL, htr]; rfl))); (case hok => (first | (simp; done) | (simp -implicitDefEqProofs [hc, o1, o2', hs', PrimR, heapR, V.av, V.cs, eqb_eta, a0, a1, a0', a1', e0, e1, hw, hL, htr]; done))); (case hP => (first | (simp; done) | (simp; rfl) | (simp -implicitDefEqProofs [hc, o1, o2', hs', PrimR, heapR, V.av, V.cs, eqb_eta, a0, a1, a0', a1', e0, e1, hw, hL, htr]; done) | (simp -implicitDefEqProofs [hc, o1, o2', hs', PrimR, heapR, V.av, V.cs, eqb_eta, a0, a1, a0', a1', e0, e1, hw, hL, htr]; rfl))); (case hS => (first | (simp; done) | (simp; rfl) | (simp -implicitDefEqProofs [hc, o1, o2', hs', PrimR, heapR, V.av, V.cs, eqb_eta, a0, a1, a0', a1', e0, e1, hw, hL, htr]; done) | (simp -implicitDefEqProofs [hc, o1, o2', hs', PrimR, heapR, V.av, V.cs, eqb_eta, a0, a1, a0', a1', e0, e1, hw, hL, htr]; rfl))); (case hz => (first | (simp; done) | (simp -implicitDefEqProofs [hc, o1, o2', hs', PrimR, heapR, V.av, V.cs, eqb_eta, a0, a1, a0', a1', e0, e1, hw, hL, htr]; done))); (case hs => (first | (simp -implicitDefEqProofs [hc, o1, o2', hs', PrimR, heapR, V.av, V.cs, eqb_eta, a0, a1, a0', a1', e0, e1, hw, hL, htr]; done) | (simp -implicitDefEqProofs [hc, o1, o2', hs', PrimR, heapR, V.av, V.cs, eqb_eta, a0, a1, a0', a1', e0, e1, hw, hL, htr]; rfl) | rfl)))
        | (apply WPL.callU (c_spec_Prim _ _ _ ?g1 ?g2 ?g3 ?g4); (case hg => (simp; done)); (case hd => (simp; done)); (case hl => (first | (simp; done) | (simp; rfl) | (simp -implicitDefEqProofs [hc, o1, o2', hs', PrimR, heapR, V.av, V.cs, eqb_eta, a0, a1, a0', a1', e0, e1, hw, hL, htr]; done) | (simp -implicitDefEqProofs [hc, o1, o2', hs', PrimR, heapR, V.av, V.cs, eqb_eta, a0, a1, a0', a1', e0, e1, hw, hL, htr]; rfl))); (case hr => (first | (simp; done) | (simp; rfl) | (simp -implicitDefEqProofs [hc, o1, o2', hs', PrimR, heapR, V.av, V.cs, eqb_eta, a0, a1, a0', a1', e0, e1, hw, hL, htr]; done) | (simp -implicitDefEqProofs [hc, o1, o2', hs', PrimR, heapR, V.av, V.cs, eqb_eta, a0, a1, a0', a1', e0, e1, hw, hL, htr]; rfl))); (case hins => (first | (simp -implicitDefEqProofs [hc, o1, o2', hs', PrimR, heapR, V.av, V.cs, eqb_eta, a0, a1, a0', a1', e0, e1, hw, hL, htr]; done) | (simp -implicitDefEqProofs [hc, o1, o2', hs', PrimR, heapR, V.av, V.cs, eqb_eta, a0, a1, a0', a1', e0, e1, hw, hL, htr]; rfl) | rfl)); (case he => (first | rfl | (simp -implicitDefEqProofs [hc, o1, o2', hs', PrimR, heapR, V.av, V.cs, eqb_eta, a0, a1, a0', a1', e0, e1, hw, hL, htr]; done))); (case hob => (first | (simp -implicitDefEqProofs [hc, o1, o2', hs', PrimR, heapR, V.av, V.cs, eqb_eta, a0, a1, a0', a1', e0, e1, hw, hL, htr]; done) | (simp -implicitDefEqProofs [hc, o1, o2', hs', PrimR, heapR, V.av, V.cs, eqb_eta, a0, a1, a0', a1', e0, e1, hw, hL, htr]; rfl) | rfl)); (case heo => (first | rfl | (simp -implicitDefEqProofs [hc, o1, o2', hs', PrimR, heapR, V.av, V.cs, eqb_eta, a0, a1, a0', a1', e0, e1, hw, hL, htr]; done))); (case g1 => (first | assumption | omega)); (case g2 => (first | assumption | omega)); (case g3 => (first | assumption | omega)); (case g4 => (first | assumption | omega)); (case hnw => (first | (simp; done) | (simp; rfl) | (simp -implicitDefEqProofs [hc, o1, o2', hs', PrimR, heapR, V.av, V.cs, eqb_eta, a0, a1, a0', a1', e0, e1, hw, hL, htr]; done) | (simp -implicitDefEqProofs [hc, o1, o2', hs', PrimR, heapR, V.av, V.cs, eqb_eta, a0, a1, a0', a1', e0, e1, hw, hL, htr]; rfl))); (case hok => (first | (simp; done) | (simp -implicitDefEqProofs [hc, o1, o2', hs', PrimR, heapR, V.av, V.cs, eqb_eta, a0, a1, a0', a1', e0, e1, hw, hL, htr]; done))); (case hP => (first | (simp; done) | (simp; rfl) | (simp -implicitDefEqProofs [hc, o1, o2', hs', PrimR, heapR, V.av, V.cs, eqb_eta, a0, a1, a0', a1', e0, e1, hw, hL, htr]; done) | (simp -implicitDefEqProofs [hc, o1, o2', hs', PrimR, heapR, V.av, V.cs, eqb_eta, a0, a1, a0', a1', e0, e1, hw, hL, htr]; rfl))); (case hS => (first | (simp; done) | (simp; rfl) | (simp -implicitDefEqProofs [hc, o1, o2', hs', PrimR, heapR, V.av, V.cs, eqb_eta, a0, a1, a0', a1', e0, e1, hw, hL, htr]; done) | (simp -implicitDefEqProofs [hc, o1, o2', hs', PrimR, heapR, V.av, V.cs, eqb_eta, a0, a1, a0', a1', e0, e1, hw, hL, htr]; rfl))); (case hz => (first | (simp; done) | (simp -implicitDefEqProofs [hc, o1, o2', hs', PrimR, heapR, V.av, V.cs, eqb_eta, a0, a1, a0', a1', e0, e1, hw, hL, htr]; done))); (case hs => (first | (simp -implicitDefEqProofs [hc, o1, o2', hs', PrimR, heapR, V.av, V.cs, eqb_eta, a0, a1, a0', a1', e0, e1, hw, hL, htr]; done) | (simp -implicitDefEqProofs [hc, o1, o2', hs', PrimR, heapR, V.av, V.cs, eqb_eta, a0, a1, a0', a1', e0, e1, hw, hL, htr]; rfl) | rfl)))
        | (apply WPL.callL (c_spec_HeapOk _ ?g1); (case hd => (simp; done)); (case hl => (first | (simp; done) | (simp; rfl) | (simp -implicitDefEqProofs [hc, o1, o2', hs', PrimR, heapR, V.av, V.cs, eqb_eta, a0, a1, a0', a1', e0, e1, hw, hL, htr]; done) | (simp -implicitDefEqProofs [hc, o1, o2', hs', PrimR, heapR, V.av, V.cs, eqb_eta, a0, a1, a0', a1', e0, e1, hw, hL, htr]; rfl))); (case hb => rfl); (case hins => (first | (simp -implicitDefEqProofs [hc, o1, o2', hs', PrimR, heapR, V.av, V.cs, eqb_eta, a0, a1, a0', a1', e0, e1, hw, hL, htr]; done) | (simp -implicitDefEqProofs [hc, o1, o2', hs', PrimR, heapR, V.av, V.cs, eqb_eta, a0, a1, a0', a1', e0, e1, hw, hL, htr]; rfl))); (case he => (first | rfl | (simp -implicitDefEqProofs [hc, o1, o2', hs', PrimR, heapR, V.av, V.cs, eqb_eta, a0, a1, a0', a1', e0, e1, hw, hL, htr]; done))); (case g1 => (first | assumption | omega)); (case hz => (first | (exact .inl rfl) | (simp; done) | (exact .inr (by simp -implicitDefEqProofs [hc, o1, o2', hs', PrimR, heapR, V.av, V.cs, eqb_eta, a0, a1, a0', a1', e0, e1, hw, hL, htr])))))
        | (apply WPL.callLt (c_spec_ValueOk _ ⟨_, _, _⟩ ?g1); (case hg => (simp; done)); (case hd => (simp; done)); (case hl => (first | (simp; done) | (simp; rfl) | (simp -implicitDefEqProofs [hc, o1, o2', hs', PrimR, heapR, V.av, V.cs, eqb_eta, a0, a1, a0', a1', e0, e1, hw, hL, htr]; done) | (simp -implicitDefEqProofs [hc, o1, o2', hs', PrimR, heapR, V.av, V.cs, eqb_eta, a0, a1, a0', a1', e0, e1, hw, hL, htr]; rfl))); (case hb => rfl); (case hins => (first | (simp -implicitDefEqProofs [hc, o1, o2', hs', PrimR, heapR, V.av, V.cs, eqb_eta, a0, a1, a0', a1', e0, e1, hw, hL, htr]; done) | (simp -implicitDefEqProofs [hc, o1, o2', hs', PrimR, heapR, V.av, V.cs, eqb_eta, a0, a1, a0', a1', e0, e1, hw, hL, htr]; rfl))); (case he => (first | rfl | (simp -implicitDefEqProofs [hc, o1, o2', hs', PrimR, heapR, V.av, V.cs, eqb_eta, a0, a1, a0', a1', e0, e1, hw, hL, htr]; done))); (case g1 => (first | assumption | omega)); (case hz => (first | (exact .inl rfl) | (simp; done) | (exact .inr (by simp -implicitDefEqProofs [hc, o1, o2', hs', PrimR, heapR, V.av, V.cs, eqb_eta, a0, a1, a0', a1', e0, e1, hw, hL, htr])))))
        | (apply WPS.callL (hc := (c_impl_Truth ⟨_, _, _⟩)); (case ho => exact rfl); (case hg => (simp; done)); (case hd => (simp; done)); (case hl => (first | (simp; done) | (simp; rfl) | (simp -implicitDefEqProofs [hc, o1, o2', hs', PrimR, heapR, V.av, V.cs, eqb_eta, a0, a1, a0', a1', e0, e1, hw, hL, htr]; done) | (simp -implicitDefEqProofs [hc, o1, o2', hs', PrimR, heapR, V.av, V.cs, eqb_eta, a0, a1, a0', a1', e0, e1, hw, hL, htr]; rfl))); (case hb => rfl); (case hins => (first | (simp -implicitDefEqProofs [hc, o1, o2', hs', PrimR, heapR, V.av, V.cs, eqb_eta, a0, a1, a0', a1', e0, e1, hw, hL, htr]; done) | (simp -implicitDefEqProofs [hc, o1, o2', hs', PrimR, heapR, V.av, V.cs, eqb_eta, a0, a1, a0', a1', e0, e1, hw, hL, htr]; rfl) | rfl)); (case he => (first | rfl | (simp -implicitDefEqProofs [hc, o1, o2', hs', PrimR, heapR, V.av, V.cs, eqb_eta, a0, a1, a0', a1', e0, e1, hw, hL, htr]; done))); (case hz => (first | (exact .inl rfl) | (simp; done) | (exact .inr (by simp -implicitDefEqProofs [hc, o1, o2', hs', PrimR, heapR, V.av, V.cs, eqb_eta, a0, a1, a0', a1', e0, e1, hw, hL, htr])))))
        | (refine WPc.rq tok rfl fun K hK => ?_; simp -implicitDefEqProofs +contextual [-Int.not_le, -Int.not_lt, -Nat.not_le, -Nat.not_lt, -List.all_eq_true, -List.all_eq_false, -List.any_eq_true, -List.any_eq_false, hc, o1, o2', hs', PrimR, heapR, V.av, V.cs, eqb_eta, a0, a1, a0', a1', e0, e1, hw, hL, htr]; (fail_if_success guard_target =ₛ False); (repeat' (first | refine hK _ ?_ | refine And.intro ?_ ?_ | intro _)) <;> clear hK K)
        | (refine WPL.rn tok _ (by simp [ahead, isFn]; rfl) fun K hK => ?_; simp -implicitDefEqProofs +contextual [-Int.not_le, -Int.not_lt, -Nat.not_le, -Nat.not_lt, -List.all_eq_true, -List.all_eq_false, -List.any_eq_true, -List.any_eq_false, hc, o1, o2', hs', PrimR, heapR, V.av, V.cs, eqb_eta, a0, a1, a0', a1', e0, e1, hw, hL, htr]; (fail_if_success guard_target =ₛ False); (repeat' (first | refine hK _ ?_ | refine And.intro ?_ ?_ | intro _)) <;> clear hK K <;> (try simp only [Nat.reduceAdd, List.drop_succ_cons, List.drop_zero]))
        | (refine WPc.sched (id := 16) tok [] ((0, []) :: (1, []) :: (2, []) :: (3, []) :: (4, []) :: (5, []) :: (6, []) :: (7, []) :: (8, []) :: (9, []) :: (10, []) :: (11, []) :: (12, []) :: (13, []) :: (14, []) :: (15, []) :: (16, []) :: (17, []) :: (18, []) :: (19, []) :: (20, []) :: (21, []) :: (22, []) :: (23, []) :: (24, []) :: (25, []) :: (26, []) :: (27, []) :: (28, []) :: (29, []) :: (30, []) :: (31, []) :: (32, []) :: []) (by kernel_rfl) ?_)
        | (refine WPS.nil ?_)
        | (refine WPS.rn tok _ (by simp [aheadS]; rfl) fun K hK => ?_; simp -implicitDefEqProofs +contextual [-Int.not_le, -Int.not_lt, -Nat.not_le, -Nat.not_lt, -List.all_eq_true, -List.all_eq_false, -List.any_eq_true, -List.any_eq_false, hc, o1, o2', hs', PrimR, heapR, V.av, V.cs, eqb_eta, a0, a1, a0', a1', e0, e1, hw, hL, htr]; (fail_if_success guard_target =ₛ False); (repeat' (first | refine hK _ ?_ | refine And.intro ?_ ?_ | intro _)) <;> clear hK K <;> (try simp only [Nat.reduceAdd, List.drop_succ_cons, List.drop_zero]))
        | (refine WPc.region ?_; simp only [List.toList_toArray])
        | (refine WPc.condF ?_ ?_; (focus (simp; done))))
      all_goals rfl
    · have o3 := o3 hcons
      have hs' : (s = ⟨#[99, 111, 110, 115]⟩) = False := by simpa [sCons] using hcons
      repeat' (first
        | apply WPc.sq
        | (refine WPc.ret (endP.val (.inr rfl) rfl rfl (by simp; rfl) ?_))
        | apply WPc.skip
        | refine WPL.nil ?_
        | (apply WPL.callU (c_impl_Prim _ _ _ ?g1 ?g2 ?g3 ?g4 ?g5); (case hg => (simp; done)); (case hd => (simp; done)); (case hl => (first | (simp; done) | (simp; rfl) | (simp -implicitDefEqProofs [hc, o1, o2', hs', PrimR, heapR, V.av, V.cs, eqb_eta]; done) | (simp -implicitDefEqProofs [hc, o1, o2', hs', PrimR, heapR, V.av, V.cs, eqb_eta]; rfl))); (case hr => (first | (simp; done) | (simp; rfl) | (simp -implicitDefEqProofs [hc, o1, o2', hs', PrimR, heapR, V.av, V.cs, eqb_eta]; done) | (simp -implicitDefEqProofs [hc, o1, o2', hs', PrimR, heapR, V.av, V.cs, eqb_eta]; rfl))); (case hins => (first | (simp -implicitDefEqProofs [hc, o1, o2', hs', PrimR, heapR, V.av, V.cs, eqb_eta]; done) | (simp -implicitDefEqProofs [hc, o1, o2', hs', PrimR, heapR, V.av, V.cs, eqb_eta]; rfl) | rfl)); (case he => (first | rfl | (simp -implicitDefEqProofs [hc, o1, o2', hs', PrimR, heapR, V.av, V.cs, eqb_eta]; done))); (case hob => (first | (simp -implicitDefEqProofs [hc, o1, o2', hs', PrimR, heapR, V.av, V.cs, eqb_eta]; done) | (simp -implicitDefEqProofs [hc, o1, o2', hs', PrimR, heapR, V.av, V.cs, eqb_eta]; rfl) | rfl)); (case heo => (first | rfl | (simp -implicitDefEqProofs [hc, o1, o2', hs', PrimR, heapR, V.av, V.cs, eqb_eta]; done))); (case g1 => (first | assumption | omega)); (case g2 => (first | assumption | omega)); (case g3 => (first | assumption | omega)); (case g4 => (first | assumption | omega)); (case g5 => (first | assumption | omega)); (case hnw => (first | (simp; done) | (simp; rfl) | (simp -implicitDefEqProofs [hc, o1, o2', hs', PrimR, heapR, V.av, V.cs, eqb_eta]; done) | (simp -implicitDefEqProofs [hc, o1, o2', hs', PrimR, heapR, V.av, V.cs, eqb_eta]; rfl))); (case hok => (first | (simp; done) | (simp -implicitDefEqProofs [hc, o1, o2', hs', PrimR, heapR, V.av, V.cs, eqb_eta]; done))); (case hP => (first | (simp; done) | (simp; rfl) | (simp -implicitDefEqProofs [hc, o1, o2', hs', PrimR, heapR, V.av, V.cs, eqb_eta]; done) | (simp -implicitDefEqProofs [hc, o1, o2', hs', PrimR, heapR, V.av, V.cs, eqb_eta]; rfl))); (case hS => (first | (simp; done) | (simp; rfl) | (simp -implicitDefEqProofs [hc, o1, o2', hs', PrimR, heapR, V.av, V.cs, eqb_eta]; done) | (simp -implicitDefEqProofs [hc, o1, o2', hs', PrimR, heapR, V.av, V.cs, eqb_eta]; rfl))); (case hz => (first | (simp; done) | (simp -implicitDefEqProofs [hc, o1, o2', hs', PrimR, heapR, V.av, V.cs, eqb_eta]; done))); (case hs => (first | (simp -implicitDefEqProofs [hc, o1, o2', hs', PrimR, heapR, V.av, V.cs, eqb_eta]; done) | (simp -implicitDefEqProofs [hc, o1, o2', hs', PrimR, heapR, V.av, V.cs, eqb_eta]; rfl) | rfl)))
        | (apply WPL.callU (c_spec_Prim _ _ _ ?g1 ?g2 ?g3 ?g4); (case hg => (simp; done)); (case hd => (simp; done)); (case hl => (first | (simp; done) | (simp; rfl) | (simp -implicitDefEqProofs [hc, o1, o2', hs', PrimR, heapR, V.av, V.cs, eqb_eta]; done) | (simp -implicitDefEqProofs [hc, o1, o2', hs', PrimR, heapR, V.av, V.cs, eqb_eta]; rfl))); (case hr => (first | (simp; done) | (simp; rfl) | (simp -implicitDefEqProofs [hc, o1, o2', hs', PrimR, heapR, V.av, V.cs, eqb_eta]; done) | (simp -implicitDefEqProofs [hc, o1, o2', hs', PrimR, heapR, V.av, V.cs, eqb_eta]; rfl))); (case hins => (first | (simp -implicitDefEqProofs [hc, o1, o2', hs', PrimR, heapR, V.av, V.cs, eqb_eta]; done) | (simp -implicitDefEqProofs [hc, o1, o2', hs', PrimR, heapR, V.av, V.cs, eqb_eta]; rfl) | rfl)); (case he => (first | rfl | (simp -implicitDefEqProofs [hc, o1, o2', hs', PrimR, heapR, V.av, V.cs, eqb_eta]; done))); (case hob => (first | (simp -implicitDefEqProofs [hc, o1, o2', hs', PrimR, heapR, V.av, V.cs, eqb_eta]; done) | (simp -implicitDefEqProofs [hc, o1, o2', hs', PrimR, heapR, V.av, V.cs, eqb_eta]; rfl) | rfl)); (case heo => (first | rfl | (simp -implicitDefEqProofs [hc, o1, o2', hs', PrimR, heapR, V.av, V.cs, eqb_eta]; done))); (case g1 => (first | assumption | omega)); (case g2 => (first | assumption | omega)); (case g3 => (first | assumption | omega)); (case g4 => (first | assumption | omega)); (case hnw => (first | (simp; done) | (simp; rfl) | (simp -implicitDefEqProofs [hc, o1, o2', hs', PrimR, heapR, V.av, V.cs, eqb_eta]; done) | (simp -implicitDefEqProofs [hc, o1, o2', hs', PrimR, heapR, V.av, V.cs, eqb_eta]; rfl))); (case hok => (first | (simp; done) | (simp -implicitDefEqProofs [hc, o1, o2', hs', PrimR, heapR, V.av, V.cs, eqb_eta]; done))); (case hP => (first | (simp; done) | (simp; rfl) | (simp -implicitDefEqProofs [hc, o1, o2', hs', PrimR, heapR, V.av, V.cs, eqb_eta]; done) | (simp -implicitDefEqProofs [hc, o1, o2', hs', PrimR, heapR, V.av, V.cs, eqb_eta]; rfl))); (case hS => (first | (simp; done) | (simp; rfl) | (simp -implicitDefEqProofs [hc, o1, o2', hs', PrimR, heapR, V.av, V.cs, eqb_eta]; done) | (simp -implicitDefEqProofs [hc, o1, o2', hs', PrimR, heapR, V.av, V.cs, eqb_eta]; rfl))); (case hz => (first | (simp; done) | (simp -implicitDefEqProofs [hc, o1, o2', hs', PrimR, heapR, V.av, V.cs, eqb_eta]; done))); (case hs => (first | (simp -implicitDefEqProofs [hc, o1, o2', hs', PrimR, heapR, V.av, V.cs, eqb_eta]; done) | (simp -implicitDefEqProofs [hc, o1, o2', hs', PrimR, heapR, V.av, V.cs, eqb_eta]; rfl) | rfl)))
        | (apply WPL.callL (c_spec_HeapOk _ ?g1); (case hd => (simp; done)); (case hl => (first | (simp; done) | (simp; rfl) | (simp -implicitDefEqProofs [hc, o1, o2', hs', PrimR, heapR, V.av, V.cs, eqb_eta]; done) | (simp -implicitDefEqProofs [hc, o1, o2', hs', PrimR, heapR, V.av, V.cs, eqb_eta]; rfl))); (case hb => rfl); (case hins => (first | (simp -implicitDefEqProofs [hc, o1, o2', hs', PrimR, heapR, V.av, V.cs, eqb_eta]; done) | (simp -implicitDefEqProofs [hc, o1, o2', hs', PrimR, heapR, V.av, V.cs, eqb_eta]; rfl))); (case he => (first | rfl | (simp -implicitDefEqProofs [hc, o1, o2', hs', PrimR, heapR, V.av, V.cs, eqb_eta]; done))); (case g1 => (first | assumption | omega)); (case hz => (first | (exact .inl rfl) | (simp; done) | (exact .inr (by simp -implicitDefEqProofs [hc, o1, o2', hs', PrimR, heapR, V.av, V.cs, eqb_eta])))))
        | (apply WPL.callLt (c_spec_ValueOk _ ⟨_, _, _⟩ ?g1); (case hg => (simp; done)); (case hd => (simp; done)); (case hl => (first | (simp; done) | (simp; rfl) | (simp -implicitDefEqProofs [hc, o1, o2', hs', PrimR, heapR, V.av, V.cs, eqb_eta]; done) | (simp -implicitDefEqProofs [hc, o1, o2', hs', PrimR, heapR, V.av, V.cs, eqb_eta]; rfl))); (case hb => rfl); (case hins => (first | (simp -implicitDefEqProofs [hc, o1, o2', hs', PrimR, heapR, V.av, V.cs, eqb_eta]; done) | (simp -implicitDefEqProofs [hc, o1, o2', hs', PrimR, heapR, V.av, V.cs, eqb_eta]; rfl))); (case he => (first | rfl | (simp -implicitDefEqProofs [hc, o1, o2', hs', PrimR, heapR, V.av, V.cs, eqb_eta]; done))); (case g1 => (first | assumption | omega)); (case hz => (first | (exact .inl rfl) | (simp; done) | (exact .inr (by simp -implicitDefEqProofs [hc, o1, o2', hs', PrimR, heapR, V.av, V.cs, eqb_eta])))))
        | (refine WPc.rq tok rfl fun K hK => ?_; simp -implicitDefEqProofs +contextual [-Int.not_le, -Int.not_lt, -Nat.not_le, -Nat.not_lt, -List.all_eq_true, -List.all_eq_false, -List.any_eq_true, -List.any_eq_false, hc, o1, o2', hs', PrimR, heapR, V.av, V.cs, eqb_eta]; (fail_if_success guard_target =ₛ False); (repeat' (first | refine hK _ ?_ | refine And.intro ?_ ?_ | intro _)) <;> clear hK K)
        | (refine WPL.rn tok _ (by simp [ahead, isFn]; rfl) fun K hK => ?_; simp -implicitDefEqProofs +contextual [-Int.not_le, -Int.not_lt, -Nat.not_le, -Nat.not_lt, -List.all_eq_true, -List.all_eq_false, -List.any_eq_true, -List.any_eq_false, hc, o1, o2', hs', PrimR, heapR, V.av, V.cs, eqb_eta]; (fail_if_success guard_target =ₛ False); (repeat' (first | refine hK _ ?_ | refine And.intro ?_ ?_ | intro _)) <;> clear hK K <;> (try simp only [Nat.reduceAdd, List.drop_succ_cons, List.drop_zero]))
        | (refine WPc.region ?_; simp only [List.toList_toArray])
        | (refine WPc.condT ?_ ?_; (focus (simp; done)))
        | (refine WPc.condF ?_ ?_; (focus (simp; done))))
      all_goals simp [o3]
  · obtain ⟨o1, o2⟩ := pr_bad hc
    repeat' (first
      | apply WPc.sq
      | (refine WPc.ret (endP.val (.inr rfl) rfl rfl (by simp; rfl) ?_))
      | apply WPc.skip
      | refine WPL.nil ?_
      | (apply WPL.callU (c_impl_Prim _ _ _ ?g1 ?g2 ?g3 ?g4 ?g5); (case hg => (simp; done)); (case hd => (simp; done)); (case hl => (first | (simp; done) | (simp; rfl) | (simp -implicitDefEqProofs [hc, o1, PrimR, heapR, V.av, V.cs, noV, eqb_eta, eqb_self]; done) | (simp -implicitDefEqProofs [hc, o1, PrimR, heapR, V.av, V.cs, noV, eqb_eta, eqb_self]; rfl))); (case hr => (first | (simp; done) | (simp; rfl) | (simp -implicitDefEqProofs [hc, o1, PrimR, heapR, V.av, V.cs, noV, eqb_eta, eqb_self]; done) | (simp -implicitDefEqProofs [hc, o1, PrimR, heapR, V.av, V.cs, noV, eqb_eta, eqb_self]; rfl))); (case hins => (first | (simp -implicitDefEqProofs [hc, o1, PrimR, heapR, V.av, V.cs, noV, eqb_eta, eqb_self]; done) | (simp -implicitDefEqProofs [hc, o1, PrimR, heapR, V.av, V.cs, noV, eqb_eta, eqb_self]; rfl) | rfl)); (case he => (first | rfl | (simp -implicitDefEqProofs [hc, o1, PrimR, heapR, V.av, V.cs, noV, eqb_eta, eqb_self]; done))); (case hob => (first | (simp -implicitDefEqProofs [hc, o1, PrimR, heapR, V.av, V.cs, noV, eqb_eta, eqb_self]; done) | (simp -implicitDefEqProofs [hc, o1, PrimR, heapR, V.av, V.cs, noV, eqb_eta, eqb_self]; rfl) | rfl)); (case heo => (first | rfl | (simp -implicitDefEqProofs [hc, o1, PrimR, heapR, V.av, V.cs, noV, eqb_eta, eqb_self]; done))); (case g1 => (first | assumption | omega)); (case g2 => (first | assumption | omega)); (case g3 => (first | assumption | omega)); (case g4 => (first | assumption | omega)); (case g5 => (first | assumption | omega)); (case hnw => (first | (simp; done) | (simp; rfl) | (simp -implicitDefEqProofs [hc, o1, PrimR, heapR, V.av, V.cs, noV, eqb_eta, eqb_self]; done) | (simp -implicitDefEqProofs [hc, o1, PrimR, heapR, V.av, V.cs, noV, eqb_eta, eqb_self]; rfl))); (case hok => (first | (simp; done) | (simp -implicitDefEqProofs [hc, o1, PrimR, heapR, V.av, V.cs, noV, eqb_eta, eqb_self]; done))); (case hP => (first | (simp; done) | (simp; rfl) | (simp -implicitDefEqProofs [hc, o1, PrimR, heapR, V.av, V.cs, noV, eqb_eta, eqb_self]; done) | (simp -implicitDefEqProofs [hc, o1, PrimR, heapR, V.av, V.cs, noV, eqb_eta, eqb_self]; rfl))); (case hS => (first | (simp; done) | (simp; rfl) | (simp -implicitDefEqProofs [hc, o1, PrimR, heapR, V.av, V.cs, noV, eqb_eta, eqb_self]; done) | (simp -implicitDefEqProofs [hc, o1, PrimR, heapR, V.av, V.cs, noV, eqb_eta, eqb_self]; rfl))); (case hz => (first | (simp; done) | (simp -implicitDefEqProofs [hc, o1, PrimR, heapR, V.av, V.cs, noV, eqb_eta, eqb_self]; done))); (case hs => (first | (simp -implicitDefEqProofs [hc, o1, PrimR, heapR, V.av, V.cs, noV, eqb_eta, eqb_self]; done) | (simp -implicitDefEqProofs [hc, o1, PrimR, heapR, V.av, V.cs, noV, eqb_eta, eqb_self]; rfl) | rfl)))
      | (apply WPL.callU (c_spec_Prim _ _ _ ?g1 ?g2 ?g3 ?g4); (case hg => (simp; done)); (case hd => (simp; done)); (case hl => (first | (simp; done) | (simp; rfl) | (simp -implicitDefEqProofs [hc, o1, PrimR, heapR, V.av, V.cs, noV, eqb_eta, eqb_self]; done) | (simp -implicitDefEqProofs [hc, o1, PrimR, heapR, V.av, V.cs, noV, eqb_eta, eqb_self]; rfl))); (case hr => (first | (simp; done) | (simp; rfl) | (simp -implicitDefEqProofs [hc, o1, PrimR, heapR, V.av, V.cs, noV, eqb_eta, eqb_self]; done) | (simp -implicitDefEqProofs [hc, o1, PrimR, heapR, V.av, V.cs, noV, eqb_eta, eqb_self]; rfl))); (case hins => (first | (simp -implicitDefEqProofs [hc, o1, PrimR, heapR, V.av, V.cs, noV, eqb_eta, eqb_self]; done) | (simp -implicitDefEqProofs [hc, o1, PrimR, heapR, V.av, V.cs, noV, eqb_eta, eqb_self]; rfl) | rfl)); (case he => (first | rfl | (simp -implicitDefEqProofs [hc, o1, PrimR, heapR, V.av, V.cs, noV, eqb_eta, eqb_self]; done))); (case hob => (first | (simp -implicitDefEqProofs [hc, o1, PrimR, heapR, V.av, V.cs, noV, eqb_eta, eqb_self]; done) | (simp -implicitDefEqProofs [hc, o1, PrimR, heapR, V.av, V.cs, noV, eqb_eta, eqb_self]; rfl) | rfl)); (case heo => (first | rfl | (simp -implicitDefEqProofs [hc, o1, PrimR, heapR, V.av, V.cs, noV, eqb_eta, eqb_self]; done))); (case g1 => (first | assumption | omega)); (case g2 => (first | assumption | omega)); (case g3 => (first | assumption | omega)); (case g4 => (first | assumption | omega)); (case hnw => (first | (simp; done) | (simp; rfl) | (simp -implicitDefEqProofs [hc, o1, PrimR, heapR, V.av, V.cs, noV, eqb_eta, eqb_self]; done) | (simp -implicitDefEqProofs [hc, o1, PrimR, heapR, V.av, V.cs, noV, eqb_eta, eqb_self]; rfl))); (case hok => (first | (simp; done) | (simp -implicitDefEqProofs [hc, o1, PrimR, heapR, V.av, V.cs, noV, eqb_eta, eqb_self]; done))); (case hP => (first | (simp; done) | (simp; rfl) | (simp -implicitDefEqProofs [hc, o1, PrimR, heapR, V.av, V.cs, noV, eqb_eta, eqb_self]; done) | (simp -implicitDefEqProofs [hc, o1, PrimR, heapR, V.av, V.cs, noV, eqb_eta, eqb_self]; rfl))); (case hS => (first | (simp; done) | (simp; rfl) | (simp -implicitDefEqProofs [hc, o1, PrimR, heapR, V.av, V.cs, noV, eqb_eta, eqb_self]; done) | (simp -implicitDefEqProofs [hc, o1, PrimR, heapR, V.av, V.cs, noV, eqb_eta, eqb_self]; rfl))); (case hz => (first | (simp; done) | (simp -implicitDefEqProofs [hc, o1, PrimR, heapR, V.av, V.cs, noV, eqb_eta, eqb_self]; done))); (case hs => (first | (simp -implicitDefEqProofs [hc, o1, PrimR, heapR, V.av, V.cs, noV, eqb_eta, eqb_self]; done) | (simp -implicitDefEqProofs [hc, o1, PrimR, heapR, V.av, V.cs, noV, eqb_eta, eqb_self]; rfl) | rfl)))
      | (refine WPc.rq tok rfl fun K hK => ?_; simp -implicitDefEqProofs +contextual [-Int.not_le, -Int.not_lt, -Nat.not_le, -Nat.not_lt, -List.all_eq_true, -List.all_eq_false, -List.any_eq_true, -List.any_eq_false, hc, o1, PrimR, heapR, V.av, V.cs, noV, eqb_eta, eqb_self]; (fail_if_success guard_target =ₛ False); (repeat' (first | refine hK _ ?_ | refine And.intro ?_ ?_ | intro _)) <;> clear hK K)
      | (refine WPL.rn tok _ (by simp [ahead, isFn]; rfl) fun K hK => ?_; simp -implicitDefEqProofs +contextual [-Int.not_le, -Int.not_lt, -Nat.not_le, -Nat.not_lt, -List.all_eq_true, -List.all_eq_false, -List.any_eq_true, -List.any_eq_false, hc, o1, PrimR, heapR, V.av, V.cs, noV, eqb_eta, eqb_self]; (fail_if_success guard_target =ₛ False); (repeat' (first | refine hK _ ?_ | refine And.intro ?_ ?_ | intro _)) <;> clear hK K <;> (try simp only [Nat.reduceAdd, List.drop_succ_cons, List.drop_zero]))
      | (refine WPc.region ?_; simp only [List.toList_toArray])
      | (refine WPc.condT ?_ ?_; (focus (simp; done)))
      | (refine WPc.condF ?_ ?_; (focus (simp; done))))
    all_goals first | rfl | (exfalso; simp_all; done) | trace_state
end Go.Own
set_option linter.unusedVariables false
namespace Go.Own
open Go.ChangeShapes Go.WideShapes Go.Deep
variable {H : Type} {enc : TypeId × Value → H} {P : Program} {w : World} {base : Nat} {spare : Nat → Bool} {held : Bool} {av : Nat → Prop}
theorem add_zero_eq (a : Addr) : a.add 0 = a := by simp [Addr.add]
theorem fr_slice {α : Type} (g : α → List C) (good : α → Prop) {k : Nat} (hk : ∀ a, (g a).length = k) (h0 : 0 < k) (hav : ∀ b, av b) {t e fuel : Nat} {v : Value} {x : DataW H × List MemPlace}
    (ht : P.underlying t = some (.slice e)) (hc : P.cellsOf e = k)
    (hel : ∀ n cs D, cs.length = k → DataW.trod enc P w base spare held n e cs = some D → ∃ a : α, good a ∧ ∀ (j : Nat) (y : C), (g a)[j]? = some y → ∃ u, cs[j]? = some u ∧ FR av w y u)
    (h : DataW.trod enc P w base spare held fuel t [v] = some x) : ∃ l : List α, (∀ a, a ∈ l → good a) ∧ FR av w (.fz (l.map g)) v := by
  rcases open_slice ht h with ⟨h1, _⟩ | ⟨ad, len, cap, m, n, D, Pl, h1, hb, hl, hm, hmm, _, hx⟩
  · obtain rfl : v = .slice none 0 0 := by simpa using h1
    exact ⟨[], by simp, .fzE none 0⟩
  · obtain rfl : v = .slice (some ad) len cap := by simpa using h1
    have hlm : len ≤ m := by rw [hmm]; split <;> omega
    by_cases hz : len = 0
    · subst hz
      exact ⟨[], by simp, .fzE (some ad) cap⟩
    rw [hc] at hx
    have hel2 : ∀ i : Fin len, ∃ a : α, good a ∧ ∀ (j : Nat) (y : C), (g a)[j]? = some y → ∃ u, w.cell? ((ad.add (i * k)).add j) = some u ∧ FR av w y u := fun i => by
      obtain ⟨cs, g1, g2⟩ := hx i (by omega)
      obtain ⟨_, g3, g4⟩ := World.cells?_some g1
      obtain ⟨a, ha, hr⟩ := hel n cs _ g3 g2
      refine ⟨a, ha, fun j y hj => ?_⟩
      obtain ⟨u, hu, hf⟩ := hr j y hj
      have hjk : j < k := by rw [← hk a]; exact (List.getElem?_eq_some_iff.1 hj).1
      exact ⟨u, by rw [g4 j hjk, hu], hf⟩
    have hsp : ad.spot = none := by
      obtain ⟨cs, g1, g2⟩ := hx 0 (by omega)
      obtain ⟨_, g3, g4⟩ := World.cells?_some g1
      have := g4 0 h0
      rw [Nat.zero_mul, add_zero_eq, add_zero_eq, List.getElem?_eq_getElem (by omega)] at this
      unfold World.cell? at this
      split at this
      · split at this
        · simp at this
        · rename_i hs; simpa using hs
      · simp at this
    obtain ⟨b, o, sp⟩ := ad
    dsimp only at hsp
    subst hsp
    refine ⟨List.ofFn fun i => Classical.choose (hel2 i), fun a ha => ?_, ?_⟩
    · obtain ⟨i, rfl⟩ := List.mem_ofFn.1 ha
      exact (Classical.choose_spec (hel2 i)).1
    · have key : ∀ (i j : Nat) (r : List C) (y : C), ((List.ofFn fun i => Classical.choose (hel2 i)).map g)[i]? = some r → r[j]? = some y → ∃ u, w.cell? ⟨b, o + i * k + j, none⟩ = some u ∧ FR av w y u := fun i j r y hi hj => by
        rw [List.getElem?_map, Option.map_eq_some_iff] at hi
        obtain ⟨a, ha, rfl⟩ := hi
        obtain ⟨hlt, he⟩ := List.getElem?_eq_some_iff.1 ha
        rw [List.getElem_ofFn] at he
        have hi2 : i < len := by simpa using hlt
        obtain ⟨u, hu, hf⟩ := (Classical.choose_spec (hel2 ⟨i, hi2⟩)).2 j y (by rw [he]; exact hj)
        refine ⟨u, ?_, hf⟩
        rw [add_plain, add_plain] at hu
        exact hu
      have hlen : ((List.ofFn fun i => Classical.choose (hel2 i)).map g).length = len := by simp
      have := FR.fzN (av := av) (w := w) ((List.ofFn fun i => Classical.choose (hel2 i)).map g) b o k cap (fun i j => (w.cell? ⟨b, o + i * k + j, none⟩).getD undef) (fun h => by rw [h] at hlen; simp at hlen; omega) h0 (hav b)
        (fun r hr => by obtain ⟨a, _, rfl⟩ := List.mem_map.1 hr; exact hk a) ⟨by rw [hlen]; exact hl, hm⟩
        (fun i j r y hi hj => by obtain ⟨u, hu, _⟩ := key i j r y hi hj; rw [hu]; rfl)
        (fun i j r y hi hj => by obtain ⟨u, hu, hf⟩ := key i j r y hi hj; rw [hu]; exact hf)
      rw [hlen] at this
      exact this
end Go.Own
set_option linter.unusedVariables false
set_option linter.unusedSimpArgs false
set_option linter.unusedSectionVars false
set_option maxRecDepth 1000000
namespace Go.Own
open Go.ChangeShapes Go.WideShapes Go.Deep
theorem undV : ∃ f0 f1 f2, PP.underlying 86 = some (.struct #[f0, f1, f2]) ∧ f0.type = 3 ∧ f0.offset = 0 ∧ f1.type = 3 ∧ f1.offset = 1 ∧ f2.type = 9 ∧ f2.offset = 2 := ⟨_, _, _, rfl, rfl, rfl, rfl, rfl, rfl, rfl⟩
theorem undC : ∃ f0 f1 f2 f3 f4 f5, PP.underlying 84 = some (.struct #[f0, f1, f2, f3, f4, f5]) ∧ (f0.type = 3 ∧ f0.offset = 0) ∧ (f1.type = 9 ∧ f1.offset = 1) ∧ (f2.type = 3 ∧ f2.offset = 2) ∧ (f3.type = 3 ∧ f3.offset = 3) ∧ (f4.type = 65 ∧ f4.offset = 4) ∧ (f5.type = 36 ∧ f5.offset = 5) := ⟨_, _, _, _, _, _, rfl, ⟨rfl, rfl⟩, ⟨rfl, rfl⟩, ⟨rfl, rfl⟩, ⟨rfl, rfl⟩, ⟨rfl, rfl⟩, ⟨rfl, rfl⟩⟩
theorem undCS : PP.underlying 35 = some (.slice 84) := by kernel_rfl
theorem undVS : PP.underlying 36 = some (.slice 86) := by kernel_rfl
theorem undSS : PP.underlying 65 = some (.slice 9) := by kernel_rfl
theorem undS : PP.underlying 9 = some .string := by kernel_rfl
theorem undI : PP.underlying 3 = some (.int .i64) := by kernel_rfl
theorem clC : PP.cellsOf 84 = 6 := by kernel_rfl
theorem clV : PP.cellsOf 86 = 3 := by kernel_rfl
theorem clS : PP.cellsOf 9 = 1 := by kernel_rfl
theorem clI : PP.cellsOf 3 = 1 := by kernel_rfl
theorem clSS : PP.cellsOf 65 = 1 := by kernel_rfl
theorem clVS : PP.cellsOf 36 = 1 := by kernel_rfl
variable {H : Type} {enc : TypeId × Value → H} {w : World} {base : Nat} {spare : Nat → Bool} {held : Bool} {av : Nat → Prop} {n : Nat} {cs : List Value} {D : DataW H × List MemPlace}
theorem rd_str {v : Value} (h : DataW.trod enc PP w base spare held n 9 [v] = some D) : ∃ s, v = .string s ∧ s.size ≤ maxLen := by
  obtain ⟨s, h1, _, h2⟩ := DataW.trod_string undS h
  exact ⟨s, by simpa using h1, h2⟩
theorem rd_int {v : Value} (h : DataW.trod enc PP w base spare held n 3 [v] = some D) : ∃ k, v = .int .i64 k := by
  obtain ⟨k, h1, _⟩ := DataW.trod_int undI h
  exact ⟨k, by simpa using h1⟩
theorem rd_V (hl : cs.length = 3) (h : DataW.trod enc PP w base spare held n 86 cs = some D) :
    ∃ v : V, v.s.size ≤ maxLen ∧ ∀ (j : Nat) (y : C), (V.cs v)[j]? = some y → ∃ u, cs[j]? = some u ∧ FR av w y u := by
  obtain ⟨f0, f1, f2, hu, t0, o0, t1, o1, t2, o2⟩ := undV
  obtain ⟨xs, m, _, _, _, hx, hf⟩ := DataW.trod_struct hu h
  match cs, hl with
  | [a, b, c], _ =>
    have g0 := hf 0 f0 rfl
    have g1 := hf 1 f1 rfl
    have g2 := hf 2 f2 rfl
    have hx3 : xs.length = 3 := hx
    rw [t0, o0, clI, List.getElem?_eq_getElem (by omega)] at g0
    rw [t1, o1, clI, List.getElem?_eq_getElem (by omega)] at g1
    rw [t2, o2, clS, List.getElem?_eq_getElem (by omega)] at g2
    simp only [List.drop_zero, List.take_succ_cons, List.take_zero, List.drop_succ_cons] at g0 g1 g2
    obtain ⟨k, rfl⟩ := rd_int g0
    obtain ⟨m, rfl⟩ := rd_int g1
    obtain ⟨s, rfl, hs⟩ := rd_str g2
    refine ⟨⟨k, m, s⟩, hs, fun j y hj => ?_⟩
    match j, hj with
    | 0, hj => simp [V.cs] at hj; subst hj; exact ⟨_, rfl, .sc _ rfl⟩
    | 1, hj => simp [V.cs] at hj; subst hj; exact ⟨_, rfl, .sc _ rfl⟩
    | 2, hj => simp [V.cs] at hj; subst hj; exact ⟨_, rfl, .sc _ rfl⟩
    | j + 3, hj => simp [V.cs] at hj
theorem rd_strs (hav : ∀ b, av b) {v : Value} (h : DataW.trod enc PP w base spare held n 65 [v] = some D) : ∃ l : List ByteArray, (∀ s, s ∈ l → s.size ≤ maxLen) ∧ FR av w (.fz (l.map sC)) v :=
  fr_slice sC (fun s => s.size ≤ maxLen) (fun _ => rfl) (by decide) hav undSS clS (fun n cs D hl h => by
    match cs, hl with
    | [a], _ =>
      obtain ⟨s, rfl, hs⟩ := rd_str h
      refine ⟨s, hs, fun j y hj => ?_⟩
      match j, hj with
      | 0, hj => simp [sC] at hj; subst hj; exact ⟨_, rfl, .sc _ rfl⟩
      | j + 1, hj => simp [sC] at hj) h
theorem rd_vals (hav : ∀ b, av b) {v : Value} (h : DataW.trod enc PP w base spare held n 36 [v] = some D) : ∃ l : List V, (∀ v, v ∈ l → v.s.size ≤ maxLen) ∧ FR av w (.fz (l.map V.cs)) v :=
  fr_slice V.cs (fun v => v.s.size ≤ maxLen) (fun _ => rfl) (by decide) hav undVS clV (fun n cs D hl h => rd_V hl h) h
theorem rd_C (hav : ∀ b, av b) (hl : cs.length = 6) (h : DataW.trod enc PP w base spare held n 84 cs = some D) :
    ∃ c : Cl, c.tx ∧ ∀ (j : Nat) (y : C), (Cl.cs c)[j]? = some y → ∃ u, cs[j]? = some u ∧ FR av w y u := by
  obtain ⟨f0, f1, f2, f3, f4, f5, hu, ⟨t0, o0⟩, ⟨t1, o1⟩, ⟨t2, o2⟩, ⟨t3, o3⟩, ⟨t4, o4⟩, ⟨t5, o5⟩⟩ := undC
  obtain ⟨xs, m, _, _, _, hx, hf⟩ := DataW.trod_struct hu h
  have hx6 : xs.length = 6 := hx
  match cs, hl with
  | [a, b, c, d, e, f], _ =>
    have g0 := hf 0 f0 rfl
    have g1 := hf 1 f1 rfl
    have g2 := hf 2 f2 rfl
    have g3 := hf 3 f3 rfl
    have g4 := hf 4 f4 rfl
    have g5 := hf 5 f5 rfl
    rw [t0, o0, clI, List.getElem?_eq_getElem (by omega)] at g0
    rw [t1, o1, clS, List.getElem?_eq_getElem (by omega)] at g1
    rw [t2, o2, clI, List.getElem?_eq_getElem (by omega)] at g2
    rw [t3, o3, clI, List.getElem?_eq_getElem (by omega)] at g3
    rw [t4, o4, clSS, List.getElem?_eq_getElem (by omega)] at g4
    rw [t5, o5, clVS, List.getElem?_eq_getElem (by omega)] at g5
    simp only [List.drop_zero, List.take_succ_cons, List.take_zero, List.drop_succ_cons] at g0 g1 g2 g3 g4 g5
    obtain ⟨k, rfl⟩ := rd_int g0
    obtain ⟨s, rfl, hs⟩ := rd_str g1
    obtain ⟨x, rfl⟩ := rd_int g2
    obtain ⟨y, rfl⟩ := rd_int g3
    obtain ⟨ns, hn1, hn2⟩ := rd_strs (av := av) hav g4
    obtain ⟨vs, hv1, hv2⟩ := rd_vals (av := av) hav g5
    refine ⟨⟨k, s, x, y, ns, vs⟩, ⟨hs, hn1, hv1⟩, fun j z hj => ?_⟩
    match j, hj with
    | 0, hj => simp [Cl.cs] at hj; subst hj; exact ⟨_, rfl, .sc _ rfl⟩
    | 1, hj => simp [Cl.cs] at hj; subst hj; exact ⟨_, rfl, .sc _ rfl⟩
    | 2, hj => simp [Cl.cs] at hj; subst hj; exact ⟨_, rfl, .sc _ rfl⟩
    | 3, hj => simp [Cl.cs] at hj; subst hj; exact ⟨_, rfl, .sc _ rfl⟩
    | 4, hj => simp [Cl.cs] at hj; subst hj; exact ⟨_, rfl, hn2⟩
    | 5, hj => simp [Cl.cs] at hj; subst hj; exact ⟨_, rfl, hv2⟩
    | j + 6, hj => simp [Cl.cs] at hj
theorem rd_heap (hav : ∀ b, av b) {v : Value} (h : DataW.trod enc PP w base spare held n 35 [v] = some D) : ∃ l : List Cl, (∀ c, c ∈ l → c.tx) ∧ FR av w (.fz (l.map Cl.cs)) v :=
  fr_slice Cl.cs Cl.tx (fun _ => rfl) (by decide) hav undCS clC (fun n cs D hl h => rd_C hav hl h) h
end Go.Own
set_option linter.unusedVariables false
set_option linter.unusedSimpArgs false
set_option linter.unusedSectionVars false
set_option maxRecDepth 1000000
namespace Go.Own
open Go.ChangeShapes Go.WideShapes Go.Deep Go.RowKit
def Reads1 (w : World) (n : String) (d : DataW Unit) : Prop :=
  ∃ g t cs fuel p, PP.globalNamed n = some g ∧ (PP.globals[g]?).map (·.type) = some t ∧ w.var? PP n = some cs ∧ DataW.trod (fun _ => ()) PP w 0 (fun _ => true) false fuel t cs.toList = some (d, p)
theorem reads_laid {w : World} : ∀ {l : List (String × DataW Unit)} {ps : List MemPlace}, DataW.LaidVars PP w l ps → ∀ n d, (n, d) ∈ l → Reads1 w n d
  | [], _, _, _, _, hm => by cases hm
  | (n', d') :: r, ps, h, n, d, hm => by
    obtain ⟨g, t, cs, fuel, p, q, h1, h2, h3, h4, h5, _⟩ := h
    rcases List.mem_cons.1 hm with e | e
    · cases e; exact ⟨g, t, cs, fuel, p, h1, h2, h3, h4⟩
    · exact reads_laid h5 n d e
theorem gSyn : PP.globalNamed "strconv.ErrSyntax" = some 1 := by kernel_rfl
theorem gRng : PP.globalNamed "strconv.ErrRange" = some 2 := by kernel_rfl
theorem tSyn : (PP.globals[1]?).map (·.type) = some 152 := by kernel_rfl
theorem tRng : (PP.globals[2]?).map (·.type) = some 152 := by kernel_rfl
theorem undE : ∃ ms, PP.underlying 152 = some (.interface ms) := ⟨_, rfl⟩
theorem err_cell {w : World} {n : String} {g : Nat} {s : List UInt8} (hg : PP.globalNamed n = some g) (ht : (PP.globals[g]?).map (·.type) = some 152) (h : Reads1 w n (.iface "*errors.errorString" (.ptr (.agg [.lit (.string s)])))) :
    ∃ ev, w.cell? ⟨g, 0, none⟩ = some ev ∧ (ev = .nilIface ∨ ∃ te pe, ev = .iface te pe) := by
  obtain ⟨g', t, cs, fuel, p, h1, h2, h3, h4⟩ := h
  obtain rfl := Option.some.inj (hg.symm.trans h1)
  obtain rfl := Option.some.inj (ht.symm.trans h2)
  obtain ⟨ms, hu⟩ := undE
  have key : ∃ u v, cs.toList = [.iface u v] := by
    cases fuel with
    | zero => simp [DataW.trod] at h4
    | succ m =>
      unfold DataW.trod at h4
      rw [hu] at h4
      split at h4 <;> simp_all
  obtain ⟨u, v, hcs⟩ := key
  have := World.var?_cell hg h3 0
  refine ⟨.iface u v, ?_, .inr ⟨u, v, rfl⟩⟩
  rw [this]
  have : cs = #[.iface u v] := by apply Array.toList_inj.1; simpa using hcs
  rw [this]; rfl
open Go.Proofs.YtfanjfmgacfpjaaGreatDoor
theorem facts_of {W : World} (hL : laidMetH PP Rows.fnExactPrimRow.laid W) (hsh : W.ShapedOpen PP) : Facts W := by
  have hL : laidMet PP Rows.fnExactPrimRow.laid W := hL
  obtain ⟨ps, hv, _⟩ := hL
  have rd := fun n d hm => reads_laid hv n d hm
  refine ⟨?_, ?_, ?_, ?_⟩
  · exact Go.Proofs.cell_of_shapedOpen_int (zero := #[.int .i64 0]) (t := 3) hsh (of_decide_eq_true (by kernel_rfl)) (by kernel_rfl) rfl (by kernel_rfl) (by kernel_rfl) undI
  · exact err_cell gSyn tSyn (rd "strconv.ErrSyntax" _ (by simp [Rows.fnExactPrimRow, Rows.laid_strconv_ErrSyntax]; rfl))
  · exact err_cell gRng tRng (rd "strconv.ErrRange" _ (by simp [Rows.fnExactPrimRow, Rows.laid_strconv_ErrRange]; rfl))
  · obtain ⟨g, t, cs, fuel, p, h1, h2, h3, h4⟩ := rd "internal/strconv.uint64pow10" Rows.laid_internal_strconv_uint64pow10 (by simp [Rows.fnExactPrimRow])
    have ht : t = 184 := by
      have : (PP.globalNamed "internal/strconv.uint64pow10").bind (fun g => (PP.globals[g]?).map (·.type)) = some 184 := by kernel_rfl
      rw [h1] at this
      exact Option.some.inj (h2.symm.trans this)
    subst ht
    unfold Lib.TabIs
    rw [h3, ← Lib.cells_of_tab (e := 165) (n := 20) (k := .u64) (zs := Lib.pow10Tab) (by kernel_rfl) (by kernel_rfl) (by kernel_rfl) (by kernel_rfl) h4]
end Go.Own
set_option linter.unusedVariables false
set_option linter.unusedSimpArgs false
set_option linter.unusedSectionVars false
set_option maxRecDepth 1000000
namespace Go.Own
open Go.ChangeShapes Go.WideShapes Go.Deep Go.RowKit Go.ChangeAt Go.Proofs.YtfanjfmgacfpjaaGreatDoor
theorem post_of_below {H : Type} {enc : TypeId × Value → H} {P : Program} {f : Func} {s : ChangeSpec} {apart fresh handsOn again : Bool} {W W' : World} {args : Array Value} {v : Value} {ds gs : List (DataW H)} {before pa pv : List MemPlace}
    (hW : DataW.Whole enc P f.params.toList s.vars apart W args.toList ds gs before)
    (hres : ∀ (b : Nat) (sp : Nat → Bool) (hd : Bool), DataW.TrodAll enc P W' b sp hd f.resultTypes.toList (v.resultList f.resultTypes.size) (s.fn H (ds ++ gs)).results [])
    (hargs : ∀ sp : Nat → Bool, (∀ p ∈ before, sp p.block = true) → DataW.TrodAll enc P W' 0 sp true f.params.toList args.toList (s.fn H (ds ++ gs)).args pa)
    (hvars : ∀ sp : Nat → Bool, (∀ p ∈ before, sp p.block = true) → DataW.TrodVars enc P W' sp s.vars (s.fn H (ds ++ gs)).vars pv)
    (hps : before = pa ++ pv) (hk : W.keptBut W' (· ∈ before)) (hfz : ∀ b off, b < W.heap.size → W'.frozen? ⟨b, off, none⟩ = W.frozen? ⟨b, off, none⟩)
    (hok : ∀ (j : Nat) (t : TypeId) (r : Value), f.resultTypes[j]? = some t → (v.resultList f.resultTypes.size)[j]? = some r → Value.okWide P W' .any 0 t r) :
    s.post enc P f apart fresh handsOn again W args v W' := by
  have hold : ∀ p ∈ before, (fun b => decide (b < W.heap.size)) p.block = true := fun p hp => by simpa using hW.lt p hp
  have hlt := hW.lt
  refine ⟨ds, gs, before, [], pa, pv, hW, hres _ _ _, hargs _ hold, hvars _ hold, World.keptBut_mono (fun p hp => ⟨hp, ?_⟩) hk, fun _ => ?_⟩
  · rw [hps, List.mem_append] at hp
    exact Or.inr hp
  · obtain ⟨_, _, _, _, _, hz, hn⟩ := hW
    refine ⟨hok, _, _, ([] ++ pa) ++ pv, ⟨[] ++ pa, pv, trodAll_append (hargs _ (fun _ _ => rfl)) (hres _ _ _), hvars _ (fun _ _ => rfl), rfl, ?_, ?_⟩, ?_⟩
    · intro b off hp
      have hp' : MemPlace.cell b off ∈ before := by rw [hps]; simpa using hp
      rw [hfz b off (hlt _ hp')]
      exact hz b off hp'
    · intro ha
      have := hn ha
      rw [hps] at this
      simpa using this
    · intro p hp _
      rw [hps]
      simpa using hp
@[reducible] def LI : Laid where
  n := 4
  ok := Facts
  mono := fun w w' h hf => by
    have hc : ∀ b, b < 4 → w'.cell? ⟨b, 0, none⟩ = w.cell? ⟨b, 0, none⟩ := fun b hb => World.cell?_of_block (w := w) (h b hb)
    refine ⟨by rw [hc 0 (by omega)]; exact hf.maxLen, by rw [hc 1 (by omega)]; exact hf.syn, by rw [hc 2 (by omega)]; exact hf.rng, ?_⟩
    have hp := hf.pow
    unfold Lib.TabIs World.var? at hp ⊢
    have hg : PP.globalNamed "internal/strconv.uint64pow10" = some 3 := by kernel_rfl
    rw [hg] at hp ⊢
    simp only [Option.bind_some] at hp ⊢
    rw [h 3 (by omega)]
    exact hp
theorem slice_cells {W : World} {base : Nat} {t e : TypeId} {v : Value} (ht : PP.underlying t = some (.slice e)) (h : Value.okWide PP W .any base t v) : v.cells.toList = [v] := by
  simp only [Value.okWide, ht, Cell.okWide, Cell.ok] at h
  cases v <;> simp_all [Value.cells]
theorem string_cells {W : World} {base : Nat} {t : TypeId} {v : Value} (ht : PP.underlying t = some .string) (h : Value.okWide PP W .any base t v) : v.cells.toList = [v] := by
  simp only [Value.okWide, ht, Cell.okWide, Cell.ok] at h
  cases v <;> simp_all [Value.cells]
theorem par4 : Go.Proofs.Tryz.f4.params = #[35, 9, 36] := by kernel_rfl
theorem undB : PP.underlying 4 = some .bool := by kernel_rfl
theorem laidOut : laidOutB PP = true := by kernel_rfl
theorem contract (H : Type) (enc : TypeId × Value → H) (W : World) (base : Nat) (args : Array Value) (ds gs : List (DataW H)) (before : List MemPlace)
    (hval : ∀ (j : Nat) t v, Go.Proofs.Tryz.f4.params[j]? = some t → args[j]? = some v → Value.okWide PP W .any base t v)
    (hW : DataW.Whole enc PP Go.Proofs.Tryz.f4.params.toList Rows.fnExactPrimSpec.vars false W args.toList ds gs before) (hL : laidMetH PP Rows.fnExactPrimRow.laid W) (hsh : W.ShapedOpen PP) :
    Calls PP 4 args W fun e W' => ∃ v, e = .returned v ∧ Rows.fnExactPrimSpec.post enc PP Go.Proofs.Tryz.f4 false true false false W args v W' := by
  have hW' := hW
  obtain ⟨p, q, hA0, hV, rfl, hfz, hnd⟩ := hW
  have hA : DataW.TrodAll enc PP W 0 (fun _ => true) true Go.Proofs.Tryz.f4.params.toList args.toList ds p := hA0
  rw [par4] at hA hval
  obtain ⟨v0, vs0, d0, ds0, p0, q0, hargs, rfl, rfl, h0, r0⟩ := trodAll_cons hA
  obtain ⟨v1, vs1, d1, ds1, p1, q1, rfl, rfl, rfl, h1, r1⟩ := trodAll_cons r0
  obtain ⟨v2, vs2, d2, ds2, p2, q2, rfl, rfl, rfl, h2, r2⟩ := trodAll_cons r1
  obtain ⟨rfl, rfl, rfl⟩ := trodAll_nil r2
  obtain rfl : args = #[v0, v1, v2] := by cases args; simp_all
  obtain ⟨rfl, rfl⟩ := trodVars_none hV
  have o0 := slice_cells undCS (hval 0 _ v0 rfl rfl)
  have o1 := string_cells undS (hval 1 _ v1 rfl rfl)
  have o2 := slice_cells undVS (hval 2 _ v2 rfl rfl)
  obtain ⟨n0, t0⟩ := h0
  obtain ⟨n1, t1⟩ := h1
  obtain ⟨n2, t2⟩ := h2
  have t0' := t0
  have t2' := t2
  rw [o0] at t0'
  rw [o1] at t1
  rw [o2] at t2'
  obtain ⟨h, hh1, hh2⟩ := rd_heap (av := fun b => (fun _ : Nat => (none : Option (Nat × Pth))) b = none) (fun _ => rfl) t0'
  obtain ⟨s, rfl, hs⟩ := rd_str t1
  obtain ⟨a, ha1, ha2⟩ := rd_vals (av := fun b => (fun _ : Nat => (none : Option (Nat × Pth))) b = none) (fun _ => rfl) t2'
  have hf := facts_of hL hsh
  letI := LI
  haveI : Facts.Of := ⟨fun w h => h⟩
  have hsz : 4 ≤ W.heap.size := by
    have := (hf.pow)
    unfold Lib.TabIs World.var? at this
    have hg : PP.globalNamed "internal/strconv.uint64pow10" = some 3 := by kernel_rfl
    rw [hg] at this
    simp only [Option.bind_some] at this
    split at this
    · rename_i hx; exact (Array.getElem?_eq_some_iff.1 hx).1
    · simp at this
  refine ((c_laws_FnExactPrim h s a hs hh1 ha1).run (fun _ => none) W #[v0, .string s, v2] ⟨hf, hsz, fun _ _ => rfl⟩ rfl (fun i v hi => ?_) (fun _ _ _ _ h => by simp [lo] at h) (fun _ _ _ h => by simp at h) (fun _ _ h => by simp at h)).mono ?_
  · match i, hi with
    | 0, hi => simp at hi; subst hi; exact .fz _ _ hh2
    | 1, hi => simp at hi; subst hi; exact .sc _
    | 2, hi => simp at hi; subst hi; exact .fz _ _ ha2
    | i + 3, hi => simp at hi
  rintro e W' ⟨u, res, ob', β', rfl, hp⟩
  have hb : Below W.heap.size W W' := ⟨hp.os, hp.tape, hp.output, hp.hs, fun b hb => hp.fr b hb rfl⟩
  have hu : u = .bool true := by
    have := hp.res
    rw [hp.ok] at this
    exact this.sc_inv
  subst hu
  have hlt := hW'.lt
  simp only [List.append_nil, List.append_assoc] at hlt
  refine ⟨_, rfl, post_of_below (pa := p0 ++ (p1 ++ (p2 ++ []))) (pv := []) hW' (fun _ _ _ => trodAll_cons_mk (shut_bool undB _) trodAll_mk0) (fun sp hsp => ?_) (fun _ _ => rfl) (by simp) (hb.frame _) (fun b off hlt => hb.frozen hlt) (ok_one (by kernel_rfl) rfl (okWide_bool_mk undB _))⟩
  rw [par4]
  have hsp' : ∀ x, x ∈ p0 ∨ x ∈ p1 ∨ x ∈ p2 → sp x.block = true ∧ x.block < W.heap.size := fun x hx => by
    have hm : x ∈ p0 ++ (p1 ++ p2) := by simpa using hx
    exact ⟨hsp x (by simpa using hm), hlt x (by simpa using hm)⟩
  refine trodAll_cons_mk (WideElems.Trod_stays laidOut (by kernel_rfl) (of_decide_eq_true (by kernel_rfl)) ⟨n0, t0⟩ (fun x hx => hb.same (hsp' x (.inl hx)).2) (fun x hx => (hsp' x (.inl hx)).1)) ?_
  refine trodAll_cons_mk (WideElems.Trod_stays laidOut (by kernel_rfl) (of_decide_eq_true (by kernel_rfl)) ⟨n1, by rw [o1]; exact t1⟩ (fun x hx => hb.same (hsp' x (.inr (.inl hx))).2) (fun x hx => (hsp' x (.inr (.inl hx))).1)) ?_
  exact trodAll_cons_mk (WideElems.Trod_stays laidOut (by kernel_rfl) (of_decide_eq_true (by kernel_rfl)) ⟨n2, t2⟩ (fun x hx => hb.same (hsp' x (.inr (.inr hx))).2) (fun x hx => (hsp' x (.inr (.inr hx))).1)) trodAll_mk0
end Go.Own
set_option linter.unusedVariables false
set_option linter.unusedSimpArgs false
set_option linter.unusedSectionVars false
set_option maxRecDepth 1000000
namespace Go.Own
open Go.ChangeShapes Go.WideShapes Go.Deep Go.RowKit Go.ChangeAt
theorem undB8 : PP.underlying 22 = some (.slice 5) := by kernel_rfl
theorem undU8 : PP.underlying 5 = some (.int .u8) := by kernel_rfl
theorem clU8 : PP.cellsOf 5 = 1 := by kernel_rfl
theorem rd_bytes {H : Type} {enc : TypeId × Value → H} {w : World} {base : Nat} {spare : Nat → Bool} {held : Bool} {av : Nat → Prop} {n : Nat} {D : DataW H × List MemPlace} (hav : ∀ b, av b) {v : Value} (h : DataW.trod enc PP w base spare held n 22 [v] = some D) :
    ∃ l : List Int, FR av w (.fz (l.map bC)) v := by
  obtain ⟨l, _, hl⟩ := fr_slice bC (fun _ => True) (fun _ => rfl) (by decide) hav undB8 clU8 (fun n cs D hl h => by
    match cs, hl with
    | [a], _ =>
      obtain ⟨s, h1, _⟩ := DataW.trod_int undU8 h
      refine ⟨s, trivial, fun j y hj => ?_⟩
      match j, hj with
      | 0, hj => simp [bC] at hj; subst hj; exact ⟨_, rfl, by obtain rfl : a = .int .u8 s := by simpa using h1
                                                              exact .sc _ rfl⟩
      | j + 1, hj => simp [bC] at hj) h
  exact ⟨l, hl⟩
theorem facts_sz {W : World} (hf : Facts W) : 4 ≤ W.heap.size := by
  have := hf.pow
  unfold Lib.TabIs World.var? at this
  have hg : PP.globalNamed "internal/strconv.uint64pow10" = some 3 := by kernel_rfl
  rw [hg] at this
  simp only [Option.bind_some] at this
  split at this
  · rename_i hx; exact (Array.getElem?_eq_some_iff.1 hx).1
  · simp at this
@[reducible] def LIb (W : World) (hsz : 4 ≤ W.heap.size) : Laid where
  n := W.heap.size
  ok := fun w => Facts w ∧ ∀ b, b < W.heap.size → w.heap[b]? = W.heap[b]?
  mono := fun w w' h hf => ⟨LI.mono w w' (fun b hb => h b (Nat.lt_of_lt_of_le hb hsz)) hf.1, fun b hb => (h b hb).trans (hf.2 b hb)⟩
@[reducible] def codeI {W : World} (hsz : 4 ≤ W.heap.size) {b : List Int} {v : Value} (h : FR (fun _ => True) W (.fz (b.map bC)) v) : @Code (LIb W hsz) :=
  letI := LIb W hsz
  { u := v, b := b, rd := fun w hw => h.mono fun b _ hb => ⟨hb, hw.2 b hb⟩, one := h.one }
end Go.Own
set_option linter.unusedVariables false
set_option linter.unusedSimpArgs false
set_option linter.unusedSectionVars false
set_option maxRecDepth 1000000
namespace Go.Own
open Go.ChangeShapes Go.WideShapes Go.Deep Go.RowKit Go.ChangeAt Go.Proofs.YtfanjfmgacfpjaaGreatDoor
namespace FnPrim
theorem facts_of {W : World} (hL : laidMetH PP Rows.fnPrimRow.laid W) (hsh : W.ShapedOpen PP) : Facts W := by
  have hL : laidMet PP Rows.fnPrimRow.laid W := hL
  obtain ⟨ps, hv, _⟩ := hL
  have rd := fun n d hm => reads_laid hv n d hm
  refine ⟨?_, ?_, ?_, ?_⟩
  · exact Go.Proofs.cell_of_shapedOpen_int (zero := #[.int .i64 0]) (t := 3) hsh (of_decide_eq_true (by kernel_rfl)) (by kernel_rfl) rfl (by kernel_rfl) (by kernel_rfl) undI
  · exact err_cell gSyn tSyn (rd "strconv.ErrSyntax" _ (by simp [Rows.fnPrimRow, Rows.laid_strconv_ErrSyntax]; rfl))
  · exact err_cell gRng tRng (rd "strconv.ErrRange" _ (by simp [Rows.fnPrimRow, Rows.laid_strconv_ErrRange]; rfl))
  · obtain ⟨g, t, cs, fuel, p, h1, h2, h3, h4⟩ := rd "internal/strconv.uint64pow10" Rows.laid_internal_strconv_uint64pow10 (by simp [Rows.fnPrimRow])
    have ht : t = 184 := by
      have : (PP.globalNamed "internal/strconv.uint64pow10").bind (fun g => (PP.globals[g]?).map (·.type)) = some 184 := by kernel_rfl
      rw [h1] at this
      exact Option.some.inj (h2.symm.trans this)
    subst ht
    unfold Lib.TabIs
    rw [h3, ← Lib.cells_of_tab (e := 165) (n := 20) (k := .u64) (zs := Lib.pow10Tab) (by kernel_rfl) (by kernel_rfl) (by kernel_rfl) (by kernel_rfl) h4]
theorem par : Go.Proofs.Tryz.f3.params = #[22] := by kernel_rfl
theorem contract (H : Type) (enc : TypeId × Value → H) (W : World) (base : Nat) (args : Array Value) (ds gs : List (DataW H)) (before : List MemPlace)
    (hval : ∀ (j : Nat) t v, Go.Proofs.Tryz.f3.params[j]? = some t → args[j]? = some v → Value.okWide PP W .any base t v)
    (hW : DataW.Whole enc PP Go.Proofs.Tryz.f3.params.toList Rows.fnPrimSpec.vars false W args.toList ds gs before) (hL : laidMetH PP Rows.fnPrimRow.laid W) (hsh : W.ShapedOpen PP) :
    Calls PP 3 args W fun e W' => ∃ v, e = .returned v ∧ Rows.fnPrimSpec.post enc PP Go.Proofs.Tryz.f3 false true false false W args v W' := by
  have hW' := hW
  obtain ⟨p, q, hA0, hV, rfl, hfz, hnd⟩ := hW
  have hA : DataW.TrodAll enc PP W 0 (fun _ => true) true Go.Proofs.Tryz.f3.params.toList args.toList ds p := hA0
  rw [par] at hA hval
  obtain ⟨v0, vs0, d0, ds0, p0, q0, hargs, rfl, rfl, h0, r0⟩ := trodAll_cons hA
  obtain ⟨rfl, rfl, rfl⟩ := trodAll_nil r0
  obtain rfl : args = #[v0] := by cases args; simp_all
  obtain ⟨rfl, rfl⟩ := trodVars_none hV
  have o0 := slice_cells undB8 (hval 0 _ v0 rfl rfl)
  obtain ⟨n0, t0⟩ := h0
  have t0' := t0
  rw [o0] at t0'
  obtain ⟨b, hb2⟩ := rd_bytes (av := fun _ => True) (fun _ => trivial) t0'
  have hf := facts_of hL hsh
  have hsz : 4 ≤ W.heap.size := facts_sz hf
  letI := LIb W hsz
  haveI : Facts.Of := ⟨fun w h => h.1⟩
  letI : Code := codeI hsz hb2
  refine (c_laws_FnPrim.run (fun _ => none) W #[v0] ⟨⟨hf, fun _ _ => rfl⟩, Nat.le_refl _, fun _ _ => rfl⟩ rfl (fun i v hi => ?_) (fun _ _ _ _ h => by simp [lo] at h) (fun _ _ _ h => by simp at h) (fun _ _ h => by simp at h)).mono ?_
  · match i, hi with
    | 0, hi => simp at hi; subst hi; exact .sc _
    | i + 1, hi => simp at hi
  rintro e W' ⟨u, res, ob', β', rfl, hp⟩
  have hb : Below W.heap.size W W' := ⟨hp.os, hp.tape, hp.output, hp.hs, fun b hb => hp.fr b hb rfl⟩
  have hu : u = .bool true := by
    have := hp.res
    rw [hp.ok] at this
    exact this.sc_inv
  subst hu
  have hlt := hW'.lt
  simp only [List.append_nil, List.append_assoc] at hlt
  refine ⟨_, rfl, post_of_below (pa := p0 ++ []) (pv := []) hW' (fun _ _ _ => trodAll_cons_mk (shut_bool undB _) trodAll_mk0) (fun sp hsp => ?_) (fun _ _ => rfl) (by simp) (hb.frame _) (fun b off hlt => hb.frozen hlt) (ok_one (by kernel_rfl) rfl (okWide_bool_mk undB _))⟩
  rw [par]
  have hsp' : ∀ x, x ∈ p0 → sp x.block = true ∧ x.block < W.heap.size := fun x hx => ⟨hsp x (by simpa using hx), hlt x (by simpa using hx)⟩
  exact trodAll_cons_mk (WideElems.Trod_stays laidOut (by kernel_rfl) (of_decide_eq_true (by kernel_rfl)) ⟨n0, t0⟩ (fun x hx => hb.same (hsp' x hx).2) (fun x hx => (hsp' x hx).1)) trodAll_mk0
theorem ownN : ownKnob PP.godebug = none := by kernel_rfl
def wargs : Array Value := #[.slice none 0 0]
noncomputable def wW (os : Os) : World := World.laidAll PP os Rows.fnPrimRow.laid
theorem laid_met (os : Os) : laidMetH PP Rows.fnPrimRow.laid ((wW os).forCall (fun _ _ => 0) ⟨#[], wargs, []⟩).memory :=
  show laidMet PP Rows.fnPrimRow.laid _ from laidMet_laidAll wargs (by kernel_rfl) (by kernel_rfl)
theorem wreads (os : Os) {H : Type} (enc : TypeId × Value → H) : ∃ places, DataW.whole enc PP ((wW os).forCall (fun _ _ => 0) ⟨#[], wargs, []⟩).memory Go.Proofs.Tryz.f3.params.toList Rows.fnPrimSpec.vars false wargs.toList 8 = some ([.nil], [], places) :=
  ⟨[], by kernel_rfl⟩
theorem lifted (os : Os) (started : os.Started) (H : Type) (enc : TypeId × Value → H) (F : Stop.Interp) :
    ReturnsInHanded {} Go.Proofs.Tryz.checked os 3 .any ((OpenSpec.ofChange Rows.fnPrimSpec).preRow enc PP Go.Proofs.Tryz.f3 Rows.fnPrimRow.domain false Rows.fnPrimRow.laid) (((OpenSpec.ofChange Rows.fnPrimSpec).at F).post enc PP Go.Proofs.Tryz.f3 false true false false) := by
  obtain ⟨places, hx⟩ := wreads os enc
  refine returnsInHanded_of_row (C := Go.Proofs.Tryz.checked) (s := OpenSpec.ofChange Rows.fnPrimSpec) ownN started (by kernel_rfl) Go.Proofs.Tryz.func3
    (witness_row_at (enc := enc) (C := Go.Proofs.Tryz.checked) false (wW os) wargs (World.laidAll_os _ _ _) (by kernel_rfl) (by kernel_rfl) (by kernel_rfl)
      (OpenSpec.preRow_of_cond 8 hx (by kernel_rfl) (fun k hk => by cases hk) (by kernel_rfl) (laid_met os))) ?_
  intro W base args ds gs before hval hW _ _ _ hL hsh _
  exact contract H enc W base args ds gs before hval hW hL hsh
theorem said : Rows.FnPrimSaid :=
  OpenClaim.holds_of_cond 3 Go.Proofs.Tryz.f3 rfl rfl rfl rfl rfl rfl rfl ⟨rfl, rfl, rfl, rfl, rfl⟩ rfl rfl rfl rfl rfl (by kernel_rfl) Go.Proofs.Tryz.func3 (by kernel_rfl)
    (of_decide_eq_true (by kernel_rfl)) (by unfold Func.isWrapper; first | (rw [if_pos (by decide +kernel)]; kernel_rfl) | (rw [if_neg (by decide +kernel)]; exact ⟨rfl, rfl⟩))
    (fun os started H enc _ F => by rw [OpenClaim.pre_eq_preRow]; exact lifted os started H enc F)
theorem plainN (f : FuncId) (fn : Func) (hf : Tryz.pinned.checked.prog.funcNamed "loop.example/g00765/laws.FnPrim" = some f) (hfn : Tryz.pinned.checked.prog.funcs[f]? = some fn) :
    true = Tryz.pinned.checked.prog.looks [] ∧ ∀ (j : Nat) t, fn.params[j]? = some t → Tryz.pinned.checked.prog.wantsStandIn t = false := by
  obtain rfl : f = 3 := Option.some.inj ((show PP.funcNamed "loop.example/g00765/laws.FnPrim" = some 3 by kernel_rfl).symm.trans hf) |>.symm
  obtain rfl : fn = Go.Proofs.Tryz.f3 := (Option.some.inj (Go.Proofs.Tryz.func3.symm.trans hfn)).symm
  refine ⟨by kernel_rfl, fun j t ht => ?_⟩
  rw [par] at ht
  have hm := Array.mem_of_getElem? ht
  simp at hm
  subst hm
  exact (show PP.wantsStandIn 22 = false by kernel_rfl)
theorem card : Rows.FnPrimCardSaid :=
  Claim7.holds_tied_plain_at .later [] _ _ _ _ said (fun _ h => by cases h) (by kernel_rfl) (fun _ h => by cases h) fnPrim_row_tie rfl ⟨rfl, rfl⟩ (by kernel_rfl) rfl plainN (by kernel_rfl)
end FnPrim
end Go.Own
namespace Go.Proofs.YtfanjfmgacfpjaaGreatDoor
theorem fnPrim_holds : Rows.FnPrimCardSaid := Go.Own.FnPrim.card
end Go.Proofs.YtfanjfmgacfpjaaGreatDoor
