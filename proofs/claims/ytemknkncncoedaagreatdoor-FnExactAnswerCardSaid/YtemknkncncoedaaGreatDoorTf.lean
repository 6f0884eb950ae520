import Derived.Test.YtemknkncncoedaaGreatDoorTe
import Derived.Deep.Slices
import Derived.ChangeArms
import Derived.OpenShut
import Derived.Deep.DeepHandedRow
import Derived.Lib.LaidTab
import Derived.Carry
import Derived.Test.YtemknkncncoedaaGreatDoorCards
import Derived.Test.YtemknkncncoedaaGreatDoorTie
import Derived.Lay
import Derived.SevenTiedAt
/- The law FnExactAnswer returns true for every input and leaves what it reads as it was: the program's Answer returns what the reference's returns. Conditions: what is laid in the package variables that the row names; every input that reads as the row's types. -/
set_option linter.unusedVariables false
set_option linter.unusedSimpArgs false
set_option linter.unusedSectionVars false
set_option maxRecDepth 1000000
set_option maxHeartbeats 4000000
namespace Go.Own
attribute [local irreducible] WPc WPL WPS WPS1 WPS2 HAny endP
variable [Laid]
open Go.Lib Go.RowKit
def byR (out : By) : Root := (5, 1, out.map uC)
theorem u40 : uC 40 = [.sc (.int .u8 40)] := rfl
theorem u41 : uC 41 = [.sc (.int .u8 41)] := rfl
theorem u32 : uC 32 = [.sc (.int .u8 32)] := rfl
theorem u35 : uC 35 = [.sc (.int .u8 35)] := rfl
def PutCon (h : List Cl) (i : Nat) : Prop := ∀ (v : V) (out : By), valueOk h v = true → (v.k = 5 → v.n.toNat < i) → out.length ≤ 4999990000 →
  Con PP 231 [.fz (h.map Cl.cs), v.av, .sl 0 1 [] 0 out.length] [(0, byR out)] [] (fun r o => r = .sl 900009 1 [] 0 (tellM h i false v out).length ∧ o = [(900009, byR (tellM h i false v out))])
theorem put_leaf {h : List Cl} (H : TelH h) (n : Nat) (v : V) (out : By) (hv : valueOk h v = true) (hb : out.length ≤ 4999990000) (hk : ¬ v.k = 5 ∨ fullT out = true) :
    Con PP 231 [.fz (h.map Cl.cs), v.av, .sl 0 1 [] 0 out.length] [(0, byR out)] [] (fun r o => r = .sl 900009 1 [] 0 (tellM h n false v out).length ∧ o = [(900009, byR (tellM h n false v out))]) := by
  by_cases hf : fullT out = true
  · have e : tellM h n false v out = out := by cases n <;> simp [tellM, hf]
    rw [e]
    have hl : ((100000 : Int) ≤ (out.length : Int)) = True := by simp only [fullT, decide_eq_true_eq] at hf; simp; omega
    refine Con.of tok (nt := 121) Go.Proofs.Tryz.func231 (by kernel_rfl) rfl rfl rfl (Nat.le_of_ble_eq_true rfl) fun G => ?_
    simp only [entSt, tmOf, List.append_nil, List.cons_append, List.nil_append, byR, V.av]
    refine gox (L := _ ∧ True) (wa1 @hl) wb0 wb0 wb0 (wb2 (outs [900009]) (nm 6 [0, 900009])) ⟨fun _ => ?_, wb0⟩
    all_goals exact ⟨rfl, rfl⟩
  have hk := hk.resolve_right hf
  have hf' : fullT out = false := by simpa using hf
  have hl : ((100000 : Int) ≤ (out.length : Int)) = False := by simp only [fullT, decide_eq_true_eq] at hf; simp; omega
  have e : tellM h n false v out = out ++ leafT h v := by cases n <;> simp [tellM, hf', hk]
  rw [e]
  by_cases k1 : v.k = 1
  · have hv' := hv
    unfold valueOk at hv'
    simp [k1, inRange] at hv'
    have hd := dec_size (n := v.n) (by omega) (by omega)
    have hb2 : out.length + (dec v.n).size ≤ 140737488355328 := by omega
    have el : leafT h v = byS (dec v.n) := by simp [leafT, k1]
    rw [el]
    refine Con.of tok (nt := 121) Go.Proofs.Tryz.func231 (by kernel_rfl) rfl rfl rfl (Nat.le_of_ble_eq_true rfl) fun G => ?_
    simp only [entSt, tmOf, List.append_nil, List.cons_append, List.nil_append, byR, V.av]
    repeat' (first
      | (refine WPL.appS tok fun K hK => ?_; simp -implicitDefEqProofs +contextual [-Int.not_le, -Int.not_lt, -Nat.not_le, -Nat.not_lt, -List.all_eq_true, -List.all_eq_false, -List.any_eq_true, -List.any_eq_false, hl, k1, hb2]; (repeat1' (first | apply hK | apply And.intro | intro _)) <;> clear hK K)
      | (refine WPc.renR 0 900009 fun K hK => ?_; simp -implicitDefEqProofs +contextual [-Int.not_le, -Int.not_lt, -Nat.not_le, -Nat.not_lt, -List.all_eq_true, -List.all_eq_false, -List.any_eq_true, -List.any_eq_false, hl, k1, hb2]; (repeat1' (first | apply hK | apply And.intro | intro _)) <;> clear hK K)
      | apply WPc.sq
      | apply WPc.block
      | (apply WPc.ret; apply endP.sel (is := [900009]) (he := .inr rfl); (case hs => rfl); (case hg => rfl); (case h => (simp; rfl)); (case hO => (simp; rfl)); (case hk => (simp; done)))
      | apply WPc.skip
      | refine WPL.nil ?_
      | (apply WPL.cL (c_spec_Dec _ ?g1 ?g2); (case q => (repeat' (first | refine And.intro ?_ ?_ | intro _ | (with_reducible exact cleanOut_nil) | (refine Eqv.mk ?_; first | rfl | (simp -implicitDefEqProofs [hl, k1, hb2]; done)) | (simp -implicitDefEqProofs [hl, k1, hb2]; done) | (simp -implicitDefEqProofs [hl, k1, hb2]; rfl) | (simp; done) | (simp; rfl) | rfl))); (case g1 => (first | assumption | omega)); (case g2 => (first | assumption | omega)))
      | ((first | refine WPc.rq tok rfl fun K hK => ?_ | refine WPL.rn tok _ (by simp [ahead, isFn]; rfl) fun K hK => ?_); simp -implicitDefEqProofs +contextual [-Int.not_le, -Int.not_lt, -Nat.not_le, -Nat.not_lt, -List.all_eq_true, -List.all_eq_false, -List.any_eq_true, -List.any_eq_false, hl, k1, hb2]; (repeat1' (first | apply hK | apply And.intro | intro _)) <;> clear hK K <;> (try dsimp only [List.drop]))
      | (refine WPc.region ?_; simp only [List.toList_toArray])
      | (refine WPc.condT ?_ ?_; (focus (simp; done)))
      | (refine WPc.condF ?_ ?_; (focus (simp; done))))
    all_goals (simp [byS])
  by_cases k2 : v.k = 2
  · have w1 : ByteArray.size ⟨#[35, 116]⟩ = 2 := rfl
    have w2 : ByteArray.size ⟨#[35, 102]⟩ = 2 := rfl
    have hb2 : out.length + 2 ≤ 140737488355328 := by omega
    by_cases n1 : v.n = 1
    · have n1' : (v.n = 1) = True := by simp [n1]
      have el : leafT h v = byS ⟨#[35, 116]⟩ := by simp [leafT, k2, n1, byS]
      rw [el]
      refine Con.of tok (nt := 121) Go.Proofs.Tryz.func231 (by kernel_rfl) rfl rfl rfl (Nat.le_of_ble_eq_true rfl) fun G => ?_
      simp only [entSt, tmOf, List.append_nil, List.cons_append, List.nil_append, byR, V.av]
      repeat' (first
        | (refine WPL.appS tok fun K hK => ?_; simp -implicitDefEqProofs +contextual [-Int.not_le, -Int.not_lt, -Nat.not_le, -Nat.not_lt, -List.all_eq_true, -List.all_eq_false, -List.any_eq_true, -List.any_eq_false, hl, k2, n1', w1, hb2]; (repeat1' (first | apply hK | apply And.intro | intro _)) <;> clear hK K)
        | ((first | refine WPL.rnTo tok 27 _ (by simp [isFn]; rfl) fun K hK => ?_ | refine WPc.rq tok rfl fun K hK => ?_ | refine WPL.rn tok _ (by simp [ahead, isFn]; rfl) fun K hK => ?_); simp -implicitDefEqProofs +contextual [-Int.not_le, -Int.not_lt, -Nat.not_le, -Nat.not_lt, -List.all_eq_true, -List.all_eq_false, -List.any_eq_true, -List.any_eq_false, hl, k2, n1', w1, hb2]; (repeat1' (first | apply hK | apply And.intro | intro _)) <;> clear hK K <;> (try dsimp only [List.drop]))
        | (refine WPc.renR 0 900009 fun K hK => ?_; simp -implicitDefEqProofs +contextual [-Int.not_le, -Int.not_lt, -Nat.not_le, -Nat.not_lt, -List.all_eq_true, -List.all_eq_false, -List.any_eq_true, -List.any_eq_false, hl, k2, n1', w1, hb2]; (repeat1' (first | apply hK | apply And.intro | intro _)) <;> clear hK K)
        | apply WPc.sq
        | apply WPc.block
        | (apply WPc.ret; apply endP.sel (is := [900009]) (he := .inr rfl); (case hs => rfl); (case hg => rfl); (case h => (simp; rfl)); (case hO => (simp; rfl)); (case hk => (simp; done)))
        | apply WPc.skip
        | refine WPL.nil ?_
        | (refine WPc.region ?_; simp only [List.toList_toArray])
        | (refine WPc.condT ?_ ?_; (focus (simp; done)))
        | (refine WPc.condF ?_ ?_; (focus (simp; done))))
      all_goals (simp [byS])
    · have n1' : (v.n = 1) = False := by simp [n1]
      have el : leafT h v = byS ⟨#[35, 102]⟩ := by simp [leafT, k2, n1, byS]
      rw [el]
      refine Con.of tok (nt := 121) Go.Proofs.Tryz.func231 (by kernel_rfl) rfl rfl rfl (Nat.le_of_ble_eq_true rfl) fun G => ?_
      simp only [entSt, tmOf, List.append_nil, List.cons_append, List.nil_append, byR, V.av]
      repeat' (first
        | (refine WPL.appS tok fun K hK => ?_; simp -implicitDefEqProofs +contextual [-Int.not_le, -Int.not_lt, -Nat.not_le, -Nat.not_lt, -List.all_eq_true, -List.all_eq_false, -List.any_eq_true, -List.any_eq_false, hl, k2, n1', w2, hb2]; (repeat1' (first | apply hK | apply And.intro | intro _)) <;> clear hK K)
        | ((first | refine WPL.rnTo tok 29 _ (by simp [isFn]; rfl) fun K hK => ?_ | refine WPc.rq tok rfl fun K hK => ?_ | refine WPL.rn tok _ (by simp [ahead, isFn]; rfl) fun K hK => ?_); simp -implicitDefEqProofs +contextual [-Int.not_le, -Int.not_lt, -Nat.not_le, -Nat.not_lt, -List.all_eq_true, -List.all_eq_false, -List.any_eq_true, -List.any_eq_false, hl, k2, n1', w2, hb2]; (repeat1' (first | apply hK | apply And.intro | intro _)) <;> clear hK K <;> (try dsimp only [List.drop]))
        | (refine WPc.renR 0 900009 fun K hK => ?_; simp -implicitDefEqProofs +contextual [-Int.not_le, -Int.not_lt, -Nat.not_le, -Nat.not_lt, -List.all_eq_true, -List.all_eq_false, -List.any_eq_true, -List.any_eq_false, hl, k2, n1', w2, hb2]; (repeat1' (first | apply hK | apply And.intro | intro _)) <;> clear hK K)
        | apply WPc.sq
        | apply WPc.block
        | (apply WPc.ret; apply endP.sel (is := [900009]) (he := .inr rfl); (case hs => rfl); (case hg => rfl); (case h => (simp; rfl)); (case hO => (simp; rfl)); (case hk => (simp; done)))
        | apply WPc.skip
        | refine WPL.nil ?_
        | (refine WPc.region ?_; simp only [List.toList_toArray])
        | (refine WPc.condT ?_ ?_; (focus (simp; done)))
        | (refine WPc.condF ?_ ?_; (focus (simp; done))))
      all_goals (simp [byS])
  by_cases k3 : v.k = 3
  · have w1 : ByteArray.size ⟨#[40, 41]⟩ = 2 := rfl
    have hb2 : out.length + 2 ≤ 140737488355328 := by omega
    have el : leafT h v = byS ⟨#[40, 41]⟩ := by simp [leafT, k3, byS]
    rw [el]
    refine Con.of tok (nt := 121) Go.Proofs.Tryz.func231 (by kernel_rfl) rfl rfl rfl (Nat.le_of_ble_eq_true rfl) fun G => ?_
    simp only [entSt, tmOf, List.append_nil, List.cons_append, List.nil_append, byR, V.av]
    repeat' (first
      | (refine WPL.appS tok fun K hK => ?_; simp -implicitDefEqProofs +contextual [-Int.not_le, -Int.not_lt, -Nat.not_le, -Nat.not_lt, -List.all_eq_true, -List.all_eq_false, -List.any_eq_true, -List.any_eq_false, hl, k3, w1, hb2]; (repeat1' (first | apply hK | apply And.intro | intro _)) <;> clear hK K)
      | ((first | refine WPL.rnTo tok 33 _ (by simp [isFn]; rfl) fun K hK => ?_ | refine WPc.rq tok rfl fun K hK => ?_ | refine WPL.rn tok _ (by simp [ahead, isFn]; rfl) fun K hK => ?_); simp -implicitDefEqProofs +contextual [-Int.not_le, -Int.not_lt, -Nat.not_le, -Nat.not_lt, -List.all_eq_true, -List.all_eq_false, -List.any_eq_true, -List.any_eq_false, hl, k3, w1, hb2]; (repeat1' (first | apply hK | apply And.intro | intro _)) <;> clear hK K <;> (try dsimp only [List.drop]))
      | (refine WPc.renR 0 900009 fun K hK => ?_; simp -implicitDefEqProofs +contextual [-Int.not_le, -Int.not_lt, -Nat.not_le, -Nat.not_lt, -List.all_eq_true, -List.all_eq_false, -List.any_eq_true, -List.any_eq_false, hl, k3, w1, hb2]; (repeat1' (first | apply hK | apply And.intro | intro _)) <;> clear hK K)
      | apply WPc.sq
      | apply WPc.block
      | (apply WPc.ret; apply endP.sel (is := [900009]) (he := .inr rfl); (case hs => rfl); (case hg => rfl); (case h => (simp; rfl)); (case hO => (simp; rfl)); (case hk => (simp; done)))
      | apply WPc.skip
      | refine WPL.nil ?_
      | (refine WPc.region ?_; simp only [List.toList_toArray])
      | (refine WPc.condT ?_ ?_; (focus (simp; done)))
      | (refine WPc.condF ?_ ?_; (focus (simp; done))))
    all_goals (simp [byS])
  by_cases k4 : v.k = 4
  · have hv' := hv
    unfold valueOk at hv'
    rw [if_pos k4, Bool.and_eq_true] at hv'
    have hs := sym_size hv'.2
    have hb2 : out.length + v.s.size ≤ 140737488355328 := by omega
    have el : leafT h v = byS v.s := by simp [leafT, k4]
    rw [el]
    refine Con.of tok (nt := 121) Go.Proofs.Tryz.func231 (by kernel_rfl) rfl rfl rfl (Nat.le_of_ble_eq_true rfl) fun G => ?_
    simp only [entSt, tmOf, List.append_nil, List.cons_append, List.nil_append, byR, V.av]
    repeat' (first
      | (refine WPL.appS tok fun K hK => ?_; simp -implicitDefEqProofs +contextual [-Int.not_le, -Int.not_lt, -Nat.not_le, -Nat.not_lt, -List.all_eq_true, -List.all_eq_false, -List.any_eq_true, -List.any_eq_false, hl, k4, hb2]; (repeat1' (first | apply hK | apply And.intro | intro _)) <;> clear hK K)
      | ((first | refine WPL.rnTo tok 39 _ (by simp [isFn]; rfl) fun K hK => ?_ | refine WPc.rq tok rfl fun K hK => ?_ | refine WPL.rn tok _ (by simp [ahead, isFn]; rfl) fun K hK => ?_); simp -implicitDefEqProofs +contextual [-Int.not_le, -Int.not_lt, -Nat.not_le, -Nat.not_lt, -List.all_eq_true, -List.all_eq_false, -List.any_eq_true, -List.any_eq_false, hl, k4, hb2]; (repeat1' (first | apply hK | apply And.intro | intro _)) <;> clear hK K <;> (try dsimp only [List.drop]))
      | (refine WPc.renR 0 900009 fun K hK => ?_; simp -implicitDefEqProofs +contextual [-Int.not_le, -Int.not_lt, -Nat.not_le, -Nat.not_lt, -List.all_eq_true, -List.all_eq_false, -List.any_eq_true, -List.any_eq_false, hl, k4, hb2]; (repeat1' (first | apply hK | apply And.intro | intro _)) <;> clear hK K)
      | apply WPc.sq
      | apply WPc.block
      | (apply WPc.ret; apply endP.sel (is := [900009]) (he := .inr rfl); (case hs => rfl); (case hg => rfl); (case h => (simp; rfl)); (case hO => (simp; rfl)); (case hk => (simp; done)))
      | apply WPc.skip
      | refine WPL.nil ?_
      | (refine WPc.region ?_; simp only [List.toList_toArray])
      | (refine WPc.condT ?_ ?_; (focus (simp; done)))
      | (refine WPc.condF ?_ ?_; (focus (simp; done))))
    all_goals (simp [byS])
  by_cases k6 : v.k = 6
  · have w1 : ByteArray.size ⟨#[102, 110]⟩ = 2 := rfl
    have hb2 : out.length + 2 ≤ 140737488355328 := by omega
    have el : leafT h v = byS ⟨#[102, 110]⟩ := by simp [leafT, k6, byS]
    rw [el]
    refine Con.of tok (nt := 121) Go.Proofs.Tryz.func231 (by kernel_rfl) rfl rfl rfl (Nat.le_of_ble_eq_true rfl) fun G => ?_
    simp only [entSt, tmOf, List.append_nil, List.cons_append, List.nil_append, byR, V.av]
    repeat' (first
      | (refine WPL.appS tok fun K hK => ?_; simp -implicitDefEqProofs +contextual [-Int.not_le, -Int.not_lt, -Nat.not_le, -Nat.not_lt, -List.all_eq_true, -List.all_eq_false, -List.any_eq_true, -List.any_eq_false, hl, k6, w1, hb2]; (repeat1' (first | apply hK | apply And.intro | intro _)) <;> clear hK K)
      | ((first | refine WPL.rnTo tok 43 _ (by simp [isFn]; rfl) fun K hK => ?_ | refine WPc.rq tok rfl fun K hK => ?_ | refine WPL.rn tok _ (by simp [ahead, isFn]; rfl) fun K hK => ?_); simp -implicitDefEqProofs +contextual [-Int.not_le, -Int.not_lt, -Nat.not_le, -Nat.not_lt, -List.all_eq_true, -List.all_eq_false, -List.any_eq_true, -List.any_eq_false, hl, k6, w1, hb2]; (repeat1' (first | apply hK | apply And.intro | intro _)) <;> clear hK K <;> (try dsimp only [List.drop]))
      | (refine WPc.renR 0 900009 fun K hK => ?_; simp -implicitDefEqProofs +contextual [-Int.not_le, -Int.not_lt, -Nat.not_le, -Nat.not_lt, -List.all_eq_true, -List.all_eq_false, -List.any_eq_true, -List.any_eq_false, hl, k6, w1, hb2]; (repeat1' (first | apply hK | apply And.intro | intro _)) <;> clear hK K)
      | apply WPc.sq
      | apply WPc.block
      | (apply WPc.ret; apply endP.sel (is := [900009]) (he := .inr rfl); (case hs => rfl); (case hg => rfl); (case h => (simp; rfl)); (case hO => (simp; rfl)); (case hk => (simp; done)))
      | apply WPc.skip
      | refine WPL.nil ?_
      | (refine WPc.region ?_; simp only [List.toList_toArray])
      | (refine WPc.condT ?_ ?_; (focus (simp; done)))
      | (refine WPc.condF ?_ ?_; (focus (simp; done))))
    all_goals (simp [byS])
  have k7 : v.k = 7 := by
    have hv' := hv
    unfold valueOk at hv'
    simp only [k1, k2, k3, k4, if_false] at hv'
    by_cases k7 : v.k = 7
    · exact k7
    · simp [cellKind, hk, k6, k7] at hv'
  obtain ⟨n0, hi, hc, _⟩ := valueOk_cell hv (by omega)
  have n1 : v.n < (h.length : Int) := by omega
  have hs := (H.sm _ (List.getElem_mem hi)).s
  have hb2 : out.length + 1 + h[v.n.toNat].s.size ≤ 140737488355328 := by omega
  have hb3 : out.length + 1 ≤ 140737488355328 := by omega
  have hb4 : out.length + 1 ≤ 9223372036854775807 := by omega
  have el : leafT h v = 35 :: byS h[v.n.toNat].s := by simp [leafT, k7, hi]
  rw [el]
  refine Con.of tok (nt := 121) Go.Proofs.Tryz.func231 (by kernel_rfl) rfl rfl rfl (Nat.le_of_ble_eq_true rfl) fun G => ?_
  simp only [entSt, tmOf, List.append_nil, List.cons_append, List.nil_append, byR, V.av]
  repeat' (first
    | (refine WPL.appS tok fun K hK => ?_; simp -implicitDefEqProofs +contextual [-Int.not_le, -Int.not_lt, -Nat.not_le, -Nat.not_lt, -List.all_eq_true, -List.all_eq_false, -List.any_eq_true, -List.any_eq_false, hl, k7, n0, n1, hi, Cl.cs, hb2, hb3, hb4]; (repeat1' (first | apply hK | apply And.intro | intro _)) <;> clear hK K)
    | ((first | refine WPL.rnTo tok 56 _ (by simp [isFn]; rfl) fun K hK => ?_ | refine WPc.rq tok rfl fun K hK => ?_ | refine WPL.rn tok _ (by simp [ahead, isFn]; rfl) fun K hK => ?_); simp -implicitDefEqProofs +contextual [-Int.not_le, -Int.not_lt, -Nat.not_le, -Nat.not_lt, -List.all_eq_true, -List.all_eq_false, -List.any_eq_true, -List.any_eq_false, hl, k7, n0, n1, hi, Cl.cs, hb2, hb3, hb4]; (repeat1' (first | apply hK | apply And.intro | intro _)) <;> clear hK K <;> (try dsimp only [List.drop]))
    | (refine WPc.renR 0 900009 fun K hK => ?_; simp -implicitDefEqProofs +contextual [-Int.not_le, -Int.not_lt, -Nat.not_le, -Nat.not_lt, -List.all_eq_true, -List.all_eq_false, -List.any_eq_true, -List.any_eq_false, hl, k7, n0, n1, hi, Cl.cs, hb2, hb3, hb4]; (repeat1' (first | apply hK | apply And.intro | intro _)) <;> clear hK K)
    | apply WPc.sq
    | apply WPc.block
    | (apply WPc.ret; apply endP.sel (is := [900009]) (he := .inr rfl); (case hs => rfl); (case hg => rfl); (case h => (simp; rfl)); (case hO => (simp; rfl)); (case hk => (simp; done)))
    | apply WPc.skip
    | refine WPL.nil ?_
    | (refine WPc.region ?_; simp only [List.toList_toArray])
    | (refine WPc.condT ?_ ?_; (focus (simp; done)))
    | (refine WPc.condF ?_ ?_; (focus (simp; done))))
  all_goals (simp [byS, u35])
end Go.Own
set_option maxRecDepth 1000000
set_option maxHeartbeats 4000000
namespace Go.Own
attribute [local irreducible] WPc WPL WPS WPS1 WPS2 HAny endP
variable [Laid]
open Go.Lib Go.RowKit
theorem put_con {h : List Cl} (H : TelH h) : ∀ n, PutCon h n := by
  intro n
  induction n using Nat.strongRecOn with
  | ind n ih =>
  intro v out hv hlt hb
  have hP := H.ps
  by_cases hk : v.k = 5
  rotate_left
  · exact put_leaf H n v out hv hb (.inl hk)
  by_cases hf : fullT out = true
  · exact put_leaf H n v out hv hb (.inr hf)
  have hf' : fullT out = false := by simpa using hf
  obtain ⟨n0, hi, h2⟩ := hP.two v hv hk
  have a0 := hP.ok v hv hk 0 (by omega)
  have a1 := hP.ok v hv hk 1 (by omega)
  have hol : out.length < 100000 := by simp only [fullT, decide_eq_false_iff_not] at hf'; omega
  have hol' : ((100000 : Int) ≤ (out.length : Int)) = False := by simp; omega
  have hL := H.len
  have n1 : v.n < (h.length : Int) := by omega
  have q0 : 0 < h[v.n.toNat].vals.length := by omega
  have q1 : 1 < h[v.n.toNat].vals.length := by omega
  have e0 : val0 h v 0 = h[v.n.toNat].vals[0] := by simp [val0, arg, hi, q0]
  have e1 : val0 h v 1 = h[v.n.toNat].vals[1] := by simp [val0, arg, hi, q1]
  rw [tell_pair hP hv hk (hlt hk) hf']
  rw [e0] at a0 ⊢
  rw [e1] at a1 ⊢
  have ihj := ih v.n.toNat (hlt hk)
  have u1 := ihj h[v.n.toNat].vals[0] (out ++ [40]) a0.1 a0.2 (by simp; omega)
  have l1 := tellM_len H.lb hP v.n.toNat false h[v.n.toNat].vals[0] (out ++ [40]) a0.1 a0.2
  simp only [List.length_append, List.length_cons, List.length_nil, Bool.false_eq_true, if_false] at l1
  generalize hT : tellM h v.n.toNat true h[v.n.toNat].vals[1] (tellM h v.n.toNat false h[v.n.toNat].vals[0] (out ++ [40])) = T
  simp only [byR, V.av, List.map_append, List.map_cons, List.map_nil, u40, List.length_append, List.length_cons, List.length_nil, Nat.zero_add] at u1
  have hb1 : out.length + 1 ≤ 140737488355328 := by omega
  have hb2 : out.length + 1 ≤ 9223372036854775807 := by omega
  refine Con.of tok (nt := 121) Go.Proofs.Tryz.func231 (by kernel_rfl) rfl rfl rfl (Nat.le_of_ble_eq_true rfl) fun G => ?_
  simp only [entSt, tmOf, List.append_nil, List.cons_append, List.nil_append, byR, V.av]
  refine go (L := _ ∧ True) (wa11 @hol' @hk @n0 @n1 @hi @q0 @q1 @hb1 @hb2 @V.cs.eq_1 @Cl.cs.eq_1) wb0 (wb1 (fun _ => u1)) wb0 wb0 ⟨fun _ => ?_, wb0⟩
  refine WPc.renC 70 900002 fun K hK => ?_
  simp -implicitDefEqProofs
  refine hK _ ?_; clear hK K
  refine WPc.loopV (σ := V × By) (fun y => valueOk h y.1 = true ∧ (y.1.k = 5 → y.1.n.toNat < v.n.toNat) ∧ tellM h v.n.toNat true y.1 y.2 = T ∧ y.2.length ≤ 4295070000) (fun y => (if y.1.k = 5 then y.1.n.toNat + 1 else 0)) (fun y => [(2, .sl 900002 1 [] 0 y.2.length)]) (fun y => [(900002, 5, 1, y.2.map uC), (7, 44, 3, [y.1.cs])]) [0, 7] (h[v.n.toNat].vals[1], tellM h v.n.toNat false h[v.n.toNat].vals[0] (out ++ [40])) (by simp [V.cs]) (by simp [V.cs]) (⟨a1.1, a1.2, hT, by simp only []; omega⟩) ?_
  rintro ⟨r, o⟩ ⟨y1, y2, y3, y4⟩ s hs
  simp at hs
  subst hs
  dsimp only at y1 y2 y3 y4 ⊢
  have hb3 : o.length + 1 ≤ 140737488355328 := by omega
  have hb4 : o.length + 1 ≤ 9223372036854775807 := by omega
  by_cases hp : r.k = 5 ∧ fullT o = false
  · obtain ⟨p1, p2⟩ := hp
    obtain ⟨m0, m1, m2⟩ := hP.two r y1 p1
    have mlt := y2 p1
    have b0 := hP.ok r y1 p1 0 (by omega)
    have b1 := hP.ok r y1 p1 1 (by omega)
    have r0 : 0 < h[r.n.toNat].vals.length := by omega
    have r1 : 1 < h[r.n.toNat].vals.length := by omega
    have f0 : val0 h r 0 = h[r.n.toNat].vals[0] := by simp [val0, arg, m1, r0]
    have f1 : val0 h r 1 = h[r.n.toNat].vals[1] := by simp [val0, arg, m1, r1]
    have hnx := tell_next hP y1 p1 mlt p2
    rw [f0] at b0 hnx
    rw [f1] at b1 hnx
    have p1' : (r.k = 5) = True := by simp [p1]
    have m3 : r.n < (h.length : Int) := by omega
    have ol : o.length < 100000 := by simp only [fullT, decide_eq_false_iff_not] at p2; omega
    have ol' : ((o.length : Int) < (100000 : Int)) = True := by simp; omega
    have u2 := ihj h[r.n.toNat].vals[0] (o ++ [32]) b0.1 (fun e => Nat.lt_trans (b0.2 e) mlt) (by simp; omega)
    have l2 := tellM_len H.lb hP v.n.toNat false h[r.n.toNat].vals[0] (o ++ [32]) b0.1 (fun e => Nat.lt_trans (b0.2 e) mlt)
    simp only [List.length_append, List.length_cons, List.length_nil, Bool.false_eq_true, if_false] at l2
    simp only [byR, V.av, List.map_append, List.map_cons, List.map_nil, u32, List.length_append, List.length_cons, List.length_nil, Nat.zero_add] at u2
    have hm : (if h[r.n.toNat].vals[1].k = 5 then h[r.n.toNat].vals[1].n.toNat + 1 else 0) < (if r.k = 5 then r.n.toNat + 1 else 0) := by
      rw [if_pos p1]
      split
      · have := b1.2 (by assumption); omega
      · omega
    refine gox (L := _ ∧ True) (wa11 @p1' @ol' @m0 @m1 @m3 @r0 @r1 @hb3 @hb4 @V.cs.eq_1 @Cl.cs.eq_1) wb0 (wb1 (fun _ => u2)) wb0 (wb2 wb0 (nm 8 [25, 100, 900002])) ⟨fun _ => ?_, wb0⟩
    refine ⟨(h[r.n.toNat].vals[1], tellM h v.n.toNat false h[r.n.toNat].vals[0] (o ++ [32])), ⟨⟨b1.1, fun e => Nat.lt_trans (b1.2 e) mlt, by rw [← y3, hnx], by simp only []; omega⟩, by first | omega | (simp only; omega) | assumption⟩, rfl, rfl, ?_, ?_⟩ <;> simp (disch := omega) [wrap64, V.cs]
  · have hend := tell_end (h := h) (i := v.n.toNat) (r := r) (o := o) hp
    have hfull : r.k = 5 → fullT o = true := fun e => by
      cases hf2 : fullT o with
      | true => rfl
      | false => exact absurd ⟨e, hf2⟩ hp
    rw [← y3, hend, tailT_eq (i := v.n.toNat) hfull]
    by_cases h3r : r.k = 3
    · have p3' : (r.k = 3) = True := by simp [h3r]
      have p1' : (r.k = 5) = False := by simp; omega
      rw [if_pos h3r]
      refine gox (L := _ ∧ True) (wa5 @p1' @p3' @hb3 @hb4 @V.cs.eq_1) wb0 wb0 wb0 (wb2 (outs [900009]) (nm 6 [900002, 900009])) ⟨fun _ => ?_, wb0⟩
      all_goals (simp [u41])
    · have p3' : (r.k = 3) = False := by simp [h3r]
      rw [if_neg h3r]
      have u3 := ihj r (o ++ [32, 46, 32]) y1 y2 (by simp; omega)
      have l3 := tellM_len H.lb hP v.n.toNat false r (o ++ [32, 46, 32]) y1 y2
      simp only [List.length_append, List.length_cons, List.length_nil, Bool.false_eq_true, if_false] at l3
      simp only [byR, V.av, List.map_append, List.map_cons, List.map_nil, List.length_append, List.length_cons, List.length_nil, Nat.zero_add, Nat.reduceAdd] at u3
      generalize tellM h v.n.toNat false r (o ++ [32, 46, 32]) = w at u3 l3 ⊢
      have w3 : ByteArray.size ⟨#[32, 46, 32]⟩ = 3 := rfl
      have hb5 : o.length + 3 ≤ 140737488355328 := by omega
      have hb6 : w.length + 1 ≤ 140737488355328 := by omega
      have hb7 : w.length + 1 ≤ 9223372036854775807 := by omega
      by_cases h5r : r.k = 5
      · have p1' : (r.k = 5) = True := by simp [h5r]
        have p2 := hfull h5r
        have ol' : ((o.length : Int) < (100000 : Int)) = False := by simp only [fullT, decide_eq_true_eq] at p2; simp; omega
        repeat' (first
          | (refine WPL.appS tok fun K hK => ?_; simp -implicitDefEqProofs +contextual [-Int.not_le, -Int.not_lt, -Nat.not_le, -Nat.not_lt, -List.all_eq_true, -List.all_eq_false, -List.any_eq_true, -List.any_eq_false, p1', ol', p3', w3, hb5, hb6, hb7, V.cs]; (repeat1' (first | apply hK | apply And.intro | intro _)) <;> clear hK K)
          | ((first | refine WPL.rnTo tok 113 _ (by simp [isFn]; rfl) fun K hK => ?_ | refine WPc.rq tok rfl fun K hK => ?_ | refine WPL.rn tok _ (by simp [ahead, isFn]; rfl) fun K hK => ?_); simp -implicitDefEqProofs +contextual [-Int.not_le, -Int.not_lt, -Nat.not_le, -Nat.not_lt, -List.all_eq_true, -List.all_eq_false, -List.any_eq_true, -List.any_eq_false, p1', ol', p3', w3, hb5, hb6, hb7, V.cs]; (repeat1' (first | apply hK | apply And.intro | intro _)) <;> clear hK K <;> (try dsimp only [List.drop]))
          | (refine WPc.renR 117 900009 fun K hK => ?_; simp -implicitDefEqProofs +contextual [-Int.not_le, -Int.not_lt, -Nat.not_le, -Nat.not_lt, -List.all_eq_true, -List.all_eq_false, -List.any_eq_true, -List.any_eq_false, p1', ol', p3', w3, hb5, hb6, hb7, V.cs]; (repeat1' (first | apply hK | apply And.intro | intro _)) <;> clear hK K)
          | apply WPc.sq
          | (apply WPc.ret; apply endP.sel (is := [900009]) (he := .inr rfl); (case hs => rfl); (case hg => rfl); (case h => (simp; rfl)); (case hO => (simp; rfl)); (case hk => (simp; done)))
          | apply WPc.exit
          | refine WPL.nil ?_
          | (apply WPL.cU u3; (case q => (repeat' (first | refine And.intro ?_ ?_ | intro _ | (with_reducible exact cleanOut_nil) | (refine Eqv.mk ?_; first | rfl | (simp -implicitDefEqProofs [p1', ol', p3', w3, hb5, hb6, hb7, V.cs]; done)) | (simp -implicitDefEqProofs [p1', ol', p3', w3, hb5, hb6, hb7, V.cs]; done) | (simp -implicitDefEqProofs [p1', ol', p3', w3, hb5, hb6, hb7, V.cs]; rfl) | (simp; done) | (simp; rfl) | rfl))))
          | (refine WPc.region ?_; simp only [List.toList_toArray])
          | (refine WPc.condT ?_ ?_; (focus (simp; done)))
          | (refine WPc.condF ?_ ?_; (focus (simp; done))))
        all_goals (simp [u41])
      · have p1' : (r.k = 5) = False := by simp [h5r]
        repeat' (first
          | (refine WPL.appS tok fun K hK => ?_; simp -implicitDefEqProofs +contextual [-Int.not_le, -Int.not_lt, -Nat.not_le, -Nat.not_lt, -List.all_eq_true, -List.all_eq_false, -List.any_eq_true, -List.any_eq_false, p1', p3', w3, hb5, hb6, hb7, V.cs]; (repeat1' (first | apply hK | apply And.intro | intro _)) <;> clear hK K)
          | ((first | refine WPL.rnTo tok 113 _ (by simp [isFn]; rfl) fun K hK => ?_ | refine WPc.rq tok rfl fun K hK => ?_ | refine WPL.rn tok _ (by simp [ahead, isFn]; rfl) fun K hK => ?_); simp -implicitDefEqProofs +contextual [-Int.not_le, -Int.not_lt, -Nat.not_le, -Nat.not_lt, -List.all_eq_true, -List.all_eq_false, -List.any_eq_true, -List.any_eq_false, p1', p3', w3, hb5, hb6, hb7, V.cs]; (repeat1' (first | apply hK | apply And.intro | intro _)) <;> clear hK K <;> (try dsimp only [List.drop]))
          | (refine WPc.renR 117 900009 fun K hK => ?_; simp -implicitDefEqProofs +contextual [-Int.not_le, -Int.not_lt, -Nat.not_le, -Nat.not_lt, -List.all_eq_true, -List.all_eq_false, -List.any_eq_true, -List.any_eq_false, p1', p3', w3, hb5, hb6, hb7, V.cs]; (repeat1' (first | apply hK | apply And.intro | intro _)) <;> clear hK K)
          | apply WPc.sq
          | (apply WPc.ret; apply endP.sel (is := [900009]) (he := .inr rfl); (case hs => rfl); (case hg => rfl); (case h => (simp; rfl)); (case hO => (simp; rfl)); (case hk => (simp; done)))
          | apply WPc.exit
          | refine WPL.nil ?_
          | (apply WPL.cU u3; (case q => (repeat' (first | refine And.intro ?_ ?_ | intro _ | (with_reducible exact cleanOut_nil) | (refine Eqv.mk ?_; first | rfl | (simp -implicitDefEqProofs [p1', p3', w3, hb5, hb6, hb7, V.cs]; done)) | (simp -implicitDefEqProofs [p1', p3', w3, hb5, hb6, hb7, V.cs]; done) | (simp -implicitDefEqProofs [p1', p3', w3, hb5, hb6, hb7, V.cs]; rfl) | (simp; done) | (simp; rfl) | rfl))))
          | (refine WPc.region ?_; simp only [List.toList_toArray])
          | (refine WPc.condT ?_ ?_; (focus (simp; done)))
          | (refine WPc.condF ?_ ?_; (focus (simp; done))))
        all_goals (simp [u41])
end Go.Own
set_option maxRecDepth 1000000
set_option maxHeartbeats 4000000
namespace Go.Own
attribute [local irreducible] WPc WPL WPS WPS1 WPS2 HAny endP
variable [Laid]
open Go.Lib Go.RowKit
theorem c_spec_l6Text (h : List Cl) (v : V) (hh : heapOk h = true) (hs : ∀ c, c ∈ h → c.sm) (hv : valueOk h v = true) : Con PP 187 [.fz (h.map Cl.cs), v.av] [] [] (fun r o => r = .sc (.string (textV h v))) := by
  have H := telH hh hs
  have hl := H.len
  have hlt : v.k = 5 → v.n.toNat < 300 := fun e => by obtain ⟨_, hi, _⟩ := H.ps.two v hv e; omega
  have u := put_con H 300 v [] hv hlt (by simp)
  have l := tellM_len H.lb H.ps 300 false v [] hv hlt
  simp only [List.length_nil, Bool.false_eq_true, if_false] at l
  simp only [byR, V.av, List.map_nil, List.length_nil] at u
  unfold textV
  generalize tellM h 300 false v [] = out at u l ⊢
  have hbt : ∀ n, bytesC (List.take n (List.map uC out)) = some (List.take n (out.map fun b => (b.toNat : Int))) := fun n => by rw [← List.map_take, bytesC_uC, List.map_take]
  have hst : ∀ n, strOfNums (List.take n (out.map fun b => (b.toNat : Int))) = ⟨(out.take n).toArray⟩ := fun n => by rw [← List.map_take, strOfNums_u8]
  have hpl : ∀ n, plainAll (List.take n (List.map uC out)) = true := fun n => by rw [← List.map_take]; exact uC.plnA _
  have hst0 : strOfNums (out.map fun b => (b.toNat : Int)) = ⟨out.toArray⟩ := strOfNums_u8 out
  have hbt0 := bytesC_uC out
  have ht2 : out.take out.length = out := List.take_length
  by_cases hl : 100000 < out.length
  · have hl' : ((100000 : Int) < (out.length : Int)) = True := by simp; omega
    have hl2 : ((100000 : Int) ≤ (out.length : Int)) = True := by simp; omega
    have hl3 : (100000 ≤ out.length) = True := by simp; omega
    refine Con.of tok (nt := 17) Go.Proofs.Tryz.func187 (by kernel_rfl) rfl rfl rfl (Nat.le_of_ble_eq_true rfl) fun G => ?_
    simp only [entSt, tmOf, List.append_nil, List.cons_append, List.nil_append, V.av]
    refine go (L := _ ∧ True) (wa6 @hl' @hl2 @hl3 @hbt @hst @hpl) wb0 (wb1 (fun _ => u)) wb0 wb0 ⟨fun _ => ?_, wb0⟩
    all_goals rfl
  · have hl' : ((100000 : Int) < (out.length : Int)) = False := by simp; omega
    have ht : out.take 100000 = out := List.take_of_length_le (by omega)
    rw [ht]
    refine Con.of tok (nt := 17) Go.Proofs.Tryz.func187 (by kernel_rfl) rfl rfl rfl (Nat.le_of_ble_eq_true rfl) fun G => ?_
    simp only [entSt, tmOf, List.append_nil, List.cons_append, List.nil_append, V.av]
    refine go (L := _ ∧ True) (wa7 @hl' @hbt @hst @hpl @hst0 @hbt0 @ht2) wb0 (wb1 (fun _ => u)) wb0 wb0 ⟨fun _ => ?_, wb0⟩
    all_goals rfl
def textOr (h : List Cl) (v : V) : ByteArray := if valueOk h v = true then textV h v else ⟨#[]⟩
theorem textOr_size (h : List Cl) (v : V) : (textOr h v).size ≤ 100000 := by
  unfold textOr
  split
  · show (((tellM h 300 false v []).take 100000).toArray).size ≤ 100000
    simp; omega
  · show 0 ≤ 100000; omega
theorem c_spec_Text (h : List Cl) (v : V) (hh : heapOk h = true) (hs : ∀ c, c ∈ h → c.sm) (hv : v.sm) : Con PP 119 [.fz (h.map Cl.cs), v.av] [] [] (fun r o => r = .sc (.string (textOr h v))) := by
  have u1 := c_spec_HeapOk h hs
  have u2 := c_spec_ValueOk h v hv
  rw [hh] at u1
  unfold textOr
  cases hvv : valueOk h v with
  | true =>
    have u3 := c_spec_l6Text h v hh hs hvv
    rw [hvv] at u2
    simp only [V.av] at u2 u3
    refine Con.of tok (nt := 17) Go.Proofs.Tryz.func119 (by kernel_rfl) rfl rfl rfl (Nat.le_of_ble_eq_true rfl) fun G => ?_
    simp only [entSt, tmOf, List.append_nil, List.cons_append, List.nil_append, V.av]
    refine go (L := _ ∧ True) wb0 (wb3 (fun _ => u1) (fun _ => u2) (fun _ => u3)) wb0 wb0 wb0 ⟨fun _ => ?_, wb0⟩
    all_goals rfl
  | false =>
    rw [hvv] at u2
    simp only [V.av] at u2
    refine Con.of tok (nt := 17) Go.Proofs.Tryz.func119 (by kernel_rfl) rfl rfl rfl (Nat.le_of_ble_eq_true rfl) fun G => ?_
    simp only [entSt, tmOf, List.append_nil, List.cons_append, List.nil_append, V.av]
    refine go (L := _ ∧ True) wb0 (wb2 (fun _ => u1) (fun _ => u2)) wb0 wb0 wb0 ⟨fun _ => ?_, wb0⟩
    all_goals rfl
theorem value0 (h : List Cl) : Con PP 188 [.ptr 0 2 [] 0 0, .agg [.sc (.int .i64 0), .sc (.int .i64 0), .sc (.string ⟨#[]⟩)]] [(0, telR h [])] [0] (fun r o => r = .tup [] ∧ o = [(0, telR h [])]) := by
  have uF := c_impl_tisFull h []
  have e : fullT ([] : By) = false := rfl
  rw [e] at uF
  simp only [List.map_nil] at uF
  refine Con.of tok (nt := 63) Go.Proofs.Tryz.func188 (by kernel_rfl) rfl rfl rfl (Nat.le_of_ble_eq_true rfl) fun G => ?_
  simp only [entSt, tmOf, List.append_nil, List.cons_append, List.nil_append, telR, List.map_nil]
  refine gox (L := _ ∧ True) wb0 (wb1 (fun _ => uF)) wb0 wb0 (wb1 (outs [0])) ⟨fun _ => ?_, wb0⟩
  all_goals exact ⟨rfl, rfl⟩
theorem c_impl_text0 (h : List Cl) : Con PP 120 [.fz (h.map Cl.cs), .agg [.sc (.int .i64 0), .sc (.int .i64 0), .sc (.string ⟨#[]⟩)]] [] [] (fun r o => r = .sc (.string ⟨#[]⟩)) := by
  have u := value0 h
  simp only [telR, List.map_nil] at u
  refine Con.of tok (nt := 18) Go.Proofs.Tryz.func120 (by kernel_rfl) rfl rfl rfl (Nat.le_of_ble_eq_true rfl) fun G => ?_
  simp only [entSt, tmOf, List.append_nil, List.cons_append, List.nil_append]
  refine gox (L := _ ∧ True) (wa3 @bytesC.eq_1 @bytesC.eq_2 @bytesC.eq_3) wb0 (wb1 (fun _ => u)) wb0 (wb3 wb0 (nm 11 [1]) (nm 13 [5, 7, 1, 900001, 5, 1])) ⟨fun _ => ?_, wb0⟩
  all_goals rfl
theorem textO_con [F : Facts.Of] (h : List Cl) (v : V) (hh : heapOk h = true) (hs : ∀ c, c ∈ h → c.sm) (hv : vOk0 h v = true) : Con PP 120 [.fz (h.map Cl.cs), v.av] [] [] (fun r o => r = .sc (.string (textOr h v))) := by
  unfold textOr
  cases hvv : valueOk h v with
  | true => exact c_impl_text h v hh hs hvv
  | false =>
    have e : v = noV := by
      unfold vOk0 at hv
      rw [hvv, Bool.or_false, decide_eq_true_eq] at hv
      exact hv
    subst e
    exact c_impl_text0 h
def ansT (y : Sy) (m : Mc) : ByteArray :=
  if m.mode = 3 then (if m.fin = 0 then textOr y.heap m.val else if m.fin = 1 then (⟨#[117, 110, 98, 111, 117, 110, 100]⟩ : ByteArray) else if m.fin = 2 then (⟨#[116, 121, 112, 101]⟩ : ByteArray) else if m.fin = 3 then (⟨#[114, 97, 110, 103, 101]⟩ : ByteArray) else if m.fin = 4 then (⟨#[101, 114, 114, 111, 114, 32]⟩ : ByteArray) ++ textOr y.heap m.val
    else if m.fin = 5 then (⟨#[97, 114, 105, 116, 121]⟩ : ByteArray) else if m.fin = 6 then (⟨#[100, 101, 112, 116, 104]⟩ : ByteArray) else (⟨#[102, 117, 108, 108]⟩ : ByteArray)) else (⟨#[114, 117, 110, 110, 105, 110, 103]⟩ : ByteArray)
theorem vOk0_of {y : Sy} {m : Mc} (h : machOk y m = true) : heapOk y.heap = true ∧ (m.mode = 3 → vOk0 y.heap m.val = true) := by
  simp only [machOk, sysOk, mcOk, Bool.and_eq_true] at h
  refine ⟨h.1.2.2.2.1, fun e => ?_⟩
  have := h.2.2.2.2.2.2.2
  rw [if_neg (by omega), if_neg (by omega)] at this
  exact this
theorem c_impl_answer [F : Facts.Of] (y : Sy) (m : Mc) (hs : ∀ c, c ∈ y.heap → c.sm) (hok : machOk y m = true) : Con PP 63 [.fp y.cs, m.av] [] [] (fun r o => r = .sc (.string (ansT y m))) := by
  obtain ⟨hh, hv⟩ := vOk0_of hok
  unfold ansT
  by_cases hm : m.mode = 3
  · have u := textO_con y.heap m.val hh hs (hv hm)
    simp only [V.av] at u
    have hsz := textOr_size y.heap m.val
    have hsa : SAdd (⟨#[101, 114, 114, 111, 114, 32]⟩ : ByteArray) (textOr y.heap m.val) := by unfold SAdd; show 6 + _ ≤ _; omega
    generalize textOr y.heap m.val = T at u hsa ⊢
    refine Con.of tok (nt := 39) Go.Proofs.Tryz.func63 (by kernel_rfl) rfl rfl rfl (Nat.le_of_ble_eq_true rfl) fun G => ?_
    simp only [entSt, tmOf, List.append_nil, List.cons_append, List.nil_append, Mc.av, Sy.cs]
    refine go (L := _ ∧ _ ∧ _ ∧ _ ∧ _ ∧ _ ∧ _ ∧ _ ∧ True) (wa2 @hm @hsa) (wb1 (fun _ => u)) wb0 wb0 (wb3 wb0 (sch 5 [] [(0, []), (1, []), (2, []), (3, []), (4, []), (5, []), (6, []), (7, [])]) (sch 13 [] [(0, []), (1, []), (2, []), (3, []), (4, []), (5, []), (6, []), (7, []), (8, [])])) ⟨fun _ hq => ?_, fun _ hq hq => ?_, fun _ hq hq hq => ?_, fun _ hq hq hq hq => ?_, fun _ hq hq hq hq hq => ?_, fun _ hq hq hq hq hq hq => ?_, fun _ hq hq hq hq hq hq hq => ?_, fun _ hq hq hq hq hq hq hq => ?_, wb0⟩
    all_goals (simp_all)
  · refine Con.of tok (nt := 39) Go.Proofs.Tryz.func63 (by kernel_rfl) rfl rfl rfl (Nat.le_of_ble_eq_true rfl) fun G => ?_
    simp only [entSt, tmOf, List.append_nil, List.cons_append, List.nil_append, Mc.av, Sy.cs]
    refine go (L := _ ∧ True) (wa1 @hm) wb0 wb0 wb0 wb0 ⟨fun _ => ?_, wb0⟩
    all_goals (simp_all)
theorem c_spec_l10Answer (y : Sy) (m : Mc) (hs : ∀ c, c ∈ y.heap → c.sm) (hs2 : m.val.sm) (hok : machOk y m = true) : Con PP 62 [y.av, m.av] [] [] (fun r o => r = .sc (.string (ansT y m))) := by
  obtain ⟨hh, hv⟩ := vOk0_of hok
  unfold ansT
  have u := c_spec_Text y.heap m.val hh hs hs2
  simp only [V.av] at u
  have hsz := textOr_size y.heap m.val
  have hsa : SAdd (⟨#[101, 114, 114, 111, 114, 32]⟩ : ByteArray) (textOr y.heap m.val) := by unfold SAdd; show 6 + _ ≤ _; omega
  generalize textOr y.heap m.val = T at u hsa ⊢
  refine Con.of tok (nt := 35) Go.Proofs.Tryz.func62 (by kernel_rfl) rfl rfl rfl (Nat.le_of_ble_eq_true rfl) fun G => ?_
  simp only [entSt, tmOf, List.append_nil, List.cons_append, List.nil_append, Mc.av, Sy.av]
  by_cases hm : m.mode = 3
  · refine go (L := _ ∧ _ ∧ _ ∧ _ ∧ _ ∧ _ ∧ _ ∧ _ ∧ True) (wa2 @hm @hsa) (wb1 (fun _ => u)) wb0 wb0 wb0 ⟨fun _ hq => ?_, fun _ hq hq => ?_, fun _ hq hq hq => ?_, fun _ hq hq hq hq => ?_, fun _ hq hq hq hq hq => ?_, fun _ hq hq hq hq hq hq => ?_, fun _ hq hq hq hq hq hq hq => ?_, fun _ hq hq hq hq hq hq hq => ?_, wb0⟩
    all_goals (simp_all)
  · refine go (L := _ ∧ True) (wa1 @hm) wb0 wb0 wb0 wb0 ⟨fun _ => ?_, wb0⟩
    all_goals (simp_all)
end Go.Own
set_option maxRecDepth 1000000
set_option maxHeartbeats 8000000
namespace Go.Own
attribute [local irreducible] WPc WPL WPS WPS1 WPS2 HAny endP
variable [Laid]
open Go.Lib Go.RowKit
def ansM (y : Sy) (m : Mc) : ByteArray := if machOk y m = true then ansT y m else ⟨#[]⟩
theorem c_impl_Answer [F : Facts.Of] (y : Sy) (m : Mc) (hs : y.sm) (hr : y.rm) (hs2 : m.sm) : Con PP 18 [y.av, m.av] [] [] (fun r o => r = .sc (.string (ansM y m))) := by
  have u1 := c_impl_MachineOk y m hs hr hs2
  unfold ansM
  cases hok : machOk y m with
  | true =>
    have u2 := c_impl_answer y m hs.heap hok
    rw [hok] at u1
    simp only [Sy.av, Sy.cs, Mc.av] at u1 u2
    refine Con.of tok (nt := 11) Go.Proofs.Tryz.func18 (by kernel_rfl) rfl rfl rfl (Nat.le_of_ble_eq_true rfl) fun G => ?_
    simp only [entSt, tmOf, List.append_nil, List.cons_append, List.nil_append, Sy.av, Mc.av]
    refine go (L := _ ∧ True) wb0 (wb2 (fun _ => u1) (fun _ => u2)) wb0 wb0 wb0 ⟨fun _ => ?_, wb0⟩
    all_goals rfl
  | false =>
    rw [hok] at u1
    simp only [Sy.av, Mc.av] at u1
    refine Con.of tok (nt := 11) Go.Proofs.Tryz.func18 (by kernel_rfl) rfl rfl rfl (Nat.le_of_ble_eq_true rfl) fun G => ?_
    simp only [entSt, tmOf, List.append_nil, List.cons_append, List.nil_append, Sy.av, Mc.av]
    refine go (L := _ ∧ True) wb0 (wb1 (fun _ => u1)) wb0 wb0 wb0 ⟨fun _ => ?_, wb0⟩
    all_goals rfl
theorem c_spec_Answer (y : Sy) (m : Mc) (hs : y.sm) (hr : y.rm) (hs2 : m.sm) (hr2 : m.rm) : Con PP 17 [y.av, m.av] [] [] (fun r o => r = .sc (.string (ansM y m))) := by
  have u1 := c_spec_MachineOk y m hs hr hs2 hr2
  unfold ansM
  cases hok : machOk y m with
  | true =>
    have u2 := c_spec_l10Answer y m hs.heap hs2.val hok
    rw [hok] at u1
    simp only [Sy.av, Mc.av] at u1 u2
    refine Con.of tok (nt := 12) Go.Proofs.Tryz.func17 (by kernel_rfl) rfl rfl rfl (Nat.le_of_ble_eq_true rfl) fun G => ?_
    simp only [entSt, tmOf, List.append_nil, List.cons_append, List.nil_append, Sy.av, Mc.av]
    refine go (L := _ ∧ True) wb0 (wb2 (fun _ => u1) (fun _ => u2)) wb0 wb0 wb0 ⟨fun _ => ?_, wb0⟩
    all_goals rfl
  | false =>
    rw [hok] at u1
    simp only [Sy.av, Mc.av] at u1
    refine Con.of tok (nt := 12) Go.Proofs.Tryz.func17 (by kernel_rfl) rfl rfl rfl (Nat.le_of_ble_eq_true rfl) fun G => ?_
    simp only [entSt, tmOf, List.append_nil, List.cons_append, List.nil_append, Sy.av, Mc.av]
    refine go (L := _ ∧ True) wb0 (wb1 (fun _ => u1)) wb0 wb0 wb0 ⟨fun _ => ?_, wb0⟩
    all_goals rfl
theorem c_laws_FnExactAnswer [F : Facts.Of] (y : Sy) (m : Mc) (ty : y.tx) (tm : m.tx) : Con PP 4 [y.av, m.av] [] [] (fun r o => r = .sc (.bool true)) := by
  have u1 := c_laws_szSys y 1048576 (by omega) (by omega) ty
  by_cases g1 : (costSy y : Int) ≤ 1048576
  · have e1 : szR 1048576 (costSy y) = 1048576 - costSy y := szR_ok g1
    rw [e1] at u1
    have u2 := c_laws_szMachine m (1048576 - costSy y) (by omega) (by omega) tm
    by_cases g2 : (costMc m : Int) ≤ 1048576 - costSy y
    · have e2 := szR_ok g2
      rw [e2] at u2
      obtain ⟨s1, r1⟩ := smallSy (c := y) (by omega)
      obtain ⟨s2, r2⟩ := smallMc (c := m) (by omega)
      have u3 := c_laws_toSys y r1
      have u4 := c_laws_toMachine m r2
      have u5 := c_spec_Answer y m s1 r1 s2 r2
      have u6 := c_impl_Answer y m s1 r1 s2
      have u7 := c_laws_eqSys y
      have u8 := c_laws_eqMachine m
      simp only [Sy.av, Mc.av] at u1 u2 u3 u4 u5 u6 u7 u8
      generalize ansM y m = b at u5 u6
      clear ty tm s1 r1 s2 r2
      refine Con.of tok (nt := 45) Go.Proofs.Tryz.func4 (by kernel_rfl) rfl rfl rfl (Nat.le_of_ble_eq_true rfl) fun G => ?_
      simp only [entSt, tmOf, List.append_nil, List.cons_append, List.nil_append, Sy.av, Mc.av]
      repeat' (first
        | (refine WPL.detSt 26 26 900001 [] 0 0 ?_ ?_; (focus (simp; done)); refine fun K hK => ?_; simp -implicitDefEqProofs +contextual [-Int.not_le, -Int.not_lt, -Nat.not_le, -Nat.not_lt, -List.all_eq_true, -List.all_eq_false, -List.any_eq_true, -List.any_eq_false, Sy.ow, Mc.ow]; (repeat1' (first | apply hK | apply And.intro | intro _)) <;> clear hK K)
        | (refine WPL.rnToSt tok 26 _ (by simp [isFn]; rfl) fun K hK => ?_; simp -implicitDefEqProofs +contextual [-Int.not_le, -Int.not_lt, -Nat.not_le, -Nat.not_lt, -List.all_eq_true, -List.all_eq_false, -List.any_eq_true, -List.any_eq_false, Sy.ow, Mc.ow]; (repeat1' (first | apply hK | apply And.intro | intro _)) <;> clear hK K <;> (try dsimp only [List.drop]))
        | (refine WPL.detSt 26 26 900002 [] 0 1 ?_ ?_; (focus (simp; done)); refine fun K hK => ?_; simp -implicitDefEqProofs +contextual [-Int.not_le, -Int.not_lt, -Nat.not_le, -Nat.not_lt, -List.all_eq_true, -List.all_eq_false, -List.any_eq_true, -List.any_eq_false, Sy.ow, Mc.ow]; (repeat1' (first | apply hK | apply And.intro | intro _)) <;> clear hK K)
        | (refine WPL.detSt 26 26 900003 [] 0 2 ?_ ?_; (focus (simp; done)); refine fun K hK => ?_; simp -implicitDefEqProofs +contextual [-Int.not_le, -Int.not_lt, -Nat.not_le, -Nat.not_lt, -List.all_eq_true, -List.all_eq_false, -List.any_eq_true, -List.any_eq_false, Sy.ow, Mc.ow]; (repeat1' (first | apply hK | apply And.intro | intro _)) <;> clear hK K)
        | (refine WPL.detSt 26 26 900004 [] 0 3 ?_ ?_; (focus (simp; done)); refine fun K hK => ?_; simp -implicitDefEqProofs +contextual [-Int.not_le, -Int.not_lt, -Nat.not_le, -Nat.not_lt, -List.all_eq_true, -List.all_eq_false, -List.any_eq_true, -List.any_eq_false, Sy.ow, Mc.ow]; (repeat1' (first | apply hK | apply And.intro | intro _)) <;> clear hK K)
        | (refine WPL.detSt 28 28 900005 [] 0 3 ?_ ?_; (focus (simp; done)); refine fun K hK => ?_; simp -implicitDefEqProofs +contextual [-Int.not_le, -Int.not_lt, -Nat.not_le, -Nat.not_lt, -List.all_eq_true, -List.all_eq_false, -List.any_eq_true, -List.any_eq_false, Sy.ow, Mc.ow]; (repeat1' (first | apply hK | apply And.intro | intro _)) <;> clear hK K)
        | (refine WPL.rnToSt tok 28 _ (by simp [isFn]; rfl) fun K hK => ?_; simp -implicitDefEqProofs +contextual [-Int.not_le, -Int.not_lt, -Nat.not_le, -Nat.not_lt, -List.all_eq_true, -List.all_eq_false, -List.any_eq_true, -List.any_eq_false, Sy.ow, Mc.ow]; (repeat1' (first | apply hK | apply And.intro | intro _)) <;> clear hK K <;> (try dsimp only [List.drop]))
        | (refine WPL.detSt 28 28 900006 [] 0 7 ?_ ?_; (focus (simp; done)); refine fun K hK => ?_; simp -implicitDefEqProofs +contextual [-Int.not_le, -Int.not_lt, -Nat.not_le, -Nat.not_lt, -List.all_eq_true, -List.all_eq_false, -List.any_eq_true, -List.any_eq_false, Sy.ow, Mc.ow]; (repeat1' (first | apply hK | apply And.intro | intro _)) <;> clear hK K)
        | apply WPc.sq
        | (refine WPc.ret (endP.val (.inr rfl) rfl rfl (by simp; rfl) ?_))
        | apply WPc.skip
        | refine WPL.nil ?_
        | (apply WPL.cL u1; (case q => (repeat' (first | refine And.intro ?_ ?_ | intro _ | (with_reducible exact cleanOut_nil) | (refine Eqv.mk ?_; first | rfl | (simp -implicitDefEqProofs [Sy.ow, Mc.ow]; done)) | (simp -implicitDefEqProofs [Sy.ow, Mc.ow]; done) | (simp -implicitDefEqProofs [Sy.ow, Mc.ow]; rfl) | (simp; done) | (simp; rfl) | rfl))))
        | (apply WPL.cL u2; (case q => (repeat' (first | refine And.intro ?_ ?_ | intro _ | (with_reducible exact cleanOut_nil) | (refine Eqv.mk ?_; first | rfl | (simp -implicitDefEqProofs [Sy.ow, Mc.ow]; done)) | (simp -implicitDefEqProofs [Sy.ow, Mc.ow]; done) | (simp -implicitDefEqProofs [Sy.ow, Mc.ow]; rfl) | (simp; done) | (simp; rfl) | rfl))))
        | (apply WPL.cU u3; (case q => (repeat' (first | refine And.intro ?_ ?_ | intro _ | (with_reducible exact cleanOut_nil) | (refine Eqv.mk ?_; first | rfl | (simp -implicitDefEqProofs [Sy.ow, Mc.ow]; done)) | (simp -implicitDefEqProofs [Sy.ow, Mc.ow]; done) | (simp -implicitDefEqProofs [Sy.ow, Mc.ow]; rfl) | (simp; done) | (simp; rfl) | rfl))))
        | (apply WPL.cU u4; (case q => (repeat' (first | refine And.intro ?_ ?_ | intro _ | (with_reducible exact cleanOut_nil) | (refine Eqv.mk ?_; first | rfl | (simp -implicitDefEqProofs [Sy.ow, Mc.ow]; done)) | (simp -implicitDefEqProofs [Sy.ow, Mc.ow]; done) | (simp -implicitDefEqProofs [Sy.ow, Mc.ow]; rfl) | (simp; done) | (simp; rfl) | rfl))))
        | (apply WPL.cL u6; (case q => (repeat' (first | refine And.intro ?_ ?_ | intro _ | (with_reducible exact cleanOut_nil) | (refine Eqv.mk ?_; first | rfl | (simp -implicitDefEqProofs [Sy.ow, Mc.ow]; done)) | (simp -implicitDefEqProofs [Sy.ow, Mc.ow]; done) | (simp -implicitDefEqProofs [Sy.ow, Mc.ow]; rfl) | (simp; done) | (simp; rfl) | rfl))))
        | (apply WPS.cU (hc := u3); (case ho => exact rfl); (case q => (repeat' (first | refine And.intro ?_ ?_ | intro _ | (with_reducible exact cleanOut_nil) | (refine Eqv.mk ?_; first | rfl | (simp -implicitDefEqProofs [Sy.ow, Mc.ow]; done)) | (simp -implicitDefEqProofs [Sy.ow, Mc.ow]; done) | (simp -implicitDefEqProofs [Sy.ow, Mc.ow]; rfl) | (simp; done) | (simp; rfl) | rfl))))
        | (apply WPS.cU (hc := u4); (case ho => exact rfl); (case q => (repeat' (first | refine And.intro ?_ ?_ | intro _ | (with_reducible exact cleanOut_nil) | (refine Eqv.mk ?_; first | rfl | (simp -implicitDefEqProofs [Sy.ow, Mc.ow]; done)) | (simp -implicitDefEqProofs [Sy.ow, Mc.ow]; done) | (simp -implicitDefEqProofs [Sy.ow, Mc.ow]; rfl) | (simp; done) | (simp; rfl) | rfl))))
        | (apply WPS.cL (hc := u7); (case ho => exact rfl); (case q => (repeat' (first | refine And.intro ?_ ?_ | intro _ | (with_reducible exact cleanOut_nil) | (refine Eqv.mk ?_; first | rfl | (simp -implicitDefEqProofs [Sy.ow, Mc.ow]; done)) | (simp -implicitDefEqProofs [Sy.ow, Mc.ow]; done) | (simp -implicitDefEqProofs [Sy.ow, Mc.ow]; rfl) | (simp; done) | (simp; rfl) | rfl))))
        | (apply WPS.cL (hc := u8); (case ho => exact rfl); (case q => (repeat' (first | refine And.intro ?_ ?_ | intro _ | (with_reducible exact cleanOut_nil) | (refine Eqv.mk ?_; first | rfl | (simp -implicitDefEqProofs [Sy.ow, Mc.ow]; done)) | (simp -implicitDefEqProofs [Sy.ow, Mc.ow]; done) | (simp -implicitDefEqProofs [Sy.ow, Mc.ow]; rfl) | (simp; done) | (simp; rfl) | rfl))))
        | (apply WPS.cL (hc := u5); (case ho => exact rfl); (case q => (repeat' (first | refine And.intro ?_ ?_ | intro _ | (with_reducible exact cleanOut_nil) | (refine Eqv.mk ?_; first | rfl | (simp -implicitDefEqProofs [Sy.ow, Mc.ow]; done)) | (simp -implicitDefEqProofs [Sy.ow, Mc.ow]; done) | (simp -implicitDefEqProofs [Sy.ow, Mc.ow]; rfl) | (simp; done) | (simp; rfl) | rfl))))
        | ((first | refine WPc.rq tok rfl fun K hK => ?_ | refine WPL.rn tok _ (by simp [ahead, isFn]; rfl) fun K hK => ?_ | refine WPS.rn tok _ (by simp [aheadS]; rfl) fun K hK => ?_); simp -implicitDefEqProofs +contextual [-Int.not_le, -Int.not_lt, -Nat.not_le, -Nat.not_lt, -List.all_eq_true, -List.all_eq_false, -List.any_eq_true, -List.any_eq_false, Sy.ow, Mc.ow]; (repeat1' (first | apply hK | apply And.intro | intro _)) <;> clear hK K <;> (try dsimp only [List.drop]))
        | (refine WPc.sched (id := 8) tok [(1, [21, 1021, 2021]), (3, [23, 1023, 2023])] [(0, []), (2, [21, 1021, 2021]), (1, [21, 1021, 2021]), (3, [23, 1023, 2023]), (4, []), (5, [])] (by kernel_rfl) ?_)
        | (refine WPc.sched (id := 14) tok [(2, [37, 1037, 2037])] [(0, [37, 1037, 2037]), (1, []), (2, [37, 1037, 2037]), (3, []), (4, [])] (by kernel_rfl) ?_)
        | (refine WPc.sched (id := 16) tok [(2, [42, 1042, 2042])] [(0, [42, 1042, 2042]), (1, []), (2, [42, 1042, 2042]), (3, []), (4, [])] (by kernel_rfl) ?_)
        | (refine WPS.nil ?_)
        | (refine WPc.region ?_; simp only [List.toList_toArray])
        | (refine WPc.condF ?_ ?_; (focus (simp; done)))
        | (refine WPc.cond (by simp [-Bool.not_eq_eq_eq_not]; rfl) (fun hq => ?_) (fun hq => ?_) <;> simp only [hq] <;> (try (exfalso; (simp only [decide_eq_true_eq, decide_eq_false_iff_not] at hq); omega))))
      all_goals first | rfl | (exfalso; omega) | (simp_all; done)
    · have e2 : szR (1048576 - costSy y) (costMc m) = -1 := szR_no (by omega)
      rw [e2] at u2
      simp only [Sy.av, Mc.av] at u1 u2
      refine Con.of tok (nt := 45) Go.Proofs.Tryz.func4 (by kernel_rfl) rfl rfl rfl (Nat.le_of_ble_eq_true rfl) fun G => ?_
      simp only [entSt, tmOf, List.append_nil, List.cons_append, List.nil_append, Sy.av, Mc.av]
      refine go (L := _ ∧ True) wb0 (wb2 (fun _ => u1) (fun _ => u2)) wb0 wb0 wb0 ⟨fun _ hq => ?_, wb0⟩
      all_goals first | rfl | (exfalso; omega) | (simp_all; done) | (exfalso; simp_all; omega)
  · have e1 : szR 1048576 (costSy y) = -1 := szR_no (by omega)
    rw [e1] at u1
    simp only [Sy.av] at u1
    refine Con.of tok (nt := 45) Go.Proofs.Tryz.func4 (by kernel_rfl) rfl rfl rfl (Nat.le_of_ble_eq_true rfl) fun G => ?_
    simp only [entSt, tmOf, List.append_nil, List.cons_append, List.nil_append, Sy.av, Mc.av]
    refine go (L := _ ∧ True) wb0 (wb1 (fun _ => u1)) wb0 wb0 wb0 ⟨fun _ => ?_, wb0⟩
    all_goals rfl
end Go.Own
namespace Go.Own
open Go.ChangeShapes Go.WideShapes Go.Deep
variable {H : Type} {enc : TypeId × Value → H} {P : Program} {w : World} {base : Nat} {spare : Nat → Bool} {held : Bool} {av : Nat → Prop}
theorem add_zero_eq (a : Addr) : a.add 0 = a := by simp [Addr.add]
theorem fr_slice {α : Type} (g : α → List C) (good : α → Prop) {k : Nat} (hk : ∀ a, (g a).length = k) (h0 : 0 < k) (hav : ∀ b, av b) {t e fuel : Nat} {v : Value} {x : DataW H × List MemPlace}
    (ht : P.underlying t = some (.slice e)) (hc : P.cellsOf e = k)
    (hel : ∀ n cs D, cs.length = k → DataW.trod enc P w base spare held n e cs = some D → ∃ a : α, good a ∧ ∀ (j : Nat) (y : C), (g a)[j]? = some y → ∃ u, cs[j]? = some u ∧ FR av w y u)
    (h : DataW.trod enc P w base spare held fuel t [v] = some x) : ∃ l : List α, (∀ a, a ∈ l → good a) ∧ FR av w (.fz (l.map g)) v := by
  rcases open_slice ht h with ⟨h1, _⟩ | ⟨ad, len, cap, m, n, D, Pl, h1, hb, hl, hm, hmm, _, hx⟩
  · obtain rfl : v = .slice none 0 0 := by simpa using h1
    exact ⟨[], by simp, .fzE none 0⟩
  · obtain rfl : v = .slice (some ad) len cap := by simpa using h1
    have hlm : len ≤ m := by rw [hmm]; split <;> omega
    by_cases hz : len = 0
    · subst hz
      exact ⟨[], by simp, .fzE (some ad) cap⟩
    rw [hc] at hx
    have hel2 : ∀ i : Fin len, ∃ a : α, good a ∧ ∀ (j : Nat) (y : C), (g a)[j]? = some y → ∃ u, w.cell? ((ad.add (i * k)).add j) = some u ∧ FR av w y u := fun i => by
      obtain ⟨cs, g1, g2⟩ := hx i (by omega)
      obtain ⟨_, g3, g4⟩ := World.cells?_some g1
      obtain ⟨a, ha, hr⟩ := hel n cs _ g3 g2
      refine ⟨a, ha, fun j y hj => ?_⟩
      obtain ⟨u, hu, hf⟩ := hr j y hj
      have hjk : j < k := by rw [← hk a]; exact (List.getElem?_eq_some_iff.1 hj).1
      exact ⟨u, by rw [g4 j hjk, hu], hf⟩
    have hsp : ad.spot = none := by
      obtain ⟨cs, g1, g2⟩ := hx 0 (by omega)
      obtain ⟨_, g3, g4⟩ := World.cells?_some g1
      have := g4 0 h0
      rw [Nat.zero_mul, add_zero_eq, add_zero_eq, List.getElem?_eq_getElem (by omega)] at this
      unfold World.cell? at this
      split at this
      · split at this
        · simp at this
        · rename_i hs; simpa using hs
      · simp at this
    obtain ⟨b, o, sp⟩ := ad
    dsimp only at hsp
    subst hsp
    refine ⟨List.ofFn fun i => Classical.choose (hel2 i), fun a ha => ?_, ?_⟩
    · obtain ⟨i, rfl⟩ := List.mem_ofFn.1 ha
      exact (Classical.choose_spec (hel2 i)).1
    · have key : ∀ (i j : Nat) (r : List C) (y : C), ((List.ofFn fun i => Classical.choose (hel2 i)).map g)[i]? = some r → r[j]? = some y → ∃ u, w.cell? ⟨b, o + i * k + j, none⟩ = some u ∧ FR av w y u := fun i j r y hi hj => by
        rw [List.getElem?_map, Option.map_eq_some_iff] at hi
        obtain ⟨a, ha, rfl⟩ := hi
        obtain ⟨hlt, he⟩ := List.getElem?_eq_some_iff.1 ha
        rw [List.getElem_ofFn] at he
        have hi2 : i < len := by simpa using hlt
        obtain ⟨u, hu, hf⟩ := (Classical.choose_spec (hel2 ⟨i, hi2⟩)).2 j y (by rw [he]; exact hj)
        refine ⟨u, ?_, hf⟩
        rw [add_plain, add_plain] at hu
        exact hu
      have hlen : ((List.ofFn fun i => Classical.choose (hel2 i)).map g).length = len := by simp
      have := FR.fzN (av := av) (w := w) ((List.ofFn fun i => Classical.choose (hel2 i)).map g) b o k cap (fun i j => (w.cell? ⟨b, o + i * k + j, none⟩).getD undef) (fun h => by rw [h] at hlen; simp at hlen; omega) h0 (hav b)
        (fun r hr => by obtain ⟨a, _, rfl⟩ := List.mem_map.1 hr; exact hk a) ⟨by rw [hlen]; exact hl, hm⟩
        (fun i j r y hi hj => by obtain ⟨u, hu, _⟩ := key i j r y hi hj; rw [hu]; rfl)
        (fun i j r y hi hj => by obtain ⟨u, hu, hf⟩ := key i j r y hi hj; rw [hu]; exact hf)
      rw [hlen] at this
      exact this
end Go.Own
set_option maxRecDepth 1000000
namespace Go.Own
open Go.ChangeShapes Go.WideShapes Go.Deep Go.RowKit Go.ChangeAt
theorem undSS : PP.underlying 25 = some (.slice 9) := by kernel_rfl
theorem undS : PP.underlying 9 = some .string := by kernel_rfl
theorem undI : PP.underlying 3 = some (.int .i64) := by kernel_rfl
theorem clS : PP.cellsOf 9 = 1 := by kernel_rfl
theorem clI : PP.cellsOf 3 = 1 := by kernel_rfl
theorem clSS : PP.cellsOf 25 = 1 := by kernel_rfl
variable {H : Type} {enc : TypeId × Value → H} {w : World} {base : Nat} {spare : Nat → Bool} {held : Bool} {av : Nat → Prop} {n : Nat} {cs : List Value} {D : DataW H × List MemPlace}
theorem rd_str {v : Value} (h : DataW.trod enc PP w base spare held n 9 [v] = some D) : ∃ s, v = .string s ∧ s.size ≤ maxLen := by
  obtain ⟨s, h1, _, h2⟩ := DataW.trod_string undS h
  exact ⟨s, by simpa using h1, h2⟩
theorem rd_int {v : Value} (h : DataW.trod enc PP w base spare held n 3 [v] = some D) : ∃ k, v = .int .i64 k := by
  obtain ⟨k, h1, _⟩ := DataW.trod_int undI h
  exact ⟨k, by simpa using h1⟩
theorem rd_strs (hav : ∀ b, av b) {v : Value} (h : DataW.trod enc PP w base spare held n 25 [v] = some D) : ∃ l : List ByteArray, (∀ s, s ∈ l → s.size ≤ maxLen) ∧ FR av w (.fz (l.map sC)) v :=
  fr_slice sC (fun s => s.size ≤ maxLen) (fun _ => rfl) (by decide) hav undSS clS (fun n cs D hl h => by
    match cs, hl with
    | [a], _ =>
      obtain ⟨s, rfl, hs⟩ := rd_str h
      refine ⟨s, hs, fun j y hj => ?_⟩
      match j, hj with
      | 0, hj => simp [sC] at hj; subst hj; exact ⟨_, rfl, .sc _ rfl⟩
      | j + 1, hj => simp [sC] at hj) h
def Reads1 (w : World) (n : String) (d : DataW Unit) : Prop :=
  ∃ g t cs fuel p, PP.globalNamed n = some g ∧ (PP.globals[g]?).map (·.type) = some t ∧ w.var? PP n = some cs ∧ DataW.trod (fun _ => ()) PP w 0 (fun _ => true) false fuel t cs.toList = some (d, p)
theorem reads_laid {w : World} : ∀ {l : List (String × DataW Unit)} {ps : List MemPlace}, DataW.LaidVars PP w l ps → ∀ n d, (n, d) ∈ l → Reads1 w n d
  | [], _, _, _, _, hm => by cases hm
  | (n', d') :: r, ps, h, n, d, hm => by
    obtain ⟨g, t, cs, fuel, p, q, h1, h2, h3, h4, h5, _⟩ := h
    rcases List.mem_cons.1 hm with e | e
    · cases e; exact ⟨g, t, cs, fuel, p, h1, h2, h3, h4⟩
    · exact reads_laid h5 n d e
theorem gSyn : PP.globalNamed "strconv.ErrSyntax" = some 1 := by kernel_rfl
theorem gRng : PP.globalNamed "strconv.ErrRange" = some 2 := by kernel_rfl
theorem tSyn : (PP.globals[1]?).map (·.type) = some 314 := by kernel_rfl
theorem tRng : (PP.globals[2]?).map (·.type) = some 314 := by kernel_rfl
theorem undE : ∃ ms, PP.underlying 314 = some (.interface ms) := ⟨_, rfl⟩
theorem err_cell {w : World} {n : String} {g : Nat} {s : List UInt8} (hg : PP.globalNamed n = some g) (ht : (PP.globals[g]?).map (·.type) = some 314) (h : Reads1 w n (.iface "*errors.errorString" (.ptr (.agg [.lit (.string s)])))) :
    ∃ ev, w.cell? ⟨g, 0, none⟩ = some ev ∧ (ev = .nilIface ∨ ∃ te pe, ev = .iface te pe) := by
  obtain ⟨g', t, cs, fuel, p, h1, h2, h3, h4⟩ := h
  obtain rfl := Option.some.inj (hg.symm.trans h1)
  obtain rfl := Option.some.inj (ht.symm.trans h2)
  obtain ⟨ms, hu⟩ := undE
  have key : ∃ u v, cs.toList = [.iface u v] := by
    cases fuel with
    | zero => simp [DataW.trod] at h4
    | succ m =>
      unfold DataW.trod at h4
      rw [hu] at h4
      split at h4 <;> simp_all
  obtain ⟨u, v, hcs⟩ := key
  have := World.var?_cell hg h3 0
  refine ⟨.iface u v, ?_, .inr ⟨u, v, rfl⟩⟩
  rw [this]
  have : cs = #[.iface u v] := by apply Array.toList_inj.1; simpa using hcs
  rw [this]; rfl
theorem post_of_below {H : Type} {enc : TypeId × Value → H} {P : Program} {f : Func} {s : ChangeSpec} {apart fresh handsOn again : Bool} {W W' : World} {args : Array Value} {v : Value} {ds gs : List (DataW H)} {before pa pv : List MemPlace}
    (hW : DataW.Whole enc P f.params.toList s.vars apart W args.toList ds gs before)
    (hres : ∀ (b : Nat) (sp : Nat → Bool) (hd : Bool), DataW.TrodAll enc P W' b sp hd f.resultTypes.toList (v.resultList f.resultTypes.size) (s.fn H (ds ++ gs)).results [])
    (hargs : ∀ sp : Nat → Bool, (∀ p ∈ before, sp p.block = true) → DataW.TrodAll enc P W' 0 sp true f.params.toList args.toList (s.fn H (ds ++ gs)).args pa)
    (hvars : ∀ sp : Nat → Bool, (∀ p ∈ before, sp p.block = true) → DataW.TrodVars enc P W' sp s.vars (s.fn H (ds ++ gs)).vars pv)
    (hps : before = pa ++ pv) (hk : W.keptBut W' (· ∈ before)) (hfz : ∀ b off, b < W.heap.size → W'.frozen? ⟨b, off, none⟩ = W.frozen? ⟨b, off, none⟩)
    (hok : ∀ (j : Nat) (t : TypeId) (r : Value), f.resultTypes[j]? = some t → (v.resultList f.resultTypes.size)[j]? = some r → Value.okWide P W' .any 0 t r) :
    s.post enc P f apart fresh handsOn again W args v W' := by
  have hold : ∀ p ∈ before, (fun b => decide (b < W.heap.size)) p.block = true := fun p hp => by simpa using hW.lt p hp
  have hlt := hW.lt
  refine ⟨ds, gs, before, [], pa, pv, hW, hres _ _ _, hargs _ hold, hvars _ hold, World.keptBut_mono (fun p hp => ⟨hp, ?_⟩) hk, fun _ => ?_⟩
  · rw [hps, List.mem_append] at hp
    exact Or.inr hp
  · obtain ⟨_, _, _, _, _, hz, hn⟩ := hW
    refine ⟨hok, _, _, ([] ++ pa) ++ pv, ⟨[] ++ pa, pv, trodAll_append (hargs _ (fun _ _ => rfl)) (hres _ _ _), hvars _ (fun _ _ => rfl), rfl, ?_, ?_⟩, ?_⟩
    · intro b off hp
      have hp' : MemPlace.cell b off ∈ before := by rw [hps]; simpa using hp
      rw [hfz b off (hlt _ hp')]
      exact hz b off hp'
    · intro ha
      have := hn ha
      rw [hps] at this
      simpa using this
    · intro p hp _
      rw [hps]
      simpa using hp
@[reducible] def LI : Laid where
  n := 4
  ok := Facts
  mono := fun w w' h hf => by
    have hc : ∀ b, b < 4 → w'.cell? ⟨b, 0, none⟩ = w.cell? ⟨b, 0, none⟩ := fun b hb => World.cell?_of_block (w := w) (h b hb)
    refine ⟨by rw [hc 0 (by omega)]; exact hf.maxLen, by rw [hc 1 (by omega)]; exact hf.syn, by rw [hc 2 (by omega)]; exact hf.rng, ?_⟩
    have hp := hf.pow
    unfold Lib.TabIs World.var? at hp ⊢
    have hg : PP.globalNamed "internal/strconv.uint64pow10" = some 3 := by kernel_rfl
    rw [hg] at hp ⊢
    simp only [Option.bind_some] at hp ⊢
    rw [h 3 (by omega)]
    exact hp
theorem undB : PP.underlying 4 = some .bool := by kernel_rfl
theorem laidOut : laidOutB PP = true := by kernel_rfl
def avC : C → AV
  | .sc v => .sc v
  | .fz xs => .fz xs
  | _ => .un
theorem VR.ofFR {β : Blk} {w : World} {cs : List C} {us : Array Value} (hl : cs.length = us.size) (h : ∀ (j : Nat) (y : C), cs[j]? = some y → ∃ u, us.toList[j]? = some u ∧ FR (fun b => β b = none) w y u) : VR β w (.agg (cs.map avC)) (.agg us) := by
  have hf : ∃ f : Nat → Value, ∀ (j : Nat) (y : C), cs[j]? = some y → us.toList[j]? = some (f j) ∧ FR (fun b => β b = none) w y (f j) := by
    refine ⟨fun j => if hj : j < us.size then us[j] else .bool true, fun j y hj => ?_⟩
    obtain ⟨u, h1, h2⟩ := h j y hj
    have hlt : j < us.size := by rw [← hl]; exact (List.getElem?_eq_some_iff.1 hj).1
    have : us[j] = u := by simpa [hlt] using h1
    simp only [dif_pos hlt, this]
    exact ⟨h1, h2⟩
  obtain ⟨f, hf⟩ := hf
  have key : ∀ (i : Nat) (x : AV), (cs.map avC)[i]? = some x → ∃ y, cs[i]? = some y ∧ x = avC y := fun i x hx => by
    rw [List.getElem?_map, Option.map_eq_some_iff] at hx
    obtain ⟨y, h1, h2⟩ := hx
    exact ⟨y, h1, h2.symm⟩
  refine .agg _ _ f (by simpa using hl) (fun i x hx => ?_) (fun i x hx => ?_) fun i x hx => ?_
  · obtain ⟨y, h1, _⟩ := key i x hx
    simpa using (hf i y h1).1
  · obtain ⟨y, h1, _⟩ := key i x hx
    exact (hf i y h1).2.one
  · obtain ⟨y, h1, rfl⟩ := key i x hx
    have h2 := (hf i y h1).2
    cases y with
    | sc v => cases h2 with | sc _ _ => exact .sc _
    | fz xs => exact .fz _ _ h2
    | sl e k xs => exact .un _
    | no => exact .un _
theorem struct_cells {W : World} {base : Nat} {t : TypeId} {v : Value} {fs : Array Field} (ht : PP.underlying t = some (.struct fs)) (h : Value.okWide PP W .any base t v) : ∃ us, v = .agg us ∧ us.size = PP.cellsOf t ∧ v.cells.toList = us.toList := by
  simp only [Value.okWide, ht] at h
  obtain ⟨us, rfl, h1, _⟩ := h
  exact ⟨us, rfl, h1, rfl⟩
end Go.Own
set_option maxRecDepth 1000000
namespace Go.Own
open Go.ChangeShapes Go.WideShapes Go.Deep
def Pg.cs (p : Pg) : List C := [.fz (p.nodes.map Nd.cs), .sc (.int .i64 p.root)]
variable {H : Type} {enc : TypeId × Value → H} {w : World} {base : Nat} {spare : Nat → Bool} {held : Bool} {av : Nat → Prop} {n : Nat} {cs : List Value} {D : DataW H × List MemPlace}
theorem und_Value : ∃ f0 f1 f2, PP.underlying 30 = some (.struct #[f0, f1, f2]) ∧ (f0.type = 3 ∧ f0.offset = 0) ∧ (f1.type = 3 ∧ f1.offset = 1) ∧ (f2.type = 9 ∧ f2.offset = 2) := ⟨_, _, _, rfl, ⟨rfl, rfl⟩, ⟨rfl, rfl⟩, ⟨rfl, rfl⟩⟩
theorem cl_Value : PP.cellsOf 30 = 3 := by kernel_rfl
theorem rd_Value (hav : ∀ b, av b) (hl : cs.length = 3) (h : DataW.trod enc PP w base spare held n 30 cs = some D) :
    ∃ c : V, c.tx ∧ ∀ (j : Nat) (y : C), (V.cs c)[j]? = some y → ∃ u, cs[j]? = some u ∧ FR av w y u := by
  obtain ⟨f0, f1, f2, hu, ⟨t0, o0⟩, ⟨t1, o1⟩, ⟨t2, o2⟩⟩ := und_Value
  obtain ⟨xs, m, _, _, _, hx, hf⟩ := DataW.trod_struct hu h
  have hxl : xs.length = 3 := hx
  match cs, hl with
  | [a0, a1, a2], _ =>
    have g0 := hf 0 f0 rfl
    rw [t0, o0, clI, List.getElem?_eq_getElem (by omega)] at g0
    have g1 := hf 1 f1 rfl
    rw [t1, o1, clI, List.getElem?_eq_getElem (by omega)] at g1
    have g2 := hf 2 f2 rfl
    rw [t2, o2, clS, List.getElem?_eq_getElem (by omega)] at g2
    simp only [List.drop_zero, List.take_succ_cons, List.take_zero, List.drop_succ_cons] at g0 g1 g2
    obtain ⟨x0, rfl⟩ := rd_int g0
    obtain ⟨x1, rfl⟩ := rd_int g1
    obtain ⟨x2, rfl, p2⟩ := rd_str g2
    refine ⟨⟨x0, x1, x2⟩, p2, fun j y hj => ?_⟩
    match j, hj with
    | 0, hj => obtain rfl := Option.some.inj hj; exact ⟨_, rfl, .sc _ rfl⟩
    | 1, hj => obtain rfl := Option.some.inj hj; exact ⟨_, rfl, .sc _ rfl⟩
    | 2, hj => obtain rfl := Option.some.inj hj; exact ⟨_, rfl, .sc _ rfl⟩
    | j + 3, hj => cases hj
theorem und_ValueS : PP.underlying 142 = some (.slice 30) := by kernel_rfl
theorem cl_ValueS : PP.cellsOf 142 = 1 := by kernel_rfl
theorem rd_ValueS (hav : ∀ b, av b) {v : Value} (h : DataW.trod enc PP w base spare held n 142 [v] = some D) : ∃ l : List V, (∀ x, x ∈ l → x.tx) ∧ FR av w (.fz (l.map V.cs)) v :=
  fr_slice V.cs V.tx (fun _ => rfl) (by decide) hav und_ValueS cl_Value (fun n cs D hl h => rd_Value hav hl h) h
theorem und_Cell : ∃ f0 f1 f2 f3 f4 f5, PP.underlying 144 = some (.struct #[f0, f1, f2, f3, f4, f5]) ∧ (f0.type = 3 ∧ f0.offset = 0) ∧ (f1.type = 9 ∧ f1.offset = 1) ∧ (f2.type = 3 ∧ f2.offset = 2) ∧ (f3.type = 3 ∧ f3.offset = 3) ∧ (f4.type = 25 ∧ f4.offset = 4) ∧ (f5.type = 142 ∧ f5.offset = 5) := ⟨_, _, _, _, _, _, rfl, ⟨rfl, rfl⟩, ⟨rfl, rfl⟩, ⟨rfl, rfl⟩, ⟨rfl, rfl⟩, ⟨rfl, rfl⟩, ⟨rfl, rfl⟩⟩
theorem cl_Cell : PP.cellsOf 144 = 6 := by kernel_rfl
theorem rd_Cell (hav : ∀ b, av b) (hl : cs.length = 6) (h : DataW.trod enc PP w base spare held n 144 cs = some D) :
    ∃ c : Cl, c.tx ∧ ∀ (j : Nat) (y : C), (Cl.cs c)[j]? = some y → ∃ u, cs[j]? = some u ∧ FR av w y u := by
  obtain ⟨f0, f1, f2, f3, f4, f5, hu, ⟨t0, o0⟩, ⟨t1, o1⟩, ⟨t2, o2⟩, ⟨t3, o3⟩, ⟨t4, o4⟩, ⟨t5, o5⟩⟩ := und_Cell
  obtain ⟨xs, m, _, _, _, hx, hf⟩ := DataW.trod_struct hu h
  have hxl : xs.length = 6 := hx
  match cs, hl with
  | [a0, a1, a2, a3, a4, a5], _ =>
    have g0 := hf 0 f0 rfl
    rw [t0, o0, clI, List.getElem?_eq_getElem (by omega)] at g0
    have g1 := hf 1 f1 rfl
    rw [t1, o1, clS, List.getElem?_eq_getElem (by omega)] at g1
    have g2 := hf 2 f2 rfl
    rw [t2, o2, clI, List.getElem?_eq_getElem (by omega)] at g2
    have g3 := hf 3 f3 rfl
    rw [t3, o3, clI, List.getElem?_eq_getElem (by omega)] at g3
    have g4 := hf 4 f4 rfl
    rw [t4, o4, clSS, List.getElem?_eq_getElem (by omega)] at g4
    have g5 := hf 5 f5 rfl
    rw [t5, o5, cl_ValueS, List.getElem?_eq_getElem (by omega)] at g5
    simp only [List.drop_zero, List.take_succ_cons, List.take_zero, List.drop_succ_cons] at g0 g1 g2 g3 g4 g5
    obtain ⟨x0, rfl⟩ := rd_int g0
    obtain ⟨x1, rfl, p1⟩ := rd_str g1
    obtain ⟨x2, rfl⟩ := rd_int g2
    obtain ⟨x3, rfl⟩ := rd_int g3
    obtain ⟨x4, p4, q4⟩ := rd_strs (av := av) hav g4
    obtain ⟨x5, p5, q5⟩ := rd_ValueS (av := av) hav g5
    refine ⟨⟨x0, x1, x2, x3, x4, x5⟩, ⟨p1, p4, p5⟩, fun j y hj => ?_⟩
    match j, hj with
    | 0, hj => obtain rfl := Option.some.inj hj; exact ⟨_, rfl, .sc _ rfl⟩
    | 1, hj => obtain rfl := Option.some.inj hj; exact ⟨_, rfl, .sc _ rfl⟩
    | 2, hj => obtain rfl := Option.some.inj hj; exact ⟨_, rfl, .sc _ rfl⟩
    | 3, hj => obtain rfl := Option.some.inj hj; exact ⟨_, rfl, .sc _ rfl⟩
    | 4, hj => obtain rfl := Option.some.inj hj; exact ⟨_, rfl, q4⟩
    | 5, hj => obtain rfl := Option.some.inj hj; exact ⟨_, rfl, q5⟩
    | j + 6, hj => cases hj
theorem und_CellS : PP.underlying 22 = some (.slice 144) := by kernel_rfl
theorem cl_CellS : PP.cellsOf 22 = 1 := by kernel_rfl
theorem rd_CellS (hav : ∀ b, av b) {v : Value} (h : DataW.trod enc PP w base spare held n 22 [v] = some D) : ∃ l : List Cl, (∀ x, x ∈ l → x.tx) ∧ FR av w (.fz (l.map Cl.cs)) v :=
  fr_slice Cl.cs Cl.tx (fun _ => rfl) (by decide) hav und_CellS cl_Cell (fun n cs D hl h => rd_Cell hav hl h) h
theorem und_Link : ∃ f0 f1 f2, PP.underlying 286 = some (.struct #[f0, f1, f2]) ∧ (f0.type = 9 ∧ f0.offset = 0) ∧ (f1.type = 3 ∧ f1.offset = 1) ∧ (f2.type = 9 ∧ f2.offset = 2) := ⟨_, _, _, rfl, ⟨rfl, rfl⟩, ⟨rfl, rfl⟩, ⟨rfl, rfl⟩⟩
theorem cl_Link : PP.cellsOf 286 = 3 := by kernel_rfl
theorem rd_Link (hav : ∀ b, av b) (hl : cs.length = 3) (h : DataW.trod enc PP w base spare held n 286 cs = some D) :
    ∃ c : Lk, c.tx ∧ ∀ (j : Nat) (y : C), (Lk.cs c)[j]? = some y → ∃ u, cs[j]? = some u ∧ FR av w y u := by
  obtain ⟨f0, f1, f2, hu, ⟨t0, o0⟩, ⟨t1, o1⟩, ⟨t2, o2⟩⟩ := und_Link
  obtain ⟨xs, m, _, _, _, hx, hf⟩ := DataW.trod_struct hu h
  have hxl : xs.length = 3 := hx
  match cs, hl with
  | [a0, a1, a2], _ =>
    have g0 := hf 0 f0 rfl
    rw [t0, o0, clS, List.getElem?_eq_getElem (by omega)] at g0
    have g1 := hf 1 f1 rfl
    rw [t1, o1, clI, List.getElem?_eq_getElem (by omega)] at g1
    have g2 := hf 2 f2 rfl
    rw [t2, o2, clS, List.getElem?_eq_getElem (by omega)] at g2
    simp only [List.drop_zero, List.take_succ_cons, List.take_zero, List.drop_succ_cons] at g0 g1 g2
    obtain ⟨x0, rfl, p0⟩ := rd_str g0
    obtain ⟨x1, rfl⟩ := rd_int g1
    obtain ⟨x2, rfl, p2⟩ := rd_str g2
    refine ⟨⟨x0, x1, x2⟩, ⟨p0, p2⟩, fun j y hj => ?_⟩
    match j, hj with
    | 0, hj => obtain rfl := Option.some.inj hj; exact ⟨_, rfl, .sc _ rfl⟩
    | 1, hj => obtain rfl := Option.some.inj hj; exact ⟨_, rfl, .sc _ rfl⟩
    | 2, hj => obtain rfl := Option.some.inj hj; exact ⟨_, rfl, .sc _ rfl⟩
    | j + 3, hj => cases hj
theorem und_LinkS : PP.underlying 146 = some (.slice 286) := by kernel_rfl
theorem cl_LinkS : PP.cellsOf 146 = 1 := by kernel_rfl
theorem rd_LinkS (hav : ∀ b, av b) {v : Value} (h : DataW.trod enc PP w base spare held n 146 [v] = some D) : ∃ l : List Lk, (∀ x, x ∈ l → x.tx) ∧ FR av w (.fz (l.map Lk.cs)) v :=
  fr_slice Lk.cs Lk.tx (fun _ => rfl) (by decide) hav und_LinkS cl_Link (fun n cs D hl h => rd_Link hav hl h) h
theorem und_Type : ∃ f0 f1, PP.underlying 288 = some (.struct #[f0, f1]) ∧ (f0.type = 9 ∧ f0.offset = 0) ∧ (f1.type = 3 ∧ f1.offset = 1) := ⟨_, _, rfl, ⟨rfl, rfl⟩, ⟨rfl, rfl⟩⟩
theorem cl_Type : PP.cellsOf 288 = 2 := by kernel_rfl
theorem rd_Type (hav : ∀ b, av b) (hl : cs.length = 2) (h : DataW.trod enc PP w base spare held n 288 cs = some D) :
    ∃ c : Ty, c.tx ∧ ∀ (j : Nat) (y : C), (Ty.cs c)[j]? = some y → ∃ u, cs[j]? = some u ∧ FR av w y u := by
  obtain ⟨f0, f1, hu, ⟨t0, o0⟩, ⟨t1, o1⟩⟩ := und_Type
  obtain ⟨xs, m, _, _, _, hx, hf⟩ := DataW.trod_struct hu h
  have hxl : xs.length = 2 := hx
  match cs, hl with
  | [a0, a1], _ =>
    have g0 := hf 0 f0 rfl
    rw [t0, o0, clS, List.getElem?_eq_getElem (by omega)] at g0
    have g1 := hf 1 f1 rfl
    rw [t1, o1, clI, List.getElem?_eq_getElem (by omega)] at g1
    simp only [List.drop_zero, List.take_succ_cons, List.take_zero, List.drop_succ_cons] at g0 g1
    obtain ⟨x0, rfl, p0⟩ := rd_str g0
    obtain ⟨x1, rfl⟩ := rd_int g1
    refine ⟨⟨x0, x1⟩, ⟨p0⟩, fun j y hj => ?_⟩
    match j, hj with
    | 0, hj => obtain rfl := Option.some.inj hj; exact ⟨_, rfl, .sc _ rfl⟩
    | 1, hj => obtain rfl := Option.some.inj hj; exact ⟨_, rfl, .sc _ rfl⟩
    | j + 2, hj => cases hj
theorem und_TypeS : PP.underlying 147 = some (.slice 288) := by kernel_rfl
theorem cl_TypeS : PP.cellsOf 147 = 1 := by kernel_rfl
theorem rd_TypeS (hav : ∀ b, av b) {v : Value} (h : DataW.trod enc PP w base spare held n 147 [v] = some D) : ∃ l : List Ty, (∀ x, x ∈ l → x.tx) ∧ FR av w (.fz (l.map Ty.cs)) v :=
  fr_slice Ty.cs Ty.tx (fun _ => rfl) (by decide) hav und_TypeS cl_Type (fun n cs D hl h => rd_Type hav hl h) h
theorem und_Inst : ∃ f0 f1 f2 f3 f4 f5, PP.underlying 149 = some (.struct #[f0, f1, f2, f3, f4, f5]) ∧ (f0.type = 9 ∧ f0.offset = 0) ∧ (f1.type = 3 ∧ f1.offset = 1) ∧ (f2.type = 25 ∧ f2.offset = 2) ∧ (f3.type = 142 ∧ f3.offset = 3) ∧ (f4.type = 146 ∧ f4.offset = 4) ∧ (f5.type = 147 ∧ f5.offset = 5) := ⟨_, _, _, _, _, _, rfl, ⟨rfl, rfl⟩, ⟨rfl, rfl⟩, ⟨rfl, rfl⟩, ⟨rfl, rfl⟩, ⟨rfl, rfl⟩, ⟨rfl, rfl⟩⟩
theorem cl_Inst : PP.cellsOf 149 = 6 := by kernel_rfl
theorem rd_Inst (hav : ∀ b, av b) (hl : cs.length = 6) (h : DataW.trod enc PP w base spare held n 149 cs = some D) :
    ∃ c : In, c.tx ∧ ∀ (j : Nat) (y : C), (In.cs c)[j]? = some y → ∃ u, cs[j]? = some u ∧ FR av w y u := by
  obtain ⟨f0, f1, f2, f3, f4, f5, hu, ⟨t0, o0⟩, ⟨t1, o1⟩, ⟨t2, o2⟩, ⟨t3, o3⟩, ⟨t4, o4⟩, ⟨t5, o5⟩⟩ := und_Inst
  obtain ⟨xs, m, _, _, _, hx, hf⟩ := DataW.trod_struct hu h
  have hxl : xs.length = 6 := hx
  match cs, hl with
  | [a0, a1, a2, a3, a4, a5], _ =>
    have g0 := hf 0 f0 rfl
    rw [t0, o0, clS, List.getElem?_eq_getElem (by omega)] at g0
    have g1 := hf 1 f1 rfl
    rw [t1, o1, clI, List.getElem?_eq_getElem (by omega)] at g1
    have g2 := hf 2 f2 rfl
    rw [t2, o2, clSS, List.getElem?_eq_getElem (by omega)] at g2
    have g3 := hf 3 f3 rfl
    rw [t3, o3, cl_ValueS, List.getElem?_eq_getElem (by omega)] at g3
    have g4 := hf 4 f4 rfl
    rw [t4, o4, cl_LinkS, List.getElem?_eq_getElem (by omega)] at g4
    have g5 := hf 5 f5 rfl
    rw [t5, o5, cl_TypeS, List.getElem?_eq_getElem (by omega)] at g5
    simp only [List.drop_zero, List.take_succ_cons, List.take_zero, List.drop_succ_cons] at g0 g1 g2 g3 g4 g5
    obtain ⟨x0, rfl, p0⟩ := rd_str g0
    obtain ⟨x1, rfl⟩ := rd_int g1
    obtain ⟨x2, p2, q2⟩ := rd_strs (av := av) hav g2
    obtain ⟨x3, p3, q3⟩ := rd_ValueS (av := av) hav g3
    obtain ⟨x4, p4, q4⟩ := rd_LinkS (av := av) hav g4
    obtain ⟨x5, p5, q5⟩ := rd_TypeS (av := av) hav g5
    refine ⟨⟨x0, x1, x2, x3, x4, x5⟩, ⟨p0, p2, p3, p4, p5⟩, fun j y hj => ?_⟩
    match j, hj with
    | 0, hj => obtain rfl := Option.some.inj hj; exact ⟨_, rfl, .sc _ rfl⟩
    | 1, hj => obtain rfl := Option.some.inj hj; exact ⟨_, rfl, .sc _ rfl⟩
    | 2, hj => obtain rfl := Option.some.inj hj; exact ⟨_, rfl, q2⟩
    | 3, hj => obtain rfl := Option.some.inj hj; exact ⟨_, rfl, q3⟩
    | 4, hj => obtain rfl := Option.some.inj hj; exact ⟨_, rfl, q4⟩
    | 5, hj => obtain rfl := Option.some.inj hj; exact ⟨_, rfl, q5⟩
    | j + 6, hj => cases hj
theorem und_InstS : PP.underlying 23 = some (.slice 149) := by kernel_rfl
theorem cl_InstS : PP.cellsOf 23 = 1 := by kernel_rfl
theorem rd_InstS (hav : ∀ b, av b) {v : Value} (h : DataW.trod enc PP w base spare held n 23 [v] = some D) : ∃ l : List In, (∀ x, x ∈ l → x.tx) ∧ FR av w (.fz (l.map In.cs)) v :=
  fr_slice In.cs In.tx (fun _ => rfl) (by decide) hav und_InstS cl_Inst (fun n cs D hl h => rd_Inst hav hl h) h
theorem und_ints : PP.underlying 172 = some (.slice 3) := by kernel_rfl
theorem cl_ints : PP.cellsOf 172 = 1 := by kernel_rfl
theorem rd_ints (hav : ∀ b, av b) {v : Value} (h : DataW.trod enc PP w base spare held n 172 [v] = some D) : ∃ l : List Int, (∀ x, x ∈ l → True) ∧ FR av w (.fz (l.map nC)) v :=
  fr_slice nC (fun _ => True) (fun _ => rfl) (by decide) hav und_ints clI (fun n cs D hl h => by
    match cs, hl with
    | [a], _ =>
      obtain ⟨s, rfl⟩ := rd_int h
      refine ⟨s, trivial, fun j y hj => ?_⟩
      match j, hj with
      | 0, hj => simp [nC] at hj; subst hj; exact ⟨_, rfl, .sc _ rfl⟩
      | j + 1, hj => simp [nC] at hj) h
theorem und_Node : ∃ f0 f1 f2 f3 f4, PP.underlying 309 = some (.struct #[f0, f1, f2, f3, f4]) ∧ (f0.type = 3 ∧ f0.offset = 0) ∧ (f1.type = 3 ∧ f1.offset = 1) ∧ (f2.type = 9 ∧ f2.offset = 2) ∧ (f3.type = 25 ∧ f3.offset = 3) ∧ (f4.type = 172 ∧ f4.offset = 4) := ⟨_, _, _, _, _, rfl, ⟨rfl, rfl⟩, ⟨rfl, rfl⟩, ⟨rfl, rfl⟩, ⟨rfl, rfl⟩, ⟨rfl, rfl⟩⟩
theorem cl_Node : PP.cellsOf 309 = 5 := by kernel_rfl
theorem rd_Node (hav : ∀ b, av b) (hl : cs.length = 5) (h : DataW.trod enc PP w base spare held n 309 cs = some D) :
    ∃ c : Nd, c.tx ∧ ∀ (j : Nat) (y : C), (Nd.cs c)[j]? = some y → ∃ u, cs[j]? = some u ∧ FR av w y u := by
  obtain ⟨f0, f1, f2, f3, f4, hu, ⟨t0, o0⟩, ⟨t1, o1⟩, ⟨t2, o2⟩, ⟨t3, o3⟩, ⟨t4, o4⟩⟩ := und_Node
  obtain ⟨xs, m, _, _, _, hx, hf⟩ := DataW.trod_struct hu h
  have hxl : xs.length = 5 := hx
  match cs, hl with
  | [a0, a1, a2, a3, a4], _ =>
    have g0 := hf 0 f0 rfl
    rw [t0, o0, clI, List.getElem?_eq_getElem (by omega)] at g0
    have g1 := hf 1 f1 rfl
    rw [t1, o1, clI, List.getElem?_eq_getElem (by omega)] at g1
    have g2 := hf 2 f2 rfl
    rw [t2, o2, clS, List.getElem?_eq_getElem (by omega)] at g2
    have g3 := hf 3 f3 rfl
    rw [t3, o3, clSS, List.getElem?_eq_getElem (by omega)] at g3
    have g4 := hf 4 f4 rfl
    rw [t4, o4, cl_ints, List.getElem?_eq_getElem (by omega)] at g4
    simp only [List.drop_zero, List.take_succ_cons, List.take_zero, List.drop_succ_cons] at g0 g1 g2 g3 g4
    obtain ⟨x0, rfl⟩ := rd_int g0
    obtain ⟨x1, rfl⟩ := rd_int g1
    obtain ⟨x2, rfl, p2⟩ := rd_str g2
    obtain ⟨x3, p3, q3⟩ := rd_strs (av := av) hav g3
    obtain ⟨x4, p4, q4⟩ := rd_ints (av := av) hav g4
    refine ⟨⟨x0, x1, x2, x3, x4⟩, ⟨p2, p3⟩, fun j y hj => ?_⟩
    match j, hj with
    | 0, hj => obtain rfl := Option.some.inj hj; exact ⟨_, rfl, .sc _ rfl⟩
    | 1, hj => obtain rfl := Option.some.inj hj; exact ⟨_, rfl, .sc _ rfl⟩
    | 2, hj => obtain rfl := Option.some.inj hj; exact ⟨_, rfl, .sc _ rfl⟩
    | 3, hj => obtain rfl := Option.some.inj hj; exact ⟨_, rfl, q3⟩
    | 4, hj => obtain rfl := Option.some.inj hj; exact ⟨_, rfl, q4⟩
    | j + 5, hj => cases hj
theorem und_NodeS : PP.underlying 151 = some (.slice 309) := by kernel_rfl
theorem cl_NodeS : PP.cellsOf 151 = 1 := by kernel_rfl
theorem rd_NodeS (hav : ∀ b, av b) {v : Value} (h : DataW.trod enc PP w base spare held n 151 [v] = some D) : ∃ l : List Nd, (∀ x, x ∈ l → x.tx) ∧ FR av w (.fz (l.map Nd.cs)) v :=
  fr_slice Nd.cs Nd.tx (fun _ => rfl) (by decide) hav und_NodeS cl_Node (fun n cs D hl h => rd_Node hav hl h) h
theorem und_Prog : ∃ f0 f1, PP.underlying 153 = some (.struct #[f0, f1]) ∧ (f0.type = 151 ∧ f0.offset = 0) ∧ (f1.type = 3 ∧ f1.offset = 1) := ⟨_, _, rfl, ⟨rfl, rfl⟩, ⟨rfl, rfl⟩⟩
theorem cl_Prog : PP.cellsOf 153 = 2 := by kernel_rfl
theorem rd_Prog (hav : ∀ b, av b) (hl : cs.length = 2) (h : DataW.trod enc PP w base spare held n 153 cs = some D) :
    ∃ c : Pg, c.tx ∧ ∀ (j : Nat) (y : C), (Pg.cs c)[j]? = some y → ∃ u, cs[j]? = some u ∧ FR av w y u := by
  obtain ⟨f0, f1, hu, ⟨t0, o0⟩, ⟨t1, o1⟩⟩ := und_Prog
  obtain ⟨xs, m, _, _, _, hx, hf⟩ := DataW.trod_struct hu h
  have hxl : xs.length = 2 := hx
  match cs, hl with
  | [a0, a1], _ =>
    have g0 := hf 0 f0 rfl
    rw [t0, o0, cl_NodeS, List.getElem?_eq_getElem (by omega)] at g0
    have g1 := hf 1 f1 rfl
    rw [t1, o1, clI, List.getElem?_eq_getElem (by omega)] at g1
    simp only [List.drop_zero, List.take_succ_cons, List.take_zero, List.drop_succ_cons] at g0 g1
    obtain ⟨x0, p0, q0⟩ := rd_NodeS (av := av) hav g0
    obtain ⟨x1, rfl⟩ := rd_int g1
    refine ⟨⟨x0, x1⟩, p0, fun j y hj => ?_⟩
    match j, hj with
    | 0, hj => obtain rfl := Option.some.inj hj; exact ⟨_, rfl, q0⟩
    | 1, hj => obtain rfl := Option.some.inj hj; exact ⟨_, rfl, .sc _ rfl⟩
    | j + 2, hj => cases hj
theorem und_Unit : ∃ f0 f1, PP.underlying 155 = some (.struct #[f0, f1]) ∧ (f0.type = 3 ∧ f0.offset = 0) ∧ (f1.type = 153 ∧ f1.offset = 1) := ⟨_, _, rfl, ⟨rfl, rfl⟩, ⟨rfl, rfl⟩⟩
theorem cl_Unit : PP.cellsOf 155 = 3 := by kernel_rfl
theorem rd_Unit (hav : ∀ b, av b) (hl : cs.length = 3) (h : DataW.trod enc PP w base spare held n 155 cs = some D) :
    ∃ c : Un, c.tx ∧ ∀ (j : Nat) (y : C), (Un.cs c)[j]? = some y → ∃ u, cs[j]? = some u ∧ FR av w y u := by
  obtain ⟨f0, f1, hu, ⟨t0, o0⟩, ⟨t1, o1⟩⟩ := und_Unit
  obtain ⟨xs, m, _, _, _, hx, hf⟩ := DataW.trod_struct hu h
  have hxl : xs.length = 2 := hx
  match cs, hl with
  | [a0, a1, a2], _ =>
    have g0 := hf 0 f0 rfl
    rw [t0, o0, clI, List.getElem?_eq_getElem (by omega)] at g0
    have g1 := hf 1 f1 rfl
    rw [t1, o1, cl_Prog, List.getElem?_eq_getElem (by omega)] at g1
    simp only [List.drop_zero, List.take_succ_cons, List.take_zero, List.drop_succ_cons] at g0 g1
    obtain ⟨x0, rfl⟩ := rd_int g0
    obtain ⟨x1, p1, q1⟩ := rd_Prog (av := av) hav (by rfl) g1
    refine ⟨⟨x0, x1⟩, ⟨p1⟩, fun j y hj => ?_⟩
    match j, hj with
    | 0, hj => obtain rfl := Option.some.inj hj; exact ⟨_, rfl, .sc _ rfl⟩
    | 1, hj => obtain rfl := Option.some.inj hj; exact q1 0 _ rfl
    | 2, hj => obtain rfl := Option.some.inj hj; exact q1 1 _ rfl
    | j + 3, hj => cases hj
theorem und_UnitS : PP.underlying 24 = some (.slice 155) := by kernel_rfl
theorem cl_UnitS : PP.cellsOf 24 = 1 := by kernel_rfl
theorem rd_UnitS (hav : ∀ b, av b) {v : Value} (h : DataW.trod enc PP w base spare held n 24 [v] = some D) : ∃ l : List Un, (∀ x, x ∈ l → x.tx) ∧ FR av w (.fz (l.map Un.cs)) v :=
  fr_slice Un.cs Un.tx (fun _ => rfl) (by decide) hav und_UnitS cl_Unit (fun n cs D hl h => rd_Unit hav hl h) h
theorem und_Sys : ∃ f0 f1 f2 f3, PP.underlying 27 = some (.struct #[f0, f1, f2, f3]) ∧ (f0.type = 22 ∧ f0.offset = 0) ∧ (f1.type = 23 ∧ f1.offset = 1) ∧ (f2.type = 24 ∧ f2.offset = 2) ∧ (f3.type = 25 ∧ f3.offset = 3) := ⟨_, _, _, _, rfl, ⟨rfl, rfl⟩, ⟨rfl, rfl⟩, ⟨rfl, rfl⟩, ⟨rfl, rfl⟩⟩
theorem cl_Sys : PP.cellsOf 27 = 4 := by kernel_rfl
theorem rd_Sys (hav : ∀ b, av b) (hl : cs.length = 4) (h : DataW.trod enc PP w base spare held n 27 cs = some D) :
    ∃ c : Sy, c.tx ∧ ∀ (j : Nat) (y : C), (Sy.cs c)[j]? = some y → ∃ u, cs[j]? = some u ∧ FR av w y u := by
  obtain ⟨f0, f1, f2, f3, hu, ⟨t0, o0⟩, ⟨t1, o1⟩, ⟨t2, o2⟩, ⟨t3, o3⟩⟩ := und_Sys
  obtain ⟨xs, m, _, _, _, hx, hf⟩ := DataW.trod_struct hu h
  have hxl : xs.length = 4 := hx
  match cs, hl with
  | [a0, a1, a2, a3], _ =>
    have g0 := hf 0 f0 rfl
    rw [t0, o0, cl_CellS, List.getElem?_eq_getElem (by omega)] at g0
    have g1 := hf 1 f1 rfl
    rw [t1, o1, cl_InstS, List.getElem?_eq_getElem (by omega)] at g1
    have g2 := hf 2 f2 rfl
    rw [t2, o2, cl_UnitS, List.getElem?_eq_getElem (by omega)] at g2
    have g3 := hf 3 f3 rfl
    rw [t3, o3, clSS, List.getElem?_eq_getElem (by omega)] at g3
    simp only [List.drop_zero, List.take_succ_cons, List.take_zero, List.drop_succ_cons] at g0 g1 g2 g3
    obtain ⟨x0, p0, q0⟩ := rd_CellS (av := av) hav g0
    obtain ⟨x1, p1, q1⟩ := rd_InstS (av := av) hav g1
    obtain ⟨x2, p2, q2⟩ := rd_UnitS (av := av) hav g2
    obtain ⟨x3, p3, q3⟩ := rd_strs (av := av) hav g3
    refine ⟨⟨x0, x1, x2, x3⟩, ⟨p0, p1, p2, p3⟩, fun j y hj => ?_⟩
    match j, hj with
    | 0, hj => obtain rfl := Option.some.inj hj; exact ⟨_, rfl, q0⟩
    | 1, hj => obtain rfl := Option.some.inj hj; exact ⟨_, rfl, q1⟩
    | 2, hj => obtain rfl := Option.some.inj hj; exact ⟨_, rfl, q2⟩
    | 3, hj => obtain rfl := Option.some.inj hj; exact ⟨_, rfl, q3⟩
    | j + 4, hj => cases hj
theorem und_Bind : ∃ f0 f1, PP.underlying 158 = some (.struct #[f0, f1]) ∧ (f0.type = 9 ∧ f0.offset = 0) ∧ (f1.type = 30 ∧ f1.offset = 1) := ⟨_, _, rfl, ⟨rfl, rfl⟩, ⟨rfl, rfl⟩⟩
theorem cl_Bind : PP.cellsOf 158 = 4 := by kernel_rfl
theorem rd_Bind (hav : ∀ b, av b) (hl : cs.length = 4) (h : DataW.trod enc PP w base spare held n 158 cs = some D) :
    ∃ c : Bd, c.tx ∧ ∀ (j : Nat) (y : C), (Bd.cs c)[j]? = some y → ∃ u, cs[j]? = some u ∧ FR av w y u := by
  obtain ⟨f0, f1, hu, ⟨t0, o0⟩, ⟨t1, o1⟩⟩ := und_Bind
  obtain ⟨xs, m, _, _, _, hx, hf⟩ := DataW.trod_struct hu h
  have hxl : xs.length = 2 := hx
  match cs, hl with
  | [a0, a1, a2, a3], _ =>
    have g0 := hf 0 f0 rfl
    rw [t0, o0, clS, List.getElem?_eq_getElem (by omega)] at g0
    have g1 := hf 1 f1 rfl
    rw [t1, o1, cl_Value, List.getElem?_eq_getElem (by omega)] at g1
    simp only [List.drop_zero, List.take_succ_cons, List.take_zero, List.drop_succ_cons] at g0 g1
    obtain ⟨x0, rfl, p0⟩ := rd_str g0
    obtain ⟨x1, p1, q1⟩ := rd_Value (av := av) hav (by rfl) g1
    refine ⟨⟨x0, x1⟩, ⟨p0, p1⟩, fun j y hj => ?_⟩
    match j, hj with
    | 0, hj => obtain rfl := Option.some.inj hj; exact ⟨_, rfl, .sc _ rfl⟩
    | 1, hj => obtain rfl := Option.some.inj hj; exact q1 0 _ rfl
    | 2, hj => obtain rfl := Option.some.inj hj; exact q1 1 _ rfl
    | 3, hj => obtain rfl := Option.some.inj hj; exact q1 2 _ rfl
    | j + 4, hj => cases hj
theorem und_BindS : PP.underlying 28 = some (.slice 158) := by kernel_rfl
theorem cl_BindS : PP.cellsOf 28 = 1 := by kernel_rfl
theorem rd_BindS (hav : ∀ b, av b) {v : Value} (h : DataW.trod enc PP w base spare held n 28 [v] = some D) : ∃ l : List Bd, (∀ x, x ∈ l → x.tx) ∧ FR av w (.fz (l.map Bd.cs)) v :=
  fr_slice Bd.cs Bd.tx (fun _ => rfl) (by decide) hav und_BindS cl_Bind (fun n cs D hl h => rd_Bind hav hl h) h
theorem und_Frame : ∃ f0 f1 f2 f3, PP.underlying 161 = some (.struct #[f0, f1, f2, f3]) ∧ (f0.type = 3 ∧ f0.offset = 0) ∧ (f1.type = 3 ∧ f1.offset = 1) ∧ (f2.type = 142 ∧ f2.offset = 2) ∧ (f3.type = 28 ∧ f3.offset = 3) := ⟨_, _, _, _, rfl, ⟨rfl, rfl⟩, ⟨rfl, rfl⟩, ⟨rfl, rfl⟩, ⟨rfl, rfl⟩⟩
theorem cl_Frame : PP.cellsOf 161 = 4 := by kernel_rfl
theorem rd_Frame (hav : ∀ b, av b) (hl : cs.length = 4) (h : DataW.trod enc PP w base spare held n 161 cs = some D) :
    ∃ c : Fm, c.tx ∧ ∀ (j : Nat) (y : C), (Fm.cs c)[j]? = some y → ∃ u, cs[j]? = some u ∧ FR av w y u := by
  obtain ⟨f0, f1, f2, f3, hu, ⟨t0, o0⟩, ⟨t1, o1⟩, ⟨t2, o2⟩, ⟨t3, o3⟩⟩ := und_Frame
  obtain ⟨xs, m, _, _, _, hx, hf⟩ := DataW.trod_struct hu h
  have hxl : xs.length = 4 := hx
  match cs, hl with
  | [a0, a1, a2, a3], _ =>
    have g0 := hf 0 f0 rfl
    rw [t0, o0, clI, List.getElem?_eq_getElem (by omega)] at g0
    have g1 := hf 1 f1 rfl
    rw [t1, o1, clI, List.getElem?_eq_getElem (by omega)] at g1
    have g2 := hf 2 f2 rfl
    rw [t2, o2, cl_ValueS, List.getElem?_eq_getElem (by omega)] at g2
    have g3 := hf 3 f3 rfl
    rw [t3, o3, cl_BindS, List.getElem?_eq_getElem (by omega)] at g3
    simp only [List.drop_zero, List.take_succ_cons, List.take_zero, List.drop_succ_cons] at g0 g1 g2 g3
    obtain ⟨x0, rfl⟩ := rd_int g0
    obtain ⟨x1, rfl⟩ := rd_int g1
    obtain ⟨x2, p2, q2⟩ := rd_ValueS (av := av) hav g2
    obtain ⟨x3, p3, q3⟩ := rd_BindS (av := av) hav g3
    refine ⟨⟨x0, x1, x2, x3⟩, ⟨p2, p3⟩, fun j y hj => ?_⟩
    match j, hj with
    | 0, hj => obtain rfl := Option.some.inj hj; exact ⟨_, rfl, .sc _ rfl⟩
    | 1, hj => obtain rfl := Option.some.inj hj; exact ⟨_, rfl, .sc _ rfl⟩
    | 2, hj => obtain rfl := Option.some.inj hj; exact ⟨_, rfl, q2⟩
    | 3, hj => obtain rfl := Option.some.inj hj; exact ⟨_, rfl, q3⟩
    | j + 4, hj => cases hj
theorem und_FrameS : PP.underlying 31 = some (.slice 161) := by kernel_rfl
theorem cl_FrameS : PP.cellsOf 31 = 1 := by kernel_rfl
theorem rd_FrameS (hav : ∀ b, av b) {v : Value} (h : DataW.trod enc PP w base spare held n 31 [v] = some D) : ∃ l : List Fm, (∀ x, x ∈ l → x.tx) ∧ FR av w (.fz (l.map Fm.cs)) v :=
  fr_slice Fm.cs Fm.tx (fun _ => rfl) (by decide) hav und_FrameS cl_Frame (fun n cs D hl h => rd_Frame hav hl h) h
theorem und_Machine : ∃ f0 f1 f2 f3 f4 f5 f6, PP.underlying 33 = some (.struct #[f0, f1, f2, f3, f4, f5, f6]) ∧ (f0.type = 3 ∧ f0.offset = 0) ∧ (f1.type = 3 ∧ f1.offset = 1) ∧ (f2.type = 3 ∧ f2.offset = 2) ∧ (f3.type = 28 ∧ f3.offset = 3) ∧ (f4.type = 30 ∧ f4.offset = 4) ∧ (f5.type = 31 ∧ f5.offset = 7) ∧ (f6.type = 3 ∧ f6.offset = 8) := ⟨_, _, _, _, _, _, _, rfl, ⟨rfl, rfl⟩, ⟨rfl, rfl⟩, ⟨rfl, rfl⟩, ⟨rfl, rfl⟩, ⟨rfl, rfl⟩, ⟨rfl, rfl⟩, ⟨rfl, rfl⟩⟩
theorem cl_Machine : PP.cellsOf 33 = 9 := by kernel_rfl
theorem rd_Machine (hav : ∀ b, av b) (hl : cs.length = 9) (h : DataW.trod enc PP w base spare held n 33 cs = some D) :
    ∃ c : Mc, c.tx ∧ ∀ (j : Nat) (y : C), (Mc.cs c)[j]? = some y → ∃ u, cs[j]? = some u ∧ FR av w y u := by
  obtain ⟨f0, f1, f2, f3, f4, f5, f6, hu, ⟨t0, o0⟩, ⟨t1, o1⟩, ⟨t2, o2⟩, ⟨t3, o3⟩, ⟨t4, o4⟩, ⟨t5, o5⟩, ⟨t6, o6⟩⟩ := und_Machine
  obtain ⟨xs, m, _, _, _, hx, hf⟩ := DataW.trod_struct hu h
  have hxl : xs.length = 7 := hx
  match cs, hl with
  | [a0, a1, a2, a3, a4, a5, a6, a7, a8], _ =>
    have g0 := hf 0 f0 rfl
    rw [t0, o0, clI, List.getElem?_eq_getElem (by omega)] at g0
    have g1 := hf 1 f1 rfl
    rw [t1, o1, clI, List.getElem?_eq_getElem (by omega)] at g1
    have g2 := hf 2 f2 rfl
    rw [t2, o2, clI, List.getElem?_eq_getElem (by omega)] at g2
    have g3 := hf 3 f3 rfl
    rw [t3, o3, cl_BindS, List.getElem?_eq_getElem (by omega)] at g3
    have g4 := hf 4 f4 rfl
    rw [t4, o4, cl_Value, List.getElem?_eq_getElem (by omega)] at g4
    have g5 := hf 5 f5 rfl
    rw [t5, o5, cl_FrameS, List.getElem?_eq_getElem (by omega)] at g5
    have g6 := hf 6 f6 rfl
    rw [t6, o6, clI, List.getElem?_eq_getElem (by omega)] at g6
    simp only [List.drop_zero, List.take_succ_cons, List.take_zero, List.drop_succ_cons] at g0 g1 g2 g3 g4 g5 g6
    obtain ⟨x0, rfl⟩ := rd_int g0
    obtain ⟨x1, rfl⟩ := rd_int g1
    obtain ⟨x2, rfl⟩ := rd_int g2
    obtain ⟨x3, p3, q3⟩ := rd_BindS (av := av) hav g3
    obtain ⟨x4, p4, q4⟩ := rd_Value (av := av) hav (by rfl) g4
    obtain ⟨x5, p5, q5⟩ := rd_FrameS (av := av) hav g5
    obtain ⟨x6, rfl⟩ := rd_int g6
    refine ⟨⟨x0, x1, x2, x3, x4, x5, x6⟩, ⟨p3, p4, p5⟩, fun j y hj => ?_⟩
    match j, hj with
    | 0, hj => obtain rfl := Option.some.inj hj; exact ⟨_, rfl, .sc _ rfl⟩
    | 1, hj => obtain rfl := Option.some.inj hj; exact ⟨_, rfl, .sc _ rfl⟩
    | 2, hj => obtain rfl := Option.some.inj hj; exact ⟨_, rfl, .sc _ rfl⟩
    | 3, hj => obtain rfl := Option.some.inj hj; exact ⟨_, rfl, q3⟩
    | 4, hj => obtain rfl := Option.some.inj hj; exact q4 0 _ rfl
    | 5, hj => obtain rfl := Option.some.inj hj; exact q4 1 _ rfl
    | 6, hj => obtain rfl := Option.some.inj hj; exact q4 2 _ rfl
    | 7, hj => obtain rfl := Option.some.inj hj; exact ⟨_, rfl, q5⟩
    | 8, hj => obtain rfl := Option.some.inj hj; exact ⟨_, rfl, .sc _ rfl⟩
    | j + 9, hj => cases hj
end Go.Own
set_option maxRecDepth 1000000
namespace Go.Own
open Go.ChangeShapes Go.WideShapes Go.Deep Go.RowKit Go.ChangeAt Go.Proofs.YtemknkncncoedaaGreatDoor
namespace FnExactAnswer
theorem facts_of {W : World} (hL : laidMetH PP Rows.fnExactAnswerRow.laid W) (hsh : W.ShapedOpen PP) : Facts W := by
  have hL : laidMet PP Rows.fnExactAnswerRow.laid W := hL
  obtain ⟨ps, hv, _⟩ := hL
  have rd := fun n d hm => reads_laid hv n d hm
  refine ⟨?_, ?_, ?_, ?_⟩
  · exact Go.Proofs.cell_of_shapedOpen_int (zero := #[.int .i64 0]) (t := 3) hsh (of_decide_eq_true (by kernel_rfl)) (by kernel_rfl) rfl (by kernel_rfl) (by kernel_rfl) undI
  · exact err_cell gSyn tSyn (rd "strconv.ErrSyntax" _ (by simp [Rows.fnExactAnswerRow, Rows.laid_strconv_ErrSyntax]; rfl))
  · exact err_cell gRng tRng (rd "strconv.ErrRange" _ (by simp [Rows.fnExactAnswerRow, Rows.laid_strconv_ErrRange]; rfl))
  · obtain ⟨g, t, cs, fuel, p, h1, h2, h3, h4⟩ := rd "internal/strconv.uint64pow10" Rows.laid_internal_strconv_uint64pow10 (by simp [Rows.fnExactAnswerRow])
    have ht : t = 356 := by
      have : (PP.globalNamed "internal/strconv.uint64pow10").bind (fun g => (PP.globals[g]?).map (·.type)) = some 356 := by kernel_rfl
      rw [h1] at this
      exact Option.some.inj (h2.symm.trans this)
    subst ht
    unfold Lib.TabIs
    rw [h3, ← Lib.cells_of_tab (e := 335) (n := 20) (k := .u64) (zs := Lib.pow10Tab) (by kernel_rfl) (by kernel_rfl) (by kernel_rfl) (by kernel_rfl) h4]
theorem par : Go.Proofs.Tryz.f4.params = #[27, 33] := by kernel_rfl
theorem contract (H : Type) (enc : TypeId × Value → H) (W : World) (base : Nat) (args : Array Value) (ds gs : List (DataW H)) (before : List MemPlace)
    (hval : ∀ (j : Nat) t v, Go.Proofs.Tryz.f4.params[j]? = some t → args[j]? = some v → Value.okWide PP W .any base t v)
    (hW : DataW.Whole enc PP Go.Proofs.Tryz.f4.params.toList Rows.fnExactAnswerSpec.vars false W args.toList ds gs before) (hL : laidMetH PP Rows.fnExactAnswerRow.laid W) (hsh : W.ShapedOpen PP) :
    Calls PP 4 args W fun e W' => ∃ v, e = .returned v ∧ Rows.fnExactAnswerSpec.post enc PP Go.Proofs.Tryz.f4 false true false false W args v W' := by
  have hW' := hW
  obtain ⟨p, q, hA0, hV, rfl, hfz, hnd⟩ := hW
  have hA : DataW.TrodAll enc PP W 0 (fun _ => true) true Go.Proofs.Tryz.f4.params.toList args.toList ds p := hA0
  rw [par] at hA hval
  obtain ⟨v0, vs0, d0, ds0, p0, q0, hargs, rfl, rfl, h0, r0⟩ := trodAll_cons hA
  obtain ⟨v1, vs1, d1, ds1, p1, q1, rfl, rfl, rfl, h1, r1⟩ := trodAll_cons r0
  obtain ⟨rfl, rfl, rfl⟩ := trodAll_nil r1
  obtain rfl : args = #[v0, v1] := by cases args; simp_all
  obtain ⟨rfl, rfl⟩ := trodVars_none hV
  obtain ⟨n0, t0⟩ := h0
  have t0' := t0
  obtain ⟨_f0, _f1, _f2, _f3, hu0, _⟩ := und_Sys
  obtain ⟨us0, rfl, hs0, o0⟩ := struct_cells hu0 (hval 0 _ v0 rfl rfl)
  rw [cl_Sys] at hs0
  rw [o0] at t0'
  obtain ⟨x0, hx0, hf0⟩ := rd_Sys (av := fun b => (fun _ : Nat => (none : Option (Nat × Pth))) b = none) (fun _ => rfl) (by simpa using hs0) t0'
  obtain ⟨n1, t1⟩ := h1
  have t1' := t1
  obtain ⟨_f0, _f1, _f2, _f3, _f4, _f5, _f6, hu1, _⟩ := und_Machine
  obtain ⟨us1, rfl, hs1, o1⟩ := struct_cells hu1 (hval 1 _ v1 rfl rfl)
  rw [cl_Machine] at hs1
  rw [o1] at t1'
  obtain ⟨x1, hx1, hf1⟩ := rd_Machine (av := fun b => (fun _ : Nat => (none : Option (Nat × Pth))) b = none) (fun _ => rfl) (by simpa using hs1) t1'
  have hf := facts_of hL hsh
  letI := LI
  haveI : Facts.Of := ⟨fun w h => h⟩
  have hsz : 4 ≤ W.heap.size := by
    have := (hf.pow)
    unfold Lib.TabIs World.var? at this
    have hg : PP.globalNamed "internal/strconv.uint64pow10" = some 3 := by kernel_rfl
    rw [hg] at this
    simp only [Option.bind_some] at this
    split at this
    · rename_i hx; exact (Array.getElem?_eq_some_iff.1 hx).1
    · simp at this
  refine ((c_laws_FnExactAnswer x0 x1 hx0 hx1).run (fun _ => none) W #[(.agg us0), (.agg us1)] ⟨hf, hsz, fun _ _ => rfl⟩ rfl (fun i v hi => ?_) (fun _ _ _ _ h => by simp [lo] at h) (fun _ _ _ h => by simp at h) (fun _ _ h => by simp at h)).mono ?_
  · match i, hi with
    | 0, hi => simp at hi; subst hi; exact VR.ofFR (cs := Sy.cs x0) (by rw [hs0]; rfl) hf0
    | 1, hi => simp at hi; subst hi; exact VR.ofFR (cs := Mc.cs x1) (by rw [hs1]; rfl) hf1
    | i + 2, hi => simp at hi
  rintro e W' ⟨u, res, ob', β', rfl, hp⟩
  have hb : Below W.heap.size W W' := ⟨hp.os, hp.tape, hp.output, hp.hs, fun b hb => hp.fr b hb rfl⟩
  have hu : u = .bool true := by
    have := hp.res
    rw [hp.ok] at this
    exact this.sc_inv
  subst hu
  have hlt := hW'.lt
  simp only [List.append_nil, List.append_assoc] at hlt
  refine ⟨_, rfl, post_of_below (pa := p0 ++ (p1 ++ [])) (pv := []) hW' (fun _ _ _ => trodAll_cons_mk (shut_bool undB _) trodAll_mk0) (fun sp hsp => ?_) (fun _ _ => rfl) (by simp) (hb.frame _) (fun b off hlt => hb.frozen hlt) (ok_one (by kernel_rfl) rfl (okWide_bool_mk undB _))⟩
  rw [par]
  have hsp' : ∀ x, x ∈ p0 ∨ x ∈ p1 → sp x.block = true ∧ x.block < W.heap.size := fun x hx => by
    refine ⟨hsp x ?_, hlt x ?_⟩ <;> (try simp only [List.append_nil, List.append_assoc, List.mem_append]) <;> exact hx
  refine trodAll_cons_mk (WideElems.Trod_stays laidOut (by kernel_rfl) (of_decide_eq_true (by kernel_rfl)) ⟨n0, t0⟩ (fun x hx => hb.same (hsp' x (.inl hx)).2) (fun x hx => (hsp' x (.inl hx)).1)) ?_
  exact trodAll_cons_mk (WideElems.Trod_stays laidOut (by kernel_rfl) (of_decide_eq_true (by kernel_rfl)) ⟨n1, t1⟩ (fun x hx => hb.same (hsp' x (.inr hx)).2) (fun x hx => (hsp' x (.inr hx)).1)) trodAll_mk0
theorem ownN : ownKnob PP.godebug = none := by kernel_rfl
def wargs : Array Value := #[.agg #[.slice none 0 0, .slice none 0 0, .slice none 0 0, .slice none 0 0], .agg #[.int .i64 0, .int .i64 0, .int .i64 0, .slice none 0 0, .int .i64 0, .int .i64 0, .string ⟨#[]⟩, .slice none 0 0, .int .i64 0]]
noncomputable def wW (os : Os) : World := World.laidAll PP os Rows.fnExactAnswerRow.laid
theorem laid_met (os : Os) : laidMetH PP Rows.fnExactAnswerRow.laid ((wW os).forCall (fun _ _ => 0) ⟨#[], wargs, []⟩).memory :=
  show laidMet PP Rows.fnExactAnswerRow.laid _ from laidMet_laidAll wargs (by kernel_rfl) (by kernel_rfl)
theorem wreads (os : Os) {H : Type} (enc : TypeId × Value → H) : ∃ places, DataW.whole enc PP ((wW os).forCall (fun _ _ => 0) ⟨#[], wargs, []⟩).memory Go.Proofs.Tryz.f4.params.toList Rows.fnExactAnswerSpec.vars false wargs.toList 8 = some ([.agg [.nil, .nil, .nil, .nil], .agg [.lit (.int .i64 0), .lit (.int .i64 0), .lit (.int .i64 0), .nil, .agg [.lit (.int .i64 0), .lit (.int .i64 0), .lit (.string [])], .nil, .lit (.int .i64 0)]], [], places) :=
  ⟨[], by kernel_rfl⟩
theorem lifted (os : Os) (started : os.Started) (H : Type) (enc : TypeId × Value → H) (F : Stop.Interp) :
    ReturnsInHanded {} Go.Proofs.Tryz.checked os 4 .any ((OpenSpec.ofChange Rows.fnExactAnswerSpec).preRow enc PP Go.Proofs.Tryz.f4 Rows.fnExactAnswerRow.domain false Rows.fnExactAnswerRow.laid) (((OpenSpec.ofChange Rows.fnExactAnswerSpec).at F).post enc PP Go.Proofs.Tryz.f4 false true false false) := by
  obtain ⟨places, hx⟩ := wreads os enc
  refine returnsInHanded_of_row (C := Go.Proofs.Tryz.checked) (s := OpenSpec.ofChange Rows.fnExactAnswerSpec) ownN started (by kernel_rfl) Go.Proofs.Tryz.func4
    (witness_row_at (enc := enc) (C := Go.Proofs.Tryz.checked) false (wW os) wargs (World.laidAll_os _ _ _) (by kernel_rfl) (by kernel_rfl) (by kernel_rfl)
      (OpenSpec.preRow_of_cond 8 hx (by kernel_rfl) (fun k hk => by cases hk) (by kernel_rfl) (laid_met os))) ?_
  intro W base args ds gs before hval hW _ _ _ hL hsh _
  exact contract H enc W base args ds gs before hval hW hL hsh
theorem k1 : (Rows.fnExactAnswerRow.inPlace == PP.inPlace 4) = true := by kernel_rfl
theorem k2 : (Rows.fnExactAnswerRow.unfollowed == PP.unfollowed 4) = true := by kernel_rfl
theorem k3 : (Rows.fnExactAnswerRow.recurses == PP.recurses 4) = true := by kernel_rfl
theorem k4 : (Rows.fnExactAnswerRow.named == PP.varsNamed 4) = true := by kernel_rfl
theorem k5 : (Rows.fnExactAnswerRow.loops == (Go.Proofs.Tryz.f4.params.toList ++ (OpenSpec.ofChange Rows.fnExactAnswerSpec).bare.plain.varTypes PP).any (PP.loopsFrom ·)) = true := by kernel_rfl
theorem k6 : (Rows.fnExactAnswerRow.wideKeys == (Go.Proofs.Tryz.f4.params.toList ++ (OpenSpec.ofChange Rows.fnExactAnswerSpec).bare.plain.varTypes PP ++ Go.Proofs.Tryz.f4.resultTypes.toList).any (PP.wideKeysFrom ·)) = true := by kernel_rfl
theorem k7 : (Rows.fnExactAnswerRow.veiled == (Go.Proofs.Tryz.f4.params.toList ++ (OpenSpec.ofChange Rows.fnExactAnswerSpec).bare.plain.varTypes PP ++ Go.Proofs.Tryz.f4.resultTypes.toList).any (PP.veiledRec ·)) = true := by kernel_rfl
theorem closed : joinedFacts PP 4 Go.Proofs.Tryz.f4 (OpenSpec.ofChange Rows.fnExactAnswerSpec).bare Rows.fnExactAnswerRow = true := by
  unfold joinedFacts
  simp only [k1, k2, k3, k4, k5, k6, k7, Bool.and_true]
  kernel_rfl
theorem said : Rows.FnExactAnswerSaid :=
  OpenClaim.holds_of_cond 4 Go.Proofs.Tryz.f4 rfl rfl rfl rfl rfl rfl rfl ⟨rfl, rfl, rfl, rfl, rfl⟩ rfl rfl rfl rfl rfl (by kernel_rfl) Go.Proofs.Tryz.func4 closed
    (of_decide_eq_true (by kernel_rfl)) (by unfold Func.isWrapper; first | (rw [if_pos (by decide +kernel)]; kernel_rfl) | (rw [if_neg (by decide +kernel)]; exact ⟨rfl, rfl⟩))
    (fun os started H enc _ F => by rw [OpenClaim.pre_eq_preRow]; exact lifted os started H enc F)
theorem plainN (f : FuncId) (fn : Func) (hf : Tryz.pinned.checked.prog.funcNamed "loop.example/g00765/laws.FnExactAnswer" = some f) (hfn : Tryz.pinned.checked.prog.funcs[f]? = some fn) :
    true = Tryz.pinned.checked.prog.looks [] ∧ ∀ (j : Nat) t, fn.params[j]? = some t → Tryz.pinned.checked.prog.wantsStandIn t = false := by
  obtain rfl : f = 4 := Option.some.inj ((show PP.funcNamed "loop.example/g00765/laws.FnExactAnswer" = some 4 by kernel_rfl).symm.trans hf) |>.symm
  obtain rfl : fn = Go.Proofs.Tryz.f4 := (Option.some.inj (Go.Proofs.Tryz.func4.symm.trans hfn)).symm
  refine ⟨by kernel_rfl, fun j t ht => ?_⟩
  rw [par] at ht
  match j, ht with
  | 0, ht => obtain rfl := Option.some.inj ht; exact (show PP.wantsStandIn 27 = false by kernel_rfl)
  | 1, ht => obtain rfl := Option.some.inj ht; exact (show PP.wantsStandIn 33 = false by kernel_rfl)
  | j + 2, ht => cases ht
theorem card : Rows.FnExactAnswerCardSaid :=
  Claim7.holds_tied_plain_at .later [] _ _ _ _ said (fun _ h => by cases h) (by kernel_rfl) (fun _ h => by cases h) fnExactAnswer_row_tie rfl ⟨rfl, rfl⟩ (by kernel_rfl) rfl plainN (by kernel_rfl)
end FnExactAnswer
end Go.Own
namespace Go.Proofs.YtemknkncncoedaaGreatDoor
theorem fnExactAnswer_holds : Rows.FnExactAnswerCardSaid := Go.Own.FnExactAnswer.card
end Go.Proofs.YtemknkncncoedaaGreatDoor
