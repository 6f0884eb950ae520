import Derived.Test.YtemknkncncoedaaGreatDoorTd
import Derived.Lib.AppendStr
/- Lemmas for the proof in the last text of this claim. -/
set_option linter.unusedVariables false
set_option linter.unusedSimpArgs false
set_option linter.unusedSectionVars false
set_option maxRecDepth 1000000
set_option maxHeartbeats 4000000
namespace Go.Own
attribute [local irreducible] WPc WPL WPS WPS1 WPS2 HAny endP
variable [Laid]
open Go.Lib Go.RowKit
theorem c_laws_toValueS (l : List V) (h1 : l.length ≤ 1000000000) : Con PP 168 [.fz (l.map V.cs)] [] [] (fun r o => r = .sl 7 3 [] 0 l.length ∧ o = [(7, 44, 3, l.map V.cs)]) := by
  have hb1 : (32 : Int) * (l.length : Int) ≤ 281474976710656 := by omega
  have hb2 : (l.length : Int) ≤ 9223372036854775807 := by omega
  refine Con.of tok (nt := 23) Go.Proofs.Tryz.func168 (by kernel_rfl) rfl rfl rfl (Nat.le_of_ble_eq_true rfl) fun G => ?_
  simp only [entSt, tmOf, List.append_nil, List.cons_append, List.nil_append]
  repeat' (first
    | apply WPc.sq
    | apply WPc.block
    | (refine WPc.rq tok rfl fun K hK => ?_; simp -implicitDefEqProofs +contextual [-Int.not_le, -Int.not_lt, -Nat.not_le, -Nat.not_lt, -List.all_eq_true, -List.all_eq_false, -List.any_eq_true, -List.any_eq_false, hb1, hb2]; (repeat1' (first | apply hK | apply And.intro | intro _)) <;> clear hK K <;> (try dsimp only [List.drop])))
  refine WPc.loopV (σ := Nat) (fun i => i ≤ l.length) (fun i => l.length - i) (fun i => [(4, .sc (.int .i64 i))]) (fun i => [(7, 44, 3, part [.sc (.int .i64 0), .sc (.int .i64 0), .sc (.string zs)] V.cs l i)]) [0, 3] 0 (by simp [part_zero]) (by simp [part_zero]) (by simp) ?_
  rintro i hi s hs
  simp at hs
  subst hs
  by_cases hlt : i < l.length
  · have hl := part_len (z := [.sc (.int .i64 0), .sc (.int .i64 0), .sc (.string zs)]) (f := V.cs) hi
    have hge := part_ge (z := [.sc (.int .i64 0), .sc (.int .i64 0), .sc (.string zs)]) (f := V.cs) hlt
    have hn : (((part [.sc (.int .i64 0), .sc (.int .i64 0), .sc (.string zs)] V.cs l i).modify i fun r => r.set 0 (.sc (.int .i64 l[i].k))).modify i fun r => r.set 1 (.sc (.int .i64 l[i].n))).modify i (fun r => r.set 2 (.sc (.string l[i].s))) = part [.sc (.int .i64 0), .sc (.int .i64 0), .sc (.string zs)] V.cs l (i + 1) := by
      rw [List.modify_modify_eq, List.modify_modify_eq]
      exact part_next hlt rfl
    repeat' (first
      | apply WPc.sq
      | apply WPc.block
      | apply WPc.skip
      | refine WPL.nil ?_
      | (apply WPL.cL (c_laws_toValue ⟨_, _, _⟩); (case q => (repeat' (first | refine And.intro ?_ ?_ | intro _ | exact cleanOut_nil | (refine Eqv.mk ?_; first | rfl | (simp -implicitDefEqProofs [V.cs, V.av, hlt, hl, hge]; done)) | (simp -implicitDefEqProofs [V.cs, V.av, hlt, hl, hge]; done) | (simp -implicitDefEqProofs [V.cs, V.av, hlt, hl, hge]; rfl) | (simp; done) | (simp; rfl) | rfl))))
      | ((first | refine WPc.rq tok rfl fun K hK => ?_ | refine WPL.rn tok _ (by simp [ahead, isFn]; rfl) fun K hK => ?_); simp -implicitDefEqProofs +contextual [-Int.not_le, -Int.not_lt, -Nat.not_le, -Nat.not_lt, -List.all_eq_true, -List.all_eq_false, -List.any_eq_true, -List.any_eq_false, V.cs, V.av, hlt, hl, hge]; (repeat1' (first | apply hK | apply And.intro | intro _)) <;> clear hK K <;> (try dsimp only [List.drop]))
      | (refine WPc.region ?_; simp only [List.toList_toArray])
      | (refine WPc.condT ?_ ?_; (focus (simp; done))))
    refine ⟨i + 1, ⟨hlt, by first | omega | (simp only; omega) | assumption⟩, rfl, rfl, ?_, ?_⟩ <;> simp (disch := omega) [wrap64, hn]
  · obtain rfl : i = l.length := by omega
    repeat' (first
      | apply WPc.sq
      | (refine WPc.ret (endP.own [(7, 44, 3, l.map V.cs)] (.inr rfl) rfl rfl (by simp; rfl) ?_ ?_ (by simp)))
      | apply WPc.exit
      | (refine WPc.rq tok rfl fun K hK => ?_; simp -implicitDefEqProofs +contextual [-Int.not_le, -Int.not_lt, -Nat.not_le, -Nat.not_lt, -List.all_eq_true, -List.all_eq_false, -List.any_eq_true, -List.any_eq_false]; (repeat1' (first | apply hK | apply And.intro | intro _)) <;> clear hK K <;> (try dsimp only [List.drop]))
      | (refine WPc.condF ?_ ?_; (focus (simp; done))))
    · simp [part_all]
    · exact ⟨rfl, rfl⟩
theorem c_laws_toCell (c : Cl) (h1 : c.names.length ≤ 1000000000) (h2 : c.vals.length ≤ 1000000000) : Con PP 101 [c.av] [] [] (fun r o => r = .agg [.sc (.int .i64 c.k), .sc (.string c.s), .sc (.int .i64 c.a), .sc (.int .i64 c.b), .sl 2 1 [(0, 4)] 0 c.names.length, .sl 2 3 [(0, 5)] 0 c.vals.length] ∧ o = [(2, 171, 6, [c.ow])]) := by
  refine Con.of tok (nt := 25) Go.Proofs.Tryz.func101 (by kernel_rfl) rfl rfl rfl (Nat.le_of_ble_eq_true rfl) fun G => ?_
  simp only [entSt, tmOf, List.append_nil, List.cons_append, List.nil_append, Cl.av]
  repeat' (first
    | (refine WPL.detSt 24 3 900001 [] 0 4 ?_ ?_; (focus (simp; done)); refine fun K hK => ?_; simp -implicitDefEqProofs +contextual [-Int.not_le, -Int.not_lt, -Nat.not_le, -Nat.not_lt, -List.all_eq_true, -List.all_eq_false, -List.any_eq_true, -List.any_eq_false]; (repeat1' (first | apply hK | apply And.intro | intro _)) <;> clear hK K)
    | (refine WPL.rnToSt tok 24 _ (by simp [isFn]; rfl) fun K hK => ?_; simp -implicitDefEqProofs +contextual [-Int.not_le, -Int.not_lt, -Nat.not_le, -Nat.not_lt, -List.all_eq_true, -List.all_eq_false, -List.any_eq_true, -List.any_eq_false]; (repeat1' (first | apply hK | apply And.intro | intro _)) <;> clear hK K <;> (try dsimp only [List.drop]))
    | (refine WPL.detSt 24 3 900002 [] 0 5 ?_ ?_; (focus (simp; done)); refine fun K hK => ?_; simp -implicitDefEqProofs +contextual [-Int.not_le, -Int.not_lt, -Nat.not_le, -Nat.not_lt, -List.all_eq_true, -List.all_eq_false, -List.any_eq_true, -List.any_eq_false]; (repeat1' (first | apply hK | apply And.intro | intro _)) <;> clear hK K)
    | apply WPc.sq
    | (refine WPc.ret (endP.own [(2, 171, 6, [c.ow])] (.inr rfl) rfl rfl (by simp; rfl) ?_ ?_ (by simp)))
    | refine WPL.nil ?_
    | (apply WPL.cU (c_laws_toStringS _ ?g1); (case q => (repeat' (first | refine And.intro ?_ ?_ | intro _ | exact cleanOut_nil | (refine Eqv.mk ?_; first | rfl | (simp -implicitDefEqProofs; done)) | (simp -implicitDefEqProofs; done) | (simp -implicitDefEqProofs; rfl) | rfl))); (case g1 => (first | assumption | omega)))
    | (apply WPL.cU (c_laws_toValueS _ ?g1); (case q => (repeat' (first | refine And.intro ?_ ?_ | intro _ | exact cleanOut_nil | (refine Eqv.mk ?_; first | rfl | (simp -implicitDefEqProofs; done)) | (simp -implicitDefEqProofs; done) | (simp -implicitDefEqProofs; rfl) | rfl))); (case g1 => (first | assumption | omega)))
    | ((first | refine WPc.rq tok rfl fun K hK => ?_ | refine WPL.rn tok _ (by simp [ahead, isFn]; rfl) fun K hK => ?_); simp -implicitDefEqProofs +contextual [-Int.not_le, -Int.not_lt, -Nat.not_le, -Nat.not_lt, -List.all_eq_true, -List.all_eq_false, -List.any_eq_true, -List.any_eq_false]; (repeat1' (first | apply hK | apply And.intro | intro _)) <;> clear hK K <;> (try dsimp only [List.drop]))
    | (refine WPc.region ?_; simp only [List.toList_toArray]))
  · simp [Cl.ow]
  · exact ⟨rfl, rfl⟩
theorem c_laws_toCellS (l : List Cl) (h1 : l.length ≤ 1000000000) (h2 : ∀ c, c ∈ l → c.rm) : Con PP 47 [.fz (l.map Cl.cs)] [] [] (fun r o => r = .sl 7 6 [] 0 l.length ∧ o = [(7, heapR l)]) := by
  have hb1 : (88 : Int) * (l.length : Int) ≤ 281474976710656 := by omega
  have hb2 : (l.length : Int) ≤ 9223372036854775807 := by omega
  refine Con.of tok (nt := 23) Go.Proofs.Tryz.func47 (by kernel_rfl) rfl rfl rfl (Nat.le_of_ble_eq_true rfl) fun G => ?_
  simp only [entSt, tmOf, List.append_nil, List.cons_append, List.nil_append]
  repeat' (first
    | apply WPc.sq
    | apply WPc.block
    | (refine WPc.rq tok rfl fun K hK => ?_; simp -implicitDefEqProofs +contextual [-Int.not_le, -Int.not_lt, -Nat.not_le, -Nat.not_lt, -List.all_eq_true, -List.all_eq_false, -List.any_eq_true, -List.any_eq_false, hb1, hb2]; (repeat1' (first | apply hK | apply And.intro | intro _)) <;> clear hK K <;> (try dsimp only [List.drop])))
  refine WPc.loopV (σ := Nat) (fun i => i ≤ l.length) (fun i => l.length - i) (fun i => [(4, .sc (.int .i64 i))]) (fun i => [(7, 171, 6, part [.sc (.int .i64 0), .sc (.string zs), .sc (.int .i64 0), .sc (.int .i64 0), .sc (.slice none 0 0), .sc (.slice none 0 0)] Cl.ow l i)]) [0, 3] 0 (by simp [part_zero]) (by simp [part_zero]) (by simp) ?_
  rintro i hi s hs
  simp at hs
  subst hs
  by_cases hlt : i < l.length
  · have hr := h2 _ (List.getElem_mem hlt)
    have hr1 := hr.names
    have hr2 := hr.vals
    have hl := part_len (z := [.sc (.int .i64 0), .sc (.string zs), .sc (.int .i64 0), .sc (.int .i64 0), .sc (.slice none 0 0), .sc (.slice none 0 0)]) (f := Cl.ow) hi
    have hge := part_ge (z := [.sc (.int .i64 0), .sc (.string zs), .sc (.int .i64 0), .sc (.int .i64 0), .sc (.slice none 0 0), .sc (.slice none 0 0)]) (f := Cl.ow) hlt
    have hn : ((((((part [.sc (.int .i64 0), .sc (.string zs), .sc (.int .i64 0), .sc (.int .i64 0), .sc (.slice none 0 0), .sc (.slice none 0 0)] Cl.ow l i).modify i fun r => r.set 0 (.sc (.int .i64 l[i].k))).modify i fun r => r.set 1 (.sc (.string l[i].s))).modify i fun r => r.set 2 (.sc (.int .i64 l[i].a))).modify i fun r => r.set 3 (.sc (.int .i64 l[i].b))).modify i fun r => r.set 4 (.sl 9 1 (l[i].names.map sC))).modify i (fun r => r.set 5 (.sl 44 3 (l[i].vals.map V.cs))) = part [.sc (.int .i64 0), .sc (.string zs), .sc (.int .i64 0), .sc (.int .i64 0), .sc (.slice none 0 0), .sc (.slice none 0 0)] Cl.ow l (i + 1) := by
      rw [List.modify_modify_eq, List.modify_modify_eq, List.modify_modify_eq, List.modify_modify_eq, List.modify_modify_eq]
      exact part_next hlt rfl
    repeat' (first
      | (refine WPL.detSt 20 20 900001 [] 0 4 ?_ ?_; (focus (simp; done)); refine fun K hK => ?_; simp -implicitDefEqProofs +contextual [-Int.not_le, -Int.not_lt, -Nat.not_le, -Nat.not_lt, -List.all_eq_true, -List.all_eq_false, -List.any_eq_true, -List.any_eq_false, Cl.cs, Cl.av, hlt, hl, hge, Cl.ow]; (repeat1' (first | apply hK | apply And.intro | intro _)) <;> clear hK K)
      | (refine WPL.rnToSt tok 20 _ (by simp [isFn]; rfl) fun K hK => ?_; simp -implicitDefEqProofs +contextual [-Int.not_le, -Int.not_lt, -Nat.not_le, -Nat.not_lt, -List.all_eq_true, -List.all_eq_false, -List.any_eq_true, -List.any_eq_false, Cl.cs, Cl.av, hlt, hl, hge, Cl.ow]; (repeat1' (first | apply hK | apply And.intro | intro _)) <;> clear hK K <;> (try dsimp only [List.drop]))
      | (refine WPL.detSt 20 20 900002 [] 0 5 ?_ ?_; (focus (simp; done)); refine fun K hK => ?_; simp -implicitDefEqProofs +contextual [-Int.not_le, -Int.not_lt, -Nat.not_le, -Nat.not_lt, -List.all_eq_true, -List.all_eq_false, -List.any_eq_true, -List.any_eq_false, Cl.cs, Cl.av, hlt, hl, hge, Cl.ow]; (repeat1' (first | apply hK | apply And.intro | intro _)) <;> clear hK K)
      | apply WPc.sq
      | apply WPc.block
      | apply WPc.skip
      | refine WPL.nil ?_
      | (apply WPL.cU (c_laws_toCell ⟨_, _, _, _, _, _⟩ ?g1 ?g2); (case q => (repeat' (first | refine And.intro ?_ ?_ | intro _ | exact cleanOut_nil | (refine Eqv.mk ?_; first | rfl | (simp -implicitDefEqProofs [Cl.cs, Cl.av, hlt, hl, hge, Cl.ow]; done)) | (simp -implicitDefEqProofs [Cl.cs, Cl.av, hlt, hl, hge, Cl.ow]; done) | (simp -implicitDefEqProofs [Cl.cs, Cl.av, hlt, hl, hge, Cl.ow]; rfl) | (simp; done) | (simp; rfl) | rfl))); (case g1 => (first | assumption | (exact hr1) | (exact hr2) | omega)); (case g2 => (first | assumption | (exact hr1) | (exact hr2) | omega)))
      | ((first | refine WPc.rq tok rfl fun K hK => ?_ | refine WPL.rn tok _ (by simp [ahead, isFn]; rfl) fun K hK => ?_); simp -implicitDefEqProofs +contextual [-Int.not_le, -Int.not_lt, -Nat.not_le, -Nat.not_lt, -List.all_eq_true, -List.all_eq_false, -List.any_eq_true, -List.any_eq_false, Cl.cs, Cl.av, hlt, hl, hge, Cl.ow]; (repeat1' (first | apply hK | apply And.intro | intro _)) <;> clear hK K <;> (try dsimp only [List.drop]))
      | (refine WPc.region ?_; simp only [List.toList_toArray])
      | (refine WPc.condT ?_ ?_; (focus (simp; done))))
    refine ⟨i + 1, ⟨hlt, by first | omega | (simp only; omega) | assumption⟩, rfl, rfl, ?_, ?_⟩ <;> simp (disch := omega) [wrap64, hn]
  · obtain rfl : i = l.length := by omega
    repeat' (first
      | apply WPc.sq
      | (refine WPc.ret (endP.own [(7, heapR l)] (.inr rfl) rfl rfl (by simp; rfl) ?_ ?_ (by simp)))
      | apply WPc.exit
      | (refine WPc.rq tok rfl fun K hK => ?_; simp -implicitDefEqProofs +contextual [-Int.not_le, -Int.not_lt, -Nat.not_le, -Nat.not_lt, -List.all_eq_true, -List.all_eq_false, -List.any_eq_true, -List.any_eq_false]; (repeat1' (first | apply hK | apply And.intro | intro _)) <;> clear hK K <;> (try dsimp only [List.drop]))
      | (refine WPc.condF ?_ ?_; (focus (simp; done))))
    · simp [part_all, heapR]
    · exact ⟨rfl, rfl⟩
end Go.Own
set_option maxRecDepth 1000000
set_option maxHeartbeats 4000000
namespace Go.Own
attribute [local irreducible] WPc WPL WPS WPS1 WPS2 HAny endP
variable [Laid]
open Go.Lib Go.RowKit
theorem c_laws_toLink (c : Lk) : Con PP 220 [c.av] [] [] (fun r o => r = c.av) := by
  refine Con.of tok (nt := 14) Go.Proofs.Tryz.func220 (by kernel_rfl) rfl rfl rfl (Nat.le_of_ble_eq_true rfl) fun G => ?_
  simp only [entSt, tmOf, List.append_nil, List.cons_append, List.nil_append, Lk.av]
  refine go (L := _ ∧ True) wb0 wb0 wb0 wb0 wb0 ⟨fun _ => ?_, wb0⟩
  rfl
theorem c_laws_toLinkS (l : List Lk) (h1 : l.length ≤ 1000000000) : Con PP 169 [.fz (l.map Lk.cs)] [] [] (fun r o => r = .sl 7 3 [] 0 l.length ∧ o = [(7, 223, 3, l.map Lk.cs)]) := by
  have hb1 : (40 : Int) * (l.length : Int) ≤ 281474976710656 := by omega
  have hb2 : (l.length : Int) ≤ 9223372036854775807 := by omega
  refine Con.of tok (nt := 23) Go.Proofs.Tryz.func169 (by kernel_rfl) rfl rfl rfl (Nat.le_of_ble_eq_true rfl) fun G => ?_
  simp only [entSt, tmOf, List.append_nil, List.cons_append, List.nil_append]
  refine go (L := _ ∧ True) (wa2 @hb1 @hb2) wb0 wb0 wb0 wb0 ⟨fun _ => ?_, wb0⟩
  refine WPc.loopV (σ := Nat) (fun i => i ≤ l.length) (fun i => l.length - i) (fun i => [(4, .sc (.int .i64 i))]) (fun i => [(7, 223, 3, part [.sc (.string zs), .sc (.int .i64 0), .sc (.string zs)] Lk.cs l i)]) [0, 3] 0 (by simp [part_zero]) (by simp [part_zero]) (by simp) ?_
  rintro i hi s hs
  simp at hs
  subst hs
  by_cases hlt : i < l.length
  · have hl := part_len (z := [.sc (.string zs), .sc (.int .i64 0), .sc (.string zs)]) (f := Lk.cs) hi
    have hge := part_ge (z := [.sc (.string zs), .sc (.int .i64 0), .sc (.string zs)]) (f := Lk.cs) hlt
    have hn : (((part [.sc (.string zs), .sc (.int .i64 0), .sc (.string zs)] Lk.cs l i).modify i (fun r => r.set 0 (.sc (.string l[i].name)))).modify i (fun r => r.set 1 (.sc (.int .i64 l[i].inst)))).modify i (fun r => r.set 2 (.sc (.string l[i].tgt))) = part [.sc (.string zs), .sc (.int .i64 0), .sc (.string zs)] Lk.cs l (i + 1) := by
      rw [List.modify_modify_eq, List.modify_modify_eq]
      exact part_next hlt rfl
    refine go (L := _ ∧ True) (wa6 @Lk.cs.eq_1 @Lk.av.eq_1 @hlt @hl @hge @Lk.cs.eq_1) (wb1 (fun v0 v1 v2 (_ : True) => c_laws_toLink ⟨v0, v1, v2⟩)) wb0 wb0 wb0 ⟨fun _ => ?_, wb0⟩
    refine ⟨i + 1, ⟨hlt, by first | omega | (simp only; omega) | assumption⟩, rfl, rfl, ?_, ?_⟩ <;> simp (disch := omega) [wrap64, hn]
  · obtain rfl : i = l.length := by omega
    refine gox (L := _ ∧ _ ∧ True) wb0 wb0 wb0 wb0 (wb1 (outO [(7, 223, 3, l.map Lk.cs)])) ⟨fun _ => ?_, fun _ => ?_, wb0⟩
    · simp [part_all]
    · exact ⟨rfl, rfl⟩
theorem c_laws_toType (c : Ty) : Con PP 221 [c.av] [] [] (fun r o => r = c.av) := by
  refine Con.of tok (nt := 11) Go.Proofs.Tryz.func221 (by kernel_rfl) rfl rfl rfl (Nat.le_of_ble_eq_true rfl) fun G => ?_
  simp only [entSt, tmOf, List.append_nil, List.cons_append, List.nil_append, Ty.av]
  refine go (L := _ ∧ True) wb0 wb0 wb0 wb0 wb0 ⟨fun _ => ?_, wb0⟩
  rfl
theorem c_laws_toTypeS (l : List Ty) (h1 : l.length ≤ 1000000000) : Con PP 170 [.fz (l.map Ty.cs)] [] [] (fun r o => r = .sl 7 2 [] 0 l.length ∧ o = [(7, 208, 2, l.map Ty.cs)]) := by
  have hb1 : (24 : Int) * (l.length : Int) ≤ 281474976710656 := by omega
  have hb2 : (l.length : Int) ≤ 9223372036854775807 := by omega
  refine Con.of tok (nt := 23) Go.Proofs.Tryz.func170 (by kernel_rfl) rfl rfl rfl (Nat.le_of_ble_eq_true rfl) fun G => ?_
  simp only [entSt, tmOf, List.append_nil, List.cons_append, List.nil_append]
  refine go (L := _ ∧ True) (wa2 @hb1 @hb2) wb0 wb0 wb0 wb0 ⟨fun _ => ?_, wb0⟩
  refine WPc.loopV (σ := Nat) (fun i => i ≤ l.length) (fun i => l.length - i) (fun i => [(4, .sc (.int .i64 i))]) (fun i => [(7, 208, 2, part [.sc (.string zs), .sc (.int .i64 0)] Ty.cs l i)]) [0, 3] 0 (by simp [part_zero]) (by simp [part_zero]) (by simp) ?_
  rintro i hi s hs
  simp at hs
  subst hs
  by_cases hlt : i < l.length
  · have hl := part_len (z := [.sc (.string zs), .sc (.int .i64 0)]) (f := Ty.cs) hi
    have hge := part_ge (z := [.sc (.string zs), .sc (.int .i64 0)]) (f := Ty.cs) hlt
    have hn : ((part [.sc (.string zs), .sc (.int .i64 0)] Ty.cs l i).modify i (fun r => r.set 0 (.sc (.string l[i].name)))).modify i (fun r => r.set 1 (.sc (.int .i64 l[i].size))) = part [.sc (.string zs), .sc (.int .i64 0)] Ty.cs l (i + 1) := by
      rw [List.modify_modify_eq]
      exact part_next hlt rfl
    refine go (L := _ ∧ True) (wa6 @Ty.cs.eq_1 @Ty.av.eq_1 @hlt @hl @hge @Ty.cs.eq_1) (wb1 (fun v0 v1 (_ : True) => c_laws_toType ⟨v0, v1⟩)) wb0 wb0 wb0 ⟨fun _ => ?_, wb0⟩
    refine ⟨i + 1, ⟨hlt, by first | omega | (simp only; omega) | assumption⟩, rfl, rfl, ?_, ?_⟩ <;> simp (disch := omega) [wrap64, hn]
  · obtain rfl : i = l.length := by omega
    refine gox (L := _ ∧ _ ∧ True) wb0 wb0 wb0 wb0 (wb1 (outO [(7, 208, 2, l.map Ty.cs)])) ⟨fun _ => ?_, fun _ => ?_, wb0⟩
    · simp [part_all]
    · exact ⟨rfl, rfl⟩
theorem c_laws_toInst (c : In) (h2 : c.rm) : Con PP 102 [c.av] [] [] (fun r o => r = .agg [.sc (.string c.lib), .sc (.int .i64 c.ver), .sl 2 1 [(0, 2)] 0 c.names.length, .sl 2 3 [(0, 3)] 0 c.vals.length, .sl 2 3 [(0, 4)] 0 c.links.length, .sl 2 2 [(0, 5)] 0 c.types.length] ∧ o = [(2, 114, 6, [c.ow])]) := by
  have mnames := h2.names
  have mvals := h2.vals
  have mlinks := h2.links
  have mtypes := h2.types
  refine Con.of tok (nt := 27) Go.Proofs.Tryz.func102 (by kernel_rfl) rfl rfl rfl (Nat.le_of_ble_eq_true rfl) fun G => ?_
  simp only [entSt, tmOf, List.append_nil, List.cons_append, List.nil_append, In.av]
  refine gox (L := _ ∧ _ ∧ True) wb0 wb0 (wb4 (fun v0 (h : _) => c_laws_toStringS v0 h) (fun v0 (h : _) => c_laws_toValueS v0 h) (fun v0 (h : _) => c_laws_toLinkS v0 h) (fun v0 (h : _) => c_laws_toTypeS v0 h)) wb0 (wb5 (outO [(2, 114, 6, [c.ow])]) (nm 1 [26, 3, 900001, 0, 2]) (nm 1 [26, 3, 900002, 0, 3]) (nm 1 [26, 3, 900003, 0, 4]) (nm 1 [26, 3, 900004, 0, 5])) ⟨fun _ => ?_, fun _ => ?_, wb0⟩
  · simp [In.ow]
  · exact ⟨rfl, rfl⟩
theorem c_laws_toInstS (l : List In) (h1 : l.length ≤ 1000000000) (h2 : ∀ c, c ∈ l → c.rm) : Con PP 48 [.fz (l.map In.cs)] [] [] (fun r o => r = .sl 7 6 [] 0 l.length ∧ o = [(7, 114, 6, l.map In.ow)]) := by
  have hb1 : (120 : Int) * (l.length : Int) ≤ 281474976710656 := by omega
  have hb2 : (l.length : Int) ≤ 9223372036854775807 := by omega
  refine Con.of tok (nt := 23) Go.Proofs.Tryz.func48 (by kernel_rfl) rfl rfl rfl (Nat.le_of_ble_eq_true rfl) fun G => ?_
  simp only [entSt, tmOf, List.append_nil, List.cons_append, List.nil_append]
  refine go (L := _ ∧ True) (wa2 @hb1 @hb2) wb0 wb0 wb0 wb0 ⟨fun _ => ?_, wb0⟩
  refine WPc.loopV (σ := Nat) (fun i => i ≤ l.length) (fun i => l.length - i) (fun i => [(4, .sc (.int .i64 i))]) (fun i => [(7, 114, 6, part [.sc (.string zs), .sc (.int .i64 0), .sc (.slice none 0 0), .sc (.slice none 0 0), .sc (.slice none 0 0), .sc (.slice none 0 0)] In.ow l i)]) [0, 3] 0 (by simp [part_zero]) (by simp [part_zero]) (by simp) ?_
  rintro i hi s hs
  simp at hs
  subst hs
  by_cases hlt : i < l.length
  · have hr := h2 _ (List.getElem_mem hlt)
    have hl := part_len (z := [.sc (.string zs), .sc (.int .i64 0), .sc (.slice none 0 0), .sc (.slice none 0 0), .sc (.slice none 0 0), .sc (.slice none 0 0)]) (f := In.ow) hi
    have hge := part_ge (z := [.sc (.string zs), .sc (.int .i64 0), .sc (.slice none 0 0), .sc (.slice none 0 0), .sc (.slice none 0 0), .sc (.slice none 0 0)]) (f := In.ow) hlt
    have hn : ((((((part [.sc (.string zs), .sc (.int .i64 0), .sc (.slice none 0 0), .sc (.slice none 0 0), .sc (.slice none 0 0), .sc (.slice none 0 0)] In.ow l i).modify i (fun r => r.set 0 (.sc (.string l[i].lib)))).modify i (fun r => r.set 1 (.sc (.int .i64 l[i].ver)))).modify i (fun r => r.set 2 (.sl 9 1 (l[i].names.map sC)))).modify i (fun r => r.set 3 (.sl 44 3 (l[i].vals.map V.cs)))).modify i (fun r => r.set 4 (.sl 223 3 (l[i].links.map Lk.cs)))).modify i (fun r => r.set 5 (.sl 208 2 (l[i].types.map Ty.cs))) = part [.sc (.string zs), .sc (.int .i64 0), .sc (.slice none 0 0), .sc (.slice none 0 0), .sc (.slice none 0 0), .sc (.slice none 0 0)] In.ow l (i + 1) := by
      rw [List.modify_modify_eq, List.modify_modify_eq, List.modify_modify_eq, List.modify_modify_eq, List.modify_modify_eq]
      exact part_next hlt rfl
    refine gox (L := _ ∧ True) (wa6 @In.cs.eq_1 @In.av.eq_1 @hlt @hl @hge @In.ow.eq_1) wb0 (wb1 (fun v0 v1 v2 v3 v4 v5 (h : _) => c_laws_toInst ⟨v0, v1, v2, v3, v4, v5⟩ h)) wb0 (wb5 wb0 (nm 1 [20, 20, 900001, 0, 2]) (nm 1 [20, 20, 900002, 0, 3]) (nm 1 [20, 20, 900003, 0, 4]) (nm 1 [20, 20, 900004, 0, 5])) ⟨fun _ => ?_, wb0⟩
    refine ⟨i + 1, ⟨hlt, by first | omega | (simp only; omega) | assumption⟩, rfl, rfl, ?_, ?_⟩ <;> simp (disch := omega) [wrap64, hn]
  · obtain rfl : i = l.length := by omega
    refine gox (L := _ ∧ _ ∧ True) wb0 wb0 wb0 wb0 (wb1 (outO [(7, 114, 6, l.map In.ow)])) ⟨fun _ => ?_, fun _ => ?_, wb0⟩
    · simp [part_all]
    · exact ⟨rfl, rfl⟩
theorem c_laws_toUnit (c : Un) (h2 : c.rm) : Con PP 103 [c.av] [] [] (fun r o => r = .agg [.sc (.int .i64 c.home), .sl 2 5 [(0, 1)] 0 c.prog.nodes.length, .sc (.int .i64 c.prog.root)] ∧ o = [(2, 168, 3, [c.ow])]) := by
  have mprog := h2.prog
  have mprognodes := mprog.nodes
  have mprognodes1 := mprog.nodes1
  have u_prog := c_laws_toProg c.prog mprognodes mprognodes1
  simp only [Pg.av] at u_prog
  refine Con.of tok (nt := 12) Go.Proofs.Tryz.func103 (by kernel_rfl) rfl rfl rfl (Nat.le_of_ble_eq_true rfl) fun G => ?_
  simp only [entSt, tmOf, List.append_nil, List.cons_append, List.nil_append, Un.av]
  refine gox (L := _ ∧ _ ∧ True) (wa1 @progB.eq_1) wb0 (wb1 (fun _ => u_prog)) wb0 (wb3 (outO [(2, 168, 3, [c.ow])]) (nm 1 [9, 9, 900001, 0, 0]) (nm 1 [11, 3, 900002, 0, 1])) ⟨fun _ => ?_, fun _ => ?_, wb0⟩
  · simp [Un.ow]
  · exact ⟨rfl, rfl⟩
theorem c_laws_toUnitS (l : List Un) (h1 : l.length ≤ 1000000000) (h2 : ∀ c, c ∈ l → c.rm) : Con PP 49 [.fz (l.map Un.cs)] [] [] (fun r o => r = .sl 7 3 [] 0 l.length ∧ o = [(7, 168, 3, l.map Un.ow)]) := by
  have hb1 : (40 : Int) * (l.length : Int) ≤ 281474976710656 := by omega
  have hb2 : (l.length : Int) ≤ 9223372036854775807 := by omega
  refine Con.of tok (nt := 23) Go.Proofs.Tryz.func49 (by kernel_rfl) rfl rfl rfl (Nat.le_of_ble_eq_true rfl) fun G => ?_
  simp only [entSt, tmOf, List.append_nil, List.cons_append, List.nil_append]
  refine go (L := _ ∧ True) (wa2 @hb1 @hb2) wb0 wb0 wb0 wb0 ⟨fun _ => ?_, wb0⟩
  refine WPc.loopV (σ := Nat) (fun i => i ≤ l.length) (fun i => l.length - i) (fun i => [(4, .sc (.int .i64 i))]) (fun i => [(7, 168, 3, part [.sc (.int .i64 0), .sc (.slice none 0 0), .sc (.int .i64 0)] Un.ow l i)]) [0, 3] 0 (by simp [part_zero]) (by simp [part_zero]) (by simp) ?_
  rintro i hi s hs
  simp at hs
  subst hs
  by_cases hlt : i < l.length
  · have hr := h2 _ (List.getElem_mem hlt)
    have hl := part_len (z := [.sc (.int .i64 0), .sc (.slice none 0 0), .sc (.int .i64 0)]) (f := Un.ow) hi
    have hge := part_ge (z := [.sc (.int .i64 0), .sc (.slice none 0 0), .sc (.int .i64 0)]) (f := Un.ow) hlt
    have hn : (((part [.sc (.int .i64 0), .sc (.slice none 0 0), .sc (.int .i64 0)] Un.ow l i).modify i (fun r => r.set 0 (.sc (.int .i64 l[i].home)))).modify i (fun r => r.set 1 (.sl 174 5 (l[i].prog.nodes.map Nd.ow)))).modify i (fun r => r.set 2 (.sc (.int .i64 l[i].prog.root))) = part [.sc (.int .i64 0), .sc (.slice none 0 0), .sc (.int .i64 0)] Un.ow l (i + 1) := by
      rw [List.modify_modify_eq, List.modify_modify_eq]
      exact part_next hlt rfl
    refine gox (L := _ ∧ True) (wa6 @Un.cs.eq_1 @Un.av.eq_1 @hlt @hl @hge @Un.ow.eq_1) wb0 (wb1 (fun v0 v1 (h : _) => c_laws_toUnit ⟨v0, v1⟩ h)) wb0 (wb2 wb0 (nm 1 [20, 20, 900001, 0, 1])) ⟨fun _ => ?_, wb0⟩
    refine ⟨i + 1, ⟨hlt, by first | omega | (simp only; omega) | assumption⟩, rfl, rfl, ?_, ?_⟩ <;> simp (disch := omega) [wrap64, hn]
  · obtain rfl : i = l.length := by omega
    refine gox (L := _ ∧ _ ∧ True) wb0 wb0 wb0 wb0 (wb1 (outO [(7, 168, 3, l.map Un.ow)])) ⟨fun _ => ?_, fun _ => ?_, wb0⟩
    · simp [part_all]
    · exact ⟨rfl, rfl⟩
theorem c_laws_toSys (c : Sy) (h2 : c.rm) : Con PP 12 [c.av] [] [] (fun r o => r = .agg [.sl 2 6 [(0, 0)] 0 c.heap.length, .sl 2 6 [(0, 1)] 0 c.insts.length, .sl 2 3 [(0, 2)] 0 c.units.length, .sl 2 1 [(0, 3)] 0 c.out.length] ∧ o = [(2, 41, 4, [c.ow])]) := by
  have mheap := h2.heap
  have mheap1 := h2.heap1
  have minsts := h2.insts
  have minsts1 := h2.insts1
  have munits := h2.units
  have munits1 := h2.units1
  have mout := h2.out
  refine Con.of tok (nt := 21) Go.Proofs.Tryz.func12 (by kernel_rfl) rfl rfl rfl (Nat.le_of_ble_eq_true rfl) fun G => ?_
  simp only [entSt, tmOf, List.append_nil, List.cons_append, List.nil_append, Sy.av]
  refine gox (L := _ ∧ _ ∧ True) (wa1 @heapR.eq_1) wb0 (wb4 (fun v0 (h : _ ∧ _) => c_laws_toCellS v0 h.1 h.2) (fun v0 (h : _ ∧ _) => c_laws_toInstS v0 h.1 h.2) (fun v0 (h : _ ∧ _) => c_laws_toUnitS v0 h.1 h.2) (fun v0 (h : _) => c_laws_toStringS v0 h)) wb0 (wb5 (outO [(2, 41, 4, [c.ow])]) (nm 1 [20, 3, 900001, 0, 0]) (nm 1 [20, 3, 900002, 0, 1]) (nm 1 [20, 3, 900003, 0, 2]) (nm 1 [20, 3, 900004, 0, 3])) ⟨fun _ => ?_, fun _ => ?_, wb0⟩
  · simp [Sy.ow]
  · exact ⟨rfl, rfl⟩
theorem c_laws_toBind (c : Bd) : Con PP 104 [c.av] [] [] (fun r o => r = c.av) := by
  have u_val := c_laws_toValue c.val
  simp only [V.av] at u_val
  refine Con.of tok (nt := 12) Go.Proofs.Tryz.func104 (by kernel_rfl) rfl rfl rfl (Nat.le_of_ble_eq_true rfl) fun G => ?_
  simp only [entSt, tmOf, List.append_nil, List.cons_append, List.nil_append, Bd.av]
  refine go (L := _ ∧ True) wb0 (wb1 (fun _ => u_val)) wb0 wb0 wb0 ⟨fun _ => ?_, wb0⟩
  rfl
theorem c_laws_toBindS (l : List Bd) (h1 : l.length ≤ 1000000000) : Con PP 51 [.fz (l.map Bd.cs)] [] [] (fun r o => r = .sl 7 4 [] 0 l.length ∧ o = [(7, 177, 4, l.map Bd.cs)]) := by
  have hb1 : (48 : Int) * (l.length : Int) ≤ 281474976710656 := by omega
  have hb2 : (l.length : Int) ≤ 9223372036854775807 := by omega
  refine Con.of tok (nt := 23) Go.Proofs.Tryz.func51 (by kernel_rfl) rfl rfl rfl (Nat.le_of_ble_eq_true rfl) fun G => ?_
  simp only [entSt, tmOf, List.append_nil, List.cons_append, List.nil_append]
  refine go (L := _ ∧ True) (wa2 @hb1 @hb2) wb0 wb0 wb0 wb0 ⟨fun _ => ?_, wb0⟩
  refine WPc.loopV (σ := Nat) (fun i => i ≤ l.length) (fun i => l.length - i) (fun i => [(4, .sc (.int .i64 i))]) (fun i => [(7, 177, 4, part [.sc (.string zs), .sc (.int .i64 0), .sc (.int .i64 0), .sc (.string zs)] Bd.cs l i)]) [0, 3] 0 (by simp [part_zero]) (by simp [part_zero]) (by simp) ?_
  rintro i hi s hs
  simp at hs
  subst hs
  by_cases hlt : i < l.length
  · have hl := part_len (z := [.sc (.string zs), .sc (.int .i64 0), .sc (.int .i64 0), .sc (.string zs)]) (f := Bd.cs) hi
    have hge := part_ge (z := [.sc (.string zs), .sc (.int .i64 0), .sc (.int .i64 0), .sc (.string zs)]) (f := Bd.cs) hlt
    have hn : ((((part [.sc (.string zs), .sc (.int .i64 0), .sc (.int .i64 0), .sc (.string zs)] Bd.cs l i).modify i (fun r => r.set 0 (.sc (.string l[i].name)))).modify i (fun r => r.set 1 (.sc (.int .i64 l[i].val.k)))).modify i (fun r => r.set 2 (.sc (.int .i64 l[i].val.n)))).modify i (fun r => r.set 3 (.sc (.string l[i].val.s))) = part [.sc (.string zs), .sc (.int .i64 0), .sc (.int .i64 0), .sc (.string zs)] Bd.cs l (i + 1) := by
      rw [List.modify_modify_eq, List.modify_modify_eq, List.modify_modify_eq]
      exact part_next hlt rfl
    refine go (L := _ ∧ True) (wa6 @Bd.cs.eq_1 @Bd.av.eq_1 @hlt @hl @hge @Bd.cs.eq_1) (wb1 (fun v0 v1 (_ : True) => c_laws_toBind ⟨v0, v1⟩)) wb0 wb0 wb0 ⟨fun _ => ?_, wb0⟩
    refine ⟨i + 1, ⟨hlt, by first | omega | (simp only; omega) | assumption⟩, rfl, rfl, ?_, ?_⟩ <;> simp (disch := omega) [wrap64, hn]
  · obtain rfl : i = l.length := by omega
    refine gox (L := _ ∧ _ ∧ True) wb0 wb0 wb0 wb0 (wb1 (outO [(7, 177, 4, l.map Bd.cs)])) ⟨fun _ => ?_, fun _ => ?_, wb0⟩
    · simp [part_all]
    · exact ⟨rfl, rfl⟩
theorem c_laws_toFrame (c : Fm) (h2 : c.rm) : Con PP 105 [c.av] [] [] (fun r o => r = .agg [.sc (.int .i64 c.unit), .sc (.int .i64 c.node), .sl 2 3 [(0, 2)] 0 c.vals.length, .sl 2 4 [(0, 3)] 0 c.env.length] ∧ o = [(2, 86, 4, [c.ow])]) := by
  have mvals := h2.vals
  have menv := h2.env
  refine Con.of tok (nt := 19) Go.Proofs.Tryz.func105 (by kernel_rfl) rfl rfl rfl (Nat.le_of_ble_eq_true rfl) fun G => ?_
  simp only [entSt, tmOf, List.append_nil, List.cons_append, List.nil_append, Fm.av]
  refine gox (L := _ ∧ _ ∧ True) wb0 wb0 (wb2 (fun v0 (h : _) => c_laws_toValueS v0 h) (fun v0 (h : _) => c_laws_toBindS v0 h)) wb0 (wb3 (outO [(2, 86, 4, [c.ow])]) (nm 1 [18, 3, 900001, 0, 2]) (nm 1 [18, 3, 900002, 0, 3])) ⟨fun _ => ?_, fun _ => ?_, wb0⟩
  · simp [Fm.ow]
  · exact ⟨rfl, rfl⟩
theorem c_laws_toFrameS (l : List Fm) (h1 : l.length ≤ 1000000000) (h2 : ∀ c, c ∈ l → c.rm) : Con PP 53 [.fz (l.map Fm.cs)] [] [] (fun r o => r = .sl 7 4 [] 0 l.length ∧ o = [(7, 86, 4, l.map Fm.ow)]) := by
  have hb1 : (64 : Int) * (l.length : Int) ≤ 281474976710656 := by omega
  have hb2 : (l.length : Int) ≤ 9223372036854775807 := by omega
  refine Con.of tok (nt := 23) Go.Proofs.Tryz.func53 (by kernel_rfl) rfl rfl rfl (Nat.le_of_ble_eq_true rfl) fun G => ?_
  simp only [entSt, tmOf, List.append_nil, List.cons_append, List.nil_append]
  refine go (L := _ ∧ True) (wa2 @hb1 @hb2) wb0 wb0 wb0 wb0 ⟨fun _ => ?_, wb0⟩
  refine WPc.loopV (σ := Nat) (fun i => i ≤ l.length) (fun i => l.length - i) (fun i => [(4, .sc (.int .i64 i))]) (fun i => [(7, 86, 4, part [.sc (.int .i64 0), .sc (.int .i64 0), .sc (.slice none 0 0), .sc (.slice none 0 0)] Fm.ow l i)]) [0, 3] 0 (by simp [part_zero]) (by simp [part_zero]) (by simp) ?_
  rintro i hi s hs
  simp at hs
  subst hs
  by_cases hlt : i < l.length
  · have hr := h2 _ (List.getElem_mem hlt)
    have hl := part_len (z := [.sc (.int .i64 0), .sc (.int .i64 0), .sc (.slice none 0 0), .sc (.slice none 0 0)]) (f := Fm.ow) hi
    have hge := part_ge (z := [.sc (.int .i64 0), .sc (.int .i64 0), .sc (.slice none 0 0), .sc (.slice none 0 0)]) (f := Fm.ow) hlt
    have hn : ((((part [.sc (.int .i64 0), .sc (.int .i64 0), .sc (.slice none 0 0), .sc (.slice none 0 0)] Fm.ow l i).modify i (fun r => r.set 0 (.sc (.int .i64 l[i].unit)))).modify i (fun r => r.set 1 (.sc (.int .i64 l[i].node)))).modify i (fun r => r.set 2 (.sl 44 3 (l[i].vals.map V.cs)))).modify i (fun r => r.set 3 (.sl 177 4 (l[i].env.map Bd.cs))) = part [.sc (.int .i64 0), .sc (.int .i64 0), .sc (.slice none 0 0), .sc (.slice none 0 0)] Fm.ow l (i + 1) := by
      rw [List.modify_modify_eq, List.modify_modify_eq, List.modify_modify_eq]
      exact part_next hlt rfl
    refine gox (L := _ ∧ True) (wa6 @Fm.cs.eq_1 @Fm.av.eq_1 @hlt @hl @hge @Fm.ow.eq_1) wb0 (wb1 (fun v0 v1 v2 v3 (h : _) => c_laws_toFrame ⟨v0, v1, v2, v3⟩ h)) wb0 (wb3 wb0 (nm 1 [20, 20, 900001, 0, 2]) (nm 1 [20, 20, 900002, 0, 3])) ⟨fun _ => ?_, wb0⟩
    refine ⟨i + 1, ⟨hlt, by first | omega | (simp only; omega) | assumption⟩, rfl, rfl, ?_, ?_⟩ <;> simp (disch := omega) [wrap64, hn]
  · obtain rfl : i = l.length := by omega
    refine gox (L := _ ∧ _ ∧ True) wb0 wb0 wb0 wb0 (wb1 (outO [(7, 86, 4, l.map Fm.ow)])) ⟨fun _ => ?_, fun _ => ?_, wb0⟩
    · simp [part_all]
    · exact ⟨rfl, rfl⟩
theorem c_laws_toMachine (c : Mc) (h2 : c.rm) : Con PP 13 [c.av] [] [] (fun r o => r = .agg [.sc (.int .i64 c.mode), .sc (.int .i64 c.unit), .sc (.int .i64 c.node), .sl 2 4 [(0, 3)] 0 c.env.length, .sc (.int .i64 c.val.k), .sc (.int .i64 c.val.n), .sc (.string c.val.s), .sl 2 4 [(0, 7)] 0 c.stack.length, .sc (.int .i64 c.fin)] ∧ o = [(2, 47, 9, [c.ow])]) := by
  have menv := h2.env
  have mstack := h2.stack
  have mstack1 := h2.stack1
  have u_val := c_laws_toValue c.val
  simp only [V.av] at u_val
  refine Con.of tok (nt := 29) Go.Proofs.Tryz.func13 (by kernel_rfl) rfl rfl rfl (Nat.le_of_ble_eq_true rfl) fun G => ?_
  simp only [entSt, tmOf, List.append_nil, List.cons_append, List.nil_append, Mc.av]
  refine gox (L := _ ∧ _ ∧ True) wb0 (wb1 (fun _ => u_val)) (wb2 (fun v0 (h : _) => c_laws_toBindS v0 h) (fun v0 (h : _ ∧ _) => c_laws_toFrameS v0 h.1 h.2)) wb0 (wb3 (outO [(2, 47, 9, [c.ow])]) (nm 1 [28, 3, 900001, 0, 3]) (nm 1 [28, 3, 900002, 0, 7])) ⟨fun _ => ?_, fun _ => ?_, wb0⟩
  · simp [Mc.ow]
  · exact ⟨rfl, rfl⟩
end Go.Own
set_option maxRecDepth 1000000
set_option maxHeartbeats 4000000
namespace Go.Own
attribute [local irreducible] WPc WPL WPS WPS1 WPS2 HAny endP
variable [Laid]
open Go.Lib Go.RowKit
theorem c_laws_eqLink (c : Lk) : Con PP 228 [c.av, c.av] [] [] (fun r o => r = .sc (.bool true)) := by
  refine Con.of tok (nt := 20) Go.Proofs.Tryz.func228 (by kernel_rfl) rfl rfl rfl (Nat.le_of_ble_eq_true rfl) fun G => ?_
  simp only [entSt, tmOf, List.append_nil, List.cons_append, List.nil_append, Lk.av]
  refine go (L := _ ∧ True) wb0 wb0 wb0 wb0 wb0 ⟨fun _ => ?_, wb0⟩
  all_goals rfl
theorem c_laws_eqLinkS (l : List Lk) : Con PP 184 [.fz (l.map Lk.cs), .fz (l.map Lk.cs)] [] [] (fun r o => r = .sc (.bool true)) := by
  refine Con.lenOf 0 Go.Proofs.Tryz.func184 (by kernel_rfl) (by kernel_rfl) rfl fun hlen => ?_
  simp at hlen
  refine Con.of tok (nt := 27) Go.Proofs.Tryz.func184 (by kernel_rfl) rfl rfl rfl (Nat.le_of_ble_eq_true rfl) fun G => ?_
  simp only [entSt, tmOf, List.append_nil, List.cons_append, List.nil_append]
  refine go (L := _ ∧ True) wb0 wb0 wb0 wb0 wb0 ⟨fun _ => ?_, wb0⟩
  refine WPc.loopK (σ := Nat) (fun i => i ≤ l.length) (fun i => l.length - i) (fun i => [(5, .sc (.int .i64 i))])  [0, 1] 0 (by simp) (by simp) (by simp) ?_
  rintro i hi s hs
  simp at hs
  subst hs
  by_cases hlt : i < l.length
  · refine go (L := _ ∧ True) (wa3 @Lk.cs.eq_1 @Lk.av.eq_1 @hlt) (wb1 (fun v0 v1 v2 (_ : True) => c_laws_eqLink ⟨v0, v1, v2⟩)) wb0 wb0 (wb2 wb0 (sch 6 [] [(0, []), (1, []), (2, []), (3, []), (4, []), (5, []), (6, []), (7, []), (8, []), (9, [])])) ⟨fun _ => ?_, wb0⟩
    all_goals
      refine ⟨i + 1, ⟨hlt, by first | omega | (simp only; omega) | assumption⟩, rfl, rfl, ?_, ?_⟩ <;> simp (disch := omega) [wrap64]
  · refine go (L := _ ∧ True) (wa1 @hlt) wb0 wb0 wb0 wb0 ⟨fun _ => ?_, wb0⟩
    all_goals rfl
theorem c_laws_eqType (c : Ty) : Con PP 229 [c.av, c.av] [] [] (fun r o => r = .sc (.bool true)) := by
  refine Con.of tok (nt := 15) Go.Proofs.Tryz.func229 (by kernel_rfl) rfl rfl rfl (Nat.le_of_ble_eq_true rfl) fun G => ?_
  simp only [entSt, tmOf, List.append_nil, List.cons_append, List.nil_append, Ty.av]
  refine go (L := _ ∧ True) wb0 wb0 wb0 wb0 wb0 ⟨fun _ => ?_, wb0⟩
  all_goals rfl
theorem c_laws_eqTypeS (l : List Ty) : Con PP 185 [.fz (l.map Ty.cs), .fz (l.map Ty.cs)] [] [] (fun r o => r = .sc (.bool true)) := by
  refine Con.lenOf 0 Go.Proofs.Tryz.func185 (by kernel_rfl) (by kernel_rfl) rfl fun hlen => ?_
  simp at hlen
  refine Con.of tok (nt := 27) Go.Proofs.Tryz.func185 (by kernel_rfl) rfl rfl rfl (Nat.le_of_ble_eq_true rfl) fun G => ?_
  simp only [entSt, tmOf, List.append_nil, List.cons_append, List.nil_append]
  refine go (L := _ ∧ True) wb0 wb0 wb0 wb0 wb0 ⟨fun _ => ?_, wb0⟩
  refine WPc.loopK (σ := Nat) (fun i => i ≤ l.length) (fun i => l.length - i) (fun i => [(5, .sc (.int .i64 i))])  [0, 1] 0 (by simp) (by simp) (by simp) ?_
  rintro i hi s hs
  simp at hs
  subst hs
  by_cases hlt : i < l.length
  · refine go (L := _ ∧ True) (wa3 @Ty.cs.eq_1 @Ty.av.eq_1 @hlt) (wb1 (fun v0 v1 (_ : True) => c_laws_eqType ⟨v0, v1⟩)) wb0 wb0 (wb2 wb0 (sch 6 [] [(0, []), (1, []), (2, []), (3, []), (4, []), (5, []), (6, []), (7, []), (8, []), (9, [])])) ⟨fun _ => ?_, wb0⟩
    all_goals
      refine ⟨i + 1, ⟨hlt, by first | omega | (simp only; omega) | assumption⟩, rfl, rfl, ?_, ?_⟩ <;> simp (disch := omega) [wrap64]
  · refine go (L := _ ∧ True) (wa1 @hlt) wb0 wb0 wb0 wb0 ⟨fun _ => ?_, wb0⟩
    all_goals rfl
theorem c_laws_eqInst (c : In) : Con PP 115 [c.av, c.av] [] [] (fun r o => r = .sc (.bool true)) := by
  refine Con.of tok (nt := 39) Go.Proofs.Tryz.func115 (by kernel_rfl) rfl rfl rfl (Nat.le_of_ble_eq_true rfl) fun G => ?_
  simp only [entSt, tmOf, List.append_nil, List.cons_append, List.nil_append, In.av]
  refine go (L := _ ∧ True) wb0 (wb4 (fun v0 (_ : True) => c_laws_eqStringS v0) (fun v0 (_ : True) => c_laws_eqValueS v0) (fun v0 (_ : True) => c_laws_eqLinkS v0) (fun v0 (_ : True) => c_laws_eqTypeS v0)) wb0 wb0 wb0 ⟨fun _ => ?_, wb0⟩
  all_goals rfl
theorem c_laws_eqInstS (l : List In) : Con PP 57 [.fz (l.map In.cs), .fz (l.map In.cs)] [] [] (fun r o => r = .sc (.bool true)) := by
  refine Con.lenOf 0 Go.Proofs.Tryz.func57 (by kernel_rfl) (by kernel_rfl) rfl fun hlen => ?_
  simp at hlen
  refine Con.of tok (nt := 27) Go.Proofs.Tryz.func57 (by kernel_rfl) rfl rfl rfl (Nat.le_of_ble_eq_true rfl) fun G => ?_
  simp only [entSt, tmOf, List.append_nil, List.cons_append, List.nil_append]
  refine go (L := _ ∧ True) wb0 wb0 wb0 wb0 wb0 ⟨fun _ => ?_, wb0⟩
  refine WPc.loopK (σ := Nat) (fun i => i ≤ l.length) (fun i => l.length - i) (fun i => [(5, .sc (.int .i64 i))])  [0, 1] 0 (by simp) (by simp) (by simp) ?_
  rintro i hi s hs
  simp at hs
  subst hs
  by_cases hlt : i < l.length
  · refine go (L := _ ∧ True) (wa3 @In.cs.eq_1 @In.av.eq_1 @hlt) (wb1 (fun v0 v1 v2 v3 v4 v5 (_ : True) => c_laws_eqInst ⟨v0, v1, v2, v3, v4, v5⟩)) wb0 wb0 (wb2 wb0 (sch 6 [] [(0, []), (1, []), (2, []), (3, []), (4, []), (5, []), (6, []), (7, []), (8, []), (9, [])])) ⟨fun _ => ?_, wb0⟩
    all_goals
      refine ⟨i + 1, ⟨hlt, by first | omega | (simp only; omega) | assumption⟩, rfl, rfl, ?_, ?_⟩ <;> simp (disch := omega) [wrap64]
  · refine go (L := _ ∧ True) (wa1 @hlt) wb0 wb0 wb0 wb0 ⟨fun _ => ?_, wb0⟩
    all_goals rfl
theorem c_laws_eqUnit (c : Un) : Con PP 116 [c.av, c.av] [] [] (fun r o => r = .sc (.bool true)) := by
  refine Con.of tok (nt := 16) Go.Proofs.Tryz.func116 (by kernel_rfl) rfl rfl rfl (Nat.le_of_ble_eq_true rfl) fun G => ?_
  simp only [entSt, tmOf, List.append_nil, List.cons_append, List.nil_append, Un.av]
  refine go (L := _ ∧ True) wb0 (wb1 (fun v0 v1 (_ : True) => c_laws_eqProg ⟨v0, v1⟩)) wb0 wb0 wb0 ⟨fun _ => ?_, wb0⟩
  all_goals rfl
theorem c_laws_eqUnitS (l : List Un) : Con PP 58 [.fz (l.map Un.cs), .fz (l.map Un.cs)] [] [] (fun r o => r = .sc (.bool true)) := by
  refine Con.lenOf 0 Go.Proofs.Tryz.func58 (by kernel_rfl) (by kernel_rfl) rfl fun hlen => ?_
  simp at hlen
  refine Con.of tok (nt := 27) Go.Proofs.Tryz.func58 (by kernel_rfl) rfl rfl rfl (Nat.le_of_ble_eq_true rfl) fun G => ?_
  simp only [entSt, tmOf, List.append_nil, List.cons_append, List.nil_append]
  refine go (L := _ ∧ True) wb0 wb0 wb0 wb0 wb0 ⟨fun _ => ?_, wb0⟩
  refine WPc.loopK (σ := Nat) (fun i => i ≤ l.length) (fun i => l.length - i) (fun i => [(5, .sc (.int .i64 i))])  [0, 1] 0 (by simp) (by simp) (by simp) ?_
  rintro i hi s hs
  simp at hs
  subst hs
  by_cases hlt : i < l.length
  · refine go (L := _ ∧ True) (wa3 @Un.cs.eq_1 @Un.av.eq_1 @hlt) (wb1 (fun v0 v1 (_ : True) => c_laws_eqUnit ⟨v0, v1⟩)) wb0 wb0 (wb2 wb0 (sch 6 [] [(0, []), (1, []), (2, []), (3, []), (4, []), (5, []), (6, []), (7, []), (8, []), (9, [])])) ⟨fun _ => ?_, wb0⟩
    all_goals
      refine ⟨i + 1, ⟨hlt, by first | omega | (simp only; omega) | assumption⟩, rfl, rfl, ?_, ?_⟩ <;> simp (disch := omega) [wrap64]
  · refine go (L := _ ∧ True) (wa1 @hlt) wb0 wb0 wb0 wb0 ⟨fun _ => ?_, wb0⟩
    all_goals rfl
theorem c_laws_eqSys (c : Sy) : Con PP 15 [c.av, c.av] [] [] (fun r o => r = .sc (.bool true)) := by
  refine Con.of tok (nt := 29) Go.Proofs.Tryz.func15 (by kernel_rfl) rfl rfl rfl (Nat.le_of_ble_eq_true rfl) fun G => ?_
  simp only [entSt, tmOf, List.append_nil, List.cons_append, List.nil_append, Sy.av]
  refine go (L := _ ∧ True) wb0 (wb4 (fun v0 (_ : True) => c_laws_eqCellS v0) (fun v0 (_ : True) => c_laws_eqInstS v0) (fun v0 (_ : True) => c_laws_eqUnitS v0) (fun v0 (_ : True) => c_laws_eqStringS v0)) wb0 wb0 wb0 ⟨fun _ => ?_, wb0⟩
  all_goals rfl
theorem c_laws_eqBind (c : Bd) : Con PP 117 [c.av, c.av] [] [] (fun r o => r = .sc (.bool true)) := by
  refine Con.of tok (nt := 16) Go.Proofs.Tryz.func117 (by kernel_rfl) rfl rfl rfl (Nat.le_of_ble_eq_true rfl) fun G => ?_
  simp only [entSt, tmOf, List.append_nil, List.cons_append, List.nil_append, Bd.av]
  refine go (L := _ ∧ True) wb0 (wb1 (fun v0 v1 v2 (_ : True) => c_laws_eqValue ⟨v0, v1, v2⟩)) wb0 wb0 wb0 ⟨fun _ => ?_, wb0⟩
  all_goals rfl
theorem c_laws_eqBindS (l : List Bd) : Con PP 59 [.fz (l.map Bd.cs), .fz (l.map Bd.cs)] [] [] (fun r o => r = .sc (.bool true)) := by
  refine Con.lenOf 0 Go.Proofs.Tryz.func59 (by kernel_rfl) (by kernel_rfl) rfl fun hlen => ?_
  simp at hlen
  refine Con.of tok (nt := 27) Go.Proofs.Tryz.func59 (by kernel_rfl) rfl rfl rfl (Nat.le_of_ble_eq_true rfl) fun G => ?_
  simp only [entSt, tmOf, List.append_nil, List.cons_append, List.nil_append]
  refine go (L := _ ∧ True) wb0 wb0 wb0 wb0 wb0 ⟨fun _ => ?_, wb0⟩
  refine WPc.loopK (σ := Nat) (fun i => i ≤ l.length) (fun i => l.length - i) (fun i => [(5, .sc (.int .i64 i))])  [0, 1] 0 (by simp) (by simp) (by simp) ?_
  rintro i hi s hs
  simp at hs
  subst hs
  by_cases hlt : i < l.length
  · refine go (L := _ ∧ True) (wa3 @Bd.cs.eq_1 @Bd.av.eq_1 @hlt) (wb1 (fun v0 v1 (_ : True) => c_laws_eqBind ⟨v0, v1⟩)) wb0 wb0 (wb2 wb0 (sch 6 [] [(0, []), (1, []), (2, []), (3, []), (4, []), (5, []), (6, []), (7, []), (8, []), (9, [])])) ⟨fun _ => ?_, wb0⟩
    all_goals
      refine ⟨i + 1, ⟨hlt, by first | omega | (simp only; omega) | assumption⟩, rfl, rfl, ?_, ?_⟩ <;> simp (disch := omega) [wrap64]
  · refine go (L := _ ∧ True) (wa1 @hlt) wb0 wb0 wb0 wb0 ⟨fun _ => ?_, wb0⟩
    all_goals rfl
theorem c_laws_eqFrame (c : Fm) : Con PP 118 [c.av, c.av] [] [] (fun r o => r = .sc (.bool true)) := by
  refine Con.of tok (nt := 27) Go.Proofs.Tryz.func118 (by kernel_rfl) rfl rfl rfl (Nat.le_of_ble_eq_true rfl) fun G => ?_
  simp only [entSt, tmOf, List.append_nil, List.cons_append, List.nil_append, Fm.av]
  refine go (L := _ ∧ True) wb0 (wb2 (fun v0 (_ : True) => c_laws_eqValueS v0) (fun v0 (_ : True) => c_laws_eqBindS v0)) wb0 wb0 wb0 ⟨fun _ => ?_, wb0⟩
  all_goals rfl
theorem c_laws_eqFrameS (l : List Fm) : Con PP 61 [.fz (l.map Fm.cs), .fz (l.map Fm.cs)] [] [] (fun r o => r = .sc (.bool true)) := by
  refine Con.lenOf 0 Go.Proofs.Tryz.func61 (by kernel_rfl) (by kernel_rfl) rfl fun hlen => ?_
  simp at hlen
  refine Con.of tok (nt := 27) Go.Proofs.Tryz.func61 (by kernel_rfl) rfl rfl rfl (Nat.le_of_ble_eq_true rfl) fun G => ?_
  simp only [entSt, tmOf, List.append_nil, List.cons_append, List.nil_append]
  refine go (L := _ ∧ True) wb0 wb0 wb0 wb0 wb0 ⟨fun _ => ?_, wb0⟩
  refine WPc.loopK (σ := Nat) (fun i => i ≤ l.length) (fun i => l.length - i) (fun i => [(5, .sc (.int .i64 i))])  [0, 1] 0 (by simp) (by simp) (by simp) ?_
  rintro i hi s hs
  simp at hs
  subst hs
  by_cases hlt : i < l.length
  · refine go (L := _ ∧ True) (wa3 @Fm.cs.eq_1 @Fm.av.eq_1 @hlt) (wb1 (fun v0 v1 v2 v3 (_ : True) => c_laws_eqFrame ⟨v0, v1, v2, v3⟩)) wb0 wb0 (wb2 wb0 (sch 6 [] [(0, []), (1, []), (2, []), (3, []), (4, []), (5, []), (6, []), (7, []), (8, []), (9, [])])) ⟨fun _ => ?_, wb0⟩
    all_goals
      refine ⟨i + 1, ⟨hlt, by first | omega | (simp only; omega) | assumption⟩, rfl, rfl, ?_, ?_⟩ <;> simp (disch := omega) [wrap64]
  · refine go (L := _ ∧ True) (wa1 @hlt) wb0 wb0 wb0 wb0 ⟨fun _ => ?_, wb0⟩
    all_goals rfl
theorem c_laws_eqMachine (c : Mc) : Con PP 16 [c.av, c.av] [] [] (fun r o => r = .sc (.bool true)) := by
  refine Con.of tok (nt := 43) Go.Proofs.Tryz.func16 (by kernel_rfl) rfl rfl rfl (Nat.le_of_ble_eq_true rfl) fun G => ?_
  simp only [entSt, tmOf, List.append_nil, List.cons_append, List.nil_append, Mc.av]
  refine go (L := _ ∧ True) wb0 (wb3 (fun v0 (_ : True) => c_laws_eqBindS v0) (fun v0 v1 v2 (_ : True) => c_laws_eqValue ⟨v0, v1, v2⟩) (fun v0 (_ : True) => c_laws_eqFrameS v0)) wb0 wb0 wb0 ⟨fun _ => ?_, wb0⟩
  all_goals rfl
end Go.Own
set_option maxRecDepth 100000
namespace Go.Own
variable [Laid]
open Go.Lib Go.RowKit
def allI {α : Type} (l : List α) (f : Nat → α → Bool) : Bool := (List.range l.length).all fun k => match l[k]? with
  | some x => f k x
  | none => true
theorem allI_iff {α : Type} {l : List α} {f : Nat → α → Bool} : allI l f = true ↔ ∀ k, (h : k < l.length) → f k l[k] = true := by
  unfold allI
  rw [List.all_eq_true]
  constructor
  · intro h k hk
    have := h k (List.mem_range.2 hk)
    simpa [List.getElem?_eq_getElem hk] using this
  · intro h k hk
    have hk := List.mem_range.1 hk
    simpa [List.getElem?_eq_getElem hk] using h k hk
theorem all_get {α : Type} {l : List α} {f : α → Bool} : l.all f = allI l fun _ x => f x := by
  rw [Bool.eq_iff_iff, allI_iff, List.all_eq_true]
  constructor
  · intro h k hk; exact h _ (List.getElem_mem hk)
  · intro h x hx
    obtain ⟨k, hk, rfl⟩ := List.mem_iff_getElem.1 hx
    exact h k hk
theorem allI_and {α : Type} {l : List α} {f g : Nat → α → Bool} : (allI l f && allI l g) = allI l fun k x => f k x && g k x := by
  rw [Bool.eq_iff_iff, Bool.and_eq_true, allI_iff, allI_iff, allI_iff]
  constructor
  · intro h k hk; rw [h.1 k hk, h.2 k hk]; rfl
  · intro h
    exact ⟨fun k hk => by have := h k hk; rw [Bool.and_eq_true] at this; exact this.1, fun k hk => by have := h k hk; rw [Bool.and_eq_true] at this; exact this.2⟩
theorem allI_map {α β : Type} {l : List α} {g : α → β} {f : Nat → β → Bool} : allI (l.map g) f = allI l fun k x => f k (g x) := by
  rw [Bool.eq_iff_iff, allI_iff, allI_iff]
  constructor
  · intro h k hk; have := h k (by simpa using hk); simpa using this
  · intro h k hk; have := h k (by simpa using hk); simpa using this
theorem namesOk_allI (l : List ByteArray) (m : Int) : namesOk l m = (decide ((l.length : Int) ≤ m) && allI l fun k s => isName s && !isW (l.take k) s) := by
  rw [namesOk, Bool.and_comm]
  congr 1
  unfold allI
  congr 1
  funext k
  unfold okName
  cases l[k]? <;> rfl
theorem isW_app (a b : List ByteArray) (s : ByteArray) : isW (a ++ b) s = (isW a s || isW b s) := by simp [isW, List.any_append]
def tyOk (l : List Ty) : Bool := l.all (fun t => inRange t.size 0 8) && namesOk (l.map Ty.name) 8
def tyS (l : List Ty) (k : Nat) (t : Ty) : Bool := isName t.name && !isW ((l.take k).map Ty.name) t.name && inRange t.size 0 8
theorem tyOk_eq (l : List Ty) : tyOk l = (decide ((l.length : Int) ≤ 8) && allI l (tyS l)) := by
  rw [tyOk, namesOk_allI, all_get, allI_map, Bool.and_left_comm, List.length_map, allI_and]
  congr 2
  funext k t
  rw [tyS, List.map_take]
  cases isName t.name <;> cases isW (List.take k (l.map Ty.name)) t.name <;> cases inRange t.size 0 8 <;> rfl
def lkGood (n : Nat) (names : List ByteArray) (l : Lk) : Bool := !isW names l.name && (inRange l.inst 0 ((n : Int) - 1) && isName l.tgt)
def lksOk (n : Nat) (x : In) : Bool := x.links.all (lkGood n x.names) && namesOk (x.links.map Lk.name) 30
def lkS (n : Nat) (x : In) (k : Nat) (l : Lk) : Bool := isName l.name && !isW (x.names ++ (x.links.take k).map Lk.name) l.name && inRange l.inst 0 ((n : Int) - 1) && isName l.tgt
theorem lksOk_eq (n : Nat) (x : In) : lksOk n x = (decide ((x.links.length : Int) ≤ 30) && allI x.links (lkS n x)) := by
  rw [lksOk, namesOk_allI, all_get, allI_map, Bool.and_left_comm, List.length_map, allI_and]
  congr 2
  funext k l
  rw [lkS, lkGood, isW_app, List.map_take]
  cases isName l.name <;> cases isW x.names l.name <;> cases isW (List.take k (x.links.map Lk.name)) l.name <;> cases inRange l.inst 0 ((n : Int) - 1) <;> cases isName l.tgt <;> rfl
def vOk0 (h : List Cl) (v : V) : Bool := decide (v = noV) || valueOk h v
def headOk (i : Nat) (x : In) : Bool := if i = 0 then decide (x.lib = zs) && decide (x.ver = 0) else isName x.lib && inRange x.ver 1 1000
def inOk (y : Sy) (i : Nat) (x : In) : Bool := headOk i x && (x.vals.all (vOk0 y.heap) && (namesOk x.names 30 && (decide (x.vals.length = x.names.length) && (lksOk y.insts.length x && tyOk x.types))))
def ndZ : Nd := ⟨0, 0, zs, [], []⟩
def nodeAt (y : Sy) (u n : Int) : Option Nd := (y.units[u.toNat]?).bind fun t => t.prog.nodes[n.toNat]?
def isNode (y : Sy) (u n : Int) : Bool := decide (0 ≤ u) && decide (0 ≤ n) && (nodeAt y u n).isSome
def isLam (y : Sy) (u n : Int) : Bool := isNode y u n && (match nodeAt y u n with
  | some c => decide (c.k = 7)
  | none => false)
def unOk (y : Sy) (u : Un) : Bool := inRange u.home 0 ((y.insts.length : Int) - 1) && progOk u.prog
def celOk (y : Sy) (c : Cl) : Bool := decide (c.k ≠ 2) || isLam y c.a c.b
def sysOk (y : Sy) : Bool := inRange y.insts.length 1 12 && (decide (y.units.length ≤ 60) && (decide (y.out.length ≤ 40) && (heapOk y.heap && (allI y.insts (inOk y) && (y.units.all (unOk y) && y.heap.all (celOk y))))))
def envOk (y : Sy) (e : List Bd) : Bool := e.all fun b => isName b.name && valueOk y.heap b.val
def fmOk (y : Sy) (f : Fm) : Bool := isNode y f.unit f.node && (f.vals.all (valueOk y.heap) && (envOk y f.env && (match nodeAt y f.unit f.node with
  | some c => if c.k = 6 ∨ c.k = 10 then decide (f.vals.length = 0) else if c.k = 8 ∨ c.k = 9 ∨ c.k = 11 then decide (f.vals.length < c.args.length) else false
  | none => false)))
def mcOk (y : Sy) (m : Mc) : Bool := inRange m.mode 1 3 && (inRange m.fin 0 7 && (isNode y m.unit m.node && (decide (m.stack.length ≤ 120) && (envOk y m.env && (m.stack.all (fmOk y) &&
  (if m.mode = 1 then decide (m.val = noV) else if m.mode = 2 then valueOk y.heap m.val else vOk0 y.heap m.val))))))
def machOk (y : Sy) (m : Mc) : Bool := sysOk y && mcOk y m
end Go.Own
set_option maxRecDepth 1000000
set_option maxHeartbeats 4000000
namespace Go.Own
attribute [local irreducible] WPc WPL WPS WPS1 WPS2 HAny endP
variable [Laid]
open Go.Lib Go.RowKit
theorem msum {α : Type} {f : α → Nat} {l : List α} {x : α} (h : x ∈ l) : f x ≤ (l.map f).sum := by
  induction l with
  | nil => cases h
  | cons y l ih =>
    simp only [List.map_cons, List.sum_cons]
    rcases List.mem_cons.1 h with rfl | h
    · omega
    · have := ih h; omega
theorem smallS {l : List ByteArray} (h : costS l ≤ 1048576) : (∀ x, x ∈ l → x.size < 4294967000) ∧ l.length ≤ 1000000000 := by
  unfold costS at h
  exact ⟨fun x hx => by have := msum (f := ByteArray.size) hx; omega, by omega⟩
theorem smallVs {l : List V} (h : costV l ≤ 1048576) : (∀ x, x ∈ l → x.sm) ∧ l.length ≤ 1000000000 := by
  unfold costV at h
  exact ⟨fun x hx => by have := msum (f := fun v : V => v.s.size) hx; unfold V.sm; omega, by omega⟩
theorem smallC {c : Cl} (h : costC c ≤ 1048576) : c.sm ∧ c.rm := by
  unfold costC at h
  have q_names := smallS (l := c.names) (by omega)
  have q_vals := smallVs (l := c.vals) (by omega)
  exact ⟨⟨by omega, q_names.1, q_vals.1⟩, ⟨q_names.2, q_vals.2⟩⟩
theorem smallH {l : List Cl} (h : costH l ≤ 1048576) : (∀ c, c ∈ l → c.sm) ∧ (∀ c, c ∈ l → c.rm) ∧ l.length ≤ 1000000000 := by
  have hm : ∀ c, c ∈ l → costC c ≤ 1048576 := fun c hc => by have := msum (f := costC) hc; unfold costH at h; omega
  exact ⟨fun c hc => (smallC (hm c hc)).1, fun c hc => (smallC (hm c hc)).2, by unfold costH at h; omega⟩
theorem smallN {c : Nd} (h : costN c ≤ 1048576) : c.sm ∧ c.rm := by
  unfold costN at h
  have q_names := smallS (l := c.names) (by omega)
  exact ⟨⟨by omega, q_names.1⟩, ⟨q_names.2, by omega⟩⟩
theorem smallPg {p : Pg} (h : costP p.nodes ≤ 1048576) : (∀ c, c ∈ p.nodes → c.sm) ∧ p.rm := by
  have hm : ∀ c, c ∈ p.nodes → costN c ≤ 1048576 := fun c hc => by have := msum (f := costN) hc; unfold costP at h; omega
  exact ⟨fun c hc => (smallN (hm c hc)).1, ⟨by unfold costP at h; omega, fun c hc => (smallN (hm c hc)).2⟩⟩
structure Lk.sm (c : Lk) : Prop where
  name : c.name.size < 4294967000
  tgt : c.tgt.size < 4294967000
structure Ty.sm (c : Ty) : Prop where
  name : c.name.size < 4294967000
structure In.sm (c : In) : Prop where
  lib : c.lib.size < 4294967000
  names : ∀ x, x ∈ c.names → x.size < 4294967000
  vals : ∀ x, x ∈ c.vals → x.sm
  links : ∀ x, x ∈ c.links → x.sm
  types : ∀ x, x ∈ c.types → x.sm
structure Un.sm (c : Un) : Prop where
  prog : ∀ x, x ∈ c.prog.nodes → x.sm
structure Sy.sm (c : Sy) : Prop where
  heap : ∀ x, x ∈ c.heap → x.sm
  insts : ∀ x, x ∈ c.insts → x.sm
  units : ∀ x, x ∈ c.units → x.sm
  out : ∀ x, x ∈ c.out → x.size < 4294967000
structure Bd.sm (c : Bd) : Prop where
  name : c.name.size < 4294967000
  val : c.val.sm
structure Fm.sm (c : Fm) : Prop where
  vals : ∀ x, x ∈ c.vals → x.sm
  env : ∀ x, x ∈ c.env → x.sm
structure Mc.sm (c : Mc) : Prop where
  env : ∀ x, x ∈ c.env → x.sm
  val : c.val.sm
  stack : ∀ x, x ∈ c.stack → x.sm
structure Df.sm (c : Df) : Prop where
  name : c.name.size < 4294967000
  prog : ∀ x, x ∈ c.prog.nodes → x.sm
structure Sr.sm (c : Sr) : Prop where
  name : c.name.size < 4294967000
  imports : ∀ x, x ∈ c.imports → x.size < 4294967000
  exports : ∀ x, x ∈ c.exports → x.size < 4294967000
  types : ∀ x, x ∈ c.types → x.sm
  defs : ∀ x, x ∈ c.defs → x.sm
  convs : ∀ x, x ∈ c.convs → x.sm
structure En.sm (c : En) : Prop where
  src : c.src.sm
structure Tk.sm (c : Tk) : Prop where
  mac : c.mac.sm
structure Wd.sm (c : Wd) : Prop where
  sys : c.sys.sm
  libs : ∀ x, x ∈ c.libs → x.sm
  tasks : ∀ x, x ∈ c.tasks → x.sm
theorem costLk_eq (c : Lk) : costLk c = c.name.size + c.tgt.size := rfl
theorem smallLk {c : Lk} (h : costLk c ≤ 1048576) : c.sm := by
  rw [costLk_eq] at h
  have s_name : c.name.size < 4294967000 := by omega
  have s_tgt : c.tgt.size < 4294967000 := by omega
  exact ⟨s_name, s_tgt⟩
theorem smallLkS {l : List Lk} (h : costLkS l ≤ 1048576) : (∀ c, c ∈ l → c.sm) ∧ l.length ≤ 1000000000 := by
  have hm : ∀ c, c ∈ l → costLk c ≤ 1048576 := fun c hc => by have := msum (f := costLk) hc; unfold costLkS at h; omega
  exact ⟨fun c hc => smallLk (hm c hc), by unfold costLkS at h; omega⟩
theorem costTy_eq (c : Ty) : costTy c = c.name.size := rfl
theorem smallTy {c : Ty} (h : costTy c ≤ 1048576) : c.sm := by
  rw [costTy_eq] at h
  have s_name : c.name.size < 4294967000 := by omega
  exact ⟨s_name⟩
theorem smallTyS {l : List Ty} (h : costTyS l ≤ 1048576) : (∀ c, c ∈ l → c.sm) ∧ l.length ≤ 1000000000 := by
  have hm : ∀ c, c ∈ l → costTy c ≤ 1048576 := fun c hc => by have := msum (f := costTy) hc; unfold costTyS at h; omega
  exact ⟨fun c hc => smallTy (hm c hc), by unfold costTyS at h; omega⟩
theorem costIn_eq (c : In) : costIn c = c.lib.size + costS c.names + costV c.vals + costLkS c.links + costTyS c.types := rfl
theorem smallIn {c : In} (h : costIn c ≤ 1048576) : c.sm ∧ c.rm := by
  rw [costIn_eq] at h
  have s_lib : c.lib.size < 4294967000 := by omega
  have q_names := smallS (l := c.names) (by omega)
  have q_vals := smallVs (l := c.vals) (by omega)
  have q_links := smallLkS (l := c.links) (by omega)
  have q_types := smallTyS (l := c.types) (by omega)
  exact ⟨⟨s_lib, q_names.1, q_vals.1, q_links.1, q_types.1⟩, ⟨q_names.2, q_vals.2, q_links.2, q_types.2⟩⟩
theorem smallInS {l : List In} (h : costInS l ≤ 1048576) : (∀ c, c ∈ l → c.sm) ∧ (∀ c, c ∈ l → c.rm) ∧ l.length ≤ 1000000000 := by
  have hm : ∀ c, c ∈ l → costIn c ≤ 1048576 := fun c hc => by have := msum (f := costIn) hc; unfold costInS at h; omega
  exact ⟨fun c hc => (smallIn (hm c hc)).1, fun c hc => (smallIn (hm c hc)).2, by unfold costInS at h; omega⟩
theorem costUn_eq (c : Un) : costUn c = costP c.prog.nodes := rfl
theorem smallUn {c : Un} (h : costUn c ≤ 1048576) : c.sm ∧ c.rm := by
  rw [costUn_eq] at h
  have q_prog := smallPg (p := c.prog) (by omega)
  exact ⟨⟨q_prog.1⟩, ⟨q_prog.2⟩⟩
theorem smallUnS {l : List Un} (h : costUnS l ≤ 1048576) : (∀ c, c ∈ l → c.sm) ∧ (∀ c, c ∈ l → c.rm) ∧ l.length ≤ 1000000000 := by
  have hm : ∀ c, c ∈ l → costUn c ≤ 1048576 := fun c hc => by have := msum (f := costUn) hc; unfold costUnS at h; omega
  exact ⟨fun c hc => (smallUn (hm c hc)).1, fun c hc => (smallUn (hm c hc)).2, by unfold costUnS at h; omega⟩
theorem costSy_eq (c : Sy) : costSy c = costH c.heap + costInS c.insts + costUnS c.units + costS c.out := rfl
theorem smallSy {c : Sy} (h : costSy c ≤ 1048576) : c.sm ∧ c.rm := by
  rw [costSy_eq] at h
  have q_heap := smallH (l := c.heap) (by omega)
  have q_insts := smallInS (l := c.insts) (by omega)
  have q_units := smallUnS (l := c.units) (by omega)
  have q_out := smallS (l := c.out) (by omega)
  exact ⟨⟨q_heap.1, q_insts.1, q_units.1, q_out.1⟩, ⟨q_heap.2.2, q_heap.2.1, q_insts.2.2, q_insts.2.1, q_units.2.2, q_units.2.1, q_out.2⟩⟩
theorem costBd_eq (c : Bd) : costBd c = c.name.size + c.val.s.size := rfl
theorem smallBd {c : Bd} (h : costBd c ≤ 1048576) : c.sm := by
  rw [costBd_eq] at h
  have s_name : c.name.size < 4294967000 := by omega
  have s_val : c.val.sm := by unfold V.sm; omega
  exact ⟨s_name, s_val⟩
theorem smallBdS {l : List Bd} (h : costBdS l ≤ 1048576) : (∀ c, c ∈ l → c.sm) ∧ l.length ≤ 1000000000 := by
  have hm : ∀ c, c ∈ l → costBd c ≤ 1048576 := fun c hc => by have := msum (f := costBd) hc; unfold costBdS at h; omega
  exact ⟨fun c hc => smallBd (hm c hc), by unfold costBdS at h; omega⟩
theorem costFm_eq (c : Fm) : costFm c = costV c.vals + costBdS c.env := rfl
theorem smallFm {c : Fm} (h : costFm c ≤ 1048576) : c.sm ∧ c.rm := by
  rw [costFm_eq] at h
  have q_vals := smallVs (l := c.vals) (by omega)
  have q_env := smallBdS (l := c.env) (by omega)
  exact ⟨⟨q_vals.1, q_env.1⟩, ⟨q_vals.2, q_env.2⟩⟩
theorem smallFmS {l : List Fm} (h : costFmS l ≤ 1048576) : (∀ c, c ∈ l → c.sm) ∧ (∀ c, c ∈ l → c.rm) ∧ l.length ≤ 1000000000 := by
  have hm : ∀ c, c ∈ l → costFm c ≤ 1048576 := fun c hc => by have := msum (f := costFm) hc; unfold costFmS at h; omega
  exact ⟨fun c hc => (smallFm (hm c hc)).1, fun c hc => (smallFm (hm c hc)).2, by unfold costFmS at h; omega⟩
theorem costMc_eq (c : Mc) : costMc c = costBdS c.env + c.val.s.size + costFmS c.stack := rfl
theorem smallMc {c : Mc} (h : costMc c ≤ 1048576) : c.sm ∧ c.rm := by
  rw [costMc_eq] at h
  have q_env := smallBdS (l := c.env) (by omega)
  have s_val : c.val.sm := by unfold V.sm; omega
  have q_stack := smallFmS (l := c.stack) (by omega)
  exact ⟨⟨q_env.1, s_val, q_stack.1⟩, ⟨q_env.2, q_stack.2.2, q_stack.2.1⟩⟩
end Go.Own
set_option maxRecDepth 1000000
set_option maxHeartbeats 4000000
namespace Go.Own
attribute [local irreducible] WPc WPL WPS WPS1 WPS2 HAny endP
variable [Laid]
open Go.Lib Go.RowKit
theorem c_impl_ProgOk [F : Facts.Of] (p : Pg) (hs : ∀ c, c ∈ p.nodes → c.sm) (hr : ∀ c, c ∈ p.nodes → c.args.length ≤ 1000000000) : Con PP 108 [p.av] [] [] (fun r o => r = .sc (.bool (progOk p))) := by
  by_cases hN : inRange p.nodes.length 1 400 = true
  · have hN' := hN
    simp only [inRange, Bool.and_eq_true, decide_eq_true_eq] at hN'
    obtain ⟨n1, n2⟩ := hN'
    obtain ⟨m, hm⟩ : ∃ m, p.nodes.length = m + 1 := ⟨p.nodes.length - 1, by omega⟩
    have hw1 : IntKind.i64.wrap ((p.nodes.length : Int) - 1) = m := by rw [wrap64 (by omega) (by omega)]; omega
    by_cases hroot : p.root = (p.nodes.length : Int) - 1
    · have hroot' : (p.root = (m : Int)) = True := by simp only [eq_iff_iff, iff_true]; omega
      have hb1 : (8 : Int) * (p.nodes.length : Int) ≤ 281474976710656 := by omega
      have hb2 : (p.nodes.length : Int) ≤ 9223372036854775807 := by omega
      refine Con.of tok (nt := 77) Go.Proofs.Tryz.func108 (by kernel_rfl) rfl rfl rfl (Nat.le_of_ble_eq_true rfl) fun G => ?_
      simp only [entSt, tmOf, List.append_nil, List.cons_append, List.nil_append, Pg.av]
      repeat' (first
        | apply WPc.sq
        | apply WPc.block
        | apply WPc.skip
        | refine WPL.nil ?_
        | (apply WPL.cL (c_impl_inRange _ _ _); (case q => (repeat' (first | refine And.intro ?_ ?_ | intro _ | exact cleanOut_nil | (refine Eqv.mk ?_; first | rfl | (simp -implicitDefEqProofs [hN, hw1, hroot', hb1, hb2]; done)) | (simp -implicitDefEqProofs [hN, hw1, hroot', hb1, hb2]; done) | (simp -implicitDefEqProofs [hN, hw1, hroot', hb1, hb2]; rfl) | (simp; done) | (simp; rfl) | rfl))))
        | ((first | refine WPc.rq tok rfl fun K hK => ?_ | refine WPL.rn tok _ (by simp [ahead, isFn]; rfl) fun K hK => ?_); simp -implicitDefEqProofs +contextual [-Int.not_le, -Int.not_lt, -Nat.not_le, -Nat.not_lt, -List.all_eq_true, -List.all_eq_false, -List.any_eq_true, -List.any_eq_false, hN, hw1, hroot', hb1, hb2]; (repeat1' (first | apply hK | apply And.intro | intro _)) <;> clear hK K <;> (try dsimp only [List.drop]))
        | (refine WPc.region ?_; simp only [List.toList_toArray])
        | (refine WPc.condF ?_ ?_; (focus (simp; done))))
      refine WPc.loopV (σ := Nat) (fun i => i ≤ p.nodes.length ∧ (∀ j, j < i → okNode p.nodes j = true)) (fun i => p.nodes.length - i) (fun i => [(33, .sc (.int .i64 i))]) (fun i => [(29, 3, 1, (seenTo p.nodes i).map nC)]) [3, 4, 31, 32] 0 (by simp [seenTo_zero, nC]) (by simp [seenTo_zero, nC]) (by simp) ?_
      rintro i ⟨hi, hall⟩ s hs
      simp at hs
      subst hs
      by_cases hlt : i < p.nodes.length
      · have hz := hs _ (List.getElem_mem hlt)
        have hz' : Nd.sm ⟨p.nodes[i].k, p.nodes[i].n, p.nodes[i].s, p.nodes[i].names, p.nodes[i].args⟩ := hz
        have hra := hr _ (List.getElem_mem hlt)
        have ee : nodeOk ⟨p.nodes[i].k, p.nodes[i].n, p.nodes[i].s, p.nodes[i].names, p.nodes[i].args⟩ = nodeOk p.nodes[i] := rfl
        cases hno : nodeOk p.nodes[i] with
        | false =>
          rw [progOk_node hlt (by rw [okNode_eq hlt, hno]; rfl)]
          repeat' (first
            | apply WPc.sq
            | apply WPc.block
            | (refine WPc.ret (endP.val (.inr rfl) rfl rfl (by simp; rfl) ?_))
            | apply WPc.skip
            | refine WPL.nil ?_
            | (apply WPL.cL (c_impl_nodeOk ⟨_, _, _, _, _⟩ ?g1); (case q => (repeat' (first | refine And.intro ?_ ?_ | intro _ | exact cleanOut_nil | (refine Eqv.mk ?_; first | rfl | (simp -implicitDefEqProofs [Nd.cs, Nd.av, hlt, ee, hno]; done)) | (simp -implicitDefEqProofs [Nd.cs, Nd.av, hlt, ee, hno]; done) | (simp -implicitDefEqProofs [Nd.cs, Nd.av, hlt, ee, hno]; rfl) | (simp; done) | (simp; rfl) | rfl))); (case g1 => (first | assumption | omega)))
            | ((first | refine WPc.rq tok rfl fun K hK => ?_ | refine WPL.rn tok _ (by simp [ahead, isFn]; rfl) fun K hK => ?_); simp -implicitDefEqProofs +contextual [-Int.not_le, -Int.not_lt, -Nat.not_le, -Nat.not_lt, -List.all_eq_true, -List.all_eq_false, -List.any_eq_true, -List.any_eq_false, Nd.cs, Nd.av, hlt, ee, hno]; (repeat1' (first | apply hK | apply And.intro | intro _)) <;> clear hK K <;> (try dsimp only [List.drop]))
            | (refine WPc.region ?_; simp only [List.toList_toArray])
            | (refine WPc.condT ?_ ?_; (focus (simp; done))))
          all_goals rfl
        | true =>
          repeat' (first
            | apply WPc.sq
            | apply WPc.block
            | apply WPc.skip
            | refine WPL.nil ?_
            | (apply WPL.cL (c_impl_nodeOk ⟨_, _, _, _, _⟩ ?g1); (case q => (repeat' (first | refine And.intro ?_ ?_ | intro _ | exact cleanOut_nil | (refine Eqv.mk ?_; first | rfl | (simp -implicitDefEqProofs [Nd.cs, Nd.av, hlt, ee, hno]; done)) | (simp -implicitDefEqProofs [Nd.cs, Nd.av, hlt, ee, hno]; done) | (simp -implicitDefEqProofs [Nd.cs, Nd.av, hlt, ee, hno]; rfl) | (simp; done) | (simp; rfl) | rfl))); (case g1 => (first | assumption | omega)))
            | ((first | refine WPc.rq tok rfl fun K hK => ?_ | refine WPL.rn tok _ (by simp [ahead, isFn]; rfl) fun K hK => ?_); simp -implicitDefEqProofs +contextual [-Int.not_le, -Int.not_lt, -Nat.not_le, -Nat.not_lt, -List.all_eq_true, -List.all_eq_false, -List.any_eq_true, -List.any_eq_false, Nd.cs, Nd.av, hlt, ee, hno]; (repeat1' (first | apply hK | apply And.intro | intro _)) <;> clear hK K <;> (try dsimp only [List.drop]))
            | (refine WPc.region ?_; simp only [List.toList_toArray])
            | (refine WPc.condT ?_ ?_; (focus (simp; done)))
            | (refine WPc.condF ?_ ?_; (focus (simp; done))))
          refine WPc.loopV (σ := Nat) (fun k => k ≤ p.nodes[i].args.length ∧ (p.nodes[i].args.take k).all (fun a => inRange a 0 ((i : Int) - 1)) = true) (fun k => p.nodes[i].args.length - k) (fun k => [(44, .sc (.int .i64 k))]) (fun k => [(29, 3, 1, (bumps (seenTo p.nodes i) (p.nodes[i].args.take k)).map nC)]) [3, 4, 5, 31, 32, 33, 42, 43] 0 (by simp [bumps_zero, nC]) (by simp [bumps_zero, nC]) (by simp) ?_
          rintro k ⟨hk, hka⟩ s hs
          simp at hs
          subst hs
          by_cases hklt : k < p.nodes[i].args.length
          · have hv : p.nodes[i].args[k]? = some p.nodes[i].args[k] := List.getElem?_eq_getElem hklt
            have hwi : IntKind.i64.wrap ((i : Int) - 1) = i - 1 := wrap64 (by omega) (by omega)
            cases hin : inRange p.nodes[i].args[k] 0 ((i : Int) - 1) with
            | false =>
              rw [progOk_node hlt (by rw [okNode_eq hlt, argsOk, all_at hv hin, Bool.and_false])]
              repeat' (first
                | apply WPc.sq
                | apply WPc.block
                | (refine WPc.ret (endP.val (.inr rfl) rfl rfl (by simp; rfl) ?_))
                | apply WPc.skip
                | refine WPL.nil ?_
                | (apply WPL.cL (c_impl_inRange _ _ _); (case q => (repeat' (first | refine And.intro ?_ ?_ | intro _ | exact cleanOut_nil | (refine Eqv.mk ?_; first | rfl | (simp -implicitDefEqProofs [Nd.cs, nC, hklt, hwi, hin]; done)) | (simp -implicitDefEqProofs [Nd.cs, nC, hklt, hwi, hin]; done) | (simp -implicitDefEqProofs [Nd.cs, nC, hklt, hwi, hin]; rfl) | (simp; done) | (simp; rfl) | rfl))))
                | ((first | refine WPc.rq tok rfl fun K hK => ?_ | refine WPL.rn tok _ (by simp [ahead, isFn]; rfl) fun K hK => ?_); simp -implicitDefEqProofs +contextual [-Int.not_le, -Int.not_lt, -Nat.not_le, -Nat.not_lt, -List.all_eq_true, -List.all_eq_false, -List.any_eq_true, -List.any_eq_false, Nd.cs, nC, hklt, hwi, hin]; (repeat1' (first | apply hK | apply And.intro | intro _)) <;> clear hK K <;> (try dsimp only [List.drop]))
                | (refine WPc.region ?_; simp only [List.toList_toArray])
                | (refine WPc.condT ?_ ?_; (focus (simp; done))))
              all_goals rfl
            | true =>
              have hin' := hin
              simp only [inRange, Bool.and_eq_true, decide_eq_true_eq] at hin'
              obtain ⟨a0, a1⟩ := hin'
              have hbn := bnd_bumps (p.nodes[i].args.take k) (bnd_seen hr (show i ≤ 400 by omega))
              have hlen : (bumps (seenTo p.nodes i) (p.nodes[i].args.take k)).length = p.nodes.length := by simp
              have hnx := bumps_next (l := seenTo p.nodes i) hklt
              generalize bumps (seenTo p.nodes i) (p.nodes[i].args.take k) = L at *
              have a2 : p.nodes[i].args[k].toNat < L.length := by omega
              have a3 : p.nodes[i].args[k] < (L.length : Int) := by omega
              have a4 : p.nodes[i].args[k] < (p.nodes.length : Int) := by omega
              have a5 : p.nodes[i].args[k].toNat < p.nodes.length := by omega
              have hx := hbn _ (List.getElem_mem a2)
              have hwx : IntKind.i64.wrap (L[p.nodes[i].args[k].toNat] + 1) = L[p.nodes[i].args[k].toNat] + 1 := wrap64 (by omega) (by simp at hx; omega)
              have hmod := modify_nC a2
              repeat' (first
                | apply WPc.sq
                | apply WPc.block
                | apply WPc.skip
                | refine WPL.nil ?_
                | (apply WPL.cL (c_impl_inRange _ _ _); (case q => (repeat' (first | refine And.intro ?_ ?_ | intro _ | exact cleanOut_nil | (refine Eqv.mk ?_; first | rfl | (simp -implicitDefEqProofs [Nd.cs, nC, hklt, hwi, hin, a0, a2, a4, a5, hlen, hwx, hmod]; done)) | (simp -implicitDefEqProofs [Nd.cs, nC, hklt, hwi, hin, a0, a2, a4, a5, hlen, hwx, hmod]; done) | (simp -implicitDefEqProofs [Nd.cs, nC, hklt, hwi, hin, a0, a2, a4, a5, hlen, hwx, hmod]; rfl) | (simp; done) | (simp; rfl) | rfl))))
                | ((first | refine WPc.rq tok rfl fun K hK => ?_ | refine WPL.rn tok _ (by simp [ahead, isFn]; rfl) fun K hK => ?_); simp -implicitDefEqProofs +contextual [-Int.not_le, -Int.not_lt, -Nat.not_le, -Nat.not_lt, -List.all_eq_true, -List.all_eq_false, -List.any_eq_true, -List.any_eq_false, Nd.cs, nC, hklt, hwi, hin, a0, a2, a4, a5, hlen, hwx, hmod]; (repeat1' (first | apply hK | apply And.intro | intro _)) <;> clear hK K <;> (try dsimp only [List.drop]))
                | (refine WPc.region ?_; simp only [List.toList_toArray])
                | (refine WPc.condT ?_ ?_; (focus (simp; done)))
                | (refine WPc.condF ?_ ?_; (focus (simp; done))))
              refine ⟨k + 1, ⟨⟨hklt, all_next hv hin hka⟩, by first | omega | (simp only; omega) | assumption⟩, rfl, rfl, ?_, ?_⟩ <;> simp (disch := omega) [wrap64, hnx, hmod, bump, nC]
          · obtain rfl : k = p.nodes[i].args.length := by omega
            rw [List.take_length] at hka
            have hsn := seenTo_next hlt
            repeat' (first
              | apply WPc.sq
              | apply WPc.exit
              | (refine WPc.rq tok rfl fun K hK => ?_; simp -implicitDefEqProofs +contextual [-Int.not_le, -Int.not_lt, -Nat.not_le, -Nat.not_lt, -List.all_eq_true, -List.all_eq_false, -List.any_eq_true, -List.any_eq_false, hklt]; (repeat1' (first | apply hK | apply And.intro | intro _)) <;> clear hK K <;> (try dsimp only [List.drop]))
              | (refine WPc.condF ?_ ?_; (focus (simp; done))))
            have hok : okNode p.nodes i = true := by rw [okNode_eq hlt, hno, argsOk, hka]; rfl
            have hall2 : ∀ j, j < i + 1 → okNode p.nodes j = true := fun j hj => by
              rcases Nat.lt_succ_iff_lt_or_eq.1 hj with h | rfl
              · exact hall _ h
              · exact hok
            refine ⟨i + 1, ⟨⟨hlt, hall2⟩, by first | omega | (simp only; omega) | assumption⟩, rfl, rfl, ?_, ?_⟩ <;> simp (disch := omega) [wrap64, hsn, List.take_length]
      · obtain rfl : i = p.nodes.length := by omega
        have hlast := seen_last (show 0 < p.nodes.length by omega) hall p.nodes.length (Nat.le_refl _)
        have hlen : (seenTo p.nodes p.nodes.length).length = p.nodes.length := by simp
        have hno := fun (i : Nat) (hi : i < p.nodes.length - 1) (x : Int) => progOk_seen (p := p) hi (x := x)
        have hyes := progOk_yes (p := p) hN hroot hall
        generalize seenTo p.nodes p.nodes.length = S at *
        have hm1 : p.nodes.length - 1 = m := by omega
        rw [hm1] at hlast hyes
        have l0 : m < S.length := by omega
        have l1 : m ≤ p.nodes.length := by omega
        have l2 : (m : Int) ≤ (p.nodes.length : Int) := by omega
        have l3 : (m : Int) < (p.nodes.length : Int) := by omega
        have l4 : m < p.nodes.length := by omega
        have l5 : S[m] = 0 := by rw [List.getElem?_eq_getElem l0] at hlast; exact Option.some.inj hlast
        repeat' (first
          | apply WPc.sq
          | apply WPc.block
          | apply WPc.exit
          | (refine WPc.rq tok rfl fun K hK => ?_; simp -implicitDefEqProofs +contextual [-Int.not_le, -Int.not_lt, -Nat.not_le, -Nat.not_lt, -List.all_eq_true, -List.all_eq_false, -List.any_eq_true, -List.any_eq_false, l0, l1, l2, l3, l4, hlen]; (repeat1' (first | apply hK | apply And.intro | intro _)) <;> clear hK K <;> (try dsimp only [List.drop]))
          | (refine WPc.condF ?_ ?_; (focus (simp; done))))
        refine WPc.loopV (σ := Nat) (fun i => i ≤ m ∧ (S.take i).all (fun n => decide (n = 1)) = true) (fun i => m - i) (fun i => [(65, .sc (.int .i64 i))]) (fun i => [(29, 3, 1, S.map nC)]) [3, 4, 63, 64] 0 (by simp) (by simp) (by simp) ?_
        rintro i ⟨hi, hall1⟩ s hs
        simp at hs
        subst hs
        by_cases hlt2 : i < m
        · have hiS : i < S.length := by omega
          have hiN : i < p.nodes.length := by omega
          by_cases he : S[i] = 1
          · repeat' (first
              | apply WPc.sq
              | apply WPc.block
              | apply WPc.skip
              | (refine WPc.rq tok rfl fun K hK => ?_; simp -implicitDefEqProofs +contextual [-Int.not_le, -Int.not_lt, -Nat.not_le, -Nat.not_lt, -List.all_eq_true, -List.all_eq_false, -List.any_eq_true, -List.any_eq_false, nC, hlt2, hiS, hiN, he, hlen]; (repeat1' (first | apply hK | apply And.intro | intro _)) <;> clear hK K <;> (try dsimp only [List.drop]))
              | (refine WPc.condT ?_ ?_; (focus (simp; done)))
              | (refine WPc.condF ?_ ?_; (focus (simp; done))))
            refine ⟨i + 1, ⟨⟨hlt2, all_next (List.getElem?_eq_getElem hiS) (by simp [he]) hall1⟩, by first | omega | (simp only; omega) | assumption⟩, rfl, rfl, ?_, ?_⟩ <;> simp (disch := omega) [wrap64]
          · rw [hno i (by omega) _ (List.getElem?_eq_getElem hiS) he]
            repeat' (first
              | apply WPc.sq
              | apply WPc.block
              | (refine WPc.ret (endP.val (.inr rfl) rfl rfl (by simp; rfl) ?_))
              | apply WPc.skip
              | (refine WPc.rq tok rfl fun K hK => ?_; simp -implicitDefEqProofs +contextual [-Int.not_le, -Int.not_lt, -Nat.not_le, -Nat.not_lt, -List.all_eq_true, -List.all_eq_false, -List.any_eq_true, -List.any_eq_false, nC, hlt2, hiS, hiN, he, hlen]; (repeat1' (first | apply hK | apply And.intro | intro _)) <;> clear hK K <;> (try dsimp only [List.drop]))
              | (refine WPc.condT ?_ ?_; (focus (simp; done))))
            all_goals rfl
        · obtain rfl : i = m := by omega
          rw [hyes hall1]
          repeat' (first
            | apply WPc.sq
            | (refine WPc.ret (endP.val (.inr rfl) rfl rfl (by simp; rfl) ?_))
            | apply WPc.exit
            | (refine WPc.rq tok rfl fun K hK => ?_; simp -implicitDefEqProofs +contextual [-Int.not_le, -Int.not_lt, -Nat.not_le, -Nat.not_lt, -List.all_eq_true, -List.all_eq_false, -List.any_eq_true, -List.any_eq_false, nC, hlt2, l0, l1, l2, l3, l4, l5, hlen]; (repeat1' (first | apply hK | apply And.intro | intro _)) <;> clear hK K <;> (try dsimp only [List.drop]))
            | (refine WPc.condF ?_ ?_; (focus (simp; done))))
          all_goals rfl
    · have hroot' : (p.root = (m : Int)) = False := by simp only [eq_iff_iff, iff_false]; omega
      rw [progOk_root hroot]
      refine Con.of tok (nt := 77) Go.Proofs.Tryz.func108 (by kernel_rfl) rfl rfl rfl (Nat.le_of_ble_eq_true rfl) fun G => ?_
      simp only [entSt, tmOf, List.append_nil, List.cons_append, List.nil_append, Pg.av]
      repeat' (first
        | apply WPc.sq
        | (refine WPc.ret (endP.val (.inr rfl) rfl rfl (by simp; rfl) ?_))
        | refine WPL.nil ?_
        | (apply WPL.cL (c_impl_inRange _ _ _); (case q => (repeat' (first | refine And.intro ?_ ?_ | intro _ | exact cleanOut_nil | (refine Eqv.mk ?_; first | rfl | (simp -implicitDefEqProofs [hN, hw1, hroot']; done)) | (simp -implicitDefEqProofs [hN, hw1, hroot']; done) | (simp -implicitDefEqProofs [hN, hw1, hroot']; rfl) | (simp; done) | (simp; rfl) | rfl))))
        | ((first | refine WPc.rq tok rfl fun K hK => ?_ | refine WPL.rn tok _ (by simp [ahead, isFn]; rfl) fun K hK => ?_); simp -implicitDefEqProofs +contextual [-Int.not_le, -Int.not_lt, -Nat.not_le, -Nat.not_lt, -List.all_eq_true, -List.all_eq_false, -List.any_eq_true, -List.any_eq_false, hN, hw1, hroot']; (repeat1' (first | apply hK | apply And.intro | intro _)) <;> clear hK K <;> (try dsimp only [List.drop]))
        | (refine WPc.region ?_; simp only [List.toList_toArray])
        | (refine WPc.condT ?_ ?_; (focus (simp; done))))
      all_goals rfl
  · have hN' : inRange p.nodes.length 1 400 = false := by simpa using hN
    rw [progOk_len hN']
    refine Con.of tok (nt := 77) Go.Proofs.Tryz.func108 (by kernel_rfl) rfl rfl rfl (Nat.le_of_ble_eq_true rfl) fun G => ?_
    simp only [entSt, tmOf, List.append_nil, List.cons_append, List.nil_append, Pg.av]
    repeat' (first
      | apply WPc.sq
      | (refine WPc.ret (endP.val (.inr rfl) rfl rfl (by simp; rfl) ?_))
      | refine WPL.nil ?_
      | (apply WPL.cL (c_impl_inRange _ _ _); (case q => (repeat' (first | refine And.intro ?_ ?_ | intro _ | exact cleanOut_nil | (refine Eqv.mk ?_; first | rfl | (simp -implicitDefEqProofs [hN']; done)) | (simp -implicitDefEqProofs [hN']; done) | (simp -implicitDefEqProofs [hN']; rfl) | (simp; done) | (simp; rfl) | rfl))))
      | ((first | refine WPc.rq tok rfl fun K hK => ?_ | refine WPL.rn tok _ (by simp [ahead, isFn]; rfl) fun K hK => ?_); simp -implicitDefEqProofs +contextual [-Int.not_le, -Int.not_lt, -Nat.not_le, -Nat.not_lt, -List.all_eq_true, -List.all_eq_false, -List.any_eq_true, -List.any_eq_false, hN']; (repeat1' (first | apply hK | apply And.intro | intro _)) <;> clear hK K <;> (try dsimp only [List.drop]))
      | (refine WPc.region ?_; simp only [List.toList_toArray])
      | (refine WPc.condT ?_ ?_; (focus (simp; done))))
    all_goals rfl
end Go.Own
set_option maxRecDepth 1000000
set_option maxHeartbeats 4000000
namespace Go.Own
attribute [local irreducible] WPc WPL WPS WPS1 WPS2 HAny endP
variable [Laid]
open Go.Lib Go.RowKit
theorem fidx_ge {s : ByteArray} : ∀ {l : List ByteArray} {k : Nat}, isW l s = true → (k : Int) ≤ fidx l s k
  | [], _, h => by simp [isW] at h
  | x :: l, k, h => by
    simp only [fidx]
    split
    · omega
    · rename_i hx
      have h' : isW l s = true := by
        rw [isW_cons, Bool.or_eq_true] at h
        rcases h with h | h
        · exact absurd (of_decide_eq_true h) hx
        · exact h
      have := fidx_ge (l := l) (k := k + 1) h'
      omega
theorem c_slices_Contains (l : List ByteArray) (s : ByteArray) : Con PP 200 [.fz (l.map sC), .sc (.string s)] [] [] (fun r o => r = .sc (.bool (isW l s))) := by
  refine Con.of tok (nt := 9) Go.Proofs.Tryz.func200 (by kernel_rfl) rfl rfl rfl (Nat.le_of_ble_eq_true rfl) fun G => ?_
  simp only [entSt, tmOf, List.append_nil, List.cons_append, List.nil_append]
  cases h : isW l s with
  | false =>
    have e : fidx l s 0 = -1 := fidx_none h
    refine go (L := _ ∧ True) (wa1 @e) (wb1 (fun v0 v1 (_ : True) => c_slices_IndexS v0 v1)) wb0 wb0 wb0 ⟨fun _ => ?_, wb0⟩
    all_goals rfl
  | true =>
    have e := fidx_ge (k := 0) h
    have e' : 0 ≤ fidx l s 0 := by omega
    refine go (L := _ ∧ True) (wa1 @e') (wb1 (fun v0 v1 (_ : True) => c_slices_IndexS v0 v1)) wb0 wb0 wb0 ⟨fun _ => ?_, wb0⟩
    all_goals rfl
def mapT {α β : Type} (f : α → β) (l : List α) (i : Nat) : List β := (l.take i).map f
theorem mapT_zero {α β : Type} (f : α → β) (l : List α) : mapT f l 0 = [] := rfl
theorem mapT_len {α β : Type} (f : α → β) {l : List α} {i : Nat} (hi : i ≤ l.length) : (mapT f l i).length = i := by rw [mapT, List.length_map, List.length_take]; omega
theorem mapT_next {α β : Type} (f : α → β) {l : List α} {i : Nat} (hi : i < l.length) : mapT f l (i + 1) = mapT f l i ++ [f l[i]] := by
  unfold mapT
  rw [List.take_add_one, List.getElem?_eq_getElem hi, Option.toList_some, List.map_append, List.map_cons, List.map_nil]
theorem mapT_all {α β : Type} (f : α → β) (l : List α) : mapT f l l.length = l.map f := by rw [mapT, List.take_length]
theorem dz_S {l : List ByteArray} {n : Nat} (h : l.length = n) : dzLL (List.take n (l.map sC)) = l.map sC := by rw [List.take_of_length_le (by simp [h]), dz_sC]
theorem tyOk_no {l : List Ty} {i : Nat} (hi : i < l.length) (h : inRange l[i].size 0 8 = false) : tyOk l = false := by
  rw [tyOk, all_at (List.getElem?_eq_getElem hi) h, Bool.false_and]
theorem c_impl_typesOk [F : Facts.Of] (l : List Ty) (h1 : l.length ≤ 1000000000) (hs : ∀ t, t ∈ l → t.sm) : Con PP 178 [.fz (l.map Ty.cs)] [] [] (fun r o => r = .sc (.bool (tyOk l))) := by
  have hz : ∀ v, v ∈ l.map Ty.name → v.size < 4294967000 := fun v hv => by
    obtain ⟨t, ht, rfl⟩ := List.mem_map.1 hv
    exact (hs t ht).name
  refine Con.of tok (nt := 24) Go.Proofs.Tryz.func178 (by kernel_rfl) rfl rfl rfl (Nat.le_of_ble_eq_true rfl) fun G => ?_
  simp only [entSt, tmOf, List.append_nil, List.cons_append, List.nil_append]
  refine go (L := _ ∧ True) wb0 wb0 wb0 wb0 wb0 ⟨fun _ => ?_, wb0⟩
  refine WPc.adoptK 3 900001 9 1 fun K hK => ?_
  simp -implicitDefEqProofs
  refine hK _ ?_; clear hK K
  refine WPc.loopV (σ := Nat) (fun i => i ≤ l.length ∧ (l.take i).all (fun t => inRange t.size 0 8) = true) (fun i => l.length - i) (fun i => [(8, .sc (.int .i64 i)), (3, .sl 900001 1 [] 0 i)]) (fun i => [(900001, 9, 1, (mapT Ty.name l i).map sC)]) [6, 7] 0 (by simp [mapT_zero]) (by simp [mapT_zero]) (by simp) ?_
  rintro i ⟨hi, hall⟩ s hs
  simp at hs
  subst hs
  by_cases hlt : i < l.length
  · have hb1 : (i + 1) * 16 ≤ 140737488355328 := by omega
    have hb2 : i + 1 ≤ 9223372036854775807 := by omega
    have hv := List.getElem?_eq_getElem hlt
    have hn := mapT_next Ty.name hlt
    have hll := mapT_len Ty.name hi
    cases hin : inRange l[i].size 0 8 with
    | false =>
      rw [tyOk_no hlt hin]
      refine go (L := _ ∧ True) (wa6 @Ty.cs.eq_1 @hlt @hb1 @hb2 @hll @hin) (wb1 (fun v0 v1 v2 (_ : True) => c_impl_inRange v0 v1 v2)) wb0 wb0 wb0 ⟨fun _ => ?_, wb0⟩
      all_goals rfl
    | true =>
      refine go (L := _ ∧ True) (wa6 @Ty.cs.eq_1 @hlt @hb1 @hb2 @hll @hin) (wb1 (fun v0 v1 v2 (_ : True) => c_impl_inRange v0 v1 v2)) wb0 wb0 wb0 ⟨fun _ => ?_, wb0⟩
      refine ⟨i + 1, ⟨⟨hlt, all_next hv hin hall⟩, by first | omega | (simp only; omega) | assumption⟩, rfl, rfl, ?_, ?_⟩ <;> simp (disch := omega) [wrap64, hn, sC]
  · obtain rfl : i = l.length := by omega
    rw [List.take_length] at hall
    have hll := mapT_len Ty.name hi
    have hdz := dz_S hll
    have e : tyOk l = namesOk (mapT Ty.name l l.length) 8 := by rw [tyOk, hall, Bool.true_and, mapT_all]
    rw [e]
    rw [← mapT_all] at hz
    refine go (L := _ ∧ True) (wa3 @hlt @hll @hdz) (wb1 (fun v0 v1 (h : _) => c_impl_namesOk v0 v1 h)) wb0 wb0 wb0 ⟨fun _ => ?_, wb0⟩
    all_goals rfl
theorem lksOk_no {n i : Nat} {x : In} (hi : i < x.links.length) (h : lkGood n x.names x.links[i] = false) : lksOk n x = false := by
  rw [lksOk, all_at (List.getElem?_eq_getElem hi) h, Bool.false_and]
theorem c_impl_linksOk [F : Facts.Of] (y : Sy) (x : In) (hs : x.sm) (hr : x.rm) (hy : y.insts.length ≤ 1000000000) : Con PP 177 [.fp y.cs, x.av] [] [] (fun r o => r = .sc (.bool (lksOk y.insts.length x))) := by
  have hz : ∀ v, v ∈ x.links.map Lk.name → v.size < 4294967000 := fun v hv => by
    obtain ⟨t, ht, rfl⟩ := List.mem_map.1 hv
    exact (hs.links t ht).name
  have hr1 := hr.links
  have hw : IntKind.i64.wrap ((y.insts.length : Int) - 1) = (y.insts.length : Int) - 1 := wrap64 (by omega) (by omega)
  refine Con.of tok (nt := 46) Go.Proofs.Tryz.func177 (by kernel_rfl) rfl rfl rfl (Nat.le_of_ble_eq_true rfl) fun G => ?_
  simp only [entSt, tmOf, List.append_nil, List.cons_append, List.nil_append, In.av, Sy.cs]
  refine go (L := _ ∧ True) wb0 wb0 wb0 wb0 wb0 ⟨fun _ => ?_, wb0⟩
  refine WPc.adoptK 5 900001 9 1 fun K hK => ?_
  simp -implicitDefEqProofs
  refine hK _ ?_; clear hK K
  refine WPc.loopV (σ := Nat) (fun i => i ≤ x.links.length ∧ (x.links.take i).all (lkGood y.insts.length x.names) = true) (fun i => x.links.length - i) (fun i => [(11, .sc (.int .i64 i)), (5, .sl 900001 1 [] 0 i)]) (fun i => [(900001, 9, 1, (mapT Lk.name x.links i).map sC), (3, 114, 6, [x.cs])]) [0, 3, 9, 10] 0 (by simp [In.cs, mapT_zero]) (by simp [In.cs, mapT_zero]) (by simp) ?_
  rintro i ⟨hi, hall⟩ s hs
  simp at hs
  subst hs
  by_cases hlt : i < x.links.length
  · have hb1 : (i + 1) * 16 ≤ 140737488355328 := by omega
    have hb2 : i + 1 ≤ 9223372036854775807 := by omega
    have hv := List.getElem?_eq_getElem hlt
    have hn := mapT_next Lk.name hlt
    have hll := mapT_len Lk.name hi
    have hz1 := hs.links _ (List.getElem_mem hlt)
    have z1 := hz1.name
    have z2 := hz1.tgt
    refine go (L := _ ∧ _ ∧ _ ∧ _ ∧ True) (wa7 @Lk.cs.eq_1 @hlt @hb1 @hb2 @hll @hw @In.cs.eq_1) (wb3 (fun v0 v1 v2 (_ : True) => c_impl_inRange v0 v1 v2) (fun v0 (h : _) => c_impl_IsName v0 h) (fun v0 v1 (_ : True) => c_slices_Contains v0 v1)) wb0 wb0 (wb2 wb0 (sch 6 [] [(0, []), (1, []), (2, []), (3, []), (4, []), (5, []), (6, []), (7, []), (8, []), (9, []), (10, []), (11, []), (12, []), (13, []), (14, []), (15, []), (16, []), (17, []), (18, []), (19, []), (20, []), (21, []), (22, [])])) ⟨fun _ _ _ hq => ?_, fun _ _ _ hq => ?_, fun _ _ _ => ?_, fun _ _ => ?_, wb0⟩
    all_goals (try (rw [lksOk_no hlt (by unfold lkGood; simp_all)]; done))
    refine ⟨i + 1, ⟨⟨hlt, all_next hv (by unfold lkGood; simp_all) hall⟩, by first | omega | (simp only; omega) | assumption⟩, rfl, rfl, ?_, ?_⟩ <;> simp (disch := omega) [wrap64, hn, sC, In.cs]
  · obtain rfl : i = x.links.length := by omega
    rw [List.take_length] at hall
    have hll := mapT_len Lk.name hi
    have hdz := dz_S hll
    have e : lksOk y.insts.length x = namesOk (mapT Lk.name x.links x.links.length) 30 := by rw [lksOk, hall, Bool.true_and, mapT_all]
    rw [e]
    rw [← mapT_all] at hz
    refine go (L := _ ∧ True) (wa4 @hlt @hll @hdz @In.cs.eq_1) (wb1 (fun v0 v1 (h : _) => c_impl_namesOk v0 v1 h)) wb0 wb0 wb0 ⟨fun _ => ?_, wb0⟩
    all_goals rfl
theorem isNode_eq {y : Sy} {u n : Int} : isNode y u n = (inRange u 0 ((y.units.length : Int) - 1) && (match y.units[u.toNat]? with
    | some t => inRange n 0 ((t.prog.nodes.length : Int) - 1)
    | none => false)) := by
  unfold isNode nodeAt inRange
  by_cases h1 : 0 ≤ u
  · by_cases h2 : u.toNat < y.units.length
    · rw [List.getElem?_eq_getElem h2]
      have h3 : u ≤ (y.units.length : Int) - 1 := by omega
      by_cases h4 : 0 ≤ n
      · by_cases h5 : n.toNat < y.units[u.toNat].prog.nodes.length
        · have h6 : n ≤ (y.units[u.toNat].prog.nodes.length : Int) - 1 := by omega
          simp [h1, h3, h4, h5, h6]
        · have h6 : ¬ n ≤ (y.units[u.toNat].prog.nodes.length : Int) - 1 := by omega
          simp [h1, h3, h4, h5, h6]
      · simp [h4]
    · have h3 : ¬ u ≤ (y.units.length : Int) - 1 := by omega
      simp [h2, h3]
  · simp [h1]
theorem isNode_yes {y : Sy} {u n : Int} (h : isNode y u n = true) : 0 ≤ u ∧ 0 ≤ n ∧ ∃ h1 : u.toNat < y.units.length, n.toNat < y.units[u.toNat].prog.nodes.length := by
  unfold isNode nodeAt at h
  simp only [Bool.and_eq_true, decide_eq_true_eq] at h
  obtain ⟨⟨h1, h2⟩, h3⟩ := h
  by_cases h4 : u.toNat < y.units.length
  · refine ⟨h1, h2, h4, ?_⟩
    rw [List.getElem?_eq_getElem h4] at h3
    simpa using h3
  · rw [List.getElem?_eq_none (by omega)] at h3
    cases h3
theorem c_impl_isNode (y : Sy) (u n : Int) (hy : y.units.length ≤ 1000000000) (hr : ∀ t, t ∈ y.units → t.rm) : Con PP 110 [.fp y.cs, .sc (.int .i64 u), .sc (.int .i64 n)] [] [] (fun r o => r = .sc (.bool (isNode y u n))) := by
  rw [isNode_eq]
  have hw : IntKind.i64.wrap ((y.units.length : Int) - 1) = (y.units.length : Int) - 1 := wrap64 (by omega) (by omega)
  refine Con.of tok (nt := 30) Go.Proofs.Tryz.func110 (by kernel_rfl) rfl rfl rfl (Nat.le_of_ble_eq_true rfl) fun G => ?_
  simp only [entSt, tmOf, List.append_nil, List.cons_append, List.nil_append, Sy.cs]
  cases hu : inRange u 0 ((y.units.length : Int) - 1) with
  | false =>
    refine go (L := _ ∧ True) (wa2 @hw @hu) (wb1 (fun v0 v1 v2 (_ : True) => c_impl_inRange v0 v1 v2)) wb0 wb0 wb0 ⟨fun _ => ?_, wb0⟩
    all_goals rfl
  | true =>
    have hu' := hu
    simp only [inRange, Bool.and_eq_true, decide_eq_true_eq] at hu'
    have a1 : u.toNat < y.units.length := by omega
    have a2 : u < (y.units.length : Int) := by omega
    have a0 := hu'.1
    have hrm := (hr _ (List.getElem_mem a1)).prog.nodes
    have hw2 : IntKind.i64.wrap ((y.units[u.toNat].prog.nodes.length : Int) - 1) = (y.units[u.toNat].prog.nodes.length : Int) - 1 := wrap64 (by omega) (by omega)
    rw [List.getElem?_eq_getElem a1]
    refine go (L := _ ∧ True) (wa7 @hw @hu @a0 @a1 @a2 @hw2 @Un.cs.eq_1) (wb1 (fun v0 v1 v2 (_ : True) => c_impl_inRange v0 v1 v2)) wb0 wb0 wb0 ⟨fun _ => ?_, wb0⟩
    all_goals rfl
theorem isLam_eq {y : Sy} {u n : Int} (h : isNode y u n = true) (h1 : u.toNat < y.units.length) (h2 : n.toNat < y.units[u.toNat].prog.nodes.length) : isLam y u n = decide (y.units[u.toNat].prog.nodes[n.toNat].k = 7) := by
  unfold isLam nodeAt
  rw [h, List.getElem?_eq_getElem h1, Option.bind_some, List.getElem?_eq_getElem h2, Bool.true_and]
theorem isLam_no {y : Sy} {u n : Int} (h : isNode y u n = false) : isLam y u n = false := by rw [isLam, h, Bool.false_and]
theorem c_impl_isLambda (y : Sy) (u n : Int) (hy : y.units.length ≤ 1000000000) (hr : ∀ t, t ∈ y.units → t.rm) : Con PP 109 [.fp y.cs, .sc (.int .i64 u), .sc (.int .i64 n)] [] [] (fun r o => r = .sc (.bool (isLam y u n))) := by
  have hw : IntKind.i64.wrap ((y.units.length : Int) - 1) = (y.units.length : Int) - 1 := wrap64 (by omega) (by omega)
  refine Con.of tok (nt := 39) Go.Proofs.Tryz.func109 (by kernel_rfl) rfl rfl rfl (Nat.le_of_ble_eq_true rfl) fun G => ?_
  simp only [entSt, tmOf, List.append_nil, List.cons_append, List.nil_append, Sy.cs]
  cases hu : inRange u 0 ((y.units.length : Int) - 1) with
  | false =>
    rw [isLam_no (by rw [isNode_eq, hu, Bool.false_and])]
    refine go (L := _ ∧ True) (wa2 @hw @hu) (wb1 (fun v0 v1 v2 (_ : True) => c_impl_inRange v0 v1 v2)) wb0 wb0 wb0 ⟨fun _ => ?_, wb0⟩
    all_goals rfl
  | true =>
    have hu' := hu
    simp only [inRange, Bool.and_eq_true, decide_eq_true_eq] at hu'
    have a1 : u.toNat < y.units.length := by omega
    have a2 : u < (y.units.length : Int) := by omega
    have a0 := hu'.1
    have hrm := (hr _ (List.getElem_mem a1)).prog.nodes
    have hw2 : IntKind.i64.wrap ((y.units[u.toNat].prog.nodes.length : Int) - 1) = (y.units[u.toNat].prog.nodes.length : Int) - 1 := wrap64 (by omega) (by omega)
    have e : isNode y u n = inRange n 0 ((y.units[u.toNat].prog.nodes.length : Int) - 1) := by rw [isNode_eq, hu, List.getElem?_eq_getElem a1, Bool.true_and]
    cases hn : inRange n 0 ((y.units[u.toNat].prog.nodes.length : Int) - 1) with
    | false =>
      rw [isLam_no (by rw [e, hn])]
      refine go (L := _ ∧ True) (wa8 @hw @hu @a0 @a1 @a2 @hw2 @hn @Un.cs.eq_1) (wb1 (fun v0 v1 v2 (_ : True) => c_impl_inRange v0 v1 v2)) wb0 wb0 wb0 ⟨fun _ => ?_, wb0⟩
      all_goals rfl
    | true =>
      have hn' := hn
      simp only [inRange, Bool.and_eq_true, decide_eq_true_eq] at hn'
      have b1 : n.toNat < y.units[u.toNat].prog.nodes.length := by omega
      have b2 : n < (y.units[u.toNat].prog.nodes.length : Int) := by omega
      have b0 := hn'.1
      rw [isLam_eq (by rw [e, hn]) a1 b1]
      refine go (L := _ ∧ True) (wa12 @hw @hu @a0 @a1 @a2 @hw2 @hn @b0 @b1 @b2 @Un.cs.eq_1 @Nd.cs.eq_1) (wb1 (fun v0 v1 v2 (_ : True) => c_impl_inRange v0 v1 v2)) wb0 wb0 wb0 ⟨fun _ => ?_, wb0⟩
      all_goals rfl
end Go.Own
set_option maxRecDepth 1000000
set_option maxHeartbeats 4000000
namespace Go.Own
attribute [local irreducible] WPc WPL WPS WPS1 WPS2 HAny endP
variable [Laid]
open Go.Lib Go.RowKit
theorem inOk_v {y : Sy} {i k : Nat} {x : In} (hk : k < x.vals.length) (h : vOk0 y.heap x.vals[k] = false) : inOk y i x = false := by
  rw [inOk, all_at (List.getElem?_eq_getElem hk) h]; simp
theorem headOk_yes {i : Nat} {x : In} (h : headOk i x = true) : ((i = 0) = True ∧ (0 < i) = False ∧ (x.lib = ⟨#[]⟩) = True ∧ (x.ver = 0) = True) ∨ ((i = 0) = False ∧ (0 < i) = True ∧ isName x.lib = true ∧ inRange x.ver 1 1000 = true) := by
  unfold headOk at h
  by_cases h0 : i = 0
  · rw [if_pos h0] at h
    simp only [Bool.and_eq_true, decide_eq_true_eq, zs] at h
    exact .inl ⟨by simp [h0], by simp [h0], by simp [h.1], by simp [h.2]⟩
  · rw [if_neg h0] at h
    simp only [Bool.and_eq_true] at h
    exact .inr ⟨by simp [h0], by simp; omega, h.1, h.2⟩
theorem headOk_no {i : Nat} {x : In} (h : headOk i x = false) : ((i = 0) = True ∧ (x.lib = ⟨#[]⟩) = False) ∨ ((i = 0) = True ∧ (x.lib = ⟨#[]⟩) = True ∧ (x.ver = 0) = False) ∨ ((i = 0) = False ∧ (0 < i) = True ∧ isName x.lib = false) ∨ ((i = 0) = False ∧ (0 < i) = True ∧ isName x.lib = true ∧ inRange x.ver 1 1000 = false) := by
  unfold headOk at h
  by_cases h0 : i = 0
  · rw [if_pos h0] at h
    by_cases h1 : x.lib = ⟨#[]⟩
    · simp only [h1, zs, decide_true, Bool.true_and, decide_eq_false_iff_not] at h
      exact .inr (.inl ⟨by simp [h0], by simp [h1], by simp [h]⟩)
    · exact .inl ⟨by simp [h0], by simp [h1]⟩
  · rw [if_neg h0] at h
    cases h1 : isName x.lib with
    | false => exact .inr (.inr (.inl ⟨by simp [h0], by simp; omega, rfl⟩))
    | true =>
      rw [h1, Bool.true_and] at h
      exact .inr (.inr (.inr ⟨by simp [h0], by simp; omega, rfl, h⟩))
theorem c_impl_instOk [F : Facts.Of] (y : Sy) (i : Nat) (hi : i < y.insts.length) (hs : y.sm) (hr : y.rm) : Con PP 107 [.fp y.cs, .sc (.int .i64 i)] [] [] (fun r o => r = .sc (.bool (inOk y i y.insts[i]))) := by
  have s1 := hs.insts _ (List.getElem_mem hi)
  have r1 := hr.insts1 _ (List.getElem_mem hi)
  have rI := hr.insts
  have hi' : (i : Int) < y.insts.length := by omega
  have sL := s1.lib
  have rV := r1.vals
  have sN := s1.names
  have sV := s1.vals
  have rT := r1.types
  have sT := s1.types
  refine Con.of tok (nt := 85) Go.Proofs.Tryz.func107 (by kernel_rfl) rfl rfl rfl (Nat.le_of_ble_eq_true rfl) fun G => ?_
  simp only [entSt, tmOf, List.append_nil, List.cons_append, List.nil_append, Sy.cs]
  cases hd : headOk i y.insts[i] with
  | false =>
    rw [inOk, hd, Bool.false_and]
    rcases headOk_no hd with ⟨f1, f2⟩ | ⟨f1, f2, f3⟩ | ⟨f1, f2, f3⟩ | ⟨f1, f2, f3, f4⟩
    · refine go (L := _ ∧ True) (wa5 @hi @hi' @In.cs.eq_1 @f1 @f2) wb0 wb0 wb0 wb0 ⟨fun _ => ?_, wb0⟩
      all_goals rfl
    · refine go (L := _ ∧ True) (wa6 @hi @hi' @In.cs.eq_1 @f1 @f2 @f3) wb0 wb0 wb0 wb0 ⟨fun _ => ?_, wb0⟩
      all_goals rfl
    · refine go (L := _ ∧ True) (wa6 @hi @hi' @In.cs.eq_1 @f1 @f2 @f3) (wb1 (fun v0 (h : _) => c_impl_IsName v0 h)) wb0 wb0 wb0 ⟨fun _ => ?_, wb0⟩
      all_goals rfl
    · refine go (L := _ ∧ True) (wa7 @hi @hi' @In.cs.eq_1 @f1 @f2 @f3 @f4) (wb2 (fun v0 (h : _) => c_impl_IsName v0 h) (fun v0 v1 v2 (_ : True) => c_impl_inRange v0 v1 v2)) wb0 wb0 wb0 ⟨fun _ => ?_, wb0⟩
      all_goals rfl
  | true =>
    rcases headOk_yes hd with ⟨f1, f2, f3, f4⟩ | ⟨f1, f2, f3, f4⟩
    all_goals
      repeat' (first
        | apply WPc.sq
        | apply WPc.block
        | apply WPc.skip
        | refine WPL.nil ?_
        | (apply WPL.cL (c_impl_IsName _ ?g1); (case q => (repeat' (first | refine And.intro ?_ ?_ | intro _ | (with_reducible exact cleanOut_nil) | (refine Eqv.mk ?_; first | rfl | (simp -implicitDefEqProofs [hi, hi', In.cs, f1, f2, f3, f4]; done)) | (simp -implicitDefEqProofs [hi, hi', In.cs, f1, f2, f3, f4]; done) | (simp -implicitDefEqProofs [hi, hi', In.cs, f1, f2, f3, f4]; rfl) | (simp; done) | (simp; rfl) | rfl))); (case g1 => (first | assumption | omega)))
        | (apply WPL.cL (c_impl_inRange _ _ _); (case q => (repeat' (first | refine And.intro ?_ ?_ | intro _ | (with_reducible exact cleanOut_nil) | (refine Eqv.mk ?_; first | rfl | (simp -implicitDefEqProofs [hi, hi', In.cs, f1, f2, f3, f4]; done)) | (simp -implicitDefEqProofs [hi, hi', In.cs, f1, f2, f3, f4]; done) | (simp -implicitDefEqProofs [hi, hi', In.cs, f1, f2, f3, f4]; rfl) | (simp; done) | (simp; rfl) | rfl))))
        | (refine WPL.call0f ?_ ?_ ?_; (focus (simp; done)); (focus (simp; done)))
        | ((first | refine WPc.rq tok rfl fun K hK => ?_ | refine WPL.rn tok _ (by simp [ahead, isFn]; rfl) fun K hK => ?_); simp -implicitDefEqProofs +contextual [-Int.not_le, -Int.not_lt, -Nat.not_le, -Nat.not_lt, -List.all_eq_true, -List.all_eq_false, -List.any_eq_true, -List.any_eq_false, hi, hi', In.cs, f1, f2, f3, f4]; (repeat1' (first | apply hK | apply And.intro | intro _)) <;> clear hK K <;> (try dsimp only [List.drop]))
        | (refine WPc.region ?_; simp only [List.toList_toArray])
        | (refine WPc.condF ?_ ?_; (focus (simp; done))))
      refine WPc.loopV (σ := Nat) (fun k => k ≤ y.insts[i].vals.length ∧ (y.insts[i].vals.take k).all (vOk0 y.heap) = true) (fun k => y.insts[i].vals.length - k) (fun k => [(46, .sc (.int .i64 k))]) (fun k => [(5, 114, 6, [y.insts[i].cs])]) [0, 5, 44, 45] 0 (by simp [In.cs]) (by simp [In.cs]) (by simp) ?_
      rintro k ⟨hk, hall⟩ s hs
      simp at hs
      subst hs
      by_cases hlt : k < y.insts[i].vals.length
      · have hz := sV _ (List.getElem_mem hlt)
        have hv := List.getElem?_eq_getElem hlt
        have e1 : V.eqb ⟨y.insts[i].vals[k].k, y.insts[i].vals[k].n, y.insts[i].vals[k].s⟩ ⟨0, 0, ⟨#[]⟩⟩ = decide (y.insts[i].vals[k] = noV) := rfl
        have e2 : valueOk y.heap ⟨y.insts[i].vals[k].k, y.insts[i].vals[k].n, y.insts[i].vals[k].s⟩ = valueOk y.heap y.insts[i].vals[k] := rfl
        cases h0 : decide (y.insts[i].vals[k] = noV) with
        | true =>
          repeat' (first
            | apply WPc.sq
            | apply WPc.block
            | apply WPc.skip
            | (apply WPS.callf (ho := rfl); (case hg => (simp; done)); (case hd => (simp; done)))
            | ((first | refine WPc.rq tok rfl fun K hK => ?_ | refine WPS.rn tok _ (by simp [aheadS]; rfl) fun K hK => ?_); simp -implicitDefEqProofs +contextual [-Int.not_le, -Int.not_lt, -Nat.not_le, -Nat.not_lt, -List.all_eq_true, -List.all_eq_false, -List.any_eq_true, -List.any_eq_false, V.cs, In.cs, hlt, hi, hi', e1, e2, h0]; (repeat1' (first | apply hK | apply And.intro | intro _)) <;> clear hK K <;> (try dsimp only [List.drop]))
            | (refine WPc.sched (id := 7) tok [] [(0, []), (1, []), (2, []), (3, []), (4, []), (5, []), (6, []), (7, []), (8, []), (9, []), (10, []), (11, [])] (by kernel_rfl) ?_)
            | (refine WPS.nil ?_)
            | (refine WPc.condT ?_ ?_; (focus (simp; done)))
            | (refine WPc.condF ?_ ?_; (focus (simp; done))))
          refine ⟨k + 1, ⟨⟨hlt, all_next hv (by rw [vOk0, h0, Bool.true_or]) hall⟩, by first | omega | (simp only; omega) | assumption⟩, rfl, rfl, ?_, ?_⟩ <;> simp (disch := omega) [wrap64, In.cs]
        | false =>
          cases h1 : valueOk y.heap y.insts[i].vals[k] with
          | true =>
            repeat' (first
              | apply WPc.sq
              | apply WPc.block
              | apply WPc.skip
              | (apply WPS.cL (hc := (c_impl_ValueOk _ ⟨_, _, _⟩ ?g1)); (case ho => exact rfl); (case q => (repeat' (first | refine And.intro ?_ ?_ | intro _ | (with_reducible exact cleanOut_nil) | (refine Eqv.mk ?_; first | rfl | (simp -implicitDefEqProofs [V.cs, In.cs, hlt, hi, hi', e1, e2, h0, h1]; done)) | (simp -implicitDefEqProofs [V.cs, In.cs, hlt, hi, hi', e1, e2, h0, h1]; done) | (simp -implicitDefEqProofs [V.cs, In.cs, hlt, hi, hi', e1, e2, h0, h1]; rfl) | (simp; done) | (simp; rfl) | rfl))); (case g1 => (first | assumption | exact hz | omega)))
              | ((first | refine WPc.rq tok rfl fun K hK => ?_ | refine WPS.rn tok _ (by simp [aheadS]; rfl) fun K hK => ?_); simp -implicitDefEqProofs +contextual [-Int.not_le, -Int.not_lt, -Nat.not_le, -Nat.not_lt, -List.all_eq_true, -List.all_eq_false, -List.any_eq_true, -List.any_eq_false, V.cs, In.cs, hlt, hi, hi', e1, e2, h0, h1]; (repeat1' (first | apply hK | apply And.intro | intro _)) <;> clear hK K <;> (try dsimp only [List.drop]))
              | (refine WPc.sched (id := 7) tok [] [(0, []), (1, []), (2, []), (3, []), (4, []), (5, []), (6, []), (7, []), (8, []), (9, []), (10, []), (11, [])] (by kernel_rfl) ?_)
              | (refine WPS.nil ?_)
              | (refine WPc.condT ?_ ?_; (focus (simp; done)))
              | (refine WPc.condF ?_ ?_; (focus (simp; done))))
            refine ⟨k + 1, ⟨⟨hlt, all_next hv (by rw [vOk0, h1, Bool.or_true]) hall⟩, by first | omega | (simp only; omega) | assumption⟩, rfl, rfl, ?_, ?_⟩ <;> simp (disch := omega) [wrap64, In.cs]
          | false =>
            rw [inOk_v hlt (by rw [vOk0, h0, h1]; rfl)]
            repeat' (first
              | apply WPc.sq
              | apply WPc.block
              | (refine WPc.ret (endP.val (.inr rfl) rfl rfl (by simp; rfl) ?_))
              | apply WPc.skip
              | (apply WPS.cL (hc := (c_impl_ValueOk _ ⟨_, _, _⟩ ?g1)); (case ho => exact rfl); (case q => (repeat' (first | refine And.intro ?_ ?_ | intro _ | (with_reducible exact cleanOut_nil) | (refine Eqv.mk ?_; first | rfl | (simp -implicitDefEqProofs [V.cs, In.cs, hlt, hi, hi', e1, e2, h0, h1]; done)) | (simp -implicitDefEqProofs [V.cs, In.cs, hlt, hi, hi', e1, e2, h0, h1]; done) | (simp -implicitDefEqProofs [V.cs, In.cs, hlt, hi, hi', e1, e2, h0, h1]; rfl) | (simp; done) | (simp; rfl) | rfl))); (case g1 => (first | assumption | exact hz | omega)))
              | ((first | refine WPc.rq tok rfl fun K hK => ?_ | refine WPS.rn tok _ (by simp [aheadS]; rfl) fun K hK => ?_); simp -implicitDefEqProofs +contextual [-Int.not_le, -Int.not_lt, -Nat.not_le, -Nat.not_lt, -List.all_eq_true, -List.all_eq_false, -List.any_eq_true, -List.any_eq_false, V.cs, In.cs, hlt, hi, hi', e1, e2, h0, h1]; (repeat1' (first | apply hK | apply And.intro | intro _)) <;> clear hK K <;> (try dsimp only [List.drop]))
              | (refine WPc.sched (id := 7) tok [] [(0, []), (1, []), (2, []), (3, []), (4, []), (5, []), (6, []), (7, []), (8, []), (9, []), (10, []), (11, [])] (by kernel_rfl) ?_)
              | (refine WPS.nil ?_)
              | (refine WPc.condT ?_ ?_; (focus (simp; done))))
            all_goals rfl
      · obtain rfl : k = y.insts[i].vals.length := by omega
        rw [List.take_length] at hall
        have e1 : lksOk y.insts.length ⟨y.insts[i].lib, y.insts[i].ver, y.insts[i].names, y.insts[i].vals, y.insts[i].links, y.insts[i].types⟩ = lksOk y.insts.length y.insts[i] := rfl
        have e2 : inOk y i y.insts[i] = (namesOk y.insts[i].names 30 && (decide (y.insts[i].vals.length = y.insts[i].names.length) && (lksOk y.insts.length y.insts[i] && tyOk y.insts[i].types))) := by rw [inOk, hd, hall]; rfl
        rw [e2]
        repeat' (first
          | apply WPc.sq
          | (refine WPc.ret (endP.val (.inr rfl) rfl rfl (by simp; rfl) ?_))
          | apply WPc.exit
          | refine WPL.nil ?_
          | (apply WPL.cL (c_impl_namesOk _ _ ?g1); (case q => (repeat' (first | refine And.intro ?_ ?_ | intro _ | (with_reducible exact cleanOut_nil) | (refine Eqv.mk ?_; first | rfl | (simp -implicitDefEqProofs [hlt, In.cs, hi, hi', e1]; done)) | (simp -implicitDefEqProofs [hlt, In.cs, hi, hi', e1]; done) | (simp -implicitDefEqProofs [hlt, In.cs, hi, hi', e1]; rfl) | (simp; done) | (simp; rfl) | rfl))); (case g1 => (first | assumption | exact s1 | exact r1 | omega)))
          | (apply WPL.cL (c_impl_linksOk ⟨_, _, _, _⟩ ⟨_, _, _, _, _, _⟩ ?g1 ?g2 ?g3); (case q => (repeat' (first | refine And.intro ?_ ?_ | intro _ | (with_reducible exact cleanOut_nil) | (refine Eqv.mk ?_; first | rfl | (simp -implicitDefEqProofs [hlt, In.cs, hi, hi', e1]; done)) | (simp -implicitDefEqProofs [hlt, In.cs, hi, hi', e1]; done) | (simp -implicitDefEqProofs [hlt, In.cs, hi, hi', e1]; rfl) | (simp; done) | (simp; rfl) | rfl))); (case g1 => (first | assumption | exact s1 | exact r1 | omega)); (case g2 => (first | assumption | exact s1 | exact r1 | omega)); (case g3 => (first | assumption | exact s1 | exact r1 | omega)))
          | (apply WPL.cL (c_impl_typesOk _ ?g1 ?g2); (case q => (repeat' (first | refine And.intro ?_ ?_ | intro _ | (with_reducible exact cleanOut_nil) | (refine Eqv.mk ?_; first | rfl | (simp -implicitDefEqProofs [hlt, In.cs, hi, hi', e1]; done)) | (simp -implicitDefEqProofs [hlt, In.cs, hi, hi', e1]; done) | (simp -implicitDefEqProofs [hlt, In.cs, hi, hi', e1]; rfl) | (simp; done) | (simp; rfl) | rfl))); (case g1 => (first | assumption | exact s1 | exact r1 | omega)); (case g2 => (first | assumption | exact s1 | exact r1 | omega)))
          | (refine WPL.call0f ?_ ?_ ?_; (focus (simp; done)); (focus (simp; done)))
          | ((first | refine WPc.rq tok rfl fun K hK => ?_ | refine WPL.rn tok _ (by simp [ahead, isFn]; rfl) fun K hK => ?_); simp -implicitDefEqProofs +contextual [-Int.not_le, -Int.not_lt, -Nat.not_le, -Nat.not_lt, -List.all_eq_true, -List.all_eq_false, -List.any_eq_true, -List.any_eq_false, hlt, In.cs, hi, hi', e1]; (repeat1' (first | apply hK | apply And.intro | intro _)) <;> clear hK K <;> (try dsimp only [List.drop]))
          | (refine WPc.region ?_; simp only [List.toList_toArray])
          | (refine WPc.condF ?_ ?_; (focus (simp; done))))
        all_goals (simp_all [Bool.and_assoc]; try (intros; omega))
end Go.Own
set_option maxRecDepth 1000000
set_option maxHeartbeats 4000000
namespace Go.Own
attribute [local irreducible] WPc WPL WPS WPS1 WPS2 HAny endP
variable [Laid]
open Go.Lib Go.RowKit
theorem c_spec_ProgOk (p : Pg) (hs : ∀ c, c ∈ p.nodes → c.sm) (hr : ∀ c, c ∈ p.nodes → c.args.length ≤ 1000000000) : Con PP 97 [p.av] [] [] (fun r o => r = .sc (.bool (progOk p))) := by
  by_cases hN : inRange p.nodes.length 1 400 = true
  · have hN' := hN
    simp only [inRange, Bool.and_eq_true, decide_eq_true_eq] at hN'
    obtain ⟨n1, n2⟩ := hN'
    obtain ⟨m, hm⟩ : ∃ m, p.nodes.length = m + 1 := ⟨p.nodes.length - 1, by omega⟩
    have hw1 : IntKind.i64.wrap ((p.nodes.length : Int) - 1) = m := by rw [wrap64 (by omega) (by omega)]; omega
    by_cases hroot : p.root = (p.nodes.length : Int) - 1
    · have hroot' : (p.root = (m : Int)) = True := by simp only [eq_iff_iff, iff_true]; omega
      have hb1 : (8 : Int) * (p.nodes.length : Int) ≤ 281474976710656 := by omega
      have hb2 : (p.nodes.length : Int) ≤ 9223372036854775807 := by omega
      refine Con.of tok (nt := 87) Go.Proofs.Tryz.func97 (by kernel_rfl) rfl rfl rfl (Nat.le_of_ble_eq_true rfl) fun G => ?_
      simp only [entSt, tmOf, List.append_nil, List.cons_append, List.nil_append, Pg.av]
      repeat' (first
        | apply WPc.sq
        | apply WPc.block
        | apply WPc.skip
        | refine WPL.nil ?_
        | (apply WPL.cL (c_spec_l1In _ _ _); (case q => (repeat' (first | refine And.intro ?_ ?_ | intro _ | exact cleanOut_nil | (refine Eqv.mk ?_; first | rfl | (simp -implicitDefEqProofs [hN, hw1, hroot', hb1, hb2]; done)) | (simp -implicitDefEqProofs [hN, hw1, hroot', hb1, hb2]; done) | (simp -implicitDefEqProofs [hN, hw1, hroot', hb1, hb2]; rfl) | (simp; done) | (simp; rfl) | rfl))))
        | ((first | refine WPc.rq tok rfl fun K hK => ?_ | refine WPL.rn tok _ (by simp [ahead, isFn]; rfl) fun K hK => ?_); simp -implicitDefEqProofs +contextual [-Int.not_le, -Int.not_lt, -Nat.not_le, -Nat.not_lt, -List.all_eq_true, -List.all_eq_false, -List.any_eq_true, -List.any_eq_false, hN, hw1, hroot', hb1, hb2]; (repeat1' (first | apply hK | apply And.intro | intro _)) <;> clear hK K <;> (try dsimp only [List.drop]))
        | (refine WPc.region ?_; simp only [List.toList_toArray])
        | (refine WPc.condF ?_ ?_; (focus (simp; done))))
      refine WPc.loopV (σ := Nat) (fun i => i ≤ p.nodes.length ∧ (∀ j, j < i → okNode p.nodes j = true)) (fun i => p.nodes.length - i) (fun i => [(4, .sc (.int .i64 i))]) (fun i => [(1, 166, 2, [[.fz (p.nodes.map Nd.cs), .sc (.int .i64 p.root)]]), (25, 3, 1, (seenTo p.nodes i).map nC)]) [1, 3] 0 (by simp [seenTo_zero, nC]) (by simp [seenTo_zero, nC]) (by simp) ?_
      rintro i ⟨hi, hall⟩ s hs
      simp at hs
      subst hs
      by_cases hlt : i < p.nodes.length
      · have hz := hs _ (List.getElem_mem hlt)
        have hz' : Nd.sm ⟨p.nodes[i].k, p.nodes[i].n, p.nodes[i].s, p.nodes[i].names, p.nodes[i].args⟩ := hz
        have hra := hr _ (List.getElem_mem hlt)
        have ee : nodeOk ⟨p.nodes[i].k, p.nodes[i].n, p.nodes[i].s, p.nodes[i].names, p.nodes[i].args⟩ = nodeOk p.nodes[i] := rfl
        cases hno : nodeOk p.nodes[i] with
        | false =>
          rw [progOk_node hlt (by rw [okNode_eq hlt, hno]; rfl)]
          repeat' (first
            | apply WPc.sq
            | apply WPc.block
            | (refine WPc.ret (endP.val (.inr rfl) rfl rfl (by simp; rfl) ?_))
            | apply WPc.skip
            | refine WPL.nil ?_
            | (apply WPL.cL (c_spec_l3Node ⟨_, _, _, _, _⟩ ?g1); (case q => (repeat' (first | refine And.intro ?_ ?_ | intro _ | exact cleanOut_nil | (refine Eqv.mk ?_; first | rfl | (simp -implicitDefEqProofs [Nd.cs, Nd.av, hlt, ee, hno]; done)) | (simp -implicitDefEqProofs [Nd.cs, Nd.av, hlt, ee, hno]; done) | (simp -implicitDefEqProofs [Nd.cs, Nd.av, hlt, ee, hno]; rfl) | (simp; done) | (simp; rfl) | rfl))); (case g1 => (first | assumption | omega)))
            | ((first | refine WPc.rq tok rfl fun K hK => ?_ | refine WPL.rn tok _ (by simp [ahead, isFn]; rfl) fun K hK => ?_); simp -implicitDefEqProofs +contextual [-Int.not_le, -Int.not_lt, -Nat.not_le, -Nat.not_lt, -List.all_eq_true, -List.all_eq_false, -List.any_eq_true, -List.any_eq_false, Nd.cs, Nd.av, hlt, ee, hno]; (repeat1' (first | apply hK | apply And.intro | intro _)) <;> clear hK K <;> (try dsimp only [List.drop]))
            | (refine WPc.region ?_; simp only [List.toList_toArray])
            | (refine WPc.condT ?_ ?_; (focus (simp; done))))
          all_goals rfl
        | true =>
          repeat' (first
            | apply WPc.sq
            | apply WPc.block
            | apply WPc.skip
            | refine WPL.nil ?_
            | (apply WPL.cL (c_spec_l3Node ⟨_, _, _, _, _⟩ ?g1); (case q => (repeat' (first | refine And.intro ?_ ?_ | intro _ | exact cleanOut_nil | (refine Eqv.mk ?_; first | rfl | (simp -implicitDefEqProofs [Nd.cs, Nd.av, hlt, ee, hno]; done)) | (simp -implicitDefEqProofs [Nd.cs, Nd.av, hlt, ee, hno]; done) | (simp -implicitDefEqProofs [Nd.cs, Nd.av, hlt, ee, hno]; rfl) | (simp; done) | (simp; rfl) | rfl))); (case g1 => (first | assumption | omega)))
            | ((first | refine WPc.rq tok rfl fun K hK => ?_ | refine WPL.rn tok _ (by simp [ahead, isFn]; rfl) fun K hK => ?_); simp -implicitDefEqProofs +contextual [-Int.not_le, -Int.not_lt, -Nat.not_le, -Nat.not_lt, -List.all_eq_true, -List.all_eq_false, -List.any_eq_true, -List.any_eq_false, Nd.cs, Nd.av, hlt, ee, hno]; (repeat1' (first | apply hK | apply And.intro | intro _)) <;> clear hK K <;> (try dsimp only [List.drop]))
            | (refine WPc.region ?_; simp only [List.toList_toArray])
            | (refine WPc.condT ?_ ?_; (focus (simp; done)))
            | (refine WPc.condF ?_ ?_; (focus (simp; done))))
          refine WPc.loopV (σ := Nat) (fun k => k ≤ p.nodes[i].args.length ∧ (p.nodes[i].args.take k).all (fun a => inRange a 0 ((i : Int) - 1)) = true) (fun k => p.nodes[i].args.length - k) (fun k => [(5, .sc (.int .i64 k))]) (fun k => [(1, 166, 2, [[.fz (p.nodes.map Nd.cs), .sc (.int .i64 p.root)]]), (25, 3, 1, (bumps (seenTo p.nodes i) (p.nodes[i].args.take k)).map nC)]) [1, 3, 4] 0 (by simp [bumps_zero, nC]) (by simp [bumps_zero, nC]) (by simp) ?_
          rintro k ⟨hk, hka⟩ s hs
          simp at hs
          subst hs
          by_cases hklt : k < p.nodes[i].args.length
          · have hv : p.nodes[i].args[k]? = some p.nodes[i].args[k] := List.getElem?_eq_getElem hklt
            cases hin : inRange p.nodes[i].args[k] 0 ((i : Int) - 1) with
            | false =>
              rw [progOk_node hlt (by rw [okNode_eq hlt, argsOk, all_at hv hin, Bool.and_false])]
              have hin' : p.nodes[i].args[k] < 0 ∨ (0 ≤ p.nodes[i].args[k] ∧ (i : Int) ≤ p.nodes[i].args[k]) := by
                simp only [inRange, Bool.and_eq_false_iff, decide_eq_false_iff_not] at hin; omega
              rcases hin' with hb | ⟨hb, hb2⟩
              · repeat' (first
                  | apply WPc.sq
                  | apply WPc.block
                  | (refine WPc.ret (endP.val (.inr rfl) rfl rfl (by simp; rfl) ?_))
                  | apply WPc.skip
                  | (refine WPc.rq tok rfl fun K hK => ?_; simp -implicitDefEqProofs +contextual [-Int.not_le, -Int.not_lt, -Nat.not_le, -Nat.not_lt, -List.all_eq_true, -List.all_eq_false, -List.any_eq_true, -List.any_eq_false, Nd.cs, nC, hlt, hklt, hb]; (repeat1' (first | apply hK | apply And.intro | intro _)) <;> clear hK K <;> (try dsimp only [List.drop]))
                  | (refine WPc.condT ?_ ?_; (focus (simp; done))))
                all_goals rfl
              · have hb' : ¬ p.nodes[i].args[k] < 0 := by omega
                repeat' (first
                  | apply WPc.sq
                  | apply WPc.block
                  | (refine WPc.ret (endP.val (.inr rfl) rfl rfl (by simp; rfl) ?_))
                  | apply WPc.skip
                  | (refine WPc.rq tok rfl fun K hK => ?_; simp -implicitDefEqProofs +contextual [-Int.not_le, -Int.not_lt, -Nat.not_le, -Nat.not_lt, -List.all_eq_true, -List.all_eq_false, -List.any_eq_true, -List.any_eq_false, Nd.cs, nC, hlt, hklt, hb', hb2]; (repeat1' (first | apply hK | apply And.intro | intro _)) <;> clear hK K <;> (try dsimp only [List.drop]))
                  | (refine WPc.condT ?_ ?_; (focus (simp; done))))
                all_goals rfl
            | true =>
              have hin' := hin
              simp only [inRange, Bool.and_eq_true, decide_eq_true_eq] at hin'
              obtain ⟨a0, a1⟩ := hin'
              have hbn := bnd_bumps (p.nodes[i].args.take k) (bnd_seen hr (show i ≤ 400 by omega))
              have hlen : (bumps (seenTo p.nodes i) (p.nodes[i].args.take k)).length = p.nodes.length := by simp
              have hnx := bumps_next (l := seenTo p.nodes i) hklt
              generalize bumps (seenTo p.nodes i) (p.nodes[i].args.take k) = L at *
              have b0 : ¬ p.nodes[i].args[k] < 0 := by omega
              have b1 : ¬ (i : Int) ≤ p.nodes[i].args[k] := by omega
              have a2 : p.nodes[i].args[k].toNat < L.length := by omega
              have a3 : p.nodes[i].args[k] < (L.length : Int) := by omega
              have a4 : p.nodes[i].args[k] < (p.nodes.length : Int) := by omega
              have a5 : p.nodes[i].args[k].toNat < p.nodes.length := by omega
              have hx := hbn _ (List.getElem_mem a2)
              have hwx : IntKind.i64.wrap (L[p.nodes[i].args[k].toNat] + 1) = L[p.nodes[i].args[k].toNat] + 1 := wrap64 (by omega) (by simp at hx; omega)
              have hmod := modify_nC a2
              repeat' (first
                | apply WPc.sq
                | apply WPc.block
                | apply WPc.skip
                | (refine WPc.rq tok rfl fun K hK => ?_; simp -implicitDefEqProofs +contextual [-Int.not_le, -Int.not_lt, -Nat.not_le, -Nat.not_lt, -List.all_eq_true, -List.all_eq_false, -List.any_eq_true, -List.any_eq_false, Nd.cs, nC, hlt, hklt, b0, b1, a0, a2, a4, a5, hlen, hwx, hmod]; (repeat1' (first | apply hK | apply And.intro | intro _)) <;> clear hK K <;> (try dsimp only [List.drop]))
                | (refine WPc.condT ?_ ?_; (focus (simp; done)))
                | (refine WPc.condF ?_ ?_; (focus (simp; done))))
              refine ⟨k + 1, ⟨⟨hklt, all_next hv hin hka⟩, by first | omega | (simp only; omega) | assumption⟩, rfl, rfl, ?_, ?_⟩ <;> simp (disch := omega) [wrap64, hnx, hmod, bump, nC]
          · obtain rfl : k = p.nodes[i].args.length := by omega
            rw [List.take_length] at hka
            have hsn := seenTo_next hlt
            repeat' (first
              | apply WPc.sq
              | apply WPc.exit
              | (refine WPc.rq tok rfl fun K hK => ?_; simp -implicitDefEqProofs +contextual [-Int.not_le, -Int.not_lt, -Nat.not_le, -Nat.not_lt, -List.all_eq_true, -List.all_eq_false, -List.any_eq_true, -List.any_eq_false, Nd.cs, nC, hlt, hklt]; (repeat1' (first | apply hK | apply And.intro | intro _)) <;> clear hK K <;> (try dsimp only [List.drop]))
              | (refine WPc.condF ?_ ?_; (focus (simp; done))))
            have hok : okNode p.nodes i = true := by rw [okNode_eq hlt, hno, argsOk, hka]; rfl
            have hall2 : ∀ j, j < i + 1 → okNode p.nodes j = true := fun j hj => by
              rcases Nat.lt_succ_iff_lt_or_eq.1 hj with h | rfl
              · exact hall _ h
              · exact hok
            refine ⟨i + 1, ⟨⟨hlt, hall2⟩, by first | omega | (simp only; omega) | assumption⟩, rfl, rfl, ?_, ?_⟩ <;> simp (disch := omega) [wrap64, hsn, List.take_length]
      · obtain rfl : i = p.nodes.length := by omega
        have hlast := seen_last (show 0 < p.nodes.length by omega) hall p.nodes.length (Nat.le_refl _)
        have hlen : (seenTo p.nodes p.nodes.length).length = p.nodes.length := by simp
        have hno := fun (i : Nat) (hi : i < p.nodes.length - 1) (x : Int) => progOk_seen (p := p) hi (x := x)
        have hyes := progOk_yes (p := p) hN hroot hall
        generalize seenTo p.nodes p.nodes.length = S at *
        have hm1 : p.nodes.length - 1 = m := by omega
        rw [hm1] at hlast hyes
        have l0 : m < S.length := by omega
        have l1 : m ≤ p.nodes.length := by omega
        have l2 : (m : Int) ≤ (p.nodes.length : Int) := by omega
        have l3 : (m : Int) < (p.nodes.length : Int) := by omega
        have l4 : m < p.nodes.length := by omega
        have l5 : S[m] = 0 := by rw [List.getElem?_eq_getElem l0] at hlast; exact Option.some.inj hlast
        repeat' (first
          | apply WPc.sq
          | apply WPc.block
          | apply WPc.exit
          | (refine WPc.rq tok rfl fun K hK => ?_; simp -implicitDefEqProofs +contextual [-Int.not_le, -Int.not_lt, -Nat.not_le, -Nat.not_lt, -List.all_eq_true, -List.all_eq_false, -List.any_eq_true, -List.any_eq_false, l0, l1, l2, l3, l4, hlen]; (repeat1' (first | apply hK | apply And.intro | intro _)) <;> clear hK K <;> (try dsimp only [List.drop]))
          | (refine WPc.condF ?_ ?_; (focus (simp; done))))
        refine WPc.loopV (σ := Nat) (fun i => i ≤ m ∧ (S.take i).all (fun n => decide (n = 1)) = true) (fun i => m - i) (fun i => [(7, .sc (.int .i64 i))]) (fun i => [(1, 166, 2, [[.fz (p.nodes.map Nd.cs), .sc (.int .i64 p.root)]]), (25, 3, 1, S.map nC)]) [3] 0 (by simp) (by simp) (by simp) ?_
        rintro i ⟨hi, hall1⟩ s hs
        simp at hs
        subst hs
        by_cases hlt2 : i < m
        · have hiS : i < S.length := by omega
          have hiN : i < p.nodes.length := by omega
          by_cases he : S[i] = 1
          · repeat' (first
              | apply WPc.sq
              | apply WPc.block
              | apply WPc.skip
              | (refine WPc.rq tok rfl fun K hK => ?_; simp -implicitDefEqProofs +contextual [-Int.not_le, -Int.not_lt, -Nat.not_le, -Nat.not_lt, -List.all_eq_true, -List.all_eq_false, -List.any_eq_true, -List.any_eq_false, nC, hlt2, hiS, hiN, he, hlen]; (repeat1' (first | apply hK | apply And.intro | intro _)) <;> clear hK K <;> (try dsimp only [List.drop]))
              | (refine WPc.condF ?_ ?_; (focus (simp; done)))
              | (refine WPc.cond (by simp [-Bool.not_eq_eq_eq_not]; rfl) (fun hq => ?_) (fun hq => ?_) <;> simp only [hq] <;> (try (exfalso; (simp only [decide_eq_true_eq, decide_eq_false_iff_not] at hq); omega))))
            refine ⟨i + 1, ⟨⟨hlt2, all_next (List.getElem?_eq_getElem hiS) (by simp [he]) hall1⟩, by first | omega | (simp only; omega) | assumption⟩, rfl, rfl, ?_, ?_⟩ <;> simp (disch := omega) [wrap64]
          · rw [hno i (by omega) _ (List.getElem?_eq_getElem hiS) he]
            repeat' (first
              | apply WPc.sq
              | apply WPc.block
              | (refine WPc.ret (endP.val (.inr rfl) rfl rfl (by simp; rfl) ?_))
              | apply WPc.skip
              | (refine WPc.rq tok rfl fun K hK => ?_; simp -implicitDefEqProofs +contextual [-Int.not_le, -Int.not_lt, -Nat.not_le, -Nat.not_lt, -List.all_eq_true, -List.all_eq_false, -List.any_eq_true, -List.any_eq_false, nC, hlt2, hiS, hiN, he, hlen]; (repeat1' (first | apply hK | apply And.intro | intro _)) <;> clear hK K <;> (try dsimp only [List.drop]))
              | (refine WPc.condT ?_ ?_; (focus (simp; done)))
              | (refine WPc.cond (by simp [-Bool.not_eq_eq_eq_not]; rfl) (fun hq => ?_) (fun hq => ?_) <;> simp only [hq] <;> (try (exfalso; (simp only [decide_eq_true_eq, decide_eq_false_iff_not] at hq); omega))))
            all_goals rfl
        · obtain rfl : i = m := by omega
          rw [hyes hall1]
          repeat' (first
            | apply WPc.sq
            | (refine WPc.ret (endP.val (.inr rfl) rfl rfl (by simp; rfl) ?_))
            | apply WPc.exit
            | (refine WPc.rq tok rfl fun K hK => ?_; simp -implicitDefEqProofs +contextual [-Int.not_le, -Int.not_lt, -Nat.not_le, -Nat.not_lt, -List.all_eq_true, -List.all_eq_false, -List.any_eq_true, -List.any_eq_false, nC, hlt2, l0, l1, l2, l3, l4, l5, hlen]; (repeat1' (first | apply hK | apply And.intro | intro _)) <;> clear hK K <;> (try dsimp only [List.drop]))
            | (refine WPc.cond (by simp [-Bool.not_eq_eq_eq_not]; rfl) (fun hq => ?_) (fun hq => ?_) <;> simp only [hq] <;> (try (exfalso; (simp only [decide_eq_true_eq, decide_eq_false_iff_not] at hq); omega))))
          all_goals rfl
    · have hroot' : (p.root = (m : Int)) = False := by simp only [eq_iff_iff, iff_false]; omega
      rw [progOk_root hroot]
      refine Con.of tok (nt := 87) Go.Proofs.Tryz.func97 (by kernel_rfl) rfl rfl rfl (Nat.le_of_ble_eq_true rfl) fun G => ?_
      simp only [entSt, tmOf, List.append_nil, List.cons_append, List.nil_append, Pg.av]
      repeat' (first
        | apply WPc.sq
        | (refine WPc.ret (endP.val (.inr rfl) rfl rfl (by simp; rfl) ?_))
        | refine WPL.nil ?_
        | (apply WPL.cL (c_spec_l1In _ _ _); (case q => (repeat' (first | refine And.intro ?_ ?_ | intro _ | exact cleanOut_nil | (refine Eqv.mk ?_; first | rfl | (simp -implicitDefEqProofs [hN, hw1, hroot']; done)) | (simp -implicitDefEqProofs [hN, hw1, hroot']; done) | (simp -implicitDefEqProofs [hN, hw1, hroot']; rfl) | (simp; done) | (simp; rfl) | rfl))))
        | ((first | refine WPc.rq tok rfl fun K hK => ?_ | refine WPL.rn tok _ (by simp [ahead, isFn]; rfl) fun K hK => ?_); simp -implicitDefEqProofs +contextual [-Int.not_le, -Int.not_lt, -Nat.not_le, -Nat.not_lt, -List.all_eq_true, -List.all_eq_false, -List.any_eq_true, -List.any_eq_false, hN, hw1, hroot']; (repeat1' (first | apply hK | apply And.intro | intro _)) <;> clear hK K <;> (try dsimp only [List.drop]))
        | (refine WPc.region ?_; simp only [List.toList_toArray])
        | (refine WPc.condT ?_ ?_; (focus (simp; done))))
      all_goals rfl
  · have hN' : inRange p.nodes.length 1 400 = false := by simpa using hN
    rw [progOk_len hN']
    refine Con.of tok (nt := 87) Go.Proofs.Tryz.func97 (by kernel_rfl) rfl rfl rfl (Nat.le_of_ble_eq_true rfl) fun G => ?_
    simp only [entSt, tmOf, List.append_nil, List.cons_append, List.nil_append, Pg.av]
    repeat' (first
      | apply WPc.sq
      | (refine WPc.ret (endP.val (.inr rfl) rfl rfl (by simp; rfl) ?_))
      | refine WPL.nil ?_
      | (apply WPL.cL (c_spec_l1In _ _ _); (case q => (repeat' (first | refine And.intro ?_ ?_ | intro _ | exact cleanOut_nil | (refine Eqv.mk ?_; first | rfl | (simp -implicitDefEqProofs [hN']; done)) | (simp -implicitDefEqProofs [hN']; done) | (simp -implicitDefEqProofs [hN']; rfl) | (simp; done) | (simp; rfl) | rfl))))
      | ((first | refine WPc.rq tok rfl fun K hK => ?_ | refine WPL.rn tok _ (by simp [ahead, isFn]; rfl) fun K hK => ?_); simp -implicitDefEqProofs +contextual [-Int.not_le, -Int.not_lt, -Nat.not_le, -Nat.not_lt, -List.all_eq_true, -List.all_eq_false, -List.any_eq_true, -List.any_eq_false, hN']; (repeat1' (first | apply hK | apply And.intro | intro _)) <;> clear hK K <;> (try dsimp only [List.drop]))
      | (refine WPc.region ?_; simp only [List.toList_toArray])
      | (refine WPc.condT ?_ ?_; (focus (simp; done))))
    all_goals rfl
end Go.Own
set_option maxRecDepth 1000000
set_option maxHeartbeats 4000000
namespace Go.Own
attribute [local irreducible] WPc WPL WPS WPS1 WPS2 HAny endP
variable [Laid]
open Go.Lib Go.RowKit
theorem allI_at {α : Type} {l : List α} {f : Nat → α → Bool} {i : Nat} (hi : i < l.length) (h : f i l[i] = false) : allI l f = false := by
  cases e : allI l f with
  | false => rfl
  | true => rw [allI_iff.1 e i hi] at h; cases h
theorem inOk_eq (y : Sy) (i : Nat) (x : In) : inOk y i x = ((headOk i x && (namesOk x.names 30 && (decide (x.vals.length = x.names.length) && (decide (x.links.length ≤ 30) && decide (x.types.length ≤ 8))))) && (x.vals.all (vOk0 y.heap) && (allI x.links (lkS y.insts.length x) && allI x.types (tyS x.types)))) := by
  rw [inOk, lksOk_eq, tyOk_eq]
  have e1 : decide ((x.links.length : Int) ≤ 30) = decide (x.links.length ≤ 30) := by simp; omega
  have e2 : decide ((x.types.length : Int) ≤ 8) = decide (x.types.length ≤ 8) := by simp; omega
  rw [e1, e2]
  cases headOk i x <;> cases x.vals.all (vOk0 y.heap) <;> cases namesOk x.names 30 <;> cases decide (x.vals.length = x.names.length) <;> cases decide (x.links.length ≤ 30) <;> cases allI x.links (lkS y.insts.length x) <;> cases decide (x.types.length ≤ 8) <;> cases allI x.types (tyS x.types) <;> rfl
def lkSeen (x : In) (k : Nat) : List ByteArray := x.names ++ (x.links.take k).map Lk.name
theorem lkSeen_zero (x : In) : lkSeen x 0 = x.names := by simp [lkSeen]
theorem lkSeen_len {x : In} {k : Nat} (hk : k ≤ x.links.length) : (lkSeen x k).length = x.names.length + k := by simp [lkSeen]; omega
theorem lkSeen_next {x : In} {k : Nat} (hk : k < x.links.length) : lkSeen x (k + 1) = lkSeen x k ++ [x.links[k].name] := by
  unfold lkSeen
  rw [List.take_add_one, List.getElem?_eq_getElem hk, Option.toList_some, List.map_append, List.map_cons, List.map_nil, List.append_assoc]
theorem c_spec_l8InstOk (y : Sy) (i : Nat) (hi : i < y.insts.length) (hs : y.sm) (hr : y.rm) : Con PP 96 [y.av, .sc (.int .i64 i)] [] [] (fun r o => r = .sc (.bool (inOk y i y.insts[i]))) := by
  have s1 := hs.insts _ (List.getElem_mem hi)
  have r1 := hr.insts1 _ (List.getElem_mem hi)
  have rI := hr.insts
  have hi' : (i : Int) < y.insts.length := by omega
  have sL := s1.lib
  have sN := s1.names
  have sV := s1.vals
  have sK := s1.links
  have sT := s1.types
  have rN := r1.names
  have rV := r1.vals
  have rK := r1.links
  have rT := r1.types
  rw [inOk_eq]
  refine Con.of tok (nt := 192) Go.Proofs.Tryz.func96 (by kernel_rfl) rfl rfl rfl (Nat.le_of_ble_eq_true rfl) fun G => ?_
  simp only [entSt, tmOf, List.append_nil, List.cons_append, List.nil_append, Sy.av]
  cases hd : headOk i y.insts[i] with
  | false =>
    rw [Bool.false_and, Bool.false_and]
    rcases headOk_no hd with ⟨f1, f2⟩ | ⟨f1, f2, f3⟩ | ⟨f1, f2, f3⟩ | ⟨f1, f2, f3, f4⟩
    · refine go (L := _ ∧ True) (wa5 @hi @hi' @In.cs.eq_1 @f1 @f2) wb0 wb0 wb0 wb0 ⟨fun _ => ?_, wb0⟩
      all_goals rfl
    · refine go (L := _ ∧ True) (wa6 @hi @hi' @In.cs.eq_1 @f1 @f2 @f3) wb0 wb0 wb0 wb0 ⟨fun _ => ?_, wb0⟩
      all_goals rfl
    · refine go (L := _ ∧ True) (wa6 @hi @hi' @In.cs.eq_1 @f1 @f2 @f3) (wb1 (fun v0 (h : _) => c_spec_IsName v0 h)) wb0 wb0 wb0 ⟨fun _ => ?_, wb0⟩
      all_goals rfl
    · refine go (L := _ ∧ True) (wa7 @hi @hi' @In.cs.eq_1 @f1 @f2 @f3 @f4) (wb2 (fun v0 (h : _) => c_spec_IsName v0 h) (fun v0 v1 v2 (_ : True) => c_spec_l1In v0 v1 v2)) wb0 wb0 wb0 ⟨fun _ => ?_, wb0⟩
      all_goals rfl
  | true =>
  rw [Bool.true_and]
  cases hH : (namesOk y.insts[i].names 30 && (decide (y.insts[i].vals.length = y.insts[i].names.length) && (decide (y.insts[i].links.length ≤ 30) && decide (y.insts[i].types.length ≤ 8)))) with
  | false =>
    rw [Bool.false_and]
    rcases headOk_yes hd with ⟨f1, f2, f3, f4⟩ | ⟨f1, f2, f3, f4⟩
    all_goals
      repeat' (first
        | apply WPc.sq
        | apply WPc.block
        | (refine WPc.ret (endP.val (.inr rfl) rfl rfl (by simp; rfl) ?_))
        | apply WPc.skip
        | refine WPL.nil ?_
        | (apply WPL.cL (c_spec_IsName _ ?g1); (case q => (repeat' (first | refine And.intro ?_ ?_ | intro _ | (with_reducible exact cleanOut_nil) | (refine Eqv.mk ?_; first | rfl | (simp -implicitDefEqProofs [hi, hi', In.cs, f1, f2, f3, f4]; done)) | (simp -implicitDefEqProofs [hi, hi', In.cs, f1, f2, f3, f4]; done) | (simp -implicitDefEqProofs [hi, hi', In.cs, f1, f2, f3, f4]; rfl) | (simp; done) | (simp; rfl) | rfl))); (case g1 => (first | assumption | omega)))
        | (apply WPL.cL (c_spec_l1In _ _ _); (case q => (repeat' (first | refine And.intro ?_ ?_ | intro _ | (with_reducible exact cleanOut_nil) | (refine Eqv.mk ?_; first | rfl | (simp -implicitDefEqProofs [hi, hi', In.cs, f1, f2, f3, f4]; done)) | (simp -implicitDefEqProofs [hi, hi', In.cs, f1, f2, f3, f4]; done) | (simp -implicitDefEqProofs [hi, hi', In.cs, f1, f2, f3, f4]; rfl) | (simp; done) | (simp; rfl) | rfl))))
        | (apply WPL.cL (c_spec_l3Names _ _ ?g1); (case q => (repeat' (first | refine And.intro ?_ ?_ | intro _ | (with_reducible exact cleanOut_nil) | (refine Eqv.mk ?_; first | rfl | (simp -implicitDefEqProofs [hi, hi', In.cs, f1, f2, f3, f4]; done)) | (simp -implicitDefEqProofs [hi, hi', In.cs, f1, f2, f3, f4]; done) | (simp -implicitDefEqProofs [hi, hi', In.cs, f1, f2, f3, f4]; rfl) | (simp; done) | (simp; rfl) | rfl))); (case g1 => (first | assumption | omega)))
        | (refine WPL.call0f ?_ ?_ ?_; (focus (simp; done)); (focus (simp; done)))
        | ((first | refine WPc.rq tok rfl fun K hK => ?_ | refine WPL.rn tok _ (by simp [ahead, isFn]; rfl) fun K hK => ?_); simp -implicitDefEqProofs +contextual [-Int.not_le, -Int.not_lt, -Nat.not_le, -Nat.not_lt, -List.all_eq_true, -List.all_eq_false, -List.any_eq_true, -List.any_eq_false, hi, hi', In.cs, f1, f2, f3, f4]; (repeat1' (first | apply hK | apply And.intro | intro _)) <;> clear hK K <;> (try dsimp only [List.drop]))
        | (refine WPc.region ?_; simp only [List.toList_toArray])
        | (refine WPc.condT ?_ ?_; (focus (simp; done)))
        | (refine WPc.cond (by simp [-Bool.not_eq_eq_eq_not]; rfl) (fun hq => ?_) (fun hq => ?_) <;> simp only [hq] <;> (try (exfalso; (simp only [decide_eq_true_eq, decide_eq_false_iff_not] at hq); omega))))
      all_goals first
        | rfl
        | (exfalso; revert hH; simp_all; done)
        | (exfalso; simp_all; omega)
  | true =>
  have hH' := hH
  simp only [Bool.and_eq_true, decide_eq_true_eq] at hH'
  obtain ⟨g2, g3, g4, g5⟩ := hH'
  have g3' : ((y.insts[i].vals.length : Int) = (y.insts[i].names.length : Int)) = True := by simp [g3]
  have g4' : ((30 : Int) < (y.insts[i].links.length : Int)) = False := by simp; omega
  have g5' : ((8 : Int) < (y.insts[i].types.length : Int)) = False := by simp; omega
  rcases headOk_yes hd with ⟨f1, f2, f3, f4⟩ | ⟨f1, f2, f3, f4⟩
  all_goals
    repeat' (first
      | apply WPc.sq
      | apply WPc.block
      | apply WPc.skip
      | refine WPL.nil ?_
      | (apply WPL.cL (c_spec_IsName _ ?g1); (case q => (repeat' (first | refine And.intro ?_ ?_ | intro _ | (with_reducible exact cleanOut_nil) | (refine Eqv.mk ?_; first | rfl | (simp -implicitDefEqProofs [hi, hi', In.cs, f1, f2, f3, f4, g2, g3, g3', g4', g5']; done)) | (simp -implicitDefEqProofs [hi, hi', In.cs, f1, f2, f3, f4, g2, g3, g3', g4', g5']; done) | (simp -implicitDefEqProofs [hi, hi', In.cs, f1, f2, f3, f4, g2, g3, g3', g4', g5']; rfl) | (simp; done) | (simp; rfl) | rfl))); (case g1 => (first | assumption | omega)))
      | (apply WPL.cL (c_spec_l1In _ _ _); (case q => (repeat' (first | refine And.intro ?_ ?_ | intro _ | (with_reducible exact cleanOut_nil) | (refine Eqv.mk ?_; first | rfl | (simp -implicitDefEqProofs [hi, hi', In.cs, f1, f2, f3, f4, g2, g3, g3', g4', g5']; done)) | (simp -implicitDefEqProofs [hi, hi', In.cs, f1, f2, f3, f4, g2, g3, g3', g4', g5']; done) | (simp -implicitDefEqProofs [hi, hi', In.cs, f1, f2, f3, f4, g2, g3, g3', g4', g5']; rfl) | (simp; done) | (simp; rfl) | rfl))))
      | (apply WPL.cL (c_spec_l3Names _ _ ?g1); (case q => (repeat' (first | refine And.intro ?_ ?_ | intro _ | (with_reducible exact cleanOut_nil) | (refine Eqv.mk ?_; first | rfl | (simp -implicitDefEqProofs [hi, hi', In.cs, f1, f2, f3, f4, g2, g3, g3', g4', g5']; done)) | (simp -implicitDefEqProofs [hi, hi', In.cs, f1, f2, f3, f4, g2, g3, g3', g4', g5']; done) | (simp -implicitDefEqProofs [hi, hi', In.cs, f1, f2, f3, f4, g2, g3, g3', g4', g5']; rfl) | (simp; done) | (simp; rfl) | rfl))); (case g1 => (first | assumption | omega)))
      | (refine WPL.call0f ?_ ?_ ?_; (focus (simp; done)); (focus (simp; done)))
      | ((first | refine WPc.rq tok rfl fun K hK => ?_ | refine WPL.rn tok _ (by simp [ahead, isFn]; rfl) fun K hK => ?_); simp -implicitDefEqProofs +contextual [-Int.not_le, -Int.not_lt, -Nat.not_le, -Nat.not_lt, -List.all_eq_true, -List.all_eq_false, -List.any_eq_true, -List.any_eq_false, hi, hi', In.cs, f1, f2, f3, f4, g2, g3, g3', g4', g5']; (repeat1' (first | apply hK | apply And.intro | intro _)) <;> clear hK K <;> (try dsimp only [List.drop]))
      | (refine WPc.region ?_; simp only [List.toList_toArray])
      | (refine WPc.condF ?_ ?_; (focus (simp; done))))
    rw [Bool.true_and]
    refine WPc.loopV (σ := Nat) (fun k => k ≤ y.insts[i].vals.length ∧ (y.insts[i].vals.take k).all (vOk0 y.heap) = true) (fun k => y.insts[i].vals.length - k) (fun k => [(6, .sc (.int .i64 k))]) (fun k => [(2, 41, 4, [y.cs]), (5, 114, 6, [y.insts[i].cs])]) [2, 5] 0 (by simp [In.cs, Sy.cs]) (by simp [In.cs, Sy.cs]) (by simp) ?_
    rintro k ⟨hk, hall⟩ s hs
    simp at hs
    subst hs
    by_cases hlt : k < y.insts[i].vals.length
    · have hz := sV _ (List.getElem_mem hlt)
      have hv := List.getElem?_eq_getElem hlt
      have e1 : V.eqb ⟨y.insts[i].vals[k].k, y.insts[i].vals[k].n, y.insts[i].vals[k].s⟩ ⟨0, 0, ⟨#[]⟩⟩ = decide (y.insts[i].vals[k] = noV) := rfl
      have e2 : valueOk y.heap ⟨y.insts[i].vals[k].k, y.insts[i].vals[k].n, y.insts[i].vals[k].s⟩ = valueOk y.heap y.insts[i].vals[k] := rfl
      cases h0 : decide (y.insts[i].vals[k] = noV) with
      | true =>
        repeat' (first
          | apply WPc.sq
          | apply WPc.block
          | apply WPc.skip
          | (apply WPS.callf (ho := rfl); (case hg => (simp; done)); (case hd => (simp; done)))
          | ((first | refine WPc.rq tok rfl fun K hK => ?_ | refine WPS.rn tok _ (by simp [aheadS]; rfl) fun K hK => ?_); simp -implicitDefEqProofs +contextual [-Int.not_le, -Int.not_lt, -Nat.not_le, -Nat.not_lt, -List.all_eq_true, -List.all_eq_false, -List.any_eq_true, -List.any_eq_false, V.cs, In.cs, Sy.cs, hlt, hi, hi', e1, e2, h0]; (repeat1' (first | apply hK | apply And.intro | intro _)) <;> clear hK K <;> (try dsimp only [List.drop]))
          | (refine WPc.sched (id := 7) tok [] [(0, []), (1, []), (2, []), (3, []), (4, []), (5, []), (6, []), (7, []), (8, []), (9, []), (10, []), (11, []), (12, []), (13, []), (14, []), (15, []), (16, []), (17, [])] (by kernel_rfl) ?_)
          | (refine WPS.nil ?_)
          | (refine WPc.condT ?_ ?_; (focus (simp; done)))
          | (refine WPc.condF ?_ ?_; (focus (simp; done))))
        refine ⟨k + 1, ⟨⟨hlt, all_next hv (by rw [vOk0, h0, Bool.true_or]) hall⟩, by first | omega | (simp only; omega) | assumption⟩, rfl, rfl, ?_, ?_⟩ <;> simp (disch := omega) [wrap64, In.cs, Sy.cs]
      | false =>
        cases h1 : valueOk y.heap y.insts[i].vals[k] with
        | true =>
          repeat' (first
            | apply WPc.sq
            | apply WPc.block
            | apply WPc.skip
            | (apply WPS.cL (hc := (c_spec_ValueOk _ ⟨_, _, _⟩ ?g1)); (case ho => exact rfl); (case q => (repeat' (first | refine And.intro ?_ ?_ | intro _ | (with_reducible exact cleanOut_nil) | (refine Eqv.mk ?_; first | rfl | (simp -implicitDefEqProofs [V.cs, In.cs, Sy.cs, hlt, hi, hi', e1, e2, h0, h1]; done)) | (simp -implicitDefEqProofs [V.cs, In.cs, Sy.cs, hlt, hi, hi', e1, e2, h0, h1]; done) | (simp -implicitDefEqProofs [V.cs, In.cs, Sy.cs, hlt, hi, hi', e1, e2, h0, h1]; rfl) | (simp; done) | (simp; rfl) | rfl))); (case g1 => (first | assumption | exact hz | omega)))
            | ((first | refine WPc.rq tok rfl fun K hK => ?_ | refine WPS.rn tok _ (by simp [aheadS]; rfl) fun K hK => ?_); simp -implicitDefEqProofs +contextual [-Int.not_le, -Int.not_lt, -Nat.not_le, -Nat.not_lt, -List.all_eq_true, -List.all_eq_false, -List.any_eq_true, -List.any_eq_false, V.cs, In.cs, Sy.cs, hlt, hi, hi', e1, e2, h0, h1]; (repeat1' (first | apply hK | apply And.intro | intro _)) <;> clear hK K <;> (try dsimp only [List.drop]))
            | (refine WPc.sched (id := 7) tok [] [(0, []), (1, []), (2, []), (3, []), (4, []), (5, []), (6, []), (7, []), (8, []), (9, []), (10, []), (11, []), (12, []), (13, []), (14, []), (15, []), (16, []), (17, [])] (by kernel_rfl) ?_)
            | (refine WPS.nil ?_)
            | (refine WPc.condT ?_ ?_; (focus (simp; done)))
            | (refine WPc.condF ?_ ?_; (focus (simp; done))))
          refine ⟨k + 1, ⟨⟨hlt, all_next hv (by rw [vOk0, h1, Bool.or_true]) hall⟩, by first | omega | (simp only; omega) | assumption⟩, rfl, rfl, ?_, ?_⟩ <;> simp (disch := omega) [wrap64, In.cs, Sy.cs]
        | false =>
          rw [all_at hv (by rw [vOk0, h0, h1]; rfl), Bool.false_and]
          repeat' (first
            | apply WPc.sq
            | apply WPc.block
            | (refine WPc.ret (endP.val (.inr rfl) rfl rfl (by simp; rfl) ?_))
            | apply WPc.skip
            | (apply WPS.cL (hc := (c_spec_ValueOk _ ⟨_, _, _⟩ ?g1)); (case ho => exact rfl); (case q => (repeat' (first | refine And.intro ?_ ?_ | intro _ | (with_reducible exact cleanOut_nil) | (refine Eqv.mk ?_; first | rfl | (simp -implicitDefEqProofs [V.cs, In.cs, Sy.cs, hlt, hi, hi', e1, e2, h0, h1]; done)) | (simp -implicitDefEqProofs [V.cs, In.cs, Sy.cs, hlt, hi, hi', e1, e2, h0, h1]; done) | (simp -implicitDefEqProofs [V.cs, In.cs, Sy.cs, hlt, hi, hi', e1, e2, h0, h1]; rfl) | (simp; done) | (simp; rfl) | rfl))); (case g1 => (first | assumption | exact hz | omega)))
            | ((first | refine WPc.rq tok rfl fun K hK => ?_ | refine WPS.rn tok _ (by simp [aheadS]; rfl) fun K hK => ?_); simp -implicitDefEqProofs +contextual [-Int.not_le, -Int.not_lt, -Nat.not_le, -Nat.not_lt, -List.all_eq_true, -List.all_eq_false, -List.any_eq_true, -List.any_eq_false, V.cs, In.cs, Sy.cs, hlt, hi, hi', e1, e2, h0, h1]; (repeat1' (first | apply hK | apply And.intro | intro _)) <;> clear hK K <;> (try dsimp only [List.drop]))
            | (refine WPc.sched (id := 7) tok [] [(0, []), (1, []), (2, []), (3, []), (4, []), (5, []), (6, []), (7, []), (8, []), (9, []), (10, []), (11, []), (12, []), (13, []), (14, []), (15, []), (16, []), (17, [])] (by kernel_rfl) ?_)
            | (refine WPS.nil ?_)
            | (refine WPc.condT ?_ ?_; (focus (simp; done))))
          all_goals rfl
    · obtain rfl : k = y.insts[i].vals.length := by omega
      rw [List.take_length] at hall
      rw [hall, Bool.true_and]
      clear hall
      have hb1 : y.insts[i].names.length * 16 ≤ 140737488355328 := by omega
      have hb2 : y.insts[i].names.length ≤ 9223372036854775807 := by omega
      repeat' (first
        | apply WPc.sq
        | apply WPc.block
        | apply WPc.exit
        | (refine WPc.rq tok rfl fun K hK => ?_; simp -implicitDefEqProofs +contextual [-Int.not_le, -Int.not_lt, -Nat.not_le, -Nat.not_lt, -List.all_eq_true, -List.all_eq_false, -List.any_eq_true, -List.any_eq_false, hlt, In.cs, Sy.cs, hb1, hb2]; (repeat1' (first | apply hK | apply And.intro | intro _)) <;> clear hK K <;> (try dsimp only [List.drop]))
        | (refine WPc.condF ?_ ?_; (focus (simp; done))))
      refine WPc.renC 97 900001 fun K hK => ?_
      simp -implicitDefEqProofs
      refine hK _ ?_; clear hK K
      refine WPc.loopV (σ := Nat) (fun k => k ≤ y.insts[i].links.length ∧ (∀ j, (h : j < y.insts[i].links.length) → j < k → lkS y.insts.length y.insts[i] j y.insts[i].links[j] = true)) (fun k => y.insts[i].links.length - k) (fun k => [(8, .sc (.int .i64 k)), (7, .sl 900001 1 [] 0 (y.insts[i].names.length + k))]) (fun k => [(2, 41, 4, [y.cs]), (5, 114, 6, [y.insts[i].cs]), (900001, 9, 1, (lkSeen y.insts[i] k).map sC)]) [2, 5] 0 (by simp [In.cs, Sy.cs, lkSeen_zero]) (by simp [In.cs, Sy.cs, lkSeen_zero]) (by simp) ?_
      rintro k ⟨hk, hall⟩ s hs
      simp at hs
      subst hs
      by_cases hlt2 : k < y.insts[i].links.length
      · have hz := sK _ (List.getElem_mem hlt2)
        have z1 := hz.name
        have z2 := hz.tgt
        have hlk := lkSeen_len hk
        have hln := lkSeen_next hlt2
        have hll : lkS y.insts.length y.insts[i] k y.insts[i].links[k] = (isName y.insts[i].links[k].name && !isW (lkSeen y.insts[i] k) y.insts[i].links[k].name && inRange y.insts[i].links[k].inst 0 ((y.insts.length : Int) - 1) && isName y.insts[i].links[k].tgt) := rfl
        have hb3 : (y.insts[i].names.length + k + 1) * 16 ≤ 140737488355328 := by omega
        have hb4 : y.insts[i].names.length + k + 1 ≤ 9223372036854775807 := by omega
        have hdz := dz_S hlk
        cases h1 : lkS y.insts.length y.insts[i] k y.insts[i].links[k] with
        | false =>
          rw [allI_at hlt2 h1, Bool.false_and]
          rw [hll] at h1
          repeat' (first
            | apply WPc.sq
            | apply WPc.block
            | (refine WPc.ret (endP.val (.inr rfl) rfl rfl (by simp; rfl) ?_))
            | apply WPc.skip
            | refine WPL.nil ?_
            | (apply WPL.cL (c_spec_IsName _ ?g1); (case q => (repeat' (first | refine And.intro ?_ ?_ | intro _ | (with_reducible exact cleanOut_nil) | (refine Eqv.mk ?_; first | rfl | (simp -implicitDefEqProofs [Lk.cs, In.cs, Sy.cs, hlt2, hlk, hb3, hb4, hdz]; done)) | (simp -implicitDefEqProofs [Lk.cs, In.cs, Sy.cs, hlt2, hlk, hb3, hb4, hdz]; done) | (simp -implicitDefEqProofs [Lk.cs, In.cs, Sy.cs, hlt2, hlk, hb3, hb4, hdz]; rfl) | (simp; done) | (simp; rfl) | rfl))); (case g1 => (first | assumption | omega)))
            | (apply WPL.cL (c_spec_l3In _ _); (case q => (repeat' (first | refine And.intro ?_ ?_ | intro _ | (with_reducible exact cleanOut_nil) | (refine Eqv.mk ?_; first | rfl | (simp -implicitDefEqProofs [Lk.cs, In.cs, Sy.cs, hlt2, hlk, hb3, hb4, hdz]; done)) | (simp -implicitDefEqProofs [Lk.cs, In.cs, Sy.cs, hlt2, hlk, hb3, hb4, hdz]; done) | (simp -implicitDefEqProofs [Lk.cs, In.cs, Sy.cs, hlt2, hlk, hb3, hb4, hdz]; rfl) | (simp; done) | (simp; rfl) | rfl))))
            | (refine WPL.call0f ?_ ?_ ?_; (focus (simp; done)); (focus (simp; done)))
            | ((first | refine WPc.rq tok rfl fun K hK => ?_ | refine WPL.rn tok _ (by simp [ahead, isFn]; rfl) fun K hK => ?_); simp -implicitDefEqProofs +contextual [-Int.not_le, -Int.not_lt, -Nat.not_le, -Nat.not_lt, -List.all_eq_true, -List.all_eq_false, -List.any_eq_true, -List.any_eq_false, Lk.cs, In.cs, Sy.cs, hlt2, hlk, hb3, hb4, hdz]; (repeat1' (first | apply hK | apply And.intro | intro _)) <;> clear hK K <;> (try dsimp only [List.drop]))
            | (refine WPc.region ?_; simp only [List.toList_toArray])
            | (refine WPc.condT ?_ ?_; (focus (simp; done)))
            | (refine WPc.cond (by simp [-Bool.not_eq_eq_eq_not]; rfl) (fun hq => ?_) (fun hq => ?_) <;> simp only [hq] <;> (try (exfalso; (simp only [decide_eq_true_eq, decide_eq_false_iff_not] at hq); omega))))
          all_goals first
            | rfl
            | (exfalso; simp_all [inRange]; done)
            | (exfalso; simp_all [inRange]; omega)
        | true =>
          have h1' := h1
          rw [hll] at h1'
          simp only [Bool.and_eq_true, Bool.not_eq_true', inRange, decide_eq_true_eq] at h1'
          obtain ⟨⟨⟨z3, z4⟩, z5, z6⟩, z7⟩ := h1'
          have z5' : (y.insts[i].links[k].inst < 0) = False := by simp; omega
          have z6' : ((y.insts.length : Int) ≤ y.insts[i].links[k].inst) = False := by simp; omega
          repeat' (first
            | apply WPc.sq
            | apply WPc.block
            | apply WPc.skip
            | refine WPL.nil ?_
            | (apply WPL.cL (c_spec_IsName _ ?g1); (case q => (repeat' (first | refine And.intro ?_ ?_ | intro _ | (with_reducible exact cleanOut_nil) | (refine Eqv.mk ?_; first | rfl | (simp -implicitDefEqProofs [Lk.cs, In.cs, Sy.cs, hlt2, hlk, hb3, hb4, hdz, z3, z4, z5', z6', z7]; done)) | (simp -implicitDefEqProofs [Lk.cs, In.cs, Sy.cs, hlt2, hlk, hb3, hb4, hdz, z3, z4, z5', z6', z7]; done) | (simp -implicitDefEqProofs [Lk.cs, In.cs, Sy.cs, hlt2, hlk, hb3, hb4, hdz, z3, z4, z5', z6', z7]; rfl) | (simp; done) | (simp; rfl) | rfl))); (case g1 => (first | assumption | omega)))
            | (apply WPL.cL (c_spec_l3In _ _); (case q => (repeat' (first | refine And.intro ?_ ?_ | intro _ | (with_reducible exact cleanOut_nil) | (refine Eqv.mk ?_; first | rfl | (simp -implicitDefEqProofs [Lk.cs, In.cs, Sy.cs, hlt2, hlk, hb3, hb4, hdz, z3, z4, z5', z6', z7]; done)) | (simp -implicitDefEqProofs [Lk.cs, In.cs, Sy.cs, hlt2, hlk, hb3, hb4, hdz, z3, z4, z5', z6', z7]; done) | (simp -implicitDefEqProofs [Lk.cs, In.cs, Sy.cs, hlt2, hlk, hb3, hb4, hdz, z3, z4, z5', z6', z7]; rfl) | (simp; done) | (simp; rfl) | rfl))))
            | ((first | refine WPc.rq tok rfl fun K hK => ?_ | refine WPL.rn tok _ (by simp [ahead, isFn]; rfl) fun K hK => ?_); simp -implicitDefEqProofs +contextual [-Int.not_le, -Int.not_lt, -Nat.not_le, -Nat.not_lt, -List.all_eq_true, -List.all_eq_false, -List.any_eq_true, -List.any_eq_false, Lk.cs, In.cs, Sy.cs, hlt2, hlk, hb3, hb4, hdz, z3, z4, z5', z6', z7]; (repeat1' (first | apply hK | apply And.intro | intro _)) <;> clear hK K <;> (try dsimp only [List.drop]))
            | (refine WPc.region ?_; simp only [List.toList_toArray])
            | (refine WPc.condT ?_ ?_; (focus (simp; done)))
            | (refine WPc.condF ?_ ?_; (focus (simp; done))))
          refine ⟨k + 1, ⟨⟨hlt2, fun j hj hji => (Nat.lt_succ_iff_lt_or_eq.1 hji).elim (hall j hj) (fun e => by subst e; exact h1)⟩, by first | omega | (simp only; omega) | assumption⟩, rfl, rfl, ?_, ?_⟩ <;> simp (disch := omega) [wrap64, hln, sC, In.cs, Sy.cs, Nat.add_assoc]
      · obtain rfl : k = y.insts[i].links.length := by omega
        have hI : allI y.insts[i].links (lkS y.insts.length y.insts[i]) = true := allI_iff.2 fun j hj => hall j hj hj
        clear hall
        rw [hI, Bool.true_and]
        repeat' (first
          | apply WPc.sq
          | apply WPc.block
          | apply WPc.exit
          | (refine WPc.rq tok rfl fun K hK => ?_; simp -implicitDefEqProofs +contextual [-Int.not_le, -Int.not_lt, -Nat.not_le, -Nat.not_lt, -List.all_eq_true, -List.all_eq_false, -List.any_eq_true, -List.any_eq_false, hlt2, In.cs, Sy.cs]; (repeat1' (first | apply hK | apply And.intro | intro _)) <;> clear hK K <;> (try dsimp only [List.drop]))
          | (refine WPc.condF ?_ ?_; (focus (simp; done))))
        refine WPc.renC 147 900002 fun K hK => ?_
        simp -implicitDefEqProofs
        refine hK _ ?_; clear hK K
        refine WPc.loopV (σ := Nat) (fun k => k ≤ y.insts[i].types.length ∧ (∀ j, (h : j < y.insts[i].types.length) → j < k → tyS y.insts[i].types j y.insts[i].types[j] = true)) (fun k => y.insts[i].types.length - k) (fun k => [(11, .sc (.int .i64 k)), (10, .sl 900002 1 [] 0 k)]) (fun k => [(2, 41, 4, [y.cs]), (5, 114, 6, [y.insts[i].cs]), (900002, 9, 1, (mapT Ty.name y.insts[i].types k).map sC)]) [5] 0 (by simp [In.cs, Sy.cs, mapT_zero]) (by simp [In.cs, Sy.cs, mapT_zero]) (by simp) ?_
        rintro k ⟨hk, hall⟩ s hs
        simp at hs
        subst hs
        by_cases hlt3 : k < y.insts[i].types.length
        · have z1 := (sT _ (List.getElem_mem hlt3)).name
          have hn := mapT_next Ty.name hlt3
          have hlk := mapT_len Ty.name hk
          have hll : tyS y.insts[i].types k y.insts[i].types[k] = (isName y.insts[i].types[k].name && !isW (mapT Ty.name y.insts[i].types k) y.insts[i].types[k].name && inRange y.insts[i].types[k].size 0 8) := rfl
          have hb3 : (k + 1) * 16 ≤ 140737488355328 := by omega
          have hb4 : k + 1 ≤ 9223372036854775807 := by omega
          have hdz := dz_S hlk
          cases h1 : tyS y.insts[i].types k y.insts[i].types[k] with
          | false =>
            rw [allI_at hlt3 h1]
            rw [hll] at h1
            repeat' (first
              | apply WPc.sq
              | apply WPc.block
              | (refine WPc.ret (endP.val (.inr rfl) rfl rfl (by simp; rfl) ?_))
              | apply WPc.skip
              | refine WPL.nil ?_
              | (apply WPL.cL (c_spec_IsName _ ?g1); (case q => (repeat' (first | refine And.intro ?_ ?_ | intro _ | (with_reducible exact cleanOut_nil) | (refine Eqv.mk ?_; first | rfl | (simp -implicitDefEqProofs [Ty.cs, In.cs, Sy.cs, hlt3, hlk, hb3, hb4, hdz]; done)) | (simp -implicitDefEqProofs [Ty.cs, In.cs, Sy.cs, hlt3, hlk, hb3, hb4, hdz]; done) | (simp -implicitDefEqProofs [Ty.cs, In.cs, Sy.cs, hlt3, hlk, hb3, hb4, hdz]; rfl) | (simp; done) | (simp; rfl) | rfl))); (case g1 => (first | assumption | omega)))
              | (apply WPL.cL (c_spec_l1In _ _ _); (case q => (repeat' (first | refine And.intro ?_ ?_ | intro _ | (with_reducible exact cleanOut_nil) | (refine Eqv.mk ?_; first | rfl | (simp -implicitDefEqProofs [Ty.cs, In.cs, Sy.cs, hlt3, hlk, hb3, hb4, hdz]; done)) | (simp -implicitDefEqProofs [Ty.cs, In.cs, Sy.cs, hlt3, hlk, hb3, hb4, hdz]; done) | (simp -implicitDefEqProofs [Ty.cs, In.cs, Sy.cs, hlt3, hlk, hb3, hb4, hdz]; rfl) | (simp; done) | (simp; rfl) | rfl))))
              | (apply WPL.cL (c_spec_l3In _ _); (case q => (repeat' (first | refine And.intro ?_ ?_ | intro _ | (with_reducible exact cleanOut_nil) | (refine Eqv.mk ?_; first | rfl | (simp -implicitDefEqProofs [Ty.cs, In.cs, Sy.cs, hlt3, hlk, hb3, hb4, hdz]; done)) | (simp -implicitDefEqProofs [Ty.cs, In.cs, Sy.cs, hlt3, hlk, hb3, hb4, hdz]; done) | (simp -implicitDefEqProofs [Ty.cs, In.cs, Sy.cs, hlt3, hlk, hb3, hb4, hdz]; rfl) | (simp; done) | (simp; rfl) | rfl))))
              | (refine WPL.call0f ?_ ?_ ?_; (focus (simp; done)); (focus (simp; done)))
              | ((first | refine WPc.rq tok rfl fun K hK => ?_ | refine WPL.rn tok _ (by simp [ahead, isFn]; rfl) fun K hK => ?_); simp -implicitDefEqProofs +contextual [-Int.not_le, -Int.not_lt, -Nat.not_le, -Nat.not_lt, -List.all_eq_true, -List.all_eq_false, -List.any_eq_true, -List.any_eq_false, Ty.cs, In.cs, Sy.cs, hlt3, hlk, hb3, hb4, hdz]; (repeat1' (first | apply hK | apply And.intro | intro _)) <;> clear hK K <;> (try dsimp only [List.drop]))
              | (refine WPc.region ?_; simp only [List.toList_toArray])
              | (refine WPc.condT ?_ ?_; (focus (simp; done)))
              | (refine WPc.cond (by simp [-Bool.not_eq_eq_eq_not]; rfl) (fun hq => ?_) (fun hq => ?_) <;> simp only [hq] <;> (try (exfalso; (simp only [decide_eq_true_eq, decide_eq_false_iff_not] at hq); omega))))
            all_goals first
              | rfl
              | (exfalso; simp_all; done)
          | true =>
            have h1' := h1
            rw [hll] at h1'
            simp only [Bool.and_eq_true, Bool.not_eq_true'] at h1'
            obtain ⟨⟨z3, z4⟩, z5⟩ := h1'
            repeat' (first
              | apply WPc.sq
              | apply WPc.block
              | apply WPc.skip
              | refine WPL.nil ?_
              | (apply WPL.cL (c_spec_IsName _ ?g1); (case q => (repeat' (first | refine And.intro ?_ ?_ | intro _ | (with_reducible exact cleanOut_nil) | (refine Eqv.mk ?_; first | rfl | (simp -implicitDefEqProofs [Ty.cs, In.cs, Sy.cs, hlt3, hlk, hb3, hb4, hdz, z3, z4, z5]; done)) | (simp -implicitDefEqProofs [Ty.cs, In.cs, Sy.cs, hlt3, hlk, hb3, hb4, hdz, z3, z4, z5]; done) | (simp -implicitDefEqProofs [Ty.cs, In.cs, Sy.cs, hlt3, hlk, hb3, hb4, hdz, z3, z4, z5]; rfl) | (simp; done) | (simp; rfl) | rfl))); (case g1 => (first | assumption | omega)))
              | (apply WPL.cL (c_spec_l1In _ _ _); (case q => (repeat' (first | refine And.intro ?_ ?_ | intro _ | (with_reducible exact cleanOut_nil) | (refine Eqv.mk ?_; first | rfl | (simp -implicitDefEqProofs [Ty.cs, In.cs, Sy.cs, hlt3, hlk, hb3, hb4, hdz, z3, z4, z5]; done)) | (simp -implicitDefEqProofs [Ty.cs, In.cs, Sy.cs, hlt3, hlk, hb3, hb4, hdz, z3, z4, z5]; done) | (simp -implicitDefEqProofs [Ty.cs, In.cs, Sy.cs, hlt3, hlk, hb3, hb4, hdz, z3, z4, z5]; rfl) | (simp; done) | (simp; rfl) | rfl))))
              | (apply WPL.cL (c_spec_l3In _ _); (case q => (repeat' (first | refine And.intro ?_ ?_ | intro _ | (with_reducible exact cleanOut_nil) | (refine Eqv.mk ?_; first | rfl | (simp -implicitDefEqProofs [Ty.cs, In.cs, Sy.cs, hlt3, hlk, hb3, hb4, hdz, z3, z4, z5]; done)) | (simp -implicitDefEqProofs [Ty.cs, In.cs, Sy.cs, hlt3, hlk, hb3, hb4, hdz, z3, z4, z5]; done) | (simp -implicitDefEqProofs [Ty.cs, In.cs, Sy.cs, hlt3, hlk, hb3, hb4, hdz, z3, z4, z5]; rfl) | (simp; done) | (simp; rfl) | rfl))))
              | ((first | refine WPc.rq tok rfl fun K hK => ?_ | refine WPL.rn tok _ (by simp [ahead, isFn]; rfl) fun K hK => ?_); simp -implicitDefEqProofs +contextual [-Int.not_le, -Int.not_lt, -Nat.not_le, -Nat.not_lt, -List.all_eq_true, -List.all_eq_false, -List.any_eq_true, -List.any_eq_false, Ty.cs, In.cs, Sy.cs, hlt3, hlk, hb3, hb4, hdz, z3, z4, z5]; (repeat1' (first | apply hK | apply And.intro | intro _)) <;> clear hK K <;> (try dsimp only [List.drop]))
              | (refine WPc.region ?_; simp only [List.toList_toArray])
              | (refine WPc.condT ?_ ?_; (focus (simp; done)))
              | (refine WPc.condF ?_ ?_; (focus (simp; done))))
            refine ⟨k + 1, ⟨⟨hlt3, fun j hj hji => (Nat.lt_succ_iff_lt_or_eq.1 hji).elim (hall j hj) (fun e => by subst e; exact h1)⟩, by first | omega | (simp only; omega) | assumption⟩, rfl, rfl, ?_, ?_⟩ <;> simp (disch := omega) [wrap64, hn, sC, In.cs, Sy.cs]
        · obtain rfl : k = y.insts[i].types.length := by omega
          have hT : allI y.insts[i].types (tyS y.insts[i].types) = true := allI_iff.2 fun j hj => hall j hj hj
          rw [hT]
          repeat' (first
            | apply WPc.sq
            | (refine WPc.ret (endP.val (.inr rfl) rfl rfl (by simp; rfl) ?_))
            | apply WPc.exit
            | (refine WPc.rq tok rfl fun K hK => ?_; simp -implicitDefEqProofs +contextual [-Int.not_le, -Int.not_lt, -Nat.not_le, -Nat.not_lt, -List.all_eq_true, -List.all_eq_false, -List.any_eq_true, -List.any_eq_false, hlt3, In.cs, Sy.cs]; (repeat1' (first | apply hK | apply And.intro | intro _)) <;> clear hK K <;> (try dsimp only [List.drop]))
            | (refine WPc.condF ?_ ?_; (focus (simp; done))))
          all_goals rfl
end Go.Own
set_option maxRecDepth 1000000
set_option maxHeartbeats 4000000
namespace Go.Own
attribute [local irreducible] WPc WPL WPS WPS1 WPS2 HAny endP
variable [Laid]
open Go.Lib Go.RowKit
theorem sysOk_len {y : Sy} (h : ¬ (inRange y.insts.length 1 12 = true ∧ y.units.length ≤ 60 ∧ y.out.length ≤ 40 ∧ heapOk y.heap = true)) : sysOk y = false := by
  rw [Bool.eq_false_iff]
  intro hy
  apply h
  simp only [sysOk, Bool.and_eq_true, decide_eq_true_eq] at hy
  exact ⟨hy.1, hy.2.1, hy.2.2.1, hy.2.2.2.1⟩
theorem sysOk_i {y : Sy} {i : Nat} (hi : i < y.insts.length) (h : inOk y i y.insts[i] = false) : sysOk y = false := by
  have : allI y.insts (inOk y) = false := by
    cases e : allI y.insts (inOk y) with
    | false => rfl
    | true => rw [allI_iff.1 e i hi] at h; cases h
  rw [sysOk, this]; simp
theorem sysOk_u {y : Sy} {i : Nat} (hi : i < y.units.length) (h : unOk y y.units[i] = false) : sysOk y = false := by
  rw [sysOk, all_at (List.getElem?_eq_getElem hi) h]; simp
theorem sysOk_c {y : Sy} {i : Nat} (hi : i < y.heap.length) (h : celOk y y.heap[i] = false) : sysOk y = false := by
  rw [sysOk, all_at (List.getElem?_eq_getElem hi) h]; simp
theorem c_impl_SysOk [F : Facts.Of] (y : Sy) (hs : y.sm) (hr : y.rm) : Con PP 54 [y.av] [] [] (fun r o => r = .sc (.bool (sysOk y))) := by
  have s1 := hs.heap
  have s2 := hs.units
  have r1 := hr.insts
  have r2 := hr.units
  have r3 := hr.heap
  have r4 := hr.units1
  have hw : IntKind.i64.wrap ((y.insts.length : Int) - 1) = (y.insts.length : Int) - 1 := wrap64 (by omega) (by omega)
  refine Con.of tok (nt := 82) Go.Proofs.Tryz.func54 (by kernel_rfl) rfl rfl rfl (Nat.le_of_ble_eq_true rfl) fun G => ?_
  simp only [entSt, tmOf, List.append_nil, List.cons_append, List.nil_append, Sy.av]
  by_cases hl : inRange y.insts.length 1 12 = true ∧ y.units.length ≤ 60 ∧ y.out.length ≤ 40 ∧ heapOk y.heap = true
  · have e0 := sysOk_len (y := y)
    obtain ⟨l1, l2, l3, l4⟩ := hl
    have l2' : ¬ (60 : Int) < (y.units.length : Int) := by omega
    have l3' : ¬ (40 : Int) < (y.out.length : Int) := by omega
    refine go (L := _ ∧ True) (wa4 @l1 @l2' @l3' @l4) (wb2 (fun v0 v1 v2 (_ : True) => c_impl_inRange v0 v1 v2) (fun v0 (h : _) => c_impl_HeapOk v0 h)) wb0 wb0 wb0 ⟨fun _ => ?_, wb0⟩
    refine WPc.loopV (σ := Nat) (fun i => i ≤ y.insts.length ∧ (∀ j, (h : j < y.insts.length) → j < i → inOk y j y.insts[j] = true)) (fun i => y.insts.length - i) (fun i => [(34, .sc (.int .i64 i))]) (fun i => [(1, 41, 4, [y.cs])]) [1, 33] 0 (by simp [Sy.cs]) (by simp [Sy.cs]) (by simp) ?_
    rintro i ⟨hi, hall⟩ s hs
    simp at hs
    subst hs
    by_cases hlt : i < y.insts.length
    · have u1 := c_impl_instOk y i hlt hs hr
      simp only [Sy.cs] at u1
      cases h1 : inOk y i y.insts[i] with
      | false =>
        rw [sysOk_i hlt h1]
        refine go (L := _ ∧ True) (wa3 @hlt @Sy.cs.eq_1 @h1) (wb1 (fun _ => u1)) wb0 wb0 wb0 ⟨fun _ => ?_, wb0⟩
        all_goals rfl
      | true =>
        refine go (L := _ ∧ True) (wa3 @hlt @Sy.cs.eq_1 @h1) (wb1 (fun _ => u1)) wb0 wb0 wb0 ⟨fun _ => ?_, wb0⟩
        refine ⟨i + 1, ⟨⟨hlt, fun j hj hji => (Nat.lt_succ_iff_lt_or_eq.1 hji).elim (hall j hj) (fun e => by subst e; exact h1)⟩, by first | omega | (simp only; omega) | assumption⟩, rfl, rfl, ?_, ?_⟩ <;> simp (disch := omega) [wrap64, Sy.cs]
    · obtain rfl : i = y.insts.length := by omega
      have hI : allI y.insts (inOk y) = true := allI_iff.2 fun j hj => hall j hj hj
      clear hall
      refine go (L := _ ∧ True) (wa2 @hlt @Sy.cs.eq_1) wb0 wb0 wb0 wb0 ⟨fun _ => ?_, wb0⟩
      refine WPc.loopV (σ := Nat) (fun k => k ≤ y.units.length ∧ (y.units.take k).all (unOk y) = true) (fun k => y.units.length - k) (fun k => [(44, .sc (.int .i64 k))]) (fun k => [(1, 41, 4, [y.cs])]) [1, 42, 43] 0 (by simp [Sy.cs]) (by simp [Sy.cs]) (by simp) ?_
      rintro k ⟨hk, hall⟩ s hs
      simp at hs
      subst hs
      by_cases hlt2 : k < y.units.length
      · have hv := List.getElem?_eq_getElem hlt2
        have u1 := c_impl_ProgOk y.units[k].prog (s2 _ (List.getElem_mem hlt2)).prog (fun c hc => ((r4 _ (List.getElem_mem hlt2)).prog.nodes1 c hc).args)
        simp only [Pg.av] at u1
        cases h1 : unOk y y.units[k] with
        | false =>
          rw [sysOk_u hlt2 h1]
          unfold unOk at h1
          cases h2 : inRange y.units[k].home 0 ((y.insts.length : Int) - 1) with
          | false =>
            refine go (L := _ ∧ True) (wa5 @hlt2 @Sy.cs.eq_1 @Un.cs.eq_1 @hw @h2) (wb1 (fun v0 v1 v2 (_ : True) => c_impl_inRange v0 v1 v2)) wb0 wb0 wb0 ⟨fun _ => ?_, wb0⟩
            all_goals rfl
          | true =>
            rw [h2, Bool.true_and] at h1
            refine go (L := _ ∧ True) (wa6 @hlt2 @Sy.cs.eq_1 @Un.cs.eq_1 @hw @h1 @h2) (wb2 (fun v0 v1 v2 (_ : True) => c_impl_inRange v0 v1 v2) (fun _ => u1)) wb0 wb0 wb0 ⟨fun _ => ?_, wb0⟩
            all_goals rfl
        | true =>
          have h1' := h1
          unfold unOk at h1'
          rw [Bool.and_eq_true] at h1'
          obtain ⟨h2, h3⟩ := h1'
          refine go (L := _ ∧ True) (wa6 @hlt2 @Sy.cs.eq_1 @Un.cs.eq_1 @hw @h2 @h3) (wb2 (fun v0 v1 v2 (_ : True) => c_impl_inRange v0 v1 v2) (fun _ => u1)) wb0 wb0 wb0 ⟨fun _ => ?_, wb0⟩
          refine ⟨k + 1, ⟨⟨hlt2, all_next hv h1 hall⟩, by first | omega | (simp only; omega) | assumption⟩, rfl, rfl, ?_, ?_⟩ <;> simp (disch := omega) [wrap64, Sy.cs]
      · obtain rfl : k = y.units.length := by omega
        rw [List.take_length] at hall
        have hU := hall
        clear hall
        refine go (L := _ ∧ True) (wa2 @hlt2 @Sy.cs.eq_1) wb0 wb0 wb0 wb0 ⟨fun _ => ?_, wb0⟩
        refine WPc.loopV (σ := Nat) (fun k => k ≤ y.heap.length ∧ (y.heap.take k).all (celOk y) = true) (fun k => y.heap.length - k) (fun k => [(66, .sc (.int .i64 k))]) (fun k => [(1, 41, 4, [y.cs])]) [1, 64, 65] 0 (by simp [Sy.cs]) (by simp [Sy.cs]) (by simp) ?_
        rintro k ⟨hk, hall⟩ s hs
        simp at hs
        subst hs
        by_cases hlt3 : k < y.heap.length
        · have hv := List.getElem?_eq_getElem hlt3
          have u1 := c_impl_isLambda y y.heap[k].a y.heap[k].b r2 r4
          simp only [Sy.cs] at u1
          by_cases hk2 : y.heap[k].k = 2
          · have hk3 : (y.heap[k].k = 2) = True := by simp [hk2]
            cases h1 : isLam y y.heap[k].a y.heap[k].b with
            | false =>
              rw [sysOk_c hlt3 (by simp [celOk, hk2, h1])]
              refine go (L := _ ∧ True) (wa5 @hlt3 @Sy.cs.eq_1 @Cl.cs.eq_1 @h1 @hk3) (wb1 (fun _ => u1)) wb0 wb0 wb0 ⟨fun _ => ?_, wb0⟩
              all_goals rfl
            | true =>
              refine go (L := _ ∧ True) (wa5 @hlt3 @Sy.cs.eq_1 @Cl.cs.eq_1 @h1 @hk3) (wb1 (fun _ => u1)) wb0 wb0 wb0 ⟨fun _ => ?_, wb0⟩
              refine ⟨k + 1, ⟨⟨hlt3, all_next hv (by simp [celOk, h1]) hall⟩, by first | omega | (simp only; omega) | assumption⟩, rfl, rfl, ?_, ?_⟩ <;> simp (disch := omega) [wrap64, Sy.cs]
          · have hk3 : (y.heap[k].k = 2) = False := by simp [hk2]
            refine go (L := _ ∧ True) (wa4 @hlt3 @Sy.cs.eq_1 @Cl.cs.eq_1 @hk3) wb0 wb0 wb0 wb0 ⟨fun _ => ?_, wb0⟩
            refine ⟨k + 1, ⟨⟨hlt3, all_next hv (by simp [celOk, hk2]) hall⟩, by first | omega | (simp only; omega) | assumption⟩, rfl, rfl, ?_, ?_⟩ <;> simp (disch := omega) [wrap64, Sy.cs]
        · obtain rfl : k = y.heap.length := by omega
          rw [List.take_length] at hall
          have e : sysOk y = true := by simp [sysOk, l1, l2, l3, l4, hI, hU, hall]
          rw [e]
          refine go (L := _ ∧ True) (wa2 @hlt3 @Sy.cs.eq_1) wb0 wb0 wb0 wb0 ⟨fun _ => ?_, wb0⟩
          all_goals rfl
  · rw [sysOk_len hl]
    refine go (L := _ ∧ _ ∧ _ ∧ _ ∧ _ ∧ True) wb0 (wb2 (fun v0 v1 v2 (_ : True) => c_impl_inRange v0 v1 v2) (fun v0 (h : _) => c_impl_HeapOk v0 h)) wb0 wb0 wb0 ⟨fun _ _ _ _ hq => ?_, fun _ _ _ _ hq => ?_, fun _ _ _ _ => ?_, fun _ _ _ => ?_, fun _ _ => ?_, wb0⟩
    all_goals first
      | rfl
      | (exfalso; apply hl; simp_all; done)
      | (exfalso; apply hl; simp_all; omega)
theorem c_impl_ynode (y : Sy) (u n : Int) (h : isNode y u n = true) : Con PP 180 [.fp y.cs, .sc (.int .i64 u), .sc (.int .i64 n)] [] [] (fun r o => r = .fp ((nodeAt y u n).getD ndZ).cs) := by
  obtain ⟨h1, h2, h3, h4⟩ := isNode_yes h
  have h5 : u < (y.units.length : Int) := by omega
  have h6 : n < (y.units[u.toNat].prog.nodes.length : Int) := by omega
  have e : (nodeAt y u n).getD ndZ = y.units[u.toNat].prog.nodes[n.toNat] := by
    unfold nodeAt
    rw [List.getElem?_eq_getElem h3, Option.bind_some, List.getElem?_eq_getElem h4]; rfl
  rw [e]
  refine Con.of tok (nt := 18) Go.Proofs.Tryz.func180 (by kernel_rfl) rfl rfl rfl (Nat.le_of_ble_eq_true rfl) fun G => ?_
  simp only [entSt, tmOf, List.append_nil, List.cons_append, List.nil_append, Sy.cs]
  refine go (L := _ ∧ True) (wa7 @h1 @h2 @h3 @h4 @h5 @h6 @Un.cs.eq_1) wb0 wb0 wb0 wb0 ⟨fun _ => ?_, wb0⟩
  all_goals rfl
theorem c_impl_envOk [F : Facts.Of] (y : Sy) (e : List Bd) (hs : ∀ b, b ∈ e → b.sm) : Con PP 111 [.fp y.cs, .fz (e.map Bd.cs)] [] [] (fun r o => r = .sc (.bool (envOk y e))) := by
  refine Con.lenOf 1 Go.Proofs.Tryz.func111 (by kernel_rfl) (by kernel_rfl) rfl fun hlen => ?_
  simp at hlen
  refine Con.of tok (nt := 28) Go.Proofs.Tryz.func111 (by kernel_rfl) rfl rfl rfl (Nat.le_of_ble_eq_true rfl) fun G => ?_
  simp only [entSt, tmOf, List.append_nil, List.cons_append, List.nil_append, Sy.cs]
  refine go (L := _ ∧ True) wb0 wb0 wb0 wb0 wb0 ⟨fun _ => ?_, wb0⟩
  refine WPc.loopK (σ := Nat) (fun i => i ≤ e.length ∧ (e.take i).all (fun b => isName b.name && valueOk y.heap b.val) = true) (fun i => e.length - i) (fun i => [(9, .sc (.int .i64 i))])  [0, 7, 8] 0 (by simp) (by simp) (by simp) ?_
  rintro i ⟨hi, hall⟩ s hs
  simp at hs
  subst hs
  by_cases hlt : i < e.length
  · have hv := List.getElem?_eq_getElem hlt
    have hz := hs _ (List.getElem_mem hlt)
    have z1 := hz.name
    have z2 := hz.val
    have e2 : valueOk y.heap ⟨e[i].val.k, e[i].val.n, e[i].val.s⟩ = valueOk y.heap e[i].val := rfl
    cases h1 : (isName e[i].name && valueOk y.heap e[i].val) with
    | false =>
      rw [envOk, all_at hv h1]
      cases h2 : isName e[i].name with
      | false =>
        repeat' (first
          | apply WPc.sq
          | apply WPc.block
          | (refine WPc.ret (endP.val (.inr rfl) rfl rfl (by simp; rfl) ?_))
          | apply WPc.skip
          | (apply WPS.cL (hc := (c_impl_IsName _ ?g1)); (case ho => exact rfl); (case q => (repeat' (first | refine And.intro ?_ ?_ | intro _ | (with_reducible exact cleanOut_nil) | (refine Eqv.mk ?_; first | rfl | (simp -implicitDefEqProofs [hlt, Bd.cs, e2, h2]; done)) | (simp -implicitDefEqProofs [hlt, Bd.cs, e2, h2]; done) | (simp -implicitDefEqProofs [hlt, Bd.cs, e2, h2]; rfl) | (simp; done) | (simp; rfl) | rfl))); (case g1 => (first | assumption | exact z2 | omega)))
          | (apply WPS.callf (ho := rfl); (case hg => (simp; done)); (case hd => (simp; done)))
          | ((first | refine WPc.rq tok rfl fun K hK => ?_ | refine WPS.rn tok _ (by simp [aheadS]; rfl) fun K hK => ?_); simp -implicitDefEqProofs +contextual [-Int.not_le, -Int.not_lt, -Nat.not_le, -Nat.not_lt, -List.all_eq_true, -List.all_eq_false, -List.any_eq_true, -List.any_eq_false, hlt, Bd.cs, e2, h2]; (repeat1' (first | apply hK | apply And.intro | intro _)) <;> clear hK K <;> (try dsimp only [List.drop]))
          | (refine WPc.sched (id := 4) tok [] [(0, []), (1, []), (2, []), (3, []), (4, []), (5, []), (6, []), (7, []), (8, []), (9, []), (10, []), (11, []), (12, []), (13, [])] (by kernel_rfl) ?_)
          | (refine WPS.nil ?_)
          | (refine WPc.condT ?_ ?_; (focus (simp; done))))
        all_goals rfl
      | true =>
        rw [h2, Bool.true_and] at h1
        repeat' (first
          | apply WPc.sq
          | apply WPc.block
          | (refine WPc.ret (endP.val (.inr rfl) rfl rfl (by simp; rfl) ?_))
          | apply WPc.skip
          | (apply WPS.cL (hc := (c_impl_ValueOk _ ⟨_, _, _⟩ ?g1)); (case ho => exact rfl); (case q => (repeat' (first | refine And.intro ?_ ?_ | intro _ | (with_reducible exact cleanOut_nil) | (refine Eqv.mk ?_; first | rfl | (simp -implicitDefEqProofs [hlt, Bd.cs, e2, h1, h2]; done)) | (simp -implicitDefEqProofs [hlt, Bd.cs, e2, h1, h2]; done) | (simp -implicitDefEqProofs [hlt, Bd.cs, e2, h1, h2]; rfl) | (simp; done) | (simp; rfl) | rfl))); (case g1 => (first | assumption | exact z2 | omega)))
          | (apply WPS.cL (hc := (c_impl_IsName _ ?g1)); (case ho => exact rfl); (case q => (repeat' (first | refine And.intro ?_ ?_ | intro _ | (with_reducible exact cleanOut_nil) | (refine Eqv.mk ?_; first | rfl | (simp -implicitDefEqProofs [hlt, Bd.cs, e2, h1, h2]; done)) | (simp -implicitDefEqProofs [hlt, Bd.cs, e2, h1, h2]; done) | (simp -implicitDefEqProofs [hlt, Bd.cs, e2, h1, h2]; rfl) | (simp; done) | (simp; rfl) | rfl))); (case g1 => (first | assumption | exact z2 | omega)))
          | ((first | refine WPc.rq tok rfl fun K hK => ?_ | refine WPS.rn tok _ (by simp [aheadS]; rfl) fun K hK => ?_); simp -implicitDefEqProofs +contextual [-Int.not_le, -Int.not_lt, -Nat.not_le, -Nat.not_lt, -List.all_eq_true, -List.all_eq_false, -List.any_eq_true, -List.any_eq_false, hlt, Bd.cs, e2, h1, h2]; (repeat1' (first | apply hK | apply And.intro | intro _)) <;> clear hK K <;> (try dsimp only [List.drop]))
          | (refine WPc.sched (id := 4) tok [] [(0, []), (1, []), (2, []), (3, []), (4, []), (5, []), (6, []), (7, []), (8, []), (9, []), (10, []), (11, []), (12, []), (13, [])] (by kernel_rfl) ?_)
          | (refine WPS.nil ?_)
          | (refine WPc.condT ?_ ?_; (focus (simp; done))))
        all_goals rfl
    | true =>
      have h1' := h1
      rw [Bool.and_eq_true] at h1'
      obtain ⟨h2, h3⟩ := h1'
      repeat' (first
        | apply WPc.sq
        | apply WPc.block
        | apply WPc.skip
        | (apply WPS.cL (hc := (c_impl_ValueOk _ ⟨_, _, _⟩ ?g1)); (case ho => exact rfl); (case q => (repeat' (first | refine And.intro ?_ ?_ | intro _ | (with_reducible exact cleanOut_nil) | (refine Eqv.mk ?_; first | rfl | (simp -implicitDefEqProofs [hlt, Bd.cs, e2, h2, h3]; done)) | (simp -implicitDefEqProofs [hlt, Bd.cs, e2, h2, h3]; done) | (simp -implicitDefEqProofs [hlt, Bd.cs, e2, h2, h3]; rfl) | (simp; done) | (simp; rfl) | rfl))); (case g1 => (first | assumption | exact z2 | omega)))
        | (apply WPS.cL (hc := (c_impl_IsName _ ?g1)); (case ho => exact rfl); (case q => (repeat' (first | refine And.intro ?_ ?_ | intro _ | (with_reducible exact cleanOut_nil) | (refine Eqv.mk ?_; first | rfl | (simp -implicitDefEqProofs [hlt, Bd.cs, e2, h2, h3]; done)) | (simp -implicitDefEqProofs [hlt, Bd.cs, e2, h2, h3]; done) | (simp -implicitDefEqProofs [hlt, Bd.cs, e2, h2, h3]; rfl) | (simp; done) | (simp; rfl) | rfl))); (case g1 => (first | assumption | exact z2 | omega)))
        | ((first | refine WPc.rq tok rfl fun K hK => ?_ | refine WPS.rn tok _ (by simp [aheadS]; rfl) fun K hK => ?_); simp -implicitDefEqProofs +contextual [-Int.not_le, -Int.not_lt, -Nat.not_le, -Nat.not_lt, -List.all_eq_true, -List.all_eq_false, -List.any_eq_true, -List.any_eq_false, hlt, Bd.cs, e2, h2, h3]; (repeat1' (first | apply hK | apply And.intro | intro _)) <;> clear hK K <;> (try dsimp only [List.drop]))
        | (refine WPc.sched (id := 4) tok [] [(0, []), (1, []), (2, []), (3, []), (4, []), (5, []), (6, []), (7, []), (8, []), (9, []), (10, []), (11, []), (12, []), (13, [])] (by kernel_rfl) ?_)
        | (refine WPS.nil ?_)
        | (refine WPc.condT ?_ ?_; (focus (simp; done)))
        | (refine WPc.condF ?_ ?_; (focus (simp; done))))
      all_goals
        refine ⟨i + 1, ⟨⟨hlt, all_next hv h1 hall⟩, by first | omega | (simp only; omega) | assumption⟩, rfl, rfl, ?_, ?_⟩ <;> simp (disch := omega) [wrap64]
  · obtain rfl : i = e.length := by omega
    rw [List.take_length] at hall
    rw [envOk, hall]
    refine go (L := _ ∧ True) (wa1 @hlt) wb0 wb0 wb0 wb0 ⟨fun _ => ?_, wb0⟩
    all_goals rfl
end Go.Own
set_option maxRecDepth 1000000
set_option maxHeartbeats 4000000
namespace Go.Own
attribute [local irreducible] WPc WPL WPS WPS1 WPS2 HAny endP
variable [Laid]
open Go.Lib Go.RowKit
def fmAt (c : Nd) (f : Fm) : Bool := if c.k = 6 ∨ c.k = 10 then decide (f.vals.length = 0) else if c.k = 8 ∨ c.k = 9 ∨ c.k = 11 then decide (f.vals.length < c.args.length) else false
theorem nodeAt_some {y : Sy} {u n : Int} (h : isNode y u n = true) : nodeAt y u n = some ((nodeAt y u n).getD ndZ) := by
  unfold isNode at h
  rw [Bool.and_eq_true] at h
  cases e : nodeAt y u n with
  | none => rw [e] at h; cases h.2
  | some c => rfl
theorem fmOk_eq (y : Sy) (f : Fm) : fmOk y f = (isNode y f.unit f.node && (f.vals.all (valueOk y.heap) && (envOk y f.env && fmAt ((nodeAt y f.unit f.node).getD ndZ) f))) := by
  unfold fmOk
  cases h : isNode y f.unit f.node with
  | false => rfl
  | true =>
    rw [nodeAt_some h]
    rfl
theorem c_impl_frameOk [F : Facts.Of] (y : Sy) (f : Fm) (hs : f.sm) (hy : y.units.length ≤ 1000000000) (hr : ∀ t, t ∈ y.units → t.rm) : Con PP 112 [.fp y.cs, f.av] [] [] (fun r o => r = .sc (.bool (fmOk y f))) := by
  have s1 := hs.vals
  have s2 := hs.env
  rw [fmOk_eq]
  refine Con.of tok (nt := 60) Go.Proofs.Tryz.func112 (by kernel_rfl) rfl rfl rfl (Nat.le_of_ble_eq_true rfl) fun G => ?_
  simp only [entSt, tmOf, List.append_nil, List.cons_append, List.nil_append, Fm.av, Sy.cs]
  have e1 : ∀ u n, isNode ⟨y.heap, y.insts, y.units, y.out⟩ u n = isNode y u n := fun _ _ => rfl
  have e2 : ∀ e, envOk ⟨y.heap, y.insts, y.units, y.out⟩ e = envOk y e := fun _ => rfl
  cases h1 : isNode y f.unit f.node with
  | false =>
    refine go (L := _ ∧ True) (wa3 @e1 @e2 @h1) (wb1 (fun v0 v1 v2 v3 v4 v5 (h : _ ∧ _) => c_impl_isNode ⟨v0, v1, v2, v3⟩ v4 v5 h.1 h.2)) wb0 wb0 (wb2 wb0 (sch 1 [] [(0, []), (1, []), (2, []), (3, []), (4, []), (5, []), (6, []), (7, []), (8, []), (9, []), (10, []), (11, []), (12, []), (13, []), (14, []), (15, []), (16, []), (17, []), (18, []), (19, []), (20, []), (21, []), (22, []), (23, [])])) ⟨fun _ => ?_, wb0⟩
    all_goals rfl
  | true =>
    cases h2 : f.vals.all (valueOk y.heap) with
    | false =>
      refine go (L := _ ∧ True) (wa4 @e1 @e2 @h1 @h2) (wb2 (fun v0 v1 v2 v3 v4 v5 (h : _ ∧ _) => c_impl_isNode ⟨v0, v1, v2, v3⟩ v4 v5 h.1 h.2) (fun v0 v1 (h : _) => c_impl_valuesOk v0 v1 h)) wb0 wb0 (wb2 wb0 (sch 1 [] [(0, []), (1, []), (2, []), (3, []), (4, []), (5, []), (6, []), (7, []), (8, []), (9, []), (10, []), (11, []), (12, []), (13, []), (14, []), (15, []), (16, []), (17, []), (18, []), (19, []), (20, []), (21, []), (22, []), (23, [])])) ⟨fun _ => ?_, wb0⟩
      all_goals rfl
    | true =>
      cases h3 : envOk y f.env with
      | false =>
        refine go (L := _ ∧ True) (wa5 @e1 @e2 @h1 @h2 @h3) (wb3 (fun v0 v1 v2 v3 v4 v5 (h : _ ∧ _) => c_impl_isNode ⟨v0, v1, v2, v3⟩ v4 v5 h.1 h.2) (fun v0 v1 v2 v3 v4 (h : _) => c_impl_envOk ⟨v0, v1, v2, v3⟩ v4 h) (fun v0 v1 (h : _) => c_impl_valuesOk v0 v1 h)) wb0 wb0 (wb2 wb0 (sch 1 [] [(0, []), (1, []), (2, []), (3, []), (4, []), (5, []), (6, []), (7, []), (8, []), (9, []), (10, []), (11, []), (12, []), (13, []), (14, []), (15, []), (16, []), (17, []), (18, []), (19, []), (20, []), (21, []), (22, []), (23, [])])) ⟨fun _ => ?_, wb0⟩
        all_goals rfl
      | true =>
        have u1 := c_impl_ynode y f.unit f.node h1
        generalize (nodeAt y f.unit f.node).getD ndZ = c at u1 ⊢
        simp only [Sy.cs, Nd.cs] at u1
        refine go (L := _ ∧ _ ∧ _ ∧ _ ∧ _ ∧ _ ∧ True) (wa5 @e1 @e2 @h1 @h2 @h3) (wb4 (fun _ => u1) (fun v0 v1 v2 v3 v4 v5 (h : _ ∧ _) => c_impl_isNode ⟨v0, v1, v2, v3⟩ v4 v5 h.1 h.2) (fun v0 v1 v2 v3 v4 (h : _) => c_impl_envOk ⟨v0, v1, v2, v3⟩ v4 h) (fun v0 v1 (h : _) => c_impl_valuesOk v0 v1 h)) wb0 wb0 (wb3 wb0 (sch 1 [] [(0, []), (1, []), (2, []), (3, []), (4, []), (5, []), (6, []), (7, []), (8, []), (9, []), (10, []), (11, []), (12, []), (13, []), (14, []), (15, []), (16, []), (17, []), (18, []), (19, []), (20, []), (21, []), (22, []), (23, [])]) (sch 11 [] [(0, []), (1, []), (2, []), (3, []), (4, []), (5, []), (6, []), (7, []), (8, []), (9, [])])) ⟨fun _ hq => ?_, fun _ hq hq => ?_, fun _ hq hq hq => ?_, fun _ hq hq hq hq => ?_, fun _ hq hq hq hq hq => ?_, fun _ hq hq hq hq hq => ?_, wb0⟩
        all_goals (simp_all [fmAt])
theorem mcOk_f {y : Sy} {m : Mc} {i : Nat} (hi : i < m.stack.length) (h : fmOk y m.stack[i] = false) : mcOk y m = false := by
  rw [mcOk, all_at (List.getElem?_eq_getElem hi) h]; simp
theorem c_impl_machineOk [F : Facts.Of] (y : Sy) (m : Mc) (hs : m.sm) (hy : y.units.length ≤ 1000000000) (hr : ∀ t, t ∈ y.units → t.rm) : Con PP 55 [.fp y.cs, m.av] [] [] (fun r o => r = .sc (.bool (mcOk y m))) := by
  have s1 := hs.env
  have s2 := hs.val
  have s3 := hs.stack
  have e1 : ∀ u n, isNode ⟨y.heap, y.insts, y.units, y.out⟩ u n = isNode y u n := fun _ _ => rfl
  have e2 : ∀ e, envOk ⟨y.heap, y.insts, y.units, y.out⟩ e = envOk y e := fun _ => rfl
  have e3 : ∀ f, fmOk ⟨y.heap, y.insts, y.units, y.out⟩ f = fmOk y f := fun _ => rfl
  have e4 : valueOk y.heap ⟨m.val.k, m.val.n, m.val.s⟩ = valueOk y.heap m.val := rfl
  have e5 : V.eqb ⟨m.val.k, m.val.n, m.val.s⟩ ⟨0, 0, ⟨#[]⟩⟩ = decide (m.val = noV) := rfl
  have b1 : ∀ b : Bool, (b && false) = false := Bool.and_false
  refine Con.of tok (nt := 81) Go.Proofs.Tryz.func55 (by kernel_rfl) rfl rfl rfl (Nat.le_of_ble_eq_true rfl) fun G => ?_
  simp only [entSt, tmOf, List.append_nil, List.cons_append, List.nil_append, Mc.av, Sy.cs]
  cases h1 : inRange m.mode 1 3 with
  | false =>
    have e : mcOk y m = false := by rw [mcOk, h1, Bool.false_and]
    rw [e]
    refine go (L := _ ∧ True) (wa3 @e1 @e2 @h1) (wb1 (fun v0 v1 v2 (_ : True) => c_impl_inRange v0 v1 v2)) wb0 wb0 wb0 ⟨fun _ => ?_, wb0⟩
    all_goals rfl
  | true =>
    cases h2 : inRange m.fin 0 7 with
    | false =>
      have e : mcOk y m = false := by rw [mcOk, h2, Bool.false_and, Bool.and_false]
      rw [e]
      refine go (L := _ ∧ True) (wa4 @e1 @e2 @h1 @h2) (wb1 (fun v0 v1 v2 (_ : True) => c_impl_inRange v0 v1 v2)) wb0 wb0 wb0 ⟨fun _ => ?_, wb0⟩
      all_goals rfl
    | true =>
      cases h3 : isNode y m.unit m.node with
      | false =>
        have e : mcOk y m = false := by rw [mcOk, h3]; simp
        rw [e]
        refine go (L := _ ∧ True) (wa5 @e1 @e2 @h1 @h2 @h3) (wb2 (fun v0 v1 v2 (_ : True) => c_impl_inRange v0 v1 v2) (fun v0 v1 v2 v3 v4 v5 (h : _ ∧ _) => c_impl_isNode ⟨v0, v1, v2, v3⟩ v4 v5 h.1 h.2)) wb0 wb0 wb0 ⟨fun _ => ?_, wb0⟩
        all_goals rfl
      | true =>
        by_cases h4 : m.stack.length ≤ 120
        · have h4' : ¬ (120 : Int) < (m.stack.length : Int) := by omega
          cases h5 : envOk y m.env with
          | false =>
            have e : mcOk y m = false := by rw [mcOk, h5]; simp
            rw [e]
            refine go (L := _ ∧ True) (wa7 @e1 @e2 @h1 @h2 @h3 @h4' @h5) (wb3 (fun v0 v1 v2 (_ : True) => c_impl_inRange v0 v1 v2) (fun v0 v1 v2 v3 v4 v5 (h : _ ∧ _) => c_impl_isNode ⟨v0, v1, v2, v3⟩ v4 v5 h.1 h.2) (fun v0 v1 v2 v3 v4 (h : _) => c_impl_envOk ⟨v0, v1, v2, v3⟩ v4 h)) wb0 wb0 wb0 ⟨fun _ => ?_, wb0⟩
            all_goals rfl
          | true =>
            refine go (L := _ ∧ True) (wa7 @e1 @e2 @h1 @h2 @h3 @h4' @h5) (wb3 (fun v0 v1 v2 (_ : True) => c_impl_inRange v0 v1 v2) (fun v0 v1 v2 v3 v4 v5 (h : _ ∧ _) => c_impl_isNode ⟨v0, v1, v2, v3⟩ v4 v5 h.1 h.2) (fun v0 v1 v2 v3 v4 (h : _) => c_impl_envOk ⟨v0, v1, v2, v3⟩ v4 h)) wb0 wb0 wb0 ⟨fun _ => ?_, wb0⟩
            refine WPc.loopV (σ := Nat) (fun i => i ≤ m.stack.length ∧ (m.stack.take i).all (fmOk y) = true) (fun i => m.stack.length - i) (fun i => [(42, .sc (.int .i64 i))]) (fun i => [(3, 47, 9, [m.cs])]) [0, 3, 40, 41] 0 (by simp [Mc.cs]) (by simp [Mc.cs]) (by simp) ?_
            rintro i ⟨hi, hall⟩ s hs
            simp at hs
            subst hs
            by_cases hlt : i < m.stack.length
            · have hv := List.getElem?_eq_getElem hlt
              have hz := s3 _ (List.getElem_mem hlt)
              have u1 := c_impl_frameOk y m.stack[i] hz hy hr
              simp only [Sy.cs, Fm.av] at u1
              cases h6 : fmOk y m.stack[i] with
              | false =>
                rw [mcOk_f hlt h6]
                refine go (L := _ ∧ True) (wa4 @h6 @hlt @Mc.cs.eq_1 @Fm.cs.eq_1) (wb1 (fun _ => u1)) wb0 wb0 wb0 ⟨fun _ => ?_, wb0⟩
                all_goals rfl
              | true =>
                refine go (L := _ ∧ True) (wa4 @h6 @hlt @Mc.cs.eq_1 @Fm.cs.eq_1) (wb1 (fun _ => u1)) wb0 wb0 wb0 ⟨fun _ => ?_, wb0⟩
                refine ⟨i + 1, ⟨⟨hlt, all_next hv h6 hall⟩, by first | omega | (simp only; omega) | assumption⟩, rfl, rfl, ?_, ?_⟩ <;> simp (disch := omega) [wrap64, Mc.cs]
            · obtain rfl : i = m.stack.length := by omega
              rw [List.take_length] at hall
              have e : mcOk y m = (if m.mode = 1 then decide (m.val = noV) else if m.mode = 2 then valueOk y.heap m.val else vOk0 y.heap m.val) := by
                simp only [mcOk, h1, h2, h3, h4, h5, hall, decide_true, Bool.true_and]
              rw [e]
              repeat' (first
                | apply WPc.sq
                | apply WPc.block
                | (refine WPc.ret (endP.val (.inr rfl) rfl rfl (by simp; rfl) ?_))
                | apply WPc.skip
                | apply WPc.exit
                | (apply WPS.cL (hc := (c_impl_ValueOk _ ⟨_, _, _⟩ ?g1)); (case ho => exact rfl); (case q => (repeat' (first | refine And.intro ?_ ?_ | intro _ | (with_reducible exact cleanOut_nil) | (refine Eqv.mk ?_; first | rfl | (simp -implicitDefEqProofs [hlt, Mc.cs, e4, e5]; done)) | (simp -implicitDefEqProofs [hlt, Mc.cs, e4, e5]; done) | (simp -implicitDefEqProofs [hlt, Mc.cs, e4, e5]; rfl) | (simp; done) | (simp; rfl) | rfl))); (case g1 => (first | assumption | exact s2 | omega)))
                | (apply WPS.callf (ho := rfl); (case hg => (simp; done)); (case hd => (simp; done)))
                | ((first | refine WPc.rq tok rfl fun K hK => ?_ | refine WPS.rn tok _ (by simp [aheadS]; rfl) fun K hK => ?_); simp -implicitDefEqProofs +contextual [-Int.not_le, -Int.not_lt, -Nat.not_le, -Nat.not_lt, -List.all_eq_true, -List.all_eq_false, -List.any_eq_true, -List.any_eq_false, hlt, Mc.cs, e4, e5]; (repeat1' (first | apply hK | apply And.intro | intro _)) <;> clear hK K <;> (try dsimp only [List.drop]))
                | (refine WPc.sched (id := 13) tok [] [(0, []), (1, []), (2, []), (3, []), (4, []), (5, []), (6, []), (7, [])] (by kernel_rfl) ?_)
                | (refine WPc.sched (id := 14) tok [] [(0, []), (1, []), (2, []), (3, []), (4, []), (5, []), (6, []), (7, []), (8, []), (9, []), (10, []), (11, []), (12, []), (13, [])] (by kernel_rfl) ?_)
                | (refine WPS.nil ?_)
                | (refine WPc.condF ?_ ?_; (focus (simp; done)))
                | (refine WPc.cond (by simp [-Bool.not_eq_eq_eq_not]; rfl) (fun hq => ?_) (fun hq => ?_) <;> simp only [hq] <;> (try (exfalso; (simp only [decide_eq_true_eq, decide_eq_false_iff_not] at hq); omega))))
              all_goals (simp_all [vOk0])
        · have h4' : (120 : Int) < (m.stack.length : Int) := by omega
          have e : mcOk y m = false := by simp [mcOk, h4]
          rw [e]
          refine go (L := _ ∧ True) (wa6 @e1 @e2 @h1 @h2 @h3 @h4') (wb2 (fun v0 v1 v2 (_ : True) => c_impl_inRange v0 v1 v2) (fun v0 v1 v2 v3 v4 v5 (h : _ ∧ _) => c_impl_isNode ⟨v0, v1, v2, v3⟩ v4 v5 h.1 h.2)) wb0 wb0 wb0 ⟨fun _ => ?_, wb0⟩
          all_goals rfl
theorem c_impl_MachineOk [F : Facts.Of] (y : Sy) (m : Mc) (hs : y.sm) (hr : y.rm) (hs2 : m.sm) : Con PP 14 [y.av, m.av] [] [] (fun r o => r = .sc (.bool (machOk y m))) := by
  have r2 := hr.units
  have r4 := hr.units1
  have u1 := c_impl_SysOk y hs hr
  have u2 := c_impl_machineOk y m hs2 r2 r4
  simp only [Sy.av, Sy.cs, Mc.av] at u1 u2
  refine Con.of tok (nt := 11) Go.Proofs.Tryz.func14 (by kernel_rfl) rfl rfl rfl (Nat.le_of_ble_eq_true rfl) fun G => ?_
  simp only [entSt, tmOf, List.append_nil, List.cons_append, List.nil_append, Sy.av, Mc.av]
  cases h : sysOk y with
  | false =>
    have e : machOk y m = false := by rw [machOk, h, Bool.false_and]
    rw [e]
    refine go (L := _ ∧ True) (wa1 @h) (wb1 (fun _ => u1)) wb0 wb0 wb0 ⟨fun _ => ?_, wb0⟩
    all_goals rfl
  | true =>
    have e : machOk y m = mcOk y m := by rw [machOk, h, Bool.true_and]
    rw [e]
    refine go (L := _ ∧ True) (wa1 @h) (wb2 (fun _ => u1) (fun _ => u2)) wb0 wb0 wb0 ⟨fun _ => ?_, wb0⟩
    all_goals rfl
end Go.Own
set_option maxRecDepth 1000000
namespace Go.Own
variable {w0 : World} {β0 : Blk} {st st' : St} {β : Blk} {a : Act} {w w' : World} {o : Oper} [Laid]
def uC (b : UInt8) : List C := [.sc (.int .u8 b.toNat)]
@[simp] theorem uC.len (c : UInt8) : (uC c).length = 1 := rfl
@[simp] theorem uC.frz (c : UInt8) : (uC c).map Own.frz = uC c := rfl
@[simp] theorem uC.pln (c : UInt8) : (uC c).all plainC = true := rfl
@[simp] theorem uC.lenA (l : List UInt8) : lenAll 1 (l.map uC) = true := lenAll_map uC.len l
@[simp] theorem uC.frzA (l : List UInt8) : frzAll (l.map uC) = l.map uC := frzAll_map uC.frz l
@[simp] theorem uC.plnA (l : List UInt8) : plainAll (l.map uC) = true := plainAll_map uC.pln l
def appendS (st : St) (nid t u : Nat) (x y : AV) : Option (AV × St) :=
  match elemT tt t, kd tt u, y with
  | some (e, ti), some .str, .sc (.string s) => match dstA st nid e ti.size x with
    | some (id, es, st1) => if e = 5 ∧ ti.size = 1 ∧ ti.bytes = 1 ∧ es.length + s.size ≤ 140737488355328 then some (appO st1 id e 1 es (s.data.toList.map uC)) else none
    | none => none
  | _, _, _ => none
theorem u8_info {i : TypeInfo} (h : PP.info? 5 = some i) : i.zero = some (.int .u8 0) := by
  have : (PP.info? 5).bind (fun i => i.zero) = some (.int .u8 0) := by kernel_rfl
  rw [h] at this
  exact this
theorem run_append_text {P : Program} {w : World} {t u ty e : TypeId} {i : TypeInfo} (ht : P.underlying t = some (.slice e)) (hu : P.underlying u = some .string) (hi : P.info? e = some i) (hz : i.zero = some (.int .u8 0))
    (hsize : i.size = 1) (hby : i.bytes = 1) {v : Value} {n : Nat} {xs : List Value} (hown : w.ownsRow 0 e 1 v n xs) (s : ByteArray) (h63 : n + s.size ≤ maxLen) (hbytes : n + s.size ≤ 140737488355328) :
    ∃ v' w', (Builtin.append_ #[t, u] ty #[v, .string s]).run P w = .ok v' w' ∧ w'.ownsRow 0 e 1 v' (n + s.size) (xs ++ Lib.strCells s) ∧ w.grownBy w' v.ownBlock ∧ (v'.ownBlock = v.ownBlock ∨ v'.ownBlock = some w.heap.size) := by
  obtain ⟨v', w', hr, h1, h2, h3⟩ := Lib.run_append_own_string (P := P) w 0 t u ty e i ht hu hi hz hsize hby v n xs hown s h63 hbytes (Nat.zero_le _)
  refine ⟨v', w', hr, h1, h2, ?_⟩
  have hxl : xs.length = n := by simpa using hown.1
  have hsm : n + s.size ≤ 9223372036854775807 := by simp only [maxLen] at h63; omega
  rcases hown.2 with ⟨rfl, rfl⟩ | ⟨g, cap, cur, rfl, hbg, hg, hnc, hcm, hcs, htake⟩
  · by_cases hm : s.size = 0
    · have := h3.2 ⟨rfl, hm⟩
      subst this
      exact .inl rfl
    · have h4 := run_append_nil_string (P := P) w t u ty e i (.int .u8 0) ht hu hi hz s (by omega) (by omega) (by rw [hby]; omega)
      rw [hr] at h4
      injection h4 with h4
      subst h4
      exact .inr rfl
  · by_cases hroom : n + s.size ≤ cap
    · have hcs' : cur.size = cap := by simpa using hcs
      have h4 := Lib.run_append_room_string (P := P) w t u ty e i ht hu hi hsize g n cap cur hg s hroom (by omega)
      rw [hr] at h4
      injection h4 with h4
      subst h4
      exact .inl rfl
    · have h4 := Lib.run_append_grow_string (P := P) w t u ty e i (.int .u8 0) ht hu hi hz ⟨g, 0, none⟩ n cap xs (by rw [hsize]; simpa using hxl) (hown.cells (g := g) rfl) s (by omega) (by omega) (by rw [hby]; exact growslice_fits (by omega) (by omega))
      rw [hr] at h4
      injection h4 with h4
      subst h4
      exact .inr rfl
theorem sound_appendS (tok : TOk PP tt) {t u nid : Nat} {x y : Operand} {v : AV} (ho : o.op = .call { callee := .builtin .append, args := #[x, y], argTypes := #[t, u] })
    (hv : appendS st nid t u (ev st x) (ev st y) = some (v, st')) : Sound PP o st v st' (nid :: rids (ev st x)) := by
  intro w0 β0 β a w hr K Q hK
  have hy := hr.ev y
  unfold appendS at hv
  split at hv
  · rename_i e ti s hel hu hye
    split at hv
    · rename_i id es st1 hd
      split at hv
      · rename_i hc
        obtain ⟨c0, c1, c2, c3⟩ := hc
        subst c0
        simp only [Option.some.injEq, appO, Prod.mk.injEq] at hv
        obtain ⟨rfl, rfl⟩ := hv
        obtain ⟨g1, g2⟩ := tok.elem hel
        obtain ⟨d, g3, rfl⟩ := tok.kd hu
        obtain ⟨info, d, z, i1, i2, i3, i4, i5, i6, i7⟩ := tok.ok _ ti g2
        rw [hye] at hy
        have hys := hy.sc_inv
        rw [c1] at hd
        obtain ⟨β1, r1, r2, r3, r4, r5, r6⟩ := dst_rel hr (by omega : 0 < 1) (hr.ev x) hd
        have hrow := r1.ob id _ 1 es r3 [] _ 1 es rfl
        simp only [List.append_nil] at hrow
        obtain ⟨_, hslv⟩ := slV_of_vr r2
        obtain ⟨vs, o1, o2, o3⟩ := own_of r1.uq hrow hslv
        obtain ⟨v', w', hrun, q1, q2, q4⟩ := run_append_text (P := PP) (ty := o.type) g1 g3 i1 (u8_info i1) (i3.trans c1) (i4.trans c2) o1 s (by simp only [maxLen]; omega) c3
        have hel2 : (s.data.toList.map uC).length = s.size := by rw [List.length_map, Array.length_toList]; rfl
        rw [← hel2] at q1
        obtain ⟨s1, s2, s3, s4⟩ := r1.appendP r3 o1 o2 o3 q1 q2 q4 (fun r hr => by
          obtain ⟨b, _, rfl⟩ := List.mem_map.1 hr
          exact ⟨rfl, rfl⟩) (by rw [Lib.strCells_length, hel2, Nat.mul_one]) (by omega) (fun i j r x hi hj => by
          rw [List.getElem?_map, Option.map_eq_some_iff] at hi
          obtain ⟨b, hb, rfl⟩ := hi
          match j, hj with
          | 0, hj =>
            simp only [uC, List.getElem?_cons_zero, Option.some.injEq] at hj
            subst hj
            refine ⟨.int .u8 b.toNat, ?_, rfl, rfl⟩
            simp only [Lib.strCells, Nat.mul_one, Nat.add_zero, List.getElem?_map, hb, Option.map_some]
          | j + 1, hj => simp [uC] at hj)
        unfold Oper.wp
        have hrun2 : (execOp a.eval o).run PP w = .ok (.value v') w' := by
          simp [execOp, ho, resolve, invoke, builtin, hys, hrun]
        rw [hrun2]
        exact hK _ _ _ s1 s2 (r4.trans (Nat.le_refl _) (s3.mono (fun y hy => by simp only [List.mem_cons, List.not_mem_nil, or_false] at hy; exact hy ▸ r6))) s4
      · simp at hv
    · simp at hv
  · simp at hv
theorem Stp.appS (tok : TOk PP tt) {nid t u : Nat} {x y : Operand} {v : AV} (hd : dstOk st o = true) (ho : o.op = .call { callee := .builtin .append, args := #[x, y], argTypes := #[t, u] })
    (h : appendS st nid t u (ev st x) (ev st y) = some (v, st')) (hT : below (nid :: rids (ev st x)) = true) : Stp PP o st (nid :: rids (ev st x)) (fun s => s = putSt st' o.dst v) := by
  intro w0 β0 β a w hr Q
  refine sound_appendS tok ho h w0 β0 β a w hr.rel _ _ fun β' u w' hr' hv hf hs => ?_
  exact ⟨_, β', rfl, (hr.next hr' hf hT).put (fun d e => by rw [sound_nt (v := v) hr.rel hr']; exact dst_lt hd d e) hv, hf, hs⟩
theorem WPL.appS (tok : TOk PP tt) {ops : Array Oper} {l : List Oper} {Ψ : St → Prop} {d t u tid : Nat} {x y : Operand} {pos : String} {af : Array Edge}
    (h : ∀ K : St → Prop, (∀ s, WPL PP ops l s Ψ → K s) → ∃ r, appendS st d t u (ev st x) (ev st y) = some r ∧ d < st.nt ∧ below (d :: rids (ev st x)) = true ∧ K (putSt r.2 (some d) r.1)) :
    WPL PP ops ({ dst := some d, op := .call { callee := .builtin .append, args := #[x, y], argTypes := #[t, u] }, type := tid, pos := pos, after := af, guard := none } :: l) st Ψ := by
  obtain ⟨r, h1, h2, h3, h4⟩ := h (fun s => WPL PP ops l s Ψ) fun _ h => h
  obtain ⟨v, st'⟩ := r
  exact WPL.stp rfl (Stp.appS tok (by simpa [dstOk] using h2) rfl h1 h3) fun s hs => by rw [hs]; exact h4
attribute [simp] appendS
theorem strOfNums_u8 (l : List UInt8) : strOfNums (l.map fun b => (b.toNat : Int)) = ⟨l.toArray⟩ := by
  simp only [strOfNums, List.map_map]
  congr 2
  conv => rhs; rw [← List.map_id l]
  refine List.map_congr_left fun b _ => ?_
  simp
end Go.Own
set_option maxRecDepth 100000
namespace Go.Own
variable [Laid]
open Go.Lib Go.RowKit
abbrev By := List UInt8
def byS (s : ByteArray) : By := s.data.toList
def leafT (h : List Cl) (v : V) : By :=
  if v.k = 1 then byS (dec v.n) else if v.k = 2 then (if v.n = 1 then [35, 116] else [35, 102]) else if v.k = 3 then [40, 41] else if v.k = 4 then byS v.s
  else if v.k = 6 then [102, 110] else if v.k = 7 then 35 :: (match h[v.n.toNat]? with | some c => byS c.s | none => []) else []
def fullT (out : By) : Bool := decide (100000 ≤ out.length)
def val0 (h : List Cl) (v : V) (k : Nat) : V := match h[v.n.toNat]? with | some c => arg c.vals k | none => noV
def tailT (h : List Cl) (r : V) (out : By) : By :=
  (if r.k = 3 then out else if fullT (out ++ [32, 46, 32]) = true then out ++ [32, 46, 32] else out ++ [32, 46, 32] ++ leafT h r) ++ [41]
def tellM (h : List Cl) : Nat → Bool → V → By → By
  | 0, false, v, out => if fullT out = true then out else out ++ leafT h v
  | 0, true, r, out => tailT h r out
  | f + 1, false, v, out => if fullT out = true then out else if v.k = 5 then tellM h f true (val0 h v 1) (tellM h f false (val0 h v 0) (out ++ [40])) else out ++ leafT h v
  | f + 1, true, r, out => if r.k = 5 ∧ fullT out = false then tellM h f true (val0 h r 1) (tellM h f false (val0 h r 0) (out ++ [32])) else tailT h r out
structure LeafB (h : List Cl) (S : Nat) : Prop where
  s0 : 25 ≤ S
  leaf : ∀ v : V, valueOk h v = true → (leafT h v).length ≤ S
theorem tailT_len {h : List Cl} {S : Nat} (hS : LeafB h S) {r : V} (hr : valueOk h r = true) (out : By) : (tailT h r out).length ≤ max out.length (100000 + S) + 4 := by
  have := hS.leaf r hr
  have h0 := hS.s0
  have e : (out ++ [32, 46, 32]).length = out.length + 3 := by simp
  unfold tailT
  rw [List.length_append]
  by_cases h3 : r.k = 3
  · rw [if_pos h3]; simp; omega
  · rw [if_neg h3]
    by_cases hf : fullT (out ++ [32, 46, 32]) = true
    · rw [if_pos hf, e]; simp; omega
    · rw [if_neg hf, List.length_append, e]
      simp only [fullT, decide_eq_true_eq, e] at hf
      simp; omega
structure Pairs (h : List Cl) : Prop where
  two : ∀ v : V, valueOk h v = true → v.k = 5 → 0 ≤ v.n ∧ ∃ hi : v.n.toNat < h.length, h[v.n.toNat].vals.length = 2
  ok : ∀ v : V, valueOk h v = true → v.k = 5 → ∀ k, k < 2 → valueOk h (val0 h v k) = true ∧ ((val0 h v k).k = 5 → (val0 h v k).n.toNat < v.n.toNat)
theorem tellM_len {h : List Cl} {S : Nat} (hS : LeafB h S) (hP : Pairs h) : ∀ (f : Nat) (b : Bool) (v : V) (out : By), valueOk h v = true → (v.k = 5 → v.n.toNat < f) →
    (tellM h f b v out).length ≤ max out.length (100000 + S + 5 * f) + (if b = true then 4 else 0)
  | 0, false, v, out, hv, hn => by
    have := hS.leaf v hv
    unfold tellM fullT
    simp only [decide_eq_true_eq]
    split
    · simp; omega
    · simp only [List.length_append]; simp; omega
  | 0, true, r, out, hv, hn => by
    have := tailT_len hS hv out
    unfold tellM
    simp; omega
  | f + 1, false, v, out, hv, hn => by
    have hl := hS.leaf v hv
    unfold tellM
    by_cases hf : 100000 ≤ out.length
    · simp [fullT, hf]; omega
    · by_cases hk : v.k = 5
      · have a0 := hP.ok v hv hk 0 (by omega)
        have a1 := hP.ok v hv hk 1 (by omega)
        have hvn := hn hk
        have i0 := tellM_len hS hP f false (val0 h v 0) (out ++ [40]) a0.1 (fun e => by have := a0.2 e; omega)
        have i1 := tellM_len hS hP f true (val0 h v 1) (tellM h f false (val0 h v 0) (out ++ [40])) a1.1 (fun e => by have := a1.2 e; omega)
        simp only [List.length_append, List.length_cons, List.length_nil, Bool.false_eq_true, if_false, if_true] at i0 i1
        simp only [fullT, hf, hk, decide_false, Bool.false_eq_true, if_false, if_true]
        omega
      · simp only [fullT, hf, hk, decide_false, Bool.false_eq_true, if_false, List.length_append]
        omega
  | f + 1, true, r, out, hv, hn => by
    unfold tellM
    by_cases hk : r.k = 5 ∧ fullT out = false
    · rw [if_pos hk]
      have a0 := hP.ok r hv hk.1 0 (by omega)
      have a1 := hP.ok r hv hk.1 1 (by omega)
      have hvn := hn hk.1
      have hf : out.length < 100000 := by have := hk.2; simp only [fullT, decide_eq_false_iff_not] at this; omega
      have i0 := tellM_len hS hP f false (val0 h r 0) (out ++ [32]) a0.1 (fun e => by have := a0.2 e; omega)
      have i1 := tellM_len hS hP f true (val0 h r 1) (tellM h f false (val0 h r 0) (out ++ [32])) a1.1 (fun e => by have := a1.2 e; omega)
      simp only [List.length_append, List.length_cons, List.length_nil, Bool.false_eq_true, if_false, if_true] at i0 i1
      simp only [if_true]
      omega
    · rw [if_neg hk]
      have := tailT_len hS hv out
      simp only [if_true]
      omega
theorem hOk_at {h : List Cl} (hh : heapOk h = true) {i : Nat} (hi : i < h.length) : okAt h i h[i] = true := by
  simp only [heapOk, Bool.and_eq_true, List.all_eq_true, List.mem_range] at hh
  have := hh.2 _ hi
  rwa [okI_eq hi] at this
theorem valueOk_cell {h : List Cl} {v : V} (hv : valueOk h v = true) (hk : 5 ≤ v.k) : 0 ≤ v.n ∧ ∃ hi : v.n.toNat < h.length, h[v.n.toNat].k = cellKind v.k ∧ cellKind v.k ≠ 0 := by
  unfold valueOk at hv
  rw [if_neg (by omega)] at hv
  simp only [Bool.and_eq_true] at hv
  have hv := hv.2
  rw [if_neg (by omega), if_neg (by omega), if_neg (by omega)] at hv
  simp only [Bool.and_eq_true, decide_eq_true_eq, cellAt] at hv
  obtain ⟨h1, h2, h3⟩ := hv
  by_cases hi : v.n.toNat < h.length
  · rw [List.getElem?_eq_getElem hi] at h3
    exact ⟨h2, hi, by simpa using h3, h1⟩
  · rw [List.getElem?_eq_none (by omega)] at h3
    cases h3
theorem pairs_of {h : List Cl} (hh : heapOk h = true) : Pairs h := by
  have key : ∀ v : V, valueOk h v = true → v.k = 5 → 0 ≤ v.n ∧ ∃ hi : v.n.toNat < h.length, h[v.n.toNat].vals.length = 2 ∧ h[v.n.toNat].vals.all (valueOk h) = true ∧ h[v.n.toNat].vals.all (isBelow v.n.toNat) = true := fun v hv hk => by
    obtain ⟨h0, hi, h1, _⟩ := valueOk_cell hv (by omega)
    rw [hk] at h1
    have h1' : h[v.n.toNat].k = 1 := h1
    have ho := hOk_at hh hi
    simp only [okAt, Bool.and_eq_true, cellOk, h1', if_true, Bool.or_eq_true, decide_eq_true_eq] at ho
    obtain ⟨⟨⟨_, o1⟩, o2⟩, o3⟩ := ho
    exact ⟨h0, hi, o1, o2, o3.resolve_left (by omega)⟩
  refine ⟨fun v hv hk => ?_, fun v hv hk k hlt => ?_⟩
  · obtain ⟨h0, hi, h1, _⟩ := key v hv hk
    exact ⟨h0, hi, h1⟩
  · obtain ⟨h0, hi, h1, h2, h3⟩ := key v hv hk
    have hkl : k < h[v.n.toNat].vals.length := by omega
    have e : val0 h v k = h[v.n.toNat].vals[k] := by
      unfold val0 arg
      rw [List.getElem?_eq_getElem hi]
      simp [hkl]
    rw [e]
    have hm := List.getElem_mem hkl
    refine ⟨List.all_eq_true.1 h2 _ hm, fun e5 => ?_⟩
    have hb := List.all_eq_true.1 h3 _ hm
    have hv0 := List.all_eq_true.1 h2 _ hm
    obtain ⟨g0, _⟩ := valueOk_cell hv0 (by omega)
    unfold isBelow at hb
    have hck : cellKind (h[v.n.toNat].vals[k]).k ≠ 0 := by rw [e5]; decide
    simp [hck] at hb
    omega
theorem dec_size {n : Int} (h0 : -9223372036854775808 ≤ n) (h1 : n ≤ 9223372036854775807) : (dec n).size ≤ 20 := by
  have e : (dec n).size = (itoa n).length := by simp [dec, ByteArray.size]
  have h2 := nDigits_le 19 n.natAbs (by omega) (by omega)
  rw [e, len_itoa]
  split <;> omega
theorem sym_size {s : ByteArray} (h : sym s = true) : s.size ≤ 16 := by
  simp only [sym, Bool.and_eq_true, inRange, decide_eq_true_eq] at h
  omega
theorem leafB_of {h : List Cl} (hs : ∀ c, c ∈ h → c.s.size ≤ 4294967000) : LeafB h 4294967001 := by
  refine ⟨by omega, fun v hv => ?_⟩
  unfold leafT byS
  have hb : ∀ s : ByteArray, s.data.toList.length = s.size := fun s => by rw [Array.length_toList]; rfl
  split
  · rename_i hk
    rw [hb]
    unfold valueOk at hv
    simp [hk, inRange] at hv
    have := dec_size (n := v.n) (by omega) (by omega)
    omega
  · split
    · split <;> simp
    · split
      · simp
      · split
        · rename_i hk
          rw [hb]
          unfold valueOk at hv
          rw [if_pos hk, Bool.and_eq_true] at hv
          have := sym_size hv.2
          omega
        · split
          · simp
          · split
            · cases hc : h[v.n.toNat]? with
              | none => simp
              | some c =>
                have := hs c (List.mem_of_getElem? hc)
                simp only [List.length_cons, hb]
                omega
            · simp
theorem tellM_fuel {h : List Cl} (hP : Pairs h) : ∀ (f g : Nat) (b : Bool) (v : V) (out : By), valueOk h v = true → (v.k = 5 → v.n.toNat < f) → (v.k = 5 → v.n.toNat < g) → tellM h f b v out = tellM h g b v out
  | 0, 0, _, _, _, _, _, _ => rfl
  | 0, g + 1, false, v, out, hv, hf, hg => by
    have hk : ¬ v.k = 5 := fun e => by have := hf e; omega
    simp [tellM, hk]
  | 0, g + 1, true, v, out, hv, hf, hg => by
    have hk : ¬ v.k = 5 := fun e => by have := hf e; omega
    simp [tellM, hk]
  | f + 1, 0, false, v, out, hv, hf, hg => by
    have hk : ¬ v.k = 5 := fun e => by have := hg e; omega
    simp [tellM, hk]
  | f + 1, 0, true, v, out, hv, hf, hg => by
    have hk : ¬ v.k = 5 := fun e => by have := hg e; omega
    simp [tellM, hk]
  | f + 1, g + 1, false, v, out, hv, hf, hg => by
    by_cases hk : v.k = 5
    · have a0 := hP.ok v hv hk 0 (by omega)
      have a1 := hP.ok v hv hk 1 (by omega)
      have b1 := hf hk
      have b2 := hg hk
      simp only [tellM]
      rw [tellM_fuel hP f g false (val0 h v 0) _ a0.1 (fun e => by have := a0.2 e; omega) (fun e => by have := a0.2 e; omega), tellM_fuel hP f g true (val0 h v 1) _ a1.1 (fun e => by have := a1.2 e; omega) (fun e => by have := a1.2 e; omega)]
    · simp [tellM, hk]
  | f + 1, g + 1, true, v, out, hv, hf, hg => by
    by_cases hk : v.k = 5
    · have a0 := hP.ok v hv hk 0 (by omega)
      have a1 := hP.ok v hv hk 1 (by omega)
      have b1 := hf hk
      have b2 := hg hk
      simp only [tellM]
      rw [tellM_fuel hP f g false (val0 h v 0) _ a0.1 (fun e => by have := a0.2 e; omega) (fun e => by have := a0.2 e; omega), tellM_fuel hP f g true (val0 h v 1) _ a1.1 (fun e => by have := a1.2 e; omega) (fun e => by have := a1.2 e; omega)]
    · simp [tellM, hk]
end Go.Own
set_option maxRecDepth 1000000
set_option maxHeartbeats 4000000
namespace Go.Own
attribute [local irreducible] WPc WPL WPS WPS1 WPS2 HAny endP
variable [Laid]
open Go.Lib Go.RowKit
theorem heapOk_fn {h : List Cl} {k : Nat} (hh : heapOk h = true) (hk : k < h.length) (h2 : h[k].k = 2) : 0 ≤ h[k].a ∧ 0 ≤ h[k].b := by
  have ho := hOk_at hh hk
  simp only [okAt, Bool.and_eq_true] at ho
  have := ho.1.1
  unfold cellOk at this
  simp_all
theorem celOk_eq {y : Sy} {c : Cl} (h2 : c.k = 2) (ha : 0 ≤ c.a) (hb : 0 ≤ c.b) : celOk y c = (if h : c.a.toNat < y.units.length then (if h3 : c.b.toNat < y.units[c.a.toNat].prog.nodes.length then decide (y.units[c.a.toNat].prog.nodes[c.b.toNat].k = 7) else false) else false) := by
  unfold celOk isLam isNode nodeAt
  rw [decide_eq_true ha, decide_eq_true hb, decide_eq_false (by simp [h2] : ¬ c.k ≠ 2)]
  by_cases h : c.a.toNat < y.units.length
  · rw [List.getElem?_eq_getElem h, Option.bind_some, dif_pos h]
    by_cases h3 : c.b.toNat < y.units[c.a.toNat].prog.nodes.length
    · rw [List.getElem?_eq_getElem h3, dif_pos h3]; rfl
    · rw [List.getElem?_eq_none (by omega), dif_neg h3]; rfl
  · rw [List.getElem?_eq_none (by omega), dif_neg h]; rfl
theorem c_spec_SysOk (y : Sy) (hs : y.sm) (hr : y.rm) : Con PP 41 [y.av] [] [] (fun r o => r = .sc (.bool (sysOk y))) := by
  have s1 := hs.heap
  have s2 := hs.units
  have r1 := hr.insts
  have r2 := hr.units
  have r3 := hr.heap
  have r4 := hr.units1
  refine Con.of tok (nt := 130) Go.Proofs.Tryz.func41 (by kernel_rfl) rfl rfl rfl (Nat.le_of_ble_eq_true rfl) fun G => ?_
  simp only [entSt, tmOf, List.append_nil, List.cons_append, List.nil_append, Sy.av]
  by_cases hl : inRange y.insts.length 1 12 = true ∧ y.units.length ≤ 60 ∧ y.out.length ≤ 40 ∧ heapOk y.heap = true
  · have e0 := sysOk_len (y := y)
    obtain ⟨l1, l2, l3, l4⟩ := hl
    have l2' : ¬ (60 : Int) < (y.units.length : Int) := by omega
    have l3' : ¬ (40 : Int) < (y.out.length : Int) := by omega
    refine go (L := _ ∧ True) (wa4 @l1 @l2' @l3' @l4) (wb2 (fun v0 (h : _) => c_spec_HeapOk v0 h) (fun v0 v1 v2 (_ : True) => c_spec_l1In v0 v1 v2)) wb0 wb0 wb0 ⟨fun _ => ?_, wb0⟩
    refine WPc.loopV (σ := Nat) (fun i => i ≤ y.insts.length ∧ (∀ j, (h : j < y.insts.length) → j < i → inOk y j y.insts[j] = true)) (fun i => y.insts.length - i) (fun i => [(3, .sc (.int .i64 i))]) (fun i => [(1, 41, 4, [y.cs])]) [1] 0 (by simp [Sy.cs]) (by simp [Sy.cs]) (by simp) ?_
    rintro i ⟨hi, hall⟩ s hs
    simp at hs
    subst hs
    by_cases hlt : i < y.insts.length
    · have u1 := c_spec_l8InstOk y i hlt hs hr
      simp only [Sy.av] at u1
      cases h1 : inOk y i y.insts[i] with
      | false =>
        rw [sysOk_i hlt h1]
        refine go (L := _ ∧ True) (wa3 @hlt @Sy.cs.eq_1 @h1) (wb1 (fun _ => u1)) wb0 wb0 wb0 ⟨fun _ => ?_, wb0⟩
        all_goals rfl
      | true =>
        refine go (L := _ ∧ True) (wa3 @hlt @Sy.cs.eq_1 @h1) (wb1 (fun _ => u1)) wb0 wb0 wb0 ⟨fun _ => ?_, wb0⟩
        refine ⟨i + 1, ⟨⟨hlt, fun j hj hji => (Nat.lt_succ_iff_lt_or_eq.1 hji).elim (hall j hj) (fun e => by subst e; exact h1)⟩, by first | omega | (simp only; omega) | assumption⟩, rfl, rfl, ?_, ?_⟩ <;> simp (disch := omega) [wrap64, Sy.cs]
    · obtain rfl : i = y.insts.length := by omega
      have hI : allI y.insts (inOk y) = true := allI_iff.2 fun j hj => hall j hj hj
      clear hall
      refine go (L := _ ∧ True) (wa2 @hlt @Sy.cs.eq_1) wb0 wb0 wb0 wb0 ⟨fun _ => ?_, wb0⟩
      refine WPc.loopV (σ := Nat) (fun k => k ≤ y.units.length ∧ (y.units.take k).all (unOk y) = true) (fun k => y.units.length - k) (fun k => [(4, .sc (.int .i64 k))]) (fun k => [(1, 41, 4, [y.cs])]) [1] 0 (by simp [Sy.cs]) (by simp [Sy.cs]) (by simp) ?_
      rintro k ⟨hk, hall⟩ s hs
      simp at hs
      subst hs
      by_cases hlt2 : k < y.units.length
      · have hv := List.getElem?_eq_getElem hlt2
        have u1 := c_spec_ProgOk y.units[k].prog (s2 _ (List.getElem_mem hlt2)).prog (fun c hc => ((r4 _ (List.getElem_mem hlt2)).prog.nodes1 c hc).args)
        simp only [Pg.av] at u1
        cases h1 : unOk y y.units[k] with
        | false =>
          rw [sysOk_u hlt2 h1]
          unfold unOk at h1
          refine go (L := _ ∧ _ ∧ _ ∧ _ ∧ True) (wa3 @hlt2 @Sy.cs.eq_1 @Un.cs.eq_1) (wb1 (fun _ => u1)) wb0 wb0 (wb2 wb0 (sch 11 [] ((0, []) :: (1, []) :: (2, []) :: (3, []) :: (4, []) :: (5, []) :: (6, []) :: (7, []) :: (8, []) :: (9, []) :: (10, []) :: (11, []) :: (12, []) :: (13, []) :: (14, []) :: (15, []) :: (16, []) :: (17, []) :: (18, []) :: (19, []) :: (20, []) :: (21, []) :: (22, []) :: (23, []) :: (24, []) :: (25, []) :: (26, []) :: (27, []) :: (28, []) :: []))) ⟨fun _ _ _ hq => ?_, fun _ _ _ hq => ?_, fun _ _ _ => ?_, fun _ _ => ?_, wb0⟩
          all_goals first
            | rfl
            | (exfalso; simp_all [inRange]; done)
            | (exfalso; simp_all [inRange]; omega)
        | true =>
          have h1' := h1
          simp only [unOk, Bool.and_eq_true, inRange, decide_eq_true_eq] at h1'
          obtain ⟨⟨w1, w2⟩, w3⟩ := h1'
          have w1' : (y.units[k].home < 0) = False := by simp; omega
          have w2' : ((y.insts.length : Int) ≤ y.units[k].home) = False := by simp; omega
          refine go (L := _ ∧ True) (wa6 @hlt2 @Sy.cs.eq_1 @Un.cs.eq_1 @w1' @w2' @w3) (wb1 (fun _ => u1)) wb0 wb0 (wb2 wb0 (sch 11 [] ((0, []) :: (1, []) :: (2, []) :: (3, []) :: (4, []) :: (5, []) :: (6, []) :: (7, []) :: (8, []) :: (9, []) :: (10, []) :: (11, []) :: (12, []) :: (13, []) :: (14, []) :: (15, []) :: (16, []) :: (17, []) :: (18, []) :: (19, []) :: (20, []) :: (21, []) :: (22, []) :: (23, []) :: (24, []) :: (25, []) :: (26, []) :: (27, []) :: (28, []) :: []))) ⟨fun _ => ?_, wb0⟩
          refine ⟨k + 1, ⟨⟨hlt2, all_next hv h1 hall⟩, by first | omega | (simp only; omega) | assumption⟩, rfl, rfl, ?_, ?_⟩ <;> simp (disch := omega) [wrap64, Sy.cs]
      · obtain rfl : k = y.units.length := by omega
        rw [List.take_length] at hall
        have hU := hall
        clear hall
        refine go (L := _ ∧ True) (wa2 @hlt2 @Sy.cs.eq_1) wb0 wb0 wb0 wb0 ⟨fun _ => ?_, wb0⟩
        refine WPc.loopV (σ := Nat) (fun k => k ≤ y.heap.length ∧ (y.heap.take k).all (celOk y) = true) (fun k => y.heap.length - k) (fun k => [(5, .sc (.int .i64 k))]) (fun k => [(1, 41, 4, [y.cs])]) [1] 0 (by simp [Sy.cs]) (by simp [Sy.cs]) (by simp) ?_
        rintro k ⟨hk, hall⟩ s hs
        simp at hs
        subst hs
        by_cases hlt3 : k < y.heap.length
        · have hv := List.getElem?_eq_getElem hlt3
          by_cases hk2 : y.heap[k].k = 2
          · have hk3 : (y.heap[k].k = 2) = True := by simp [hk2]
            obtain ⟨ha, hb⟩ := heapOk_fn l4 hlt3 hk2
            have he := celOk_eq (y := y) hk2 ha hb
            by_cases g1 : y.heap[k].a.toNat < y.units.length
            · have g1' : y.heap[k].a < (y.units.length : Int) := by omega
              have g1'' : ¬ (y.units.length : Int) ≤ y.heap[k].a := by omega
              rw [dif_pos g1] at he
              by_cases g2 : y.heap[k].b.toNat < y.units[y.heap[k].a.toNat].prog.nodes.length
              · have g2' : y.heap[k].b < (y.units[y.heap[k].a.toNat].prog.nodes.length : Int) := by omega
                have g2'' : ¬ (y.units[y.heap[k].a.toNat].prog.nodes.length : Int) ≤ y.heap[k].b := by omega
                rw [dif_pos g2] at he
                by_cases g3 : y.units[y.heap[k].a.toNat].prog.nodes[y.heap[k].b.toNat].k = 7
                · have g3' : (y.units[y.heap[k].a.toNat].prog.nodes[y.heap[k].b.toNat].k = 7) = True := by simp [g3]
                  refine go (L := _ ∧ True) (wa15 @hlt3 @Sy.cs.eq_1 @Cl.cs.eq_1 @Un.cs.eq_1 @Nd.cs.eq_1 @hk3 @ha @hb @g1 @g1' @g1'' @g2 @g2' @g2'' @g3') wb0 wb0 wb0 (wb2 wb0 (sch 17 [] ((0, []) :: (1, []) :: (2, []) :: (3, []) :: (4, []) :: (5, []) :: (6, []) :: (7, []) :: (8, []) :: (9, []) :: (10, []) :: (11, []) :: (12, []) :: (13, []) :: (14, []) :: (15, []) :: (16, []) :: (17, []) :: (18, []) :: (19, []) :: (20, []) :: (21, []) :: (22, []) :: (23, []) :: (24, []) :: (25, []) :: (26, []) :: (27, []) :: (28, []) :: (29, []) :: (30, []) :: (31, []) :: (32, []) :: (33, []) :: (34, []) :: (35, []) :: (36, []) :: (37, []) :: (38, []) :: (39, []) :: (40, []) :: []))) ⟨fun _ => ?_, wb0⟩
                  refine ⟨k + 1, ⟨⟨hlt3, all_next hv (by rw [he]; simp [g3]) hall⟩, by first | omega | (simp only; omega) | assumption⟩, rfl, rfl, ?_, ?_⟩ <;> simp (disch := omega) [wrap64, Sy.cs]
                · have g3' : (y.units[y.heap[k].a.toNat].prog.nodes[y.heap[k].b.toNat].k = 7) = False := by simp [g3]
                  rw [sysOk_c hlt3 (by rw [he]; simp [g3])]
                  refine go (L := _ ∧ True) (wa15 @hlt3 @Sy.cs.eq_1 @Cl.cs.eq_1 @Un.cs.eq_1 @Nd.cs.eq_1 @hk3 @ha @hb @g1 @g1' @g1'' @g2 @g2' @g2'' @g3') wb0 wb0 wb0 (wb2 wb0 (sch 17 [] ((0, []) :: (1, []) :: (2, []) :: (3, []) :: (4, []) :: (5, []) :: (6, []) :: (7, []) :: (8, []) :: (9, []) :: (10, []) :: (11, []) :: (12, []) :: (13, []) :: (14, []) :: (15, []) :: (16, []) :: (17, []) :: (18, []) :: (19, []) :: (20, []) :: (21, []) :: (22, []) :: (23, []) :: (24, []) :: (25, []) :: (26, []) :: (27, []) :: (28, []) :: (29, []) :: (30, []) :: (31, []) :: (32, []) :: (33, []) :: (34, []) :: (35, []) :: (36, []) :: (37, []) :: (38, []) :: (39, []) :: (40, []) :: []))) ⟨fun _ => ?_, wb0⟩
                  all_goals rfl
              · have g2'' : (y.units[y.heap[k].a.toNat].prog.nodes.length : Int) ≤ y.heap[k].b := by omega
                rw [dif_neg g2] at he
                rw [sysOk_c hlt3 he]
                refine go (L := _ ∧ True) (wa12 @hlt3 @Sy.cs.eq_1 @Cl.cs.eq_1 @Un.cs.eq_1 @Nd.cs.eq_1 @hk3 @ha @hb @g1 @g1' @g1'' @g2'') wb0 wb0 wb0 (wb2 wb0 (sch 17 [] ((0, []) :: (1, []) :: (2, []) :: (3, []) :: (4, []) :: (5, []) :: (6, []) :: (7, []) :: (8, []) :: (9, []) :: (10, []) :: (11, []) :: (12, []) :: (13, []) :: (14, []) :: (15, []) :: (16, []) :: (17, []) :: (18, []) :: (19, []) :: (20, []) :: (21, []) :: (22, []) :: (23, []) :: (24, []) :: (25, []) :: (26, []) :: (27, []) :: (28, []) :: (29, []) :: (30, []) :: (31, []) :: (32, []) :: (33, []) :: (34, []) :: (35, []) :: (36, []) :: (37, []) :: (38, []) :: (39, []) :: (40, []) :: []))) ⟨fun _ => ?_, wb0⟩
                all_goals rfl
            · have g1'' : (y.units.length : Int) ≤ y.heap[k].a := by omega
              rw [dif_neg g1] at he
              rw [sysOk_c hlt3 he]
              refine go (L := _ ∧ True) (wa9 @hlt3 @Sy.cs.eq_1 @Cl.cs.eq_1 @Un.cs.eq_1 @Nd.cs.eq_1 @hk3 @ha @hb @g1'') wb0 wb0 wb0 (wb2 wb0 (sch 17 [] ((0, []) :: (1, []) :: (2, []) :: (3, []) :: (4, []) :: (5, []) :: (6, []) :: (7, []) :: (8, []) :: (9, []) :: (10, []) :: (11, []) :: (12, []) :: (13, []) :: (14, []) :: (15, []) :: (16, []) :: (17, []) :: (18, []) :: (19, []) :: (20, []) :: (21, []) :: (22, []) :: (23, []) :: (24, []) :: (25, []) :: (26, []) :: (27, []) :: (28, []) :: (29, []) :: (30, []) :: (31, []) :: (32, []) :: (33, []) :: (34, []) :: (35, []) :: (36, []) :: (37, []) :: (38, []) :: (39, []) :: (40, []) :: []))) ⟨fun _ => ?_, wb0⟩
              all_goals rfl
          · have hk3 : (y.heap[k].k = 2) = False := by simp [hk2]
            refine go (L := _ ∧ True) (wa4 @hlt3 @Sy.cs.eq_1 @Cl.cs.eq_1 @hk3) wb0 wb0 wb0 (wb2 wb0 (sch 17 [] ((0, []) :: (1, []) :: (2, []) :: (3, []) :: (4, []) :: (5, []) :: (6, []) :: (7, []) :: (8, []) :: (9, []) :: (10, []) :: (11, []) :: (12, []) :: (13, []) :: (14, []) :: (15, []) :: (16, []) :: (17, []) :: (18, []) :: (19, []) :: (20, []) :: (21, []) :: (22, []) :: (23, []) :: (24, []) :: (25, []) :: (26, []) :: (27, []) :: (28, []) :: (29, []) :: (30, []) :: (31, []) :: (32, []) :: (33, []) :: (34, []) :: (35, []) :: (36, []) :: (37, []) :: (38, []) :: (39, []) :: (40, []) :: []))) ⟨fun _ => ?_, wb0⟩
            refine ⟨k + 1, ⟨⟨hlt3, all_next hv (by simp [celOk, hk2]) hall⟩, by first | omega | (simp only; omega) | assumption⟩, rfl, rfl, ?_, ?_⟩ <;> simp (disch := omega) [wrap64, Sy.cs]
        · obtain rfl : k = y.heap.length := by omega
          rw [List.take_length] at hall
          have e : sysOk y = true := by simp [sysOk, l1, l2, l3, l4, hI, hU, hall]
          rw [e]
          refine go (L := _ ∧ True) (wa2 @hlt3 @Sy.cs.eq_1) wb0 wb0 wb0 wb0 ⟨fun _ => ?_, wb0⟩
          all_goals rfl
  · rw [sysOk_len hl]
    refine go (L := _ ∧ _ ∧ _ ∧ _ ∧ _ ∧ True) wb0 (wb2 (fun v0 (h : _) => c_spec_HeapOk v0 h) (fun v0 v1 v2 (_ : True) => c_spec_l1In v0 v1 v2)) wb0 wb0 wb0 ⟨fun _ _ _ _ hq => ?_, fun _ _ _ _ hq => ?_, fun _ _ _ _ => ?_, fun _ _ _ => ?_, fun _ _ => ?_, wb0⟩
    all_goals first
      | rfl
      | (exfalso; apply hl; simp_all; done)
      | (exfalso; apply hl; simp_all; omega)
theorem c_spec_l9At (y : Sy) (u n : Int) : Con PP 43 [y.av, .sc (.int .i64 u), .sc (.int .i64 n)] [] [] (fun r o => r = .sc (.bool (isNode y u n))) := by
  rw [isNode_eq]
  refine Con.of tok (nt := 32) Go.Proofs.Tryz.func43 (by kernel_rfl) rfl rfl rfl (Nat.le_of_ble_eq_true rfl) fun G => ?_
  simp only [entSt, tmOf, List.append_nil, List.cons_append, List.nil_append, Sy.av]
  by_cases a0 : 0 ≤ u
  · by_cases a1 : u.toNat < y.units.length
    · have a2 : u < (y.units.length : Int) := by omega
      have a3 : inRange u 0 ((y.units.length : Int) - 1) = true := by simp [inRange]; omega
      rw [List.getElem?_eq_getElem a1, a3, Bool.true_and]
      by_cases b0 : 0 ≤ n
      · have b3 : inRange n 0 ((y.units[u.toNat].prog.nodes.length : Int) - 1) = decide (n < (y.units[u.toNat].prog.nodes.length : Int)) := by
          unfold inRange
          rw [decide_eq_true b0, Bool.true_and]
          exact decide_eq_decide.2 (by omega)
        dsimp only
        rw [b3]
        refine go (L := _ ∧ True) (wa5 @a0 @a1 @a2 @b0 @Un.cs.eq_1) wb0 wb0 wb0 wb0 ⟨fun _ => ?_, wb0⟩
        all_goals rfl
      · have b3 : inRange n 0 ((y.units[u.toNat].prog.nodes.length : Int) - 1) = false := by simp [inRange]; omega
        dsimp only
        rw [b3]
        refine go (L := _ ∧ True) (wa5 @a0 @a1 @a2 @b0 @Un.cs.eq_1) wb0 wb0 wb0 wb0 ⟨fun _ => ?_, wb0⟩
        all_goals rfl
    · have a2 : ¬ u < (y.units.length : Int) := by omega
      have a3 : inRange u 0 ((y.units.length : Int) - 1) = false := by simp [inRange]; omega
      rw [a3, Bool.false_and]
      refine go (L := _ ∧ True) (wa2 @a0 @a2) wb0 wb0 wb0 wb0 ⟨fun _ => ?_, wb0⟩
      all_goals rfl
  · have a3 : inRange u 0 ((y.units.length : Int) - 1) = false := by simp [inRange]; omega
    rw [a3, Bool.false_and]
    refine go (L := _ ∧ True) (wa1 @a0) wb0 wb0 wb0 wb0 ⟨fun _ => ?_, wb0⟩
    all_goals rfl
theorem c_spec_l9Env (y : Sy) (e : List Bd) (hs : ∀ b, b ∈ e → b.sm) : Con PP 44 [y.av, .fz (e.map Bd.cs)] [] [] (fun r o => r = .sc (.bool (envOk y e))) := by
  refine Con.lenOf 1 Go.Proofs.Tryz.func44 (by kernel_rfl) (by kernel_rfl) rfl fun hlen => ?_
  simp at hlen
  refine Con.of tok (nt := 30) Go.Proofs.Tryz.func44 (by kernel_rfl) rfl rfl rfl (Nat.le_of_ble_eq_true rfl) fun G => ?_
  simp only [entSt, tmOf, List.append_nil, List.cons_append, List.nil_append, Sy.av]
  refine go (L := _ ∧ True) wb0 wb0 wb0 wb0 wb0 ⟨fun _ => ?_, wb0⟩
  refine WPc.loopV (σ := Nat) (fun i => i ≤ e.length ∧ (e.take i).all (fun b => isName b.name && valueOk y.heap b.val) = true) (fun i => e.length - i) (fun i => [(5, .sc (.int .i64 i))]) (fun i => [(2, 41, 4, [y.cs])]) [1, 2] 0 (by simp [Sy.cs]) (by simp [Sy.cs]) (by simp) ?_
  rintro i ⟨hi, hall⟩ s hs
  simp at hs
  subst hs
  by_cases hlt : i < e.length
  · have hv := List.getElem?_eq_getElem hlt
    have hz := hs _ (List.getElem_mem hlt)
    have z1 := hz.name
    have z2 := hz.val
    have e2 : valueOk y.heap ⟨e[i].val.k, e[i].val.n, e[i].val.s⟩ = valueOk y.heap e[i].val := rfl
    cases h1 : (isName e[i].name && valueOk y.heap e[i].val) with
    | false =>
      rw [envOk, all_at hv h1]
      cases h2 : isName e[i].name with
      | false =>
        repeat' (first
          | apply WPc.sq
          | apply WPc.block
          | (refine WPc.ret (endP.val (.inr rfl) rfl rfl (by simp; rfl) ?_))
          | apply WPc.skip
          | (apply WPS.cL (hc := (c_spec_IsName _ ?g1)); (case ho => exact rfl); (case q => (repeat' (first | refine And.intro ?_ ?_ | intro _ | (with_reducible exact cleanOut_nil) | (refine Eqv.mk ?_; first | rfl | (simp -implicitDefEqProofs [hlt, Bd.cs, Sy.cs, e2, h2]; done)) | (simp -implicitDefEqProofs [hlt, Bd.cs, Sy.cs, e2, h2]; done) | (simp -implicitDefEqProofs [hlt, Bd.cs, Sy.cs, e2, h2]; rfl) | (simp; done) | (simp; rfl) | rfl))); (case g1 => (first | assumption | exact z2 | omega)))
          | (apply WPS.callf (ho := rfl); (case hg => (simp; done)); (case hd => (simp; done)))
          | ((first | refine WPc.rq tok rfl fun K hK => ?_ | refine WPS.rn tok _ (by simp [aheadS]; rfl) fun K hK => ?_); simp -implicitDefEqProofs +contextual [-Int.not_le, -Int.not_lt, -Nat.not_le, -Nat.not_lt, -List.all_eq_true, -List.all_eq_false, -List.any_eq_true, -List.any_eq_false, hlt, Bd.cs, Sy.cs, e2, h2]; (repeat1' (first | apply hK | apply And.intro | intro _)) <;> clear hK K <;> (try dsimp only [List.drop]))
          | (refine WPc.sched (id := 4) tok [] [(0, []), (1, []), (2, []), (3, []), (4, []), (5, []), (6, []), (7, []), (8, []), (9, []), (10, []), (11, []), (12, []), (13, []), (14, []), (15, []), (16, []), (17, [])] (by kernel_rfl) ?_)
          | (refine WPS.nil ?_)
          | (refine WPc.condT ?_ ?_; (focus (simp; done))))
        all_goals rfl
      | true =>
        rw [h2, Bool.true_and] at h1
        repeat' (first
          | apply WPc.sq
          | apply WPc.block
          | (refine WPc.ret (endP.val (.inr rfl) rfl rfl (by simp; rfl) ?_))
          | apply WPc.skip
          | (apply WPS.cL (hc := (c_spec_ValueOk _ ⟨_, _, _⟩ ?g1)); (case ho => exact rfl); (case q => (repeat' (first | refine And.intro ?_ ?_ | intro _ | (with_reducible exact cleanOut_nil) | (refine Eqv.mk ?_; first | rfl | (simp -implicitDefEqProofs [hlt, Bd.cs, Sy.cs, e2, h1, h2]; done)) | (simp -implicitDefEqProofs [hlt, Bd.cs, Sy.cs, e2, h1, h2]; done) | (simp -implicitDefEqProofs [hlt, Bd.cs, Sy.cs, e2, h1, h2]; rfl) | (simp; done) | (simp; rfl) | rfl))); (case g1 => (first | assumption | exact z2 | omega)))
          | (apply WPS.cL (hc := (c_spec_IsName _ ?g1)); (case ho => exact rfl); (case q => (repeat' (first | refine And.intro ?_ ?_ | intro _ | (with_reducible exact cleanOut_nil) | (refine Eqv.mk ?_; first | rfl | (simp -implicitDefEqProofs [hlt, Bd.cs, Sy.cs, e2, h1, h2]; done)) | (simp -implicitDefEqProofs [hlt, Bd.cs, Sy.cs, e2, h1, h2]; done) | (simp -implicitDefEqProofs [hlt, Bd.cs, Sy.cs, e2, h1, h2]; rfl) | (simp; done) | (simp; rfl) | rfl))); (case g1 => (first | assumption | exact z2 | omega)))
          | ((first | refine WPc.rq tok rfl fun K hK => ?_ | refine WPS.rn tok _ (by simp [aheadS]; rfl) fun K hK => ?_); simp -implicitDefEqProofs +contextual [-Int.not_le, -Int.not_lt, -Nat.not_le, -Nat.not_lt, -List.all_eq_true, -List.all_eq_false, -List.any_eq_true, -List.any_eq_false, hlt, Bd.cs, Sy.cs, e2, h1, h2]; (repeat1' (first | apply hK | apply And.intro | intro _)) <;> clear hK K <;> (try dsimp only [List.drop]))
          | (refine WPc.sched (id := 4) tok [] [(0, []), (1, []), (2, []), (3, []), (4, []), (5, []), (6, []), (7, []), (8, []), (9, []), (10, []), (11, []), (12, []), (13, []), (14, []), (15, []), (16, []), (17, [])] (by kernel_rfl) ?_)
          | (refine WPS.nil ?_)
          | (refine WPc.condT ?_ ?_; (focus (simp; done))))
        all_goals rfl
    | true =>
      have h1' := h1
      rw [Bool.and_eq_true] at h1'
      obtain ⟨h2, h3⟩ := h1'
      repeat' (first
        | apply WPc.sq
        | apply WPc.block
        | apply WPc.skip
        | (apply WPS.cL (hc := (c_spec_ValueOk _ ⟨_, _, _⟩ ?g1)); (case ho => exact rfl); (case q => (repeat' (first | refine And.intro ?_ ?_ | intro _ | (with_reducible exact cleanOut_nil) | (refine Eqv.mk ?_; first | rfl | (simp -implicitDefEqProofs [hlt, Bd.cs, Sy.cs, e2, h2, h3]; done)) | (simp -implicitDefEqProofs [hlt, Bd.cs, Sy.cs, e2, h2, h3]; done) | (simp -implicitDefEqProofs [hlt, Bd.cs, Sy.cs, e2, h2, h3]; rfl) | (simp; done) | (simp; rfl) | rfl))); (case g1 => (first | assumption | exact z2 | omega)))
        | (apply WPS.cL (hc := (c_spec_IsName _ ?g1)); (case ho => exact rfl); (case q => (repeat' (first | refine And.intro ?_ ?_ | intro _ | (with_reducible exact cleanOut_nil) | (refine Eqv.mk ?_; first | rfl | (simp -implicitDefEqProofs [hlt, Bd.cs, Sy.cs, e2, h2, h3]; done)) | (simp -implicitDefEqProofs [hlt, Bd.cs, Sy.cs, e2, h2, h3]; done) | (simp -implicitDefEqProofs [hlt, Bd.cs, Sy.cs, e2, h2, h3]; rfl) | (simp; done) | (simp; rfl) | rfl))); (case g1 => (first | assumption | exact z2 | omega)))
        | ((first | refine WPc.rq tok rfl fun K hK => ?_ | refine WPS.rn tok _ (by simp [aheadS]; rfl) fun K hK => ?_); simp -implicitDefEqProofs +contextual [-Int.not_le, -Int.not_lt, -Nat.not_le, -Nat.not_lt, -List.all_eq_true, -List.all_eq_false, -List.any_eq_true, -List.any_eq_false, hlt, Bd.cs, Sy.cs, e2, h2, h3]; (repeat1' (first | apply hK | apply And.intro | intro _)) <;> clear hK K <;> (try dsimp only [List.drop]))
        | (refine WPc.sched (id := 4) tok [] [(0, []), (1, []), (2, []), (3, []), (4, []), (5, []), (6, []), (7, []), (8, []), (9, []), (10, []), (11, []), (12, []), (13, []), (14, []), (15, []), (16, []), (17, [])] (by kernel_rfl) ?_)
        | (refine WPS.nil ?_)
        | (refine WPc.condT ?_ ?_; (focus (simp; done)))
        | (refine WPc.condF ?_ ?_; (focus (simp; done))))
      all_goals
        refine ⟨i + 1, ⟨⟨hlt, all_next hv h1 hall⟩, by first | omega | (simp only; omega) | assumption⟩, rfl, rfl, ?_, ?_⟩ <;> simp (disch := omega) [wrap64, Sy.cs]
  · obtain rfl : i = e.length := by omega
    rw [List.take_length] at hall
    rw [envOk, hall]
    refine go (L := _ ∧ True) (wa2 @hlt @Sy.cs.eq_1) wb0 wb0 wb0 wb0 ⟨fun _ => ?_, wb0⟩
    all_goals rfl
theorem c_spec_l9Frame (y : Sy) (f : Fm) (hs : f.sm) (hr : f.rm) : Con PP 45 [y.av, f.av] [] [] (fun r o => r = .sc (.bool (fmOk y f))) := by
  have s1 := hs.vals
  have s2 := hs.env
  have rV := hr.vals
  rw [fmOk_eq]
  refine Con.of tok (nt := 69) Go.Proofs.Tryz.func45 (by kernel_rfl) rfl rfl rfl (Nat.le_of_ble_eq_true rfl) fun G => ?_
  simp only [entSt, tmOf, List.append_nil, List.cons_append, List.nil_append, Fm.av, Sy.av]
  have e1 : ∀ u n, isNode ⟨y.heap, y.insts, y.units, y.out⟩ u n = isNode y u n := fun _ _ => rfl
  have e2 : ∀ e, envOk ⟨y.heap, y.insts, y.units, y.out⟩ e = envOk y e := fun _ => rfl
  cases h1 : isNode y f.unit f.node with
  | false =>
    refine go (L := _ ∧ True) (wa3 @e1 @e2 @h1) (wb1 (fun v0 v1 v2 v3 v4 v5 (_ : True) => c_spec_l9At ⟨v0, v1, v2, v3⟩ v4 v5)) wb0 wb0 wb0 ⟨fun _ => ?_, wb0⟩
    all_goals rfl
  | true =>
    cases h3 : envOk y f.env with
    | false =>
      rw [Bool.false_and, Bool.and_false, Bool.and_false]
      refine go (L := _ ∧ True) (wa4 @e1 @e2 @h1 @h3) (wb2 (fun v0 v1 v2 v3 v4 v5 (_ : True) => c_spec_l9At ⟨v0, v1, v2, v3⟩ v4 v5) (fun v0 v1 v2 v3 v4 (h : _) => c_spec_l9Env ⟨v0, v1, v2, v3⟩ v4 h)) wb0 wb0 wb0 ⟨fun _ => ?_, wb0⟩
      all_goals rfl
    | true =>
      obtain ⟨a0, b0, a1, b1⟩ := isNode_yes h1
      have a2 : f.unit < (y.units.length : Int) := by omega
      have b2 : f.node < (y.units[f.unit.toNat].prog.nodes.length : Int) := by omega
      have e : (nodeAt y f.unit f.node).getD ndZ = y.units[f.unit.toNat].prog.nodes[f.node.toNat] := by
        unfold nodeAt
        rw [List.getElem?_eq_getElem a1, Option.bind_some, List.getElem?_eq_getElem b1]; rfl
      rw [e]
      refine go (L := _ ∧ True) (wa4 @e1 @e2 @h1 @h3) (wb2 (fun v0 v1 v2 v3 v4 v5 (_ : True) => c_spec_l9At ⟨v0, v1, v2, v3⟩ v4 v5) (fun v0 v1 v2 v3 v4 (h : _) => c_spec_l9Env ⟨v0, v1, v2, v3⟩ v4 h)) wb0 wb0 wb0 ⟨fun _ => ?_, wb0⟩
      refine WPc.loopV (σ := Nat) (fun i => i ≤ f.vals.length ∧ (f.vals.take i).all (valueOk y.heap) = true) (fun i => f.vals.length - i) (fun i => [(5, .sc (.int .i64 i))]) (fun i => [(2, 41, 4, [y.cs]), (3, 86, 4, [f.cs])]) [2, 3] 0 (by simp [Sy.cs, Fm.cs]) (by simp [Sy.cs, Fm.cs]) (by simp) ?_
      rintro i ⟨hi, hall⟩ s hs
      simp at hs
      subst hs
      by_cases hlt : i < f.vals.length
      · have hv := List.getElem?_eq_getElem hlt
        have hz := s1 _ (List.getElem_mem hlt)
        have e4 : valueOk y.heap ⟨f.vals[i].k, f.vals[i].n, f.vals[i].s⟩ = valueOk y.heap f.vals[i] := rfl
        cases h4 : valueOk y.heap f.vals[i] with
        | false =>
          rw [all_at hv h4, Bool.false_and, Bool.and_false]
          repeat' (first
            | apply WPc.sq
            | apply WPc.block
            | (refine WPc.ret (endP.val (.inr rfl) rfl rfl (by simp; rfl) ?_))
            | apply WPc.skip
            | (apply WPS.cL (hc := (c_spec_ValueOk _ ⟨_, _, _⟩ ?g1)); (case ho => exact rfl); (case q => (repeat' (first | refine And.intro ?_ ?_ | intro _ | (with_reducible exact cleanOut_nil) | (refine Eqv.mk ?_; first | rfl | (simp -implicitDefEqProofs [hlt, V.cs, Sy.cs, Fm.cs, e4, h4]; done)) | (simp -implicitDefEqProofs [hlt, V.cs, Sy.cs, Fm.cs, e4, h4]; done) | (simp -implicitDefEqProofs [hlt, V.cs, Sy.cs, Fm.cs, e4, h4]; rfl) | (simp; done) | (simp; rfl) | rfl))); (case g1 => (first | assumption | exact hz | omega)))
            | ((first | refine WPc.rq tok rfl fun K hK => ?_ | refine WPS.rn tok _ (by simp [aheadS]; rfl) fun K hK => ?_); simp -implicitDefEqProofs +contextual [-Int.not_le, -Int.not_lt, -Nat.not_le, -Nat.not_lt, -List.all_eq_true, -List.all_eq_false, -List.any_eq_true, -List.any_eq_false, hlt, V.cs, Sy.cs, Fm.cs, e4, h4]; (repeat1' (first | apply hK | apply And.intro | intro _)) <;> clear hK K <;> (try dsimp only [List.drop]))
            | (refine WPc.sched (id := 6) tok [] [(0, []), (1, []), (2, []), (3, []), (4, []), (5, []), (6, []), (7, []), (8, [])] (by kernel_rfl) ?_)
            | (refine WPS.nil ?_)
            | (refine WPc.condT ?_ ?_; (focus (simp; done))))
          all_goals rfl
        | true =>
          repeat' (first
            | apply WPc.sq
            | apply WPc.block
            | apply WPc.skip
            | (apply WPS.cL (hc := (c_spec_ValueOk _ ⟨_, _, _⟩ ?g1)); (case ho => exact rfl); (case q => (repeat' (first | refine And.intro ?_ ?_ | intro _ | (with_reducible exact cleanOut_nil) | (refine Eqv.mk ?_; first | rfl | (simp -implicitDefEqProofs [hlt, V.cs, Sy.cs, Fm.cs, e4, h4]; done)) | (simp -implicitDefEqProofs [hlt, V.cs, Sy.cs, Fm.cs, e4, h4]; done) | (simp -implicitDefEqProofs [hlt, V.cs, Sy.cs, Fm.cs, e4, h4]; rfl) | (simp; done) | (simp; rfl) | rfl))); (case g1 => (first | assumption | exact hz | omega)))
            | ((first | refine WPc.rq tok rfl fun K hK => ?_ | refine WPS.rn tok _ (by simp [aheadS]; rfl) fun K hK => ?_); simp -implicitDefEqProofs +contextual [-Int.not_le, -Int.not_lt, -Nat.not_le, -Nat.not_lt, -List.all_eq_true, -List.all_eq_false, -List.any_eq_true, -List.any_eq_false, hlt, V.cs, Sy.cs, Fm.cs, e4, h4]; (repeat1' (first | apply hK | apply And.intro | intro _)) <;> clear hK K <;> (try dsimp only [List.drop]))
            | (refine WPc.sched (id := 6) tok [] [(0, []), (1, []), (2, []), (3, []), (4, []), (5, []), (6, []), (7, []), (8, [])] (by kernel_rfl) ?_)
            | (refine WPS.nil ?_)
            | (refine WPc.condT ?_ ?_; (focus (simp; done)))
            | (refine WPc.condF ?_ ?_; (focus (simp; done))))
          refine ⟨i + 1, ⟨⟨hlt, all_next hv h4 hall⟩, by first | omega | (simp only; omega) | assumption⟩, rfl, rfl, ?_, ?_⟩ <;> simp (disch := omega) [wrap64, Sy.cs, Fm.cs]
      · obtain rfl : i = f.vals.length := by omega
        rw [List.take_length] at hall
        rw [hall]
        refine go (L := _ ∧ _ ∧ _ ∧ _ ∧ _ ∧ _ ∧ True) (wa11 @hlt @Sy.cs.eq_1 @Fm.cs.eq_1 @Un.cs.eq_1 @Nd.cs.eq_1 @a0 @a1 @a2 @b0 @b1 @b2) wb0 wb0 wb0 (wb2 wb0 (sch 8 [(12, [6]), (13, [2, 3, 6])] [(0, [6]), (1, [6]), (2, [6]), (3, [6]), (4, [6]), (5, [6]), (6, [6]), (7, [6]), (8, [6]), (9, [6]), (10, [6]), (11, [6]), (12, [6]), (13, [2, 3, 6])])) ⟨fun _ hq => ?_, fun _ hq hq => ?_, fun _ hq hq hq => ?_, fun _ hq hq hq hq => ?_, fun _ hq hq hq hq hq => ?_, fun _ hq hq hq hq hq => ?_, wb0⟩
        all_goals (simp_all [fmAt])
theorem mcOk_eq (y : Sy) (m : Mc) : mcOk y m = (inRange m.fin 0 7 && (isNode y m.unit m.node && (decide (m.stack.length ≤ 120) && (envOk y m.env && (m.stack.all (fmOk y) &&
    (if m.mode = 1 then decide (m.val = noV) else if m.mode = 2 then valueOk y.heap m.val else if m.mode = 3 then vOk0 y.heap m.val else false)))))) := by
  unfold mcOk
  by_cases h1 : m.mode = 1
  · simp [h1, inRange]
  · by_cases h2 : m.mode = 2
    · simp [h2, inRange]
    · by_cases h3 : m.mode = 3
      · simp [h3, inRange]
      · have : inRange m.mode 1 3 = false := by simp [inRange]; omega
        simp [this, h1, h2, h3]
theorem c_spec_MachineOk (y : Sy) (m : Mc) (hs : y.sm) (hr : y.rm) (hs2 : m.sm) (hr2 : m.rm) : Con PP 11 [y.av, m.av] [] [] (fun r o => r = .sc (.bool (machOk y m))) := by
  have r2 := hr.units
  have r4 := hr.units1
  have s1 := hs2.env
  have s2 := hs2.val
  have s3 := hs2.stack
  have e0 : sysOk ⟨y.heap, y.insts, y.units, y.out⟩ = sysOk y := rfl
  have e1 : ∀ u n, isNode ⟨y.heap, y.insts, y.units, y.out⟩ u n = isNode y u n := fun _ _ => rfl
  have e2 : ∀ e, envOk ⟨y.heap, y.insts, y.units, y.out⟩ e = envOk y e := fun _ => rfl
  have e3 : ∀ f, fmOk ⟨y.heap, y.insts, y.units, y.out⟩ f = fmOk y f := fun _ => rfl
  have e4 : valueOk y.heap ⟨m.val.k, m.val.n, m.val.s⟩ = valueOk y.heap m.val := rfl
  have e5 : V.eqb ⟨m.val.k, m.val.n, m.val.s⟩ ⟨0, 0, ⟨#[]⟩⟩ = decide (m.val = noV) := rfl
  refine Con.of tok (nt := 80) Go.Proofs.Tryz.func11 (by kernel_rfl) rfl rfl rfl (Nat.le_of_ble_eq_true rfl) fun G => ?_
  simp only [entSt, tmOf, List.append_nil, List.cons_append, List.nil_append, Mc.av, Sy.av]
  cases hH : (sysOk y && (inRange m.fin 0 7 && (isNode y m.unit m.node && (decide (m.stack.length ≤ 120) && envOk y m.env)))) with
  | false =>
    have e : machOk y m = false := by
      rw [machOk, mcOk_eq]
      revert hH
      cases sysOk y <;> cases inRange m.fin 0 7 <;> cases isNode y m.unit m.node <;> cases decide (m.stack.length ≤ 120) <;> cases envOk y m.env <;> simp
    rw [e]
    repeat' (first
      | apply WPc.sq
      | apply WPc.block
      | (refine WPc.ret (endP.val (.inr rfl) rfl rfl (by simp; rfl) ?_))
      | apply WPc.skip
      | refine WPL.nil ?_
      | (apply WPL.cL (c_spec_SysOk ⟨_, _, _, _⟩ ?g1 ?g2); (case q => (repeat' (first | refine And.intro ?_ ?_ | intro _ | (with_reducible exact cleanOut_nil) | (refine Eqv.mk ?_; first | rfl | (simp -implicitDefEqProofs [e0, e1, e2]; done)) | (simp -implicitDefEqProofs [e0, e1, e2]; done) | (simp -implicitDefEqProofs [e0, e1, e2]; rfl) | (simp; done) | (simp; rfl) | rfl))); (case g1 => (first | assumption | exact hs | exact hr | omega)); (case g2 => (first | assumption | exact hs | exact hr | omega)))
      | (apply WPL.cL (c_spec_l1In _ _ _); (case q => (repeat' (first | refine And.intro ?_ ?_ | intro _ | (with_reducible exact cleanOut_nil) | (refine Eqv.mk ?_; first | rfl | (simp -implicitDefEqProofs [e0, e1, e2]; done)) | (simp -implicitDefEqProofs [e0, e1, e2]; done) | (simp -implicitDefEqProofs [e0, e1, e2]; rfl) | (simp; done) | (simp; rfl) | rfl))))
      | (apply WPL.cL (c_spec_l9At ⟨_, _, _, _⟩ _ _); (case q => (repeat' (first | refine And.intro ?_ ?_ | intro _ | (with_reducible exact cleanOut_nil) | (refine Eqv.mk ?_; first | rfl | (simp -implicitDefEqProofs [e0, e1, e2]; done)) | (simp -implicitDefEqProofs [e0, e1, e2]; done) | (simp -implicitDefEqProofs [e0, e1, e2]; rfl) | (simp; done) | (simp; rfl) | rfl))))
      | (apply WPL.cL (c_spec_l9Env ⟨_, _, _, _⟩ _ ?g1); (case q => (repeat' (first | refine And.intro ?_ ?_ | intro _ | (with_reducible exact cleanOut_nil) | (refine Eqv.mk ?_; first | rfl | (simp -implicitDefEqProofs [e0, e1, e2]; done)) | (simp -implicitDefEqProofs [e0, e1, e2]; done) | (simp -implicitDefEqProofs [e0, e1, e2]; rfl) | (simp; done) | (simp; rfl) | rfl))); (case g1 => (first | assumption | exact hs | exact hr | omega)))
      | (refine WPL.call0f ?_ ?_ ?_; (focus (simp; done)); (focus (simp; done)))
      | ((first | refine WPc.rq tok rfl fun K hK => ?_ | refine WPL.rn tok _ (by simp [ahead, isFn]; rfl) fun K hK => ?_); simp -implicitDefEqProofs +contextual [-Int.not_le, -Int.not_lt, -Nat.not_le, -Nat.not_lt, -List.all_eq_true, -List.all_eq_false, -List.any_eq_true, -List.any_eq_false, e0, e1, e2]; (repeat1' (first | apply hK | apply And.intro | intro _)) <;> clear hK K <;> (try dsimp only [List.drop]))
      | (refine WPc.region ?_; simp only [List.toList_toArray])
      | (refine WPc.condT ?_ ?_; (focus (simp; done)))
      | (refine WPc.cond (by simp [-Bool.not_eq_eq_eq_not]; rfl) (fun hq => ?_) (fun hq => ?_) <;> simp only [hq] <;> (try (exfalso; (simp only [decide_eq_true_eq, decide_eq_false_iff_not] at hq); omega))))
    all_goals first
      | rfl
      | (exfalso; simp_all; done)
      | (exfalso; simp_all; omega)
  | true =>
    have e : machOk y m = (m.stack.all (fmOk y) && (if m.mode = 1 then decide (m.val = noV) else if m.mode = 2 then valueOk y.heap m.val else if m.mode = 3 then vOk0 y.heap m.val else false)) := by
      rw [machOk, mcOk_eq]
      revert hH
      cases sysOk y <;> cases inRange m.fin 0 7 <;> cases isNode y m.unit m.node <;> cases decide (m.stack.length ≤ 120) <;> cases envOk y m.env <;> simp
    rw [e]
    simp only [Bool.and_eq_true, decide_eq_true_eq] at hH
    obtain ⟨p1, p2, p3, p4, p5⟩ := hH
    have p4' : ((120 : Int) < (m.stack.length : Int)) = False := by simp; omega
    repeat' (first
      | apply WPc.sq
      | apply WPc.block
      | apply WPc.skip
      | refine WPL.nil ?_
      | (apply WPL.cL (c_spec_SysOk ⟨_, _, _, _⟩ ?g1 ?g2); (case q => (repeat' (first | refine And.intro ?_ ?_ | intro _ | (with_reducible exact cleanOut_nil) | (refine Eqv.mk ?_; first | rfl | (simp -implicitDefEqProofs [e0, e1, e2, p1, p2, p3, p4', p5]; done)) | (simp -implicitDefEqProofs [e0, e1, e2, p1, p2, p3, p4', p5]; done) | (simp -implicitDefEqProofs [e0, e1, e2, p1, p2, p3, p4', p5]; rfl) | (simp; done) | (simp; rfl) | rfl))); (case g1 => (first | assumption | exact hs | exact hr | omega)); (case g2 => (first | assumption | exact hs | exact hr | omega)))
      | (apply WPL.cL (c_spec_l1In _ _ _); (case q => (repeat' (first | refine And.intro ?_ ?_ | intro _ | (with_reducible exact cleanOut_nil) | (refine Eqv.mk ?_; first | rfl | (simp -implicitDefEqProofs [e0, e1, e2, p1, p2, p3, p4', p5]; done)) | (simp -implicitDefEqProofs [e0, e1, e2, p1, p2, p3, p4', p5]; done) | (simp -implicitDefEqProofs [e0, e1, e2, p1, p2, p3, p4', p5]; rfl) | (simp; done) | (simp; rfl) | rfl))))
      | (apply WPL.cL (c_spec_l9At ⟨_, _, _, _⟩ _ _); (case q => (repeat' (first | refine And.intro ?_ ?_ | intro _ | (with_reducible exact cleanOut_nil) | (refine Eqv.mk ?_; first | rfl | (simp -implicitDefEqProofs [e0, e1, e2, p1, p2, p3, p4', p5]; done)) | (simp -implicitDefEqProofs [e0, e1, e2, p1, p2, p3, p4', p5]; done) | (simp -implicitDefEqProofs [e0, e1, e2, p1, p2, p3, p4', p5]; rfl) | (simp; done) | (simp; rfl) | rfl))))
      | (apply WPL.cL (c_spec_l9Env ⟨_, _, _, _⟩ _ ?g1); (case q => (repeat' (first | refine And.intro ?_ ?_ | intro _ | (with_reducible exact cleanOut_nil) | (refine Eqv.mk ?_; first | rfl | (simp -implicitDefEqProofs [e0, e1, e2, p1, p2, p3, p4', p5]; done)) | (simp -implicitDefEqProofs [e0, e1, e2, p1, p2, p3, p4', p5]; done) | (simp -implicitDefEqProofs [e0, e1, e2, p1, p2, p3, p4', p5]; rfl) | (simp; done) | (simp; rfl) | rfl))); (case g1 => (first | assumption | exact hs | exact hr | omega)))
      | ((first | refine WPc.rq tok rfl fun K hK => ?_ | refine WPL.rn tok _ (by simp [ahead, isFn]; rfl) fun K hK => ?_); simp -implicitDefEqProofs +contextual [-Int.not_le, -Int.not_lt, -Nat.not_le, -Nat.not_lt, -List.all_eq_true, -List.all_eq_false, -List.any_eq_true, -List.any_eq_false, e0, e1, e2, p1, p2, p3, p4', p5]; (repeat1' (first | apply hK | apply And.intro | intro _)) <;> clear hK K <;> (try dsimp only [List.drop]))
      | (refine WPc.region ?_; simp only [List.toList_toArray])
      | (refine WPc.condF ?_ ?_; (focus (simp; done))))
    refine WPc.loopV (σ := Nat) (fun i => i ≤ m.stack.length ∧ (m.stack.take i).all (fmOk y) = true) (fun i => m.stack.length - i) (fun i => [(5, .sc (.int .i64 i))]) (fun i => [(2, 41, 4, [y.cs]), (3, 47, 9, [m.cs])]) [2, 3] 0 (by simp [Mc.cs, Sy.cs]) (by simp [Mc.cs, Sy.cs]) (by simp) ?_
    rintro i ⟨hi, hall⟩ s hs
    simp at hs
    subst hs
    by_cases hlt : i < m.stack.length
    · have hv := List.getElem?_eq_getElem hlt
      have u1 := c_spec_l9Frame y m.stack[i] (s3 _ (List.getElem_mem hlt)) (hr2.stack1 _ (List.getElem_mem hlt))
      simp only [Sy.av, Fm.av] at u1
      cases h6 : fmOk y m.stack[i] with
      | false =>
        rw [all_at hv h6, Bool.false_and]
        refine go (L := _ ∧ True) (wa5 @h6 @hlt @Mc.cs.eq_1 @Sy.cs.eq_1 @Fm.cs.eq_1) (wb1 (fun _ => u1)) wb0 wb0 (wb2 wb0 (sch 6 [] [(0, []), (1, []), (2, []), (3, []), (4, []), (5, []), (6, []), (7, [])])) ⟨fun _ => ?_, wb0⟩
        all_goals rfl
      | true =>
        refine go (L := _ ∧ True) (wa5 @h6 @hlt @Mc.cs.eq_1 @Sy.cs.eq_1 @Fm.cs.eq_1) (wb1 (fun _ => u1)) wb0 wb0 (wb2 wb0 (sch 6 [] [(0, []), (1, []), (2, []), (3, []), (4, []), (5, []), (6, []), (7, [])])) ⟨fun _ => ?_, wb0⟩
        refine ⟨i + 1, ⟨⟨hlt, all_next hv h6 hall⟩, by first | omega | (simp only; omega) | assumption⟩, rfl, rfl, ?_, ?_⟩ <;> simp (disch := omega) [wrap64, Mc.cs, Sy.cs]
    · obtain rfl : i = m.stack.length := by omega
      rw [List.take_length] at hall
      rw [hall]
      repeat' (first
        | apply WPc.sq
        | apply WPc.block
        | (refine WPc.ret (endP.val (.inr rfl) rfl rfl (by simp; rfl) ?_))
        | apply WPc.skip
        | apply WPc.exit
        | refine WPL.nil ?_
        | (apply WPL.cL (c_spec_ValueOk _ ⟨_, _, _⟩ ?g1); (case q => (repeat' (first | refine And.intro ?_ ?_ | intro _ | (with_reducible exact cleanOut_nil) | (refine Eqv.mk ?_; first | rfl | (simp -implicitDefEqProofs [hlt, Mc.cs, Sy.cs, e4, e5]; done)) | (simp -implicitDefEqProofs [hlt, Mc.cs, Sy.cs, e4, e5]; done) | (simp -implicitDefEqProofs [hlt, Mc.cs, Sy.cs, e4, e5]; rfl) | (simp; done) | (simp; rfl) | rfl))); (case g1 => (first | assumption | exact s2 | omega)))
        | (refine WPL.call0f ?_ ?_ ?_; (focus (simp; done)); (focus (simp; done)))
        | ((first | refine WPc.rq tok rfl fun K hK => ?_ | refine WPL.rn tok _ (by simp [ahead, isFn]; rfl) fun K hK => ?_); simp -implicitDefEqProofs +contextual [-Int.not_le, -Int.not_lt, -Nat.not_le, -Nat.not_lt, -List.all_eq_true, -List.all_eq_false, -List.any_eq_true, -List.any_eq_false, hlt, Mc.cs, Sy.cs, e4, e5]; (repeat1' (first | apply hK | apply And.intro | intro _)) <;> clear hK K <;> (try dsimp only [List.drop]))
        | (refine WPc.region ?_; simp only [List.toList_toArray])
        | (refine WPc.condF ?_ ?_; (focus (simp; done)))
        | (refine WPc.cond (by simp [-Bool.not_eq_eq_eq_not]; rfl) (fun hq => ?_) (fun hq => ?_) <;> simp only [hq] <;> (try (exfalso; (simp only [decide_eq_true_eq, decide_eq_false_iff_not] at hq); omega))))
      all_goals (simp_all [vOk0])
end Go.Own
set_option maxRecDepth 1000000
set_option maxHeartbeats 4000000
namespace Go.Own
attribute [local irreducible] WPc WPL WPS WPS1 WPS2 HAny endP
variable [Laid]
open Go.Lib Go.RowKit
@[simp] theorem dz_uC (l : By) : dzLL (l.map uC) = l.map uC := by rw [dzLL_map, List.map_map]; rfl
@[simp] theorem dz_uC1 (l : By) : dzLL (List.take l.length (l.map uC)) = l.map uC := by rw [List.take_of_length_le (by simp), dz_uC]
@[simp] theorem sc_uC (l : By) : scLL (l.map uC) = true := by
  induction l with
  | nil => rfl
  | cons x l ih => simp only [List.map_cons, scLL, ih]; rfl
theorem bytesC_uC (l : By) : bytesC (l.map uC) = some (l.map fun b => (b.toNat : Int)) := by
  induction l with
  | nil => rfl
  | cons x l ih =>
    have e : bytesC (uC x :: l.map uC) = (bytesC (l.map uC)).map ((x.toNat : Int) :: ·) := rfl
    rw [List.map_cons, e, ih]; rfl
theorem byS_len (s : ByteArray) : (byS s).length = s.size := by rw [byS, Array.length_toList]; rfl
def telR (h : List Cl) (out : By) : Root := (265, 2, [[.fz (h.map Cl.cs), .sl 5 1 (out.map uC)]])
theorem c_impl_tput (h : List Cl) (out : By) (s : ByteArray) (hb : out.length + s.size ≤ 140737488355328) : Con PP 233 [.ptr 0 2 [] 0 0, .sc (.string s)] [(0, telR h out)] [0] (fun r o => r = .tup [] ∧ o = [(0, telR h (out ++ byS s))]) := by
  refine Con.of tok (nt := 13) Go.Proofs.Tryz.func233 (by kernel_rfl) rfl rfl rfl (Nat.le_of_ble_eq_true rfl) fun G => ?_
  simp only [entSt, tmOf, List.append_nil, List.cons_append, List.nil_append, telR]
  repeat' (first
    | (refine WPL.appS tok fun K hK => ?_; simp -implicitDefEqProofs +contextual [-Int.not_le, -Int.not_lt, -Nat.not_le, -Nat.not_lt, -List.all_eq_true, -List.all_eq_false, -List.any_eq_true, -List.any_eq_false, hb]; (repeat1' (first | apply hK | apply And.intro | intro _)) <;> clear hK K)
    | ((first | refine WPL.rnTo tok 10 _ (by simp [isFn]; rfl) fun K hK => ?_ | refine WPL.rn tok _ (by simp [ahead, isFn]; rfl) fun K hK => ?_); simp -implicitDefEqProofs +contextual [-Int.not_le, -Int.not_lt, -Nat.not_le, -Nat.not_lt, -List.all_eq_true, -List.all_eq_false, -List.any_eq_true, -List.any_eq_false, hb]; (repeat1' (first | apply hK | apply And.intro | intro _)) <;> clear hK K <;> (try dsimp only [List.drop]))
    | refine WPL.nil ?_
    | (refine WPc.region ?_; simp only [List.toList_toArray])
    | (apply endP.sel (is := [0]) (he := .inl rfl); (case hs => rfl); (case hg => rfl); (case h => (simp; rfl)); (case hO => (simp; rfl)); (case hk => (simp; done))))
  all_goals (simp [byS, byS_len]; try exact ⟨rfl, rfl⟩)
theorem c_impl_tisFull (h : List Cl) (out : By) : Con PP 232 [.fp [.fz (h.map Cl.cs), .fz (out.map uC)]] [] [] (fun r o => r = .sc (.bool (fullT out))) := by
  refine Con.of tok (nt := 9) Go.Proofs.Tryz.func232 (by kernel_rfl) rfl rfl rfl (Nat.le_of_ble_eq_true rfl) fun G => ?_
  simp only [entSt, tmOf, List.append_nil, List.cons_append, List.nil_append]
  refine go (L := _ ∧ True) wb0 wb0 wb0 wb0 wb0 ⟨fun _ => ?_, wb0⟩
  all_goals (simp [fullT]; try omega)
theorem tailT_eq {h : List Cl} {r : V} {i : Nat} {o : By} (hn : r.k = 5 → fullT o = true) : tailT h r o = (if r.k = 3 then o else tellM h i false r (o ++ [32, 46, 32])) ++ [41] := by
  unfold tailT
  by_cases h3 : r.k = 3
  · simp [h3]
  · rw [if_neg h3, if_neg h3]
    congr 1
    by_cases hf : fullT (o ++ [32, 46, 32]) = true
    · rw [if_pos hf]
      cases i <;> simp [tellM, hf]
    · rw [if_neg hf]
      have h5 : ¬ r.k = 5 := fun e => by
        have := hn e
        apply hf
        simp only [fullT, decide_eq_true_eq, List.length_append] at this ⊢
        omega
      cases i <;> simp [tellM, hf, h5]
theorem tell_next {h : List Cl} (hP : Pairs h) {i : Nat} {r : V} {o : By} (hv : valueOk h r = true) (h5 : r.k = 5) (hlt : r.n.toNat < i) (hf : fullT o = false) :
    tellM h i true r o = tellM h i true (val0 h r 1) (tellM h i false (val0 h r 0) (o ++ [32])) := by
  have a0 := hP.ok r hv h5 0 (by omega)
  have a1 := hP.ok r hv h5 1 (by omega)
  cases i with
  | zero => omega
  | succ i =>
    conv => lhs; rw [tellM]
    rw [if_pos ⟨h5, hf⟩]
    rw [tellM_fuel hP i (i + 1) false (val0 h r 0) _ a0.1 (fun e => by have := a0.2 e; omega) (fun e => by have := a0.2 e; omega), tellM_fuel hP i (i + 1) true (val0 h r 1) _ a1.1 (fun e => by have := a1.2 e; omega) (fun e => by have := a1.2 e; omega)]
theorem tell_end {h : List Cl} {i : Nat} {r : V} {o : By} (hn : ¬ (r.k = 5 ∧ fullT o = false)) : tellM h i true r o = tailT h r o := by
  cases i with
  | zero => rfl
  | succ i => rw [tellM, if_neg hn]
theorem tell_pair {h : List Cl} (hP : Pairs h) {n : Nat} {v : V} {o : By} (hv : valueOk h v = true) (h5 : v.k = 5) (hlt : v.n.toNat < n) (hf : fullT o = false) :
    tellM h n false v o = tellM h v.n.toNat true (val0 h v 1) (tellM h v.n.toNat false (val0 h v 0) (o ++ [40])) := by
  have a0 := hP.ok v hv h5 0 (by omega)
  have a1 := hP.ok v hv h5 1 (by omega)
  rw [tellM_fuel hP n (v.n.toNat + 1) false v o hv (fun _ => hlt) (fun _ => by omega), tellM, if_neg (by simp [hf]), if_pos h5]
structure TelH (h : List Cl) : Prop where
  ok : heapOk h = true
  sm : ∀ c, c ∈ h → c.sm
  ps : Pairs h
  lb : LeafB h 4294967001
  len : h.length ≤ 300
theorem telH {h : List Cl} (hh : heapOk h = true) (hs : ∀ c, c ∈ h → c.sm) : TelH h :=
  ⟨hh, hs, pairs_of hh, leafB_of fun c hc => by have := (hs c hc).s; omega, by simp only [heapOk, Bool.and_eq_true, decide_eq_true_eq] at hh; exact hh.1⟩
def ValCon (h : List Cl) (i : Nat) : Prop := ∀ (v : V) (out : By), valueOk h v = true → (v.k = 5 → v.n.toNat < i) → out.length ≤ 4999990000 →
  Con PP 188 [.ptr 0 2 [] 0 0, v.av] [(0, telR h out)] [0] (fun r o => r = .tup [] ∧ o = [(0, telR h (tellM h i false v out))])
theorem pair_con [F : Facts.Of] {h : List Cl} (H : TelH h) {v : V} (hv : valueOk h v = true) (h5 : v.k = 5) (ih : ValCon h v.n.toNat) (out : By) (hf : fullT out = false) (hlt : v.n.toNat < h.length) :
    Con PP 236 [.ptr 0 2 [] 0 0, (h[v.n.toNat]).av] [(0, telR h out)] [0] (fun r o => r = .tup [] ∧ o = [(0, telR h (tellM h v.n.toNat true (val0 h v 1) (tellM h v.n.toNat false (val0 h v 0) (out ++ [40]))))]) := by
  have hP := H.ps
  obtain ⟨n0, _, h2⟩ := hP.two v hv h5
  have a0 := hP.ok v hv h5 0 (by omega)
  have a1 := hP.ok v hv h5 1 (by omega)
  have hol : out.length < 100000 := by simp only [fullT, decide_eq_false_iff_not] at hf; omega
  have hL := H.len
  have q0 : 0 < h[v.n.toNat].vals.length := by omega
  have q1 : 1 < h[v.n.toNat].vals.length := by omega
  have e0 : val0 h v 0 = h[v.n.toNat].vals[0] := by simp [val0, arg, hlt, q0]
  have e1 : val0 h v 1 = h[v.n.toNat].vals[1] := by simp [val0, arg, hlt, q1]
  rw [e0] at a0 ⊢
  rw [e1] at a1 ⊢
  have u1 := ih h[v.n.toNat].vals[0] (out ++ [40]) a0.1 a0.2 (by simp; omega)
  have l1 := tellM_len H.lb hP v.n.toNat false h[v.n.toNat].vals[0] (out ++ [40]) a0.1 a0.2
  simp only [List.length_append, List.length_cons, List.length_nil, Bool.false_eq_true, if_false] at l1
  generalize hI : v.n.toNat = i at *
  generalize hT : tellM h i true h[i].vals[1] (tellM h i false h[i].vals[0] (out ++ [40])) = T
  simp only [telR, V.av] at u1
  have w1 : ByteArray.size ⟨#[40]⟩ = 1 := rfl
  have w2 : ByteArray.size ⟨#[32]⟩ = 1 := rfl
  have w3 : ByteArray.size ⟨#[32, 46, 32]⟩ = 3 := rfl
  have w4 : ByteArray.size ⟨#[41]⟩ = 1 := rfl
  refine Con.of tok (nt := 55) Go.Proofs.Tryz.func236 (by kernel_rfl) rfl rfl rfl (Nat.le_of_ble_eq_true rfl) fun G => ?_
  simp only [entSt, tmOf, List.append_nil, List.cons_append, List.nil_append, telR, Cl.av]
  refine go (L := _ ∧ True) (wa4 @q0 @q1 @byS.eq_1 @V.cs.eq_1) wb0 (wb2 (fun v0 v1 v2 (h : _) => c_impl_tput v0 v1 v2 h) (fun _ => u1)) wb0 wb0 ⟨fun _ => ?_, wb0⟩
  refine WPc.loopV (σ := V × By × Cl) (fun y => valueOk h y.1 = true ∧ (y.1.k = 5 → y.1.n.toNat < i) ∧ tellM h i true y.1 y.2.1 = T ∧ y.2.1.length ≤ 4295070000) (fun y => (if y.1.k = 5 then y.1.n.toNat + 1 else 0)) (fun y => []) (fun y => [(0, 265, 2, [[.fz (h.map Cl.cs), .sl 5 1 (y.2.1.map uC)]]), (3, 171, 6, [y.2.2.cs]), (4, 44, 3, [y.1.cs])]) [0, 3, 4, 55] (h[i].vals[1], tellM h i false h[i].vals[0] (out ++ [40]), h[i]) (by simp [Cl.cs, V.cs]) (by simp [Cl.cs, V.cs]) (⟨a1.1, a1.2, hT, by simp only []; omega⟩) ?_
  rintro ⟨r, o, c⟩ ⟨y1, y2, y3, y4⟩ s hs
  simp at hs
  subst hs
  dsimp only at y1 y2 y3 y4 ⊢
  by_cases hp : r.k = 5 ∧ fullT o = false
  · obtain ⟨p1, p2⟩ := hp
    obtain ⟨m0, m1, m2⟩ := hP.two r y1 p1
    have mlt := y2 p1
    have b0 := hP.ok r y1 p1 0 (by omega)
    have b1 := hP.ok r y1 p1 1 (by omega)
    have r0 : 0 < h[r.n.toNat].vals.length := by omega
    have r1 : 1 < h[r.n.toNat].vals.length := by omega
    have f0 : val0 h r 0 = h[r.n.toNat].vals[0] := by simp [val0, arg, m1, r0]
    have f1 : val0 h r 1 = h[r.n.toNat].vals[1] := by simp [val0, arg, m1, r1]
    have hnx := tell_next hP y1 p1 mlt p2
    rw [f0] at b0 hnx
    rw [f1] at b1 hnx
    have p1' : (r.k = 5) = True := by simp [p1]
    have m3 : r.n < (h.length : Int) := by omega
    have ol : o.length < 100000 := by simp only [fullT, decide_eq_false_iff_not] at p2; omega
    have u2 := ih h[r.n.toNat].vals[0] (o ++ [32]) b0.1 (fun e => by have := b0.2 e; omega) (by simp; omega)
    have l2 := tellM_len H.lb hP i false h[r.n.toNat].vals[0] (o ++ [32]) b0.1 (fun e => by have := b0.2 e; omega)
    simp only [List.length_append, List.length_cons, List.length_nil, Bool.false_eq_true, if_false] at l2
    simp only [telR, V.av] at u2
    have hm : (if h[r.n.toNat].vals[1].k = 5 then h[r.n.toNat].vals[1].n.toNat + 1 else 0) < (if r.k = 5 then r.n.toNat + 1 else 0) := by
      rw [if_pos p1]
      split
      · have := b1.2 (by assumption); omega
      · omega
    refine go (L := _ ∧ True) (wa11 @p1' @p2 @m0 @m1 @m3 @r0 @r1 @byS.eq_1 @V.cs.eq_1 @Cl.cs.eq_1 @telR.eq_1) (wb1 (fun v0 v1 (_ : True) => c_impl_tisFull v0 v1)) (wb2 (fun v0 v1 v2 (h : _) => c_impl_tput v0 v1 v2 h) (fun _ => u2)) wb0 (wb2 wb0 (sch 6 [(8, [0, 3, 4])] [(0, []), (1, []), (2, []), (3, []), (4, []), (5, []), (6, []), (7, []), (8, [0, 3, 4])])) ⟨fun _ => ?_, wb0⟩
    refine ⟨(h[r.n.toNat].vals[1], tellM h i false h[r.n.toNat].vals[0] (o ++ [32]), h[r.n.toNat]), ⟨⟨b1.1, fun e => Nat.lt_trans (b1.2 e) mlt, by rw [← y3, hnx], by simp only []; omega⟩, by first | omega | (simp only; omega) | assumption⟩, rfl, rfl, ?_, ?_⟩ <;> simp (disch := omega) [wrap64, Cl.cs, V.cs]
  · have hend := tell_end (h := h) (i := i) (r := r) (o := o) hp
    have hfull : r.k = 5 → fullT o = true := fun e => by
      cases hf2 : fullT o with
      | true => rfl
      | false => exact absurd ⟨e, hf2⟩ hp
    rw [← y3, hend, tailT_eq (i := i) hfull]
    have u3 := ih r (o ++ [32, 46, 32]) y1 y2 (by simp; omega)
    have l3 := tellM_len H.lb hP i false r (o ++ [32, 46, 32]) y1 y2
    simp only [List.length_append, List.length_cons, List.length_nil, Bool.false_eq_true, if_false] at l3
    simp only [telR, V.av] at u3
    by_cases h5r : r.k = 5
    · have p1' : (r.k = 5) = True := by simp [h5r]
      have p2 := hfull h5r
      have p3' : (r.k = 3) = False := by simp; omega
      refine gox (L := _ ∧ True) (wa7 @p1' @p2 @p3' @byS.eq_1 @V.cs.eq_1 @Cl.cs.eq_1 @telR.eq_1) (wb1 (fun v0 v1 (_ : True) => c_impl_tisFull v0 v1)) (wb2 (fun v0 v1 v2 (h : _) => c_impl_tput v0 v1 v2 h) (fun _ => u3)) wb0 (wb1 (outs [0])) ⟨fun _ => ?_, wb0⟩
      all_goals (simp [byS, p3']; try exact ⟨rfl, rfl⟩)
    · have p1' : (r.k = 5) = False := by simp [h5r]
      by_cases h3r : r.k = 3
      · have p3' : (r.k = 3) = True := by simp [h3r]
        refine gox (L := _ ∧ True) (wa6 @p1' @p3' @byS.eq_1 @V.cs.eq_1 @Cl.cs.eq_1 @telR.eq_1) wb0 (wb1 (fun v0 v1 v2 (h : _) => c_impl_tput v0 v1 v2 h)) wb0 (wb1 (outs [0])) ⟨fun _ => ?_, wb0⟩
        all_goals (simp [byS, p3']; try exact ⟨rfl, rfl⟩)
      · have p3' : (r.k = 3) = False := by simp [h3r]
        refine gox (L := _ ∧ True) (wa6 @p1' @p3' @byS.eq_1 @V.cs.eq_1 @Cl.cs.eq_1 @telR.eq_1) wb0 (wb2 (fun v0 v1 v2 (h : _) => c_impl_tput v0 v1 v2 h) (fun _ => u3)) wb0 (wb1 (outs [0])) ⟨fun _ => ?_, wb0⟩
        all_goals (simp [byS, p3']; try exact ⟨rfl, rfl⟩)
end Go.Own
set_option maxRecDepth 1000000
set_option maxHeartbeats 4000000
namespace Go.Own
attribute [local irreducible] WPc WPL WPS WPS1 WPS2 HAny endP
variable [Laid]
open Go.Lib Go.RowKit
theorem c_impl_boolText (b : Bool) : Con PP 235 [.sc (.bool b)] [] [] (fun r o => r = .sc (.string (if b = true then ⟨#[35, 116]⟩ else ⟨#[35, 102]⟩))) := by
  refine Con.of tok (nt := 4) Go.Proofs.Tryz.func235 (by kernel_rfl) rfl rfl rfl (Nat.le_of_ble_eq_true rfl) fun G => ?_
  simp only [entSt, tmOf, List.append_nil, List.cons_append, List.nil_append]
  refine go (L := _ ∧ _ ∧ True) wb0 wb0 wb0 wb0 wb0 ⟨fun _ hq => ?_, fun _ hq => ?_, wb0⟩
  all_goals (simp_all)
theorem byS_app (s t : ByteArray) : byS (s ++ t) = byS s ++ byS t := by
  unfold byS
  rw [show (s ++ t).data = s.data ++ t.data from ByteArray.data_append ..]
  simp
theorem val_con [F : Facts.Of] {h : List Cl} (H : TelH h) : ∀ n, ValCon h n := by
  intro n
  induction n using Nat.strongRecOn with
  | ind n ih =>
  intro v out hv hlt hb
  have hP := H.ps
  by_cases hf : fullT out = true
  · have e : tellM h n false v out = out := by cases n <;> simp [tellM, hf]
    rw [e]
    have uF := c_impl_tisFull h out
    rw [hf] at uF
    refine Con.of tok (nt := 63) Go.Proofs.Tryz.func188 (by kernel_rfl) rfl rfl rfl (Nat.le_of_ble_eq_true rfl) fun G => ?_
    simp only [entSt, tmOf, List.append_nil, List.cons_append, List.nil_append, telR, V.av]
    refine go (L := _ ∧ True) (wa1 @hf) (wb1 (fun _ => uF)) wb0 wb0 (wb1 (outs [0])) ⟨fun _ => ?_, wb0⟩
    all_goals exact ⟨rfl, rfl⟩
  have hf' : fullT out = false := by simpa using hf
  have uF := c_impl_tisFull h out
  rw [hf'] at uF
  by_cases hk : v.k = 5
  · obtain ⟨n0, hi, h2⟩ := hP.two v hv hk
    have hk' : (v.k = 5) = True := by simp [hk]
    have n1 : v.n < (h.length : Int) := by omega
    have u := pair_con H hv hk (ih v.n.toNat (hlt hk)) out hf' hi
    rw [← tell_pair hP hv hk (hlt hk) hf'] at u
    simp only [telR, Cl.av] at u
    refine Con.of tok (nt := 63) Go.Proofs.Tryz.func188 (by kernel_rfl) rfl rfl rfl (Nat.le_of_ble_eq_true rfl) fun G => ?_
    simp only [entSt, tmOf, List.append_nil, List.cons_append, List.nil_append, telR, V.av]
    refine gox (L := _ ∧ True) (wa6 @hf' @hk @n0 @n1 @hi @Cl.cs.eq_1) (wb1 (fun _ => uF)) (wb1 (fun _ => u)) wb0 (wb2 (outs [0]) (sch 16 [(9, [0, 62, 1062, 2062])] [(0, []), (1, []), (2, []), (3, []), (4, []), (5, []), (6, []), (7, []), (8, []), (9, [0, 62, 1062, 2062])])) ⟨fun _ => ?_, wb0⟩
    all_goals exact ⟨rfl, rfl⟩
  have e : tellM h n false v out = out ++ leafT h v := by cases n <;> simp [tellM, hf', hk]
  rw [e]
  have hk' : (v.k = 5) = False := by simp [hk]
  by_cases k1 : v.k = 1
  · have hv' := hv
    unfold valueOk at hv'
    simp [k1, inRange] at hv'
    have hd := dec_size (n := v.n) (by omega) (by omega)
    have el : leafT h v = byS (dec v.n) := by simp [leafT, k1]
    rw [el]
    refine Con.of tok (nt := 63) Go.Proofs.Tryz.func188 (by kernel_rfl) rfl rfl rfl (Nat.le_of_ble_eq_true rfl) fun G => ?_
    simp only [entSt, tmOf, List.append_nil, List.cons_append, List.nil_append, telR, V.av]
    refine gox (L := _ ∧ True) (wa2 @hf' @k1) (wb2 (fun _ => uF) (fun v0 (h : _ ∧ _) => c_impl_Dec v0 h.1 h.2)) (wb1 (fun v0 v1 v2 (h : _) => c_impl_tput v0 v1 v2 h)) wb0 (wb1 (outs [0])) ⟨fun _ => ?_, wb0⟩
    all_goals exact ⟨rfl, rfl⟩
  by_cases k2 : v.k = 2
  · have w1 : ByteArray.size ⟨#[35, 116]⟩ = 2 := rfl
    have w2 : ByteArray.size ⟨#[35, 102]⟩ = 2 := rfl
    by_cases n1 : v.n = 1
    · have n1' : (v.n = 1) = True := by simp [n1]
      have el : leafT h v = byS ⟨#[35, 116]⟩ := by simp [leafT, k2, n1, byS]
      rw [el]
      refine Con.of tok (nt := 63) Go.Proofs.Tryz.func188 (by kernel_rfl) rfl rfl rfl (Nat.le_of_ble_eq_true rfl) fun G => ?_
      simp only [entSt, tmOf, List.append_nil, List.cons_append, List.nil_append, telR, V.av]
      refine gox (L := _ ∧ True) (wa3 @hf' @k2 @n1') (wb2 (fun _ => uF) (fun v0 (_ : True) => c_impl_boolText v0)) (wb1 (fun v0 v1 v2 (h : _) => c_impl_tput v0 v1 v2 h)) wb0 (wb1 (outs [0])) ⟨fun _ => ?_, wb0⟩
      all_goals exact ⟨rfl, rfl⟩
    · have n1' : (v.n = 1) = False := by simp [n1]
      have el : leafT h v = byS ⟨#[35, 102]⟩ := by simp [leafT, k2, n1, byS]
      rw [el]
      refine Con.of tok (nt := 63) Go.Proofs.Tryz.func188 (by kernel_rfl) rfl rfl rfl (Nat.le_of_ble_eq_true rfl) fun G => ?_
      simp only [entSt, tmOf, List.append_nil, List.cons_append, List.nil_append, telR, V.av]
      refine gox (L := _ ∧ True) (wa3 @hf' @k2 @n1') (wb2 (fun _ => uF) (fun v0 (_ : True) => c_impl_boolText v0)) (wb1 (fun v0 v1 v2 (h : _) => c_impl_tput v0 v1 v2 h)) wb0 (wb1 (outs [0])) ⟨fun _ => ?_, wb0⟩
      all_goals exact ⟨rfl, rfl⟩
  by_cases k3 : v.k = 3
  · have w1 : ByteArray.size ⟨#[40, 41]⟩ = 2 := rfl
    have el : leafT h v = byS ⟨#[40, 41]⟩ := by simp [leafT, k3, byS]
    rw [el]
    refine Con.of tok (nt := 63) Go.Proofs.Tryz.func188 (by kernel_rfl) rfl rfl rfl (Nat.le_of_ble_eq_true rfl) fun G => ?_
    simp only [entSt, tmOf, List.append_nil, List.cons_append, List.nil_append, telR, V.av]
    refine gox (L := _ ∧ True) (wa2 @hf' @k3) (wb1 (fun _ => uF)) (wb1 (fun v0 v1 v2 (h : _) => c_impl_tput v0 v1 v2 h)) wb0 (wb1 (outs [0])) ⟨fun _ => ?_, wb0⟩
    all_goals exact ⟨rfl, rfl⟩
  by_cases k4 : v.k = 4
  · have hv' := hv
    unfold valueOk at hv'
    rw [if_pos k4, Bool.and_eq_true] at hv'
    have hs := sym_size hv'.2
    have el : leafT h v = byS v.s := by simp [leafT, k4]
    rw [el]
    refine Con.of tok (nt := 63) Go.Proofs.Tryz.func188 (by kernel_rfl) rfl rfl rfl (Nat.le_of_ble_eq_true rfl) fun G => ?_
    simp only [entSt, tmOf, List.append_nil, List.cons_append, List.nil_append, telR, V.av]
    refine gox (L := _ ∧ True) (wa2 @hf' @k4) (wb1 (fun _ => uF)) (wb1 (fun v0 v1 v2 (h : _) => c_impl_tput v0 v1 v2 h)) wb0 (wb1 (outs [0])) ⟨fun _ => ?_, wb0⟩
    all_goals exact ⟨rfl, rfl⟩
  by_cases k6 : v.k = 6
  · have w1 : ByteArray.size ⟨#[102, 110]⟩ = 2 := rfl
    have el : leafT h v = byS ⟨#[102, 110]⟩ := by simp [leafT, k6, byS]
    rw [el]
    refine Con.of tok (nt := 63) Go.Proofs.Tryz.func188 (by kernel_rfl) rfl rfl rfl (Nat.le_of_ble_eq_true rfl) fun G => ?_
    simp only [entSt, tmOf, List.append_nil, List.cons_append, List.nil_append, telR, V.av]
    refine gox (L := _ ∧ True) (wa2 @hf' @k6) (wb1 (fun _ => uF)) (wb1 (fun v0 v1 v2 (h : _) => c_impl_tput v0 v1 v2 h)) wb0 (wb1 (outs [0])) ⟨fun _ => ?_, wb0⟩
    all_goals exact ⟨rfl, rfl⟩
  have k7 : v.k = 7 := by
    have hv' := hv
    unfold valueOk at hv'
    simp only [k1, k2, k3, k4, if_false] at hv'
    by_cases k7 : v.k = 7
    · exact k7
    · simp [cellKind, hk, k6, k7] at hv'
  obtain ⟨n0, hi, hc, _⟩ := valueOk_cell hv (by omega)
  have n1 : v.n < (h.length : Int) := by omega
  have hs := (H.sm _ (List.getElem_mem hi)).s
  have hsa : SAdd ⟨#[35]⟩ h[v.n.toNat].s := by unfold SAdd; show 1 + _ ≤ _; omega
  have el : leafT h v = byS (⟨#[35]⟩ ++ h[v.n.toNat].s) := by rw [byS_app]; simp [leafT, k7, hi]; rfl
  have w1 : ByteArray.size (⟨#[35]⟩ ++ h[v.n.toNat].s) = 1 + h[v.n.toNat].s.size := by rw [ByteArray.size_append]; rfl
  rw [el]
  refine Con.of tok (nt := 63) Go.Proofs.Tryz.func188 (by kernel_rfl) rfl rfl rfl (Nat.le_of_ble_eq_true rfl) fun G => ?_
  simp only [entSt, tmOf, List.append_nil, List.cons_append, List.nil_append, telR, V.av]
  refine gox (L := _ ∧ True) (wa7 @hf' @k7 @n0 @n1 @hi @Cl.cs.eq_1 @hsa) (wb1 (fun _ => uF)) (wb1 (fun v0 v1 v2 (h : _) => c_impl_tput v0 v1 v2 h)) wb0 (wb2 (outs [0]) (sch 14 [(11, [0, 3, 50, 1050, 2050])] [(0, []), (1, []), (2, []), (3, []), (4, []), (5, []), (6, []), (7, []), (8, []), (9, []), (10, []), (11, [0, 3, 50, 1050, 2050])])) ⟨fun _ => ?_, wb0⟩
  all_goals exact ⟨rfl, rfl⟩
def textV (h : List Cl) (v : V) : ByteArray := ⟨((tellM h 300 false v []).take 100000).toArray⟩
theorem c_impl_text [F : Facts.Of] (h : List Cl) (v : V) (hh : heapOk h = true) (hs : ∀ c, c ∈ h → c.sm) (hv : valueOk h v = true) : Con PP 120 [.fz (h.map Cl.cs), v.av] [] [] (fun r o => r = .sc (.string (textV h v))) := by
  have H := telH hh hs
  have hl := H.len
  have hlt : v.k = 5 → v.n.toNat < 300 := fun e => by obtain ⟨_, hi, _⟩ := H.ps.two v hv e; omega
  have u := val_con H 300 v [] hv hlt (by simp)
  have l := tellM_len H.lb H.ps 300 false v [] hv hlt
  simp only [List.length_nil, Bool.false_eq_true, if_false] at l
  simp only [telR, V.av, List.map_nil] at u
  unfold textV
  generalize tellM h 300 false v [] = out at u l ⊢
  have hbt : ∀ n, bytesC (List.take n (List.map uC out)) = some (List.take n (out.map fun b => (b.toNat : Int))) := fun n => by rw [← List.map_take, bytesC_uC, List.map_take]
  have hst : ∀ n, strOfNums (List.take n (out.map fun b => (b.toNat : Int))) = ⟨(out.take n).toArray⟩ := fun n => by rw [← List.map_take, strOfNums_u8]
  have hpl : ∀ n, plainAll (List.take n (List.map uC out)) = true := fun n => by rw [← List.map_take]; exact uC.plnA _
  by_cases hl : 100000 < out.length
  · have hl' : ((100000 : Int) < (out.length : Int)) = True := by simp; omega
    have hl2 : ((100000 : Int) ≤ (out.length : Int)) = True := by simp; omega
    have hl3 : (100000 ≤ out.length) = True := by simp; omega
    refine Con.of tok (nt := 18) Go.Proofs.Tryz.func120 (by kernel_rfl) rfl rfl rfl (Nat.le_of_ble_eq_true rfl) fun G => ?_
    simp only [entSt, tmOf, List.append_nil, List.cons_append, List.nil_append, V.av]
    refine gox (L := _ ∧ True) (wa6 @hl' @hl2 @hl3 @hbt @hst @hpl) wb0 (wb1 (fun _ => u)) wb0 (wb3 wb0 (nm 11 [1]) (nm 13 [5, 7, 1, 900001, 5, 1])) ⟨fun _ => ?_, wb0⟩
    all_goals rfl
  · have hl' : ((100000 : Int) < (out.length : Int)) = False := by simp; omega
    have ht : out.take 100000 = out := List.take_of_length_le (by omega)
    have ht2 : out.take out.length = out := List.take_length
    rw [ht]
    have hst0 : strOfNums (out.map fun b => (b.toNat : Int)) = ⟨out.toArray⟩ := strOfNums_u8 out
    have hbt0 := bytesC_uC out
    by_cases h0 : out.length = 0
    · have h0' : out = [] := List.eq_nil_of_length_eq_zero h0
      subst h0'
      refine Con.of tok (nt := 18) Go.Proofs.Tryz.func120 (by kernel_rfl) rfl rfl rfl (Nat.le_of_ble_eq_true rfl) fun G => ?_
      simp only [entSt, tmOf, List.append_nil, List.cons_append, List.nil_append, V.av]
      refine gox (L := _ ∧ True) (wa5 @hbt @hst @bytesC.eq_1 @bytesC.eq_2 @bytesC.eq_3) wb0 (wb1 (fun _ => u)) wb0 (wb3 wb0 (nm 11 [1]) (nm 13 [5, 7, 1, 900001, 5, 1])) ⟨fun _ => ?_, wb0⟩
      all_goals rfl
    · have hp : ((0 : Int) < (out.length : Int)) = True := by simp; omega
      have hp2 : (0 < out.length) = True := by simp; omega
      refine Con.of tok (nt := 18) Go.Proofs.Tryz.func120 (by kernel_rfl) rfl rfl rfl (Nat.le_of_ble_eq_true rfl) fun G => ?_
      simp only [entSt, tmOf, List.append_nil, List.cons_append, List.nil_append, V.av]
      refine gox (L := _ ∧ True) (wa9 @hl' @hbt @hst @hpl @ht2 @hp @hp2 @hst0 @hbt0) wb0 (wb1 (fun _ => u)) wb0 (wb3 wb0 (nm 11 [1]) (nm 13 [5, 7, 1, 900001, 5, 1])) ⟨fun _ => ?_, wb0⟩
      all_goals rfl
end Go.Own
