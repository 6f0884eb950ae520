import Derived.Test.YtemknkncncoedaaGreatDoorTe
import Derived.Test.YtemknkncncoedaaGreatDoorCards
import Derived.Test.YtemknkncncoedaaGreatDoorTie
import Derived.Lay
import Derived.SevenTiedAt
/- The law FnExactMachineOk returns true for every input and leaves what it reads as it was: the program's MachineOk returns what the reference's returns. Conditions: what is laid in the package variables that the row names; every input that reads as the row's types. -/
set_option linter.unusedVariables false
set_option linter.unusedSimpArgs false
set_option linter.unusedSectionVars false
set_option maxRecDepth 1000000
namespace Go.Own
open Go.ChangeShapes Go.WideShapes Go.Deep
def Pg.cs (p : Pg) : List C := [.fz (p.nodes.map Nd.cs), .sc (.int .i64 p.root)]
variable {H : Type} {enc : TypeId × Value → H} {w : World} {base : Nat} {spare : Nat → Bool} {held : Bool} {av : Nat → Prop} {n : Nat} {cs : List Value} {D : DataW H × List MemPlace}
theorem und_Value : ∃ f0 f1 f2, PP.underlying 30 = some (.struct #[f0, f1, f2]) ∧ (f0.type = 3 ∧ f0.offset = 0) ∧ (f1.type = 3 ∧ f1.offset = 1) ∧ (f2.type = 9 ∧ f2.offset = 2) := ⟨_, _, _, rfl, ⟨rfl, rfl⟩, ⟨rfl, rfl⟩, ⟨rfl, rfl⟩⟩
theorem cl_Value : PP.cellsOf 30 = 3 := by kernel_rfl
theorem rd_Value (hav : ∀ b, av b) (hl : cs.length = 3) (h : DataW.trod enc PP w base spare held n 30 cs = some D) :
    ∃ c : V, c.tx ∧ ∀ (j : Nat) (y : C), (V.cs c)[j]? = some y → ∃ u, cs[j]? = some u ∧ FR av w y u := by
  obtain ⟨f0, f1, f2, hu, ⟨t0, o0⟩, ⟨t1, o1⟩, ⟨t2, o2⟩⟩ := und_Value
  obtain ⟨xs, m, _, _, _, hx, hf⟩ := DataW.trod_struct hu h
  have hxl : xs.length = 3 := hx
  match cs, hl with
  | [a0, a1, a2], _ =>
    have g0 := hf 0 f0 rfl
    rw [t0, o0, clI, List.getElem?_eq_getElem (by omega)] at g0
    have g1 := hf 1 f1 rfl
    rw [t1, o1, clI, List.getElem?_eq_getElem (by omega)] at g1
    have g2 := hf 2 f2 rfl
    rw [t2, o2, clS, List.getElem?_eq_getElem (by omega)] at g2
    simp only [List.drop_zero, List.take_succ_cons, List.take_zero, List.drop_succ_cons] at g0 g1 g2
    obtain ⟨x0, rfl⟩ := rd_int g0
    obtain ⟨x1, rfl⟩ := rd_int g1
    obtain ⟨x2, rfl, p2⟩ := rd_str g2
    refine ⟨⟨x0, x1, x2⟩, p2, fun j y hj => ?_⟩
    match j, hj with
    | 0, hj => obtain rfl := Option.some.inj hj; exact ⟨_, rfl, .sc _ rfl⟩
    | 1, hj => obtain rfl := Option.some.inj hj; exact ⟨_, rfl, .sc _ rfl⟩
    | 2, hj => obtain rfl := Option.some.inj hj; exact ⟨_, rfl, .sc _ rfl⟩
    | j + 3, hj => cases hj
theorem und_ValueS : PP.underlying 142 = some (.slice 30) := by kernel_rfl
theorem cl_ValueS : PP.cellsOf 142 = 1 := by kernel_rfl
theorem rd_ValueS (hav : ∀ b, av b) {v : Value} (h : DataW.trod enc PP w base spare held n 142 [v] = some D) : ∃ l : List V, (∀ x, x ∈ l → x.tx) ∧ FR av w (.fz (l.map V.cs)) v :=
  fr_slice V.cs V.tx (fun _ => rfl) (by decide) hav und_ValueS cl_Value (fun n cs D hl h => rd_Value hav hl h) h
theorem und_Cell : ∃ f0 f1 f2 f3 f4 f5, PP.underlying 144 = some (.struct #[f0, f1, f2, f3, f4, f5]) ∧ (f0.type = 3 ∧ f0.offset = 0) ∧ (f1.type = 9 ∧ f1.offset = 1) ∧ (f2.type = 3 ∧ f2.offset = 2) ∧ (f3.type = 3 ∧ f3.offset = 3) ∧ (f4.type = 25 ∧ f4.offset = 4) ∧ (f5.type = 142 ∧ f5.offset = 5) := ⟨_, _, _, _, _, _, rfl, ⟨rfl, rfl⟩, ⟨rfl, rfl⟩, ⟨rfl, rfl⟩, ⟨rfl, rfl⟩, ⟨rfl, rfl⟩, ⟨rfl, rfl⟩⟩
theorem cl_Cell : PP.cellsOf 144 = 6 := by kernel_rfl
theorem rd_Cell (hav : ∀ b, av b) (hl : cs.length = 6) (h : DataW.trod enc PP w base spare held n 144 cs = some D) :
    ∃ c : Cl, c.tx ∧ ∀ (j : Nat) (y : C), (Cl.cs c)[j]? = some y → ∃ u, cs[j]? = some u ∧ FR av w y u := by
  obtain ⟨f0, f1, f2, f3, f4, f5, hu, ⟨t0, o0⟩, ⟨t1, o1⟩, ⟨t2, o2⟩, ⟨t3, o3⟩, ⟨t4, o4⟩, ⟨t5, o5⟩⟩ := und_Cell
  obtain ⟨xs, m, _, _, _, hx, hf⟩ := DataW.trod_struct hu h
  have hxl : xs.length = 6 := hx
  match cs, hl with
  | [a0, a1, a2, a3, a4, a5], _ =>
    have g0 := hf 0 f0 rfl
    rw [t0, o0, clI, List.getElem?_eq_getElem (by omega)] at g0
    have g1 := hf 1 f1 rfl
    rw [t1, o1, clS, List.getElem?_eq_getElem (by omega)] at g1
    have g2 := hf 2 f2 rfl
    rw [t2, o2, clI, List.getElem?_eq_getElem (by omega)] at g2
    have g3 := hf 3 f3 rfl
    rw [t3, o3, clI, List.getElem?_eq_getElem (by omega)] at g3
    have g4 := hf 4 f4 rfl
    rw [t4, o4, clSS, List.getElem?_eq_getElem (by omega)] at g4
    have g5 := hf 5 f5 rfl
    rw [t5, o5, cl_ValueS, List.getElem?_eq_getElem (by omega)] at g5
    simp only [List.drop_zero, List.take_succ_cons, List.take_zero, List.drop_succ_cons] at g0 g1 g2 g3 g4 g5
    obtain ⟨x0, rfl⟩ := rd_int g0
    obtain ⟨x1, rfl, p1⟩ := rd_str g1
    obtain ⟨x2, rfl⟩ := rd_int g2
    obtain ⟨x3, rfl⟩ := rd_int g3
    obtain ⟨x4, p4, q4⟩ := rd_strs (av := av) hav g4
    obtain ⟨x5, p5, q5⟩ := rd_ValueS (av := av) hav g5
    refine ⟨⟨x0, x1, x2, x3, x4, x5⟩, ⟨p1, p4, p5⟩, fun j y hj => ?_⟩
    match j, hj with
    | 0, hj => obtain rfl := Option.some.inj hj; exact ⟨_, rfl, .sc _ rfl⟩
    | 1, hj => obtain rfl := Option.some.inj hj; exact ⟨_, rfl, .sc _ rfl⟩
    | 2, hj => obtain rfl := Option.some.inj hj; exact ⟨_, rfl, .sc _ rfl⟩
    | 3, hj => obtain rfl := Option.some.inj hj; exact ⟨_, rfl, .sc _ rfl⟩
    | 4, hj => obtain rfl := Option.some.inj hj; exact ⟨_, rfl, q4⟩
    | 5, hj => obtain rfl := Option.some.inj hj; exact ⟨_, rfl, q5⟩
    | j + 6, hj => cases hj
theorem und_CellS : PP.underlying 22 = some (.slice 144) := by kernel_rfl
theorem cl_CellS : PP.cellsOf 22 = 1 := by kernel_rfl
theorem rd_CellS (hav : ∀ b, av b) {v : Value} (h : DataW.trod enc PP w base spare held n 22 [v] = some D) : ∃ l : List Cl, (∀ x, x ∈ l → x.tx) ∧ FR av w (.fz (l.map Cl.cs)) v :=
  fr_slice Cl.cs Cl.tx (fun _ => rfl) (by decide) hav und_CellS cl_Cell (fun n cs D hl h => rd_Cell hav hl h) h
theorem und_Link : ∃ f0 f1 f2, PP.underlying 286 = some (.struct #[f0, f1, f2]) ∧ (f0.type = 9 ∧ f0.offset = 0) ∧ (f1.type = 3 ∧ f1.offset = 1) ∧ (f2.type = 9 ∧ f2.offset = 2) := ⟨_, _, _, rfl, ⟨rfl, rfl⟩, ⟨rfl, rfl⟩, ⟨rfl, rfl⟩⟩
theorem cl_Link : PP.cellsOf 286 = 3 := by kernel_rfl
theorem rd_Link (hav : ∀ b, av b) (hl : cs.length = 3) (h : DataW.trod enc PP w base spare held n 286 cs = some D) :
    ∃ c : Lk, c.tx ∧ ∀ (j : Nat) (y : C), (Lk.cs c)[j]? = some y → ∃ u, cs[j]? = some u ∧ FR av w y u := by
  obtain ⟨f0, f1, f2, hu, ⟨t0, o0⟩, ⟨t1, o1⟩, ⟨t2, o2⟩⟩ := und_Link
  obtain ⟨xs, m, _, _, _, hx, hf⟩ := DataW.trod_struct hu h
  have hxl : xs.length = 3 := hx
  match cs, hl with
  | [a0, a1, a2], _ =>
    have g0 := hf 0 f0 rfl
    rw [t0, o0, clS, List.getElem?_eq_getElem (by omega)] at g0
    have g1 := hf 1 f1 rfl
    rw [t1, o1, clI, List.getElem?_eq_getElem (by omega)] at g1
    have g2 := hf 2 f2 rfl
    rw [t2, o2, clS, List.getElem?_eq_getElem (by omega)] at g2
    simp only [List.drop_zero, List.take_succ_cons, List.take_zero, List.drop_succ_cons] at g0 g1 g2
    obtain ⟨x0, rfl, p0⟩ := rd_str g0
    obtain ⟨x1, rfl⟩ := rd_int g1
    obtain ⟨x2, rfl, p2⟩ := rd_str g2
    refine ⟨⟨x0, x1, x2⟩, ⟨p0, p2⟩, fun j y hj => ?_⟩
    match j, hj with
    | 0, hj => obtain rfl := Option.some.inj hj; exact ⟨_, rfl, .sc _ rfl⟩
    | 1, hj => obtain rfl := Option.some.inj hj; exact ⟨_, rfl, .sc _ rfl⟩
    | 2, hj => obtain rfl := Option.some.inj hj; exact ⟨_, rfl, .sc _ rfl⟩
    | j + 3, hj => cases hj
theorem und_LinkS : PP.underlying 146 = some (.slice 286) := by kernel_rfl
theorem cl_LinkS : PP.cellsOf 146 = 1 := by kernel_rfl
theorem rd_LinkS (hav : ∀ b, av b) {v : Value} (h : DataW.trod enc PP w base spare held n 146 [v] = some D) : ∃ l : List Lk, (∀ x, x ∈ l → x.tx) ∧ FR av w (.fz (l.map Lk.cs)) v :=
  fr_slice Lk.cs Lk.tx (fun _ => rfl) (by decide) hav und_LinkS cl_Link (fun n cs D hl h => rd_Link hav hl h) h
theorem und_Type : ∃ f0 f1, PP.underlying 288 = some (.struct #[f0, f1]) ∧ (f0.type = 9 ∧ f0.offset = 0) ∧ (f1.type = 3 ∧ f1.offset = 1) := ⟨_, _, rfl, ⟨rfl, rfl⟩, ⟨rfl, rfl⟩⟩
theorem cl_Type : PP.cellsOf 288 = 2 := by kernel_rfl
theorem rd_Type (hav : ∀ b, av b) (hl : cs.length = 2) (h : DataW.trod enc PP w base spare held n 288 cs = some D) :
    ∃ c : Ty, c.tx ∧ ∀ (j : Nat) (y : C), (Ty.cs c)[j]? = some y → ∃ u, cs[j]? = some u ∧ FR av w y u := by
  obtain ⟨f0, f1, hu, ⟨t0, o0⟩, ⟨t1, o1⟩⟩ := und_Type
  obtain ⟨xs, m, _, _, _, hx, hf⟩ := DataW.trod_struct hu h
  have hxl : xs.length = 2 := hx
  match cs, hl with
  | [a0, a1], _ =>
    have g0 := hf 0 f0 rfl
    rw [t0, o0, clS, List.getElem?_eq_getElem (by omega)] at g0
    have g1 := hf 1 f1 rfl
    rw [t1, o1, clI, List.getElem?_eq_getElem (by omega)] at g1
    simp only [List.drop_zero, List.take_succ_cons, List.take_zero, List.drop_succ_cons] at g0 g1
    obtain ⟨x0, rfl, p0⟩ := rd_str g0
    obtain ⟨x1, rfl⟩ := rd_int g1
    refine ⟨⟨x0, x1⟩, ⟨p0⟩, fun j y hj => ?_⟩
    match j, hj with
    | 0, hj => obtain rfl := Option.some.inj hj; exact ⟨_, rfl, .sc _ rfl⟩
    | 1, hj => obtain rfl := Option.some.inj hj; exact ⟨_, rfl, .sc _ rfl⟩
    | j + 2, hj => cases hj
theorem und_TypeS : PP.underlying 147 = some (.slice 288) := by kernel_rfl
theorem cl_TypeS : PP.cellsOf 147 = 1 := by kernel_rfl
theorem rd_TypeS (hav : ∀ b, av b) {v : Value} (h : DataW.trod enc PP w base spare held n 147 [v] = some D) : ∃ l : List Ty, (∀ x, x ∈ l → x.tx) ∧ FR av w (.fz (l.map Ty.cs)) v :=
  fr_slice Ty.cs Ty.tx (fun _ => rfl) (by decide) hav und_TypeS cl_Type (fun n cs D hl h => rd_Type hav hl h) h
theorem und_Inst : ∃ f0 f1 f2 f3 f4 f5, PP.underlying 149 = some (.struct #[f0, f1, f2, f3, f4, f5]) ∧ (f0.type = 9 ∧ f0.offset = 0) ∧ (f1.type = 3 ∧ f1.offset = 1) ∧ (f2.type = 25 ∧ f2.offset = 2) ∧ (f3.type = 142 ∧ f3.offset = 3) ∧ (f4.type = 146 ∧ f4.offset = 4) ∧ (f5.type = 147 ∧ f5.offset = 5) := ⟨_, _, _, _, _, _, rfl, ⟨rfl, rfl⟩, ⟨rfl, rfl⟩, ⟨rfl, rfl⟩, ⟨rfl, rfl⟩, ⟨rfl, rfl⟩, ⟨rfl, rfl⟩⟩
theorem cl_Inst : PP.cellsOf 149 = 6 := by kernel_rfl
theorem rd_Inst (hav : ∀ b, av b) (hl : cs.length = 6) (h : DataW.trod enc PP w base spare held n 149 cs = some D) :
    ∃ c : In, c.tx ∧ ∀ (j : Nat) (y : C), (In.cs c)[j]? = some y → ∃ u, cs[j]? = some u ∧ FR av w y u := by
  obtain ⟨f0, f1, f2, f3, f4, f5, hu, ⟨t0, o0⟩, ⟨t1, o1⟩, ⟨t2, o2⟩, ⟨t3, o3⟩, ⟨t4, o4⟩, ⟨t5, o5⟩⟩ := und_Inst
  obtain ⟨xs, m, _, _, _, hx, hf⟩ := DataW.trod_struct hu h
  have hxl : xs.length = 6 := hx
  match cs, hl with
  | [a0, a1, a2, a3, a4, a5], _ =>
    have g0 := hf 0 f0 rfl
    rw [t0, o0, clS, List.getElem?_eq_getElem (by omega)] at g0
    have g1 := hf 1 f1 rfl
    rw [t1, o1, clI, List.getElem?_eq_getElem (by omega)] at g1
    have g2 := hf 2 f2 rfl
    rw [t2, o2, clSS, List.getElem?_eq_getElem (by omega)] at g2
    have g3 := hf 3 f3 rfl
    rw [t3, o3, cl_ValueS, List.getElem?_eq_getElem (by omega)] at g3
    have g4 := hf 4 f4 rfl
    rw [t4, o4, cl_LinkS, List.getElem?_eq_getElem (by omega)] at g4
    have g5 := hf 5 f5 rfl
    rw [t5, o5, cl_TypeS, List.getElem?_eq_getElem (by omega)] at g5
    simp only [List.drop_zero, List.take_succ_cons, List.take_zero, List.drop_succ_cons] at g0 g1 g2 g3 g4 g5
    obtain ⟨x0, rfl, p0⟩ := rd_str g0
    obtain ⟨x1, rfl⟩ := rd_int g1
    obtain ⟨x2, p2, q2⟩ := rd_strs (av := av) hav g2
    obtain ⟨x3, p3, q3⟩ := rd_ValueS (av := av) hav g3
    obtain ⟨x4, p4, q4⟩ := rd_LinkS (av := av) hav g4
    obtain ⟨x5, p5, q5⟩ := rd_TypeS (av := av) hav g5
    refine ⟨⟨x0, x1, x2, x3, x4, x5⟩, ⟨p0, p2, p3, p4, p5⟩, fun j y hj => ?_⟩
    match j, hj with
    | 0, hj => obtain rfl := Option.some.inj hj; exact ⟨_, rfl, .sc _ rfl⟩
    | 1, hj => obtain rfl := Option.some.inj hj; exact ⟨_, rfl, .sc _ rfl⟩
    | 2, hj => obtain rfl := Option.some.inj hj; exact ⟨_, rfl, q2⟩
    | 3, hj => obtain rfl := Option.some.inj hj; exact ⟨_, rfl, q3⟩
    | 4, hj => obtain rfl := Option.some.inj hj; exact ⟨_, rfl, q4⟩
    | 5, hj => obtain rfl := Option.some.inj hj; exact ⟨_, rfl, q5⟩
    | j + 6, hj => cases hj
theorem und_InstS : PP.underlying 23 = some (.slice 149) := by kernel_rfl
theorem cl_InstS : PP.cellsOf 23 = 1 := by kernel_rfl
theorem rd_InstS (hav : ∀ b, av b) {v : Value} (h : DataW.trod enc PP w base spare held n 23 [v] = some D) : ∃ l : List In, (∀ x, x ∈ l → x.tx) ∧ FR av w (.fz (l.map In.cs)) v :=
  fr_slice In.cs In.tx (fun _ => rfl) (by decide) hav und_InstS cl_Inst (fun n cs D hl h => rd_Inst hav hl h) h
theorem und_ints : PP.underlying 172 = some (.slice 3) := by kernel_rfl
theorem cl_ints : PP.cellsOf 172 = 1 := by kernel_rfl
theorem rd_ints (hav : ∀ b, av b) {v : Value} (h : DataW.trod enc PP w base spare held n 172 [v] = some D) : ∃ l : List Int, (∀ x, x ∈ l → True) ∧ FR av w (.fz (l.map nC)) v :=
  fr_slice nC (fun _ => True) (fun _ => rfl) (by decide) hav und_ints clI (fun n cs D hl h => by
    match cs, hl with
    | [a], _ =>
      obtain ⟨s, rfl⟩ := rd_int h
      refine ⟨s, trivial, fun j y hj => ?_⟩
      match j, hj with
      | 0, hj => simp [nC] at hj; subst hj; exact ⟨_, rfl, .sc _ rfl⟩
      | j + 1, hj => simp [nC] at hj) h
theorem und_Node : ∃ f0 f1 f2 f3 f4, PP.underlying 309 = some (.struct #[f0, f1, f2, f3, f4]) ∧ (f0.type = 3 ∧ f0.offset = 0) ∧ (f1.type = 3 ∧ f1.offset = 1) ∧ (f2.type = 9 ∧ f2.offset = 2) ∧ (f3.type = 25 ∧ f3.offset = 3) ∧ (f4.type = 172 ∧ f4.offset = 4) := ⟨_, _, _, _, _, rfl, ⟨rfl, rfl⟩, ⟨rfl, rfl⟩, ⟨rfl, rfl⟩, ⟨rfl, rfl⟩, ⟨rfl, rfl⟩⟩
theorem cl_Node : PP.cellsOf 309 = 5 := by kernel_rfl
theorem rd_Node (hav : ∀ b, av b) (hl : cs.length = 5) (h : DataW.trod enc PP w base spare held n 309 cs = some D) :
    ∃ c : Nd, c.tx ∧ ∀ (j : Nat) (y : C), (Nd.cs c)[j]? = some y → ∃ u, cs[j]? = some u ∧ FR av w y u := by
  obtain ⟨f0, f1, f2, f3, f4, hu, ⟨t0, o0⟩, ⟨t1, o1⟩, ⟨t2, o2⟩, ⟨t3, o3⟩, ⟨t4, o4⟩⟩ := und_Node
  obtain ⟨xs, m, _, _, _, hx, hf⟩ := DataW.trod_struct hu h
  have hxl : xs.length = 5 := hx
  match cs, hl with
  | [a0, a1, a2, a3, a4], _ =>
    have g0 := hf 0 f0 rfl
    rw [t0, o0, clI, List.getElem?_eq_getElem (by omega)] at g0
    have g1 := hf 1 f1 rfl
    rw [t1, o1, clI, List.getElem?_eq_getElem (by omega)] at g1
    have g2 := hf 2 f2 rfl
    rw [t2, o2, clS, List.getElem?_eq_getElem (by omega)] at g2
    have g3 := hf 3 f3 rfl
    rw [t3, o3, clSS, List.getElem?_eq_getElem (by omega)] at g3
    have g4 := hf 4 f4 rfl
    rw [t4, o4, cl_ints, List.getElem?_eq_getElem (by omega)] at g4
    simp only [List.drop_zero, List.take_succ_cons, List.take_zero, List.drop_succ_cons] at g0 g1 g2 g3 g4
    obtain ⟨x0, rfl⟩ := rd_int g0
    obtain ⟨x1, rfl⟩ := rd_int g1
    obtain ⟨x2, rfl, p2⟩ := rd_str g2
    obtain ⟨x3, p3, q3⟩ := rd_strs (av := av) hav g3
    obtain ⟨x4, p4, q4⟩ := rd_ints (av := av) hav g4
    refine ⟨⟨x0, x1, x2, x3, x4⟩, ⟨p2, p3⟩, fun j y hj => ?_⟩
    match j, hj with
    | 0, hj => obtain rfl := Option.some.inj hj; exact ⟨_, rfl, .sc _ rfl⟩
    | 1, hj => obtain rfl := Option.some.inj hj; exact ⟨_, rfl, .sc _ rfl⟩
    | 2, hj => obtain rfl := Option.some.inj hj; exact ⟨_, rfl, .sc _ rfl⟩
    | 3, hj => obtain rfl := Option.some.inj hj; exact ⟨_, rfl, q3⟩
    | 4, hj => obtain rfl := Option.some.inj hj; exact ⟨_, rfl, q4⟩
    | j + 5, hj => cases hj
theorem und_NodeS : PP.underlying 151 = some (.slice 309) := by kernel_rfl
theorem cl_NodeS : PP.cellsOf 151 = 1 := by kernel_rfl
theorem rd_NodeS (hav : ∀ b, av b) {v : Value} (h : DataW.trod enc PP w base spare held n 151 [v] = some D) : ∃ l : List Nd, (∀ x, x ∈ l → x.tx) ∧ FR av w (.fz (l.map Nd.cs)) v :=
  fr_slice Nd.cs Nd.tx (fun _ => rfl) (by decide) hav und_NodeS cl_Node (fun n cs D hl h => rd_Node hav hl h) h
theorem und_Prog : ∃ f0 f1, PP.underlying 153 = some (.struct #[f0, f1]) ∧ (f0.type = 151 ∧ f0.offset = 0) ∧ (f1.type = 3 ∧ f1.offset = 1) := ⟨_, _, rfl, ⟨rfl, rfl⟩, ⟨rfl, rfl⟩⟩
theorem cl_Prog : PP.cellsOf 153 = 2 := by kernel_rfl
theorem rd_Prog (hav : ∀ b, av b) (hl : cs.length = 2) (h : DataW.trod enc PP w base spare held n 153 cs = some D) :
    ∃ c : Pg, c.tx ∧ ∀ (j : Nat) (y : C), (Pg.cs c)[j]? = some y → ∃ u, cs[j]? = some u ∧ FR av w y u := by
  obtain ⟨f0, f1, hu, ⟨t0, o0⟩, ⟨t1, o1⟩⟩ := und_Prog
  obtain ⟨xs, m, _, _, _, hx, hf⟩ := DataW.trod_struct hu h
  have hxl : xs.length = 2 := hx
  match cs, hl with
  | [a0, a1], _ =>
    have g0 := hf 0 f0 rfl
    rw [t0, o0, cl_NodeS, List.getElem?_eq_getElem (by omega)] at g0
    have g1 := hf 1 f1 rfl
    rw [t1, o1, clI, List.getElem?_eq_getElem (by omega)] at g1
    simp only [List.drop_zero, List.take_succ_cons, List.take_zero, List.drop_succ_cons] at g0 g1
    obtain ⟨x0, p0, q0⟩ := rd_NodeS (av := av) hav g0
    obtain ⟨x1, rfl⟩ := rd_int g1
    refine ⟨⟨x0, x1⟩, p0, fun j y hj => ?_⟩
    match j, hj with
    | 0, hj => obtain rfl := Option.some.inj hj; exact ⟨_, rfl, q0⟩
    | 1, hj => obtain rfl := Option.some.inj hj; exact ⟨_, rfl, .sc _ rfl⟩
    | j + 2, hj => cases hj
theorem und_Unit : ∃ f0 f1, PP.underlying 155 = some (.struct #[f0, f1]) ∧ (f0.type = 3 ∧ f0.offset = 0) ∧ (f1.type = 153 ∧ f1.offset = 1) := ⟨_, _, rfl, ⟨rfl, rfl⟩, ⟨rfl, rfl⟩⟩
theorem cl_Unit : PP.cellsOf 155 = 3 := by kernel_rfl
theorem rd_Unit (hav : ∀ b, av b) (hl : cs.length = 3) (h : DataW.trod enc PP w base spare held n 155 cs = some D) :
    ∃ c : Un, c.tx ∧ ∀ (j : Nat) (y : C), (Un.cs c)[j]? = some y → ∃ u, cs[j]? = some u ∧ FR av w y u := by
  obtain ⟨f0, f1, hu, ⟨t0, o0⟩, ⟨t1, o1⟩⟩ := und_Unit
  obtain ⟨xs, m, _, _, _, hx, hf⟩ := DataW.trod_struct hu h
  have hxl : xs.length = 2 := hx
  match cs, hl with
  | [a0, a1, a2], _ =>
    have g0 := hf 0 f0 rfl
    rw [t0, o0, clI, List.getElem?_eq_getElem (by omega)] at g0
    have g1 := hf 1 f1 rfl
    rw [t1, o1, cl_Prog, List.getElem?_eq_getElem (by omega)] at g1
    simp only [List.drop_zero, List.take_succ_cons, List.take_zero, List.drop_succ_cons] at g0 g1
    obtain ⟨x0, rfl⟩ := rd_int g0
    obtain ⟨x1, p1, q1⟩ := rd_Prog (av := av) hav (by rfl) g1
    refine ⟨⟨x0, x1⟩, ⟨p1⟩, fun j y hj => ?_⟩
    match j, hj with
    | 0, hj => obtain rfl := Option.some.inj hj; exact ⟨_, rfl, .sc _ rfl⟩
    | 1, hj => obtain rfl := Option.some.inj hj; exact q1 0 _ rfl
    | 2, hj => obtain rfl := Option.some.inj hj; exact q1 1 _ rfl
    | j + 3, hj => cases hj
theorem und_UnitS : PP.underlying 24 = some (.slice 155) := by kernel_rfl
theorem cl_UnitS : PP.cellsOf 24 = 1 := by kernel_rfl
theorem rd_UnitS (hav : ∀ b, av b) {v : Value} (h : DataW.trod enc PP w base spare held n 24 [v] = some D) : ∃ l : List Un, (∀ x, x ∈ l → x.tx) ∧ FR av w (.fz (l.map Un.cs)) v :=
  fr_slice Un.cs Un.tx (fun _ => rfl) (by decide) hav und_UnitS cl_Unit (fun n cs D hl h => rd_Unit hav hl h) h
theorem und_Sys : ∃ f0 f1 f2 f3, PP.underlying 27 = some (.struct #[f0, f1, f2, f3]) ∧ (f0.type = 22 ∧ f0.offset = 0) ∧ (f1.type = 23 ∧ f1.offset = 1) ∧ (f2.type = 24 ∧ f2.offset = 2) ∧ (f3.type = 25 ∧ f3.offset = 3) := ⟨_, _, _, _, rfl, ⟨rfl, rfl⟩, ⟨rfl, rfl⟩, ⟨rfl, rfl⟩, ⟨rfl, rfl⟩⟩
theorem cl_Sys : PP.cellsOf 27 = 4 := by kernel_rfl
theorem rd_Sys (hav : ∀ b, av b) (hl : cs.length = 4) (h : DataW.trod enc PP w base spare held n 27 cs = some D) :
    ∃ c : Sy, c.tx ∧ ∀ (j : Nat) (y : C), (Sy.cs c)[j]? = some y → ∃ u, cs[j]? = some u ∧ FR av w y u := by
  obtain ⟨f0, f1, f2, f3, hu, ⟨t0, o0⟩, ⟨t1, o1⟩, ⟨t2, o2⟩, ⟨t3, o3⟩⟩ := und_Sys
  obtain ⟨xs, m, _, _, _, hx, hf⟩ := DataW.trod_struct hu h
  have hxl : xs.length = 4 := hx
  match cs, hl with
  | [a0, a1, a2, a3], _ =>
    have g0 := hf 0 f0 rfl
    rw [t0, o0, cl_CellS, List.getElem?_eq_getElem (by omega)] at g0
    have g1 := hf 1 f1 rfl
    rw [t1, o1, cl_InstS, List.getElem?_eq_getElem (by omega)] at g1
    have g2 := hf 2 f2 rfl
    rw [t2, o2, cl_UnitS, List.getElem?_eq_getElem (by omega)] at g2
    have g3 := hf 3 f3 rfl
    rw [t3, o3, clSS, List.getElem?_eq_getElem (by omega)] at g3
    simp only [List.drop_zero, List.take_succ_cons, List.take_zero, List.drop_succ_cons] at g0 g1 g2 g3
    obtain ⟨x0, p0, q0⟩ := rd_CellS (av := av) hav g0
    obtain ⟨x1, p1, q1⟩ := rd_InstS (av := av) hav g1
    obtain ⟨x2, p2, q2⟩ := rd_UnitS (av := av) hav g2
    obtain ⟨x3, p3, q3⟩ := rd_strs (av := av) hav g3
    refine ⟨⟨x0, x1, x2, x3⟩, ⟨p0, p1, p2, p3⟩, fun j y hj => ?_⟩
    match j, hj with
    | 0, hj => obtain rfl := Option.some.inj hj; exact ⟨_, rfl, q0⟩
    | 1, hj => obtain rfl := Option.some.inj hj; exact ⟨_, rfl, q1⟩
    | 2, hj => obtain rfl := Option.some.inj hj; exact ⟨_, rfl, q2⟩
    | 3, hj => obtain rfl := Option.some.inj hj; exact ⟨_, rfl, q3⟩
    | j + 4, hj => cases hj
theorem und_Bind : ∃ f0 f1, PP.underlying 158 = some (.struct #[f0, f1]) ∧ (f0.type = 9 ∧ f0.offset = 0) ∧ (f1.type = 30 ∧ f1.offset = 1) := ⟨_, _, rfl, ⟨rfl, rfl⟩, ⟨rfl, rfl⟩⟩
theorem cl_Bind : PP.cellsOf 158 = 4 := by kernel_rfl
theorem rd_Bind (hav : ∀ b, av b) (hl : cs.length = 4) (h : DataW.trod enc PP w base spare held n 158 cs = some D) :
    ∃ c : Bd, c.tx ∧ ∀ (j : Nat) (y : C), (Bd.cs c)[j]? = some y → ∃ u, cs[j]? = some u ∧ FR av w y u := by
  obtain ⟨f0, f1, hu, ⟨t0, o0⟩, ⟨t1, o1⟩⟩ := und_Bind
  obtain ⟨xs, m, _, _, _, hx, hf⟩ := DataW.trod_struct hu h
  have hxl : xs.length = 2 := hx
  match cs, hl with
  | [a0, a1, a2, a3], _ =>
    have g0 := hf 0 f0 rfl
    rw [t0, o0, clS, List.getElem?_eq_getElem (by omega)] at g0
    have g1 := hf 1 f1 rfl
    rw [t1, o1, cl_Value, List.getElem?_eq_getElem (by omega)] at g1
    simp only [List.drop_zero, List.take_succ_cons, List.take_zero, List.drop_succ_cons] at g0 g1
    obtain ⟨x0, rfl, p0⟩ := rd_str g0
    obtain ⟨x1, p1, q1⟩ := rd_Value (av := av) hav (by rfl) g1
    refine ⟨⟨x0, x1⟩, ⟨p0, p1⟩, fun j y hj => ?_⟩
    match j, hj with
    | 0, hj => obtain rfl := Option.some.inj hj; exact ⟨_, rfl, .sc _ rfl⟩
    | 1, hj => obtain rfl := Option.some.inj hj; exact q1 0 _ rfl
    | 2, hj => obtain rfl := Option.some.inj hj; exact q1 1 _ rfl
    | 3, hj => obtain rfl := Option.some.inj hj; exact q1 2 _ rfl
    | j + 4, hj => cases hj
theorem und_BindS : PP.underlying 28 = some (.slice 158) := by kernel_rfl
theorem cl_BindS : PP.cellsOf 28 = 1 := by kernel_rfl
theorem rd_BindS (hav : ∀ b, av b) {v : Value} (h : DataW.trod enc PP w base spare held n 28 [v] = some D) : ∃ l : List Bd, (∀ x, x ∈ l → x.tx) ∧ FR av w (.fz (l.map Bd.cs)) v :=
  fr_slice Bd.cs Bd.tx (fun _ => rfl) (by decide) hav und_BindS cl_Bind (fun n cs D hl h => rd_Bind hav hl h) h
theorem und_Frame : ∃ f0 f1 f2 f3, PP.underlying 161 = some (.struct #[f0, f1, f2, f3]) ∧ (f0.type = 3 ∧ f0.offset = 0) ∧ (f1.type = 3 ∧ f1.offset = 1) ∧ (f2.type = 142 ∧ f2.offset = 2) ∧ (f3.type = 28 ∧ f3.offset = 3) := ⟨_, _, _, _, rfl, ⟨rfl, rfl⟩, ⟨rfl, rfl⟩, ⟨rfl, rfl⟩, ⟨rfl, rfl⟩⟩
theorem cl_Frame : PP.cellsOf 161 = 4 := by kernel_rfl
theorem rd_Frame (hav : ∀ b, av b) (hl : cs.length = 4) (h : DataW.trod enc PP w base spare held n 161 cs = some D) :
    ∃ c : Fm, c.tx ∧ ∀ (j : Nat) (y : C), (Fm.cs c)[j]? = some y → ∃ u, cs[j]? = some u ∧ FR av w y u := by
  obtain ⟨f0, f1, f2, f3, hu, ⟨t0, o0⟩, ⟨t1, o1⟩, ⟨t2, o2⟩, ⟨t3, o3⟩⟩ := und_Frame
  obtain ⟨xs, m, _, _, _, hx, hf⟩ := DataW.trod_struct hu h
  have hxl : xs.length = 4 := hx
  match cs, hl with
  | [a0, a1, a2, a3], _ =>
    have g0 := hf 0 f0 rfl
    rw [t0, o0, clI, List.getElem?_eq_getElem (by omega)] at g0
    have g1 := hf 1 f1 rfl
    rw [t1, o1, clI, List.getElem?_eq_getElem (by omega)] at g1
    have g2 := hf 2 f2 rfl
    rw [t2, o2, cl_ValueS, List.getElem?_eq_getElem (by omega)] at g2
    have g3 := hf 3 f3 rfl
    rw [t3, o3, cl_BindS, List.getElem?_eq_getElem (by omega)] at g3
    simp only [List.drop_zero, List.take_succ_cons, List.take_zero, List.drop_succ_cons] at g0 g1 g2 g3
    obtain ⟨x0, rfl⟩ := rd_int g0
    obtain ⟨x1, rfl⟩ := rd_int g1
    obtain ⟨x2, p2, q2⟩ := rd_ValueS (av := av) hav g2
    obtain ⟨x3, p3, q3⟩ := rd_BindS (av := av) hav g3
    refine ⟨⟨x0, x1, x2, x3⟩, ⟨p2, p3⟩, fun j y hj => ?_⟩
    match j, hj with
    | 0, hj => obtain rfl := Option.some.inj hj; exact ⟨_, rfl, .sc _ rfl⟩
    | 1, hj => obtain rfl := Option.some.inj hj; exact ⟨_, rfl, .sc _ rfl⟩
    | 2, hj => obtain rfl := Option.some.inj hj; exact ⟨_, rfl, q2⟩
    | 3, hj => obtain rfl := Option.some.inj hj; exact ⟨_, rfl, q3⟩
    | j + 4, hj => cases hj
theorem und_FrameS : PP.underlying 31 = some (.slice 161) := by kernel_rfl
theorem cl_FrameS : PP.cellsOf 31 = 1 := by kernel_rfl
theorem rd_FrameS (hav : ∀ b, av b) {v : Value} (h : DataW.trod enc PP w base spare held n 31 [v] = some D) : ∃ l : List Fm, (∀ x, x ∈ l → x.tx) ∧ FR av w (.fz (l.map Fm.cs)) v :=
  fr_slice Fm.cs Fm.tx (fun _ => rfl) (by decide) hav und_FrameS cl_Frame (fun n cs D hl h => rd_Frame hav hl h) h
theorem und_Machine : ∃ f0 f1 f2 f3 f4 f5 f6, PP.underlying 33 = some (.struct #[f0, f1, f2, f3, f4, f5, f6]) ∧ (f0.type = 3 ∧ f0.offset = 0) ∧ (f1.type = 3 ∧ f1.offset = 1) ∧ (f2.type = 3 ∧ f2.offset = 2) ∧ (f3.type = 28 ∧ f3.offset = 3) ∧ (f4.type = 30 ∧ f4.offset = 4) ∧ (f5.type = 31 ∧ f5.offset = 7) ∧ (f6.type = 3 ∧ f6.offset = 8) := ⟨_, _, _, _, _, _, _, rfl, ⟨rfl, rfl⟩, ⟨rfl, rfl⟩, ⟨rfl, rfl⟩, ⟨rfl, rfl⟩, ⟨rfl, rfl⟩, ⟨rfl, rfl⟩, ⟨rfl, rfl⟩⟩
theorem cl_Machine : PP.cellsOf 33 = 9 := by kernel_rfl
theorem rd_Machine (hav : ∀ b, av b) (hl : cs.length = 9) (h : DataW.trod enc PP w base spare held n 33 cs = some D) :
    ∃ c : Mc, c.tx ∧ ∀ (j : Nat) (y : C), (Mc.cs c)[j]? = some y → ∃ u, cs[j]? = some u ∧ FR av w y u := by
  obtain ⟨f0, f1, f2, f3, f4, f5, f6, hu, ⟨t0, o0⟩, ⟨t1, o1⟩, ⟨t2, o2⟩, ⟨t3, o3⟩, ⟨t4, o4⟩, ⟨t5, o5⟩, ⟨t6, o6⟩⟩ := und_Machine
  obtain ⟨xs, m, _, _, _, hx, hf⟩ := DataW.trod_struct hu h
  have hxl : xs.length = 7 := hx
  match cs, hl with
  | [a0, a1, a2, a3, a4, a5, a6, a7, a8], _ =>
    have g0 := hf 0 f0 rfl
    rw [t0, o0, clI, List.getElem?_eq_getElem (by omega)] at g0
    have g1 := hf 1 f1 rfl
    rw [t1, o1, clI, List.getElem?_eq_getElem (by omega)] at g1
    have g2 := hf 2 f2 rfl
    rw [t2, o2, clI, List.getElem?_eq_getElem (by omega)] at g2
    have g3 := hf 3 f3 rfl
    rw [t3, o3, cl_BindS, List.getElem?_eq_getElem (by omega)] at g3
    have g4 := hf 4 f4 rfl
    rw [t4, o4, cl_Value, List.getElem?_eq_getElem (by omega)] at g4
    have g5 := hf 5 f5 rfl
    rw [t5, o5, cl_FrameS, List.getElem?_eq_getElem (by omega)] at g5
    have g6 := hf 6 f6 rfl
    rw [t6, o6, clI, List.getElem?_eq_getElem (by omega)] at g6
    simp only [List.drop_zero, List.take_succ_cons, List.take_zero, List.drop_succ_cons] at g0 g1 g2 g3 g4 g5 g6
    obtain ⟨x0, rfl⟩ := rd_int g0
    obtain ⟨x1, rfl⟩ := rd_int g1
    obtain ⟨x2, rfl⟩ := rd_int g2
    obtain ⟨x3, p3, q3⟩ := rd_BindS (av := av) hav g3
    obtain ⟨x4, p4, q4⟩ := rd_Value (av := av) hav (by rfl) g4
    obtain ⟨x5, p5, q5⟩ := rd_FrameS (av := av) hav g5
    obtain ⟨x6, rfl⟩ := rd_int g6
    refine ⟨⟨x0, x1, x2, x3, x4, x5, x6⟩, ⟨p3, p4, p5⟩, fun j y hj => ?_⟩
    match j, hj with
    | 0, hj => obtain rfl := Option.some.inj hj; exact ⟨_, rfl, .sc _ rfl⟩
    | 1, hj => obtain rfl := Option.some.inj hj; exact ⟨_, rfl, .sc _ rfl⟩
    | 2, hj => obtain rfl := Option.some.inj hj; exact ⟨_, rfl, .sc _ rfl⟩
    | 3, hj => obtain rfl := Option.some.inj hj; exact ⟨_, rfl, q3⟩
    | 4, hj => obtain rfl := Option.some.inj hj; exact q4 0 _ rfl
    | 5, hj => obtain rfl := Option.some.inj hj; exact q4 1 _ rfl
    | 6, hj => obtain rfl := Option.some.inj hj; exact q4 2 _ rfl
    | 7, hj => obtain rfl := Option.some.inj hj; exact ⟨_, rfl, q5⟩
    | 8, hj => obtain rfl := Option.some.inj hj; exact ⟨_, rfl, .sc _ rfl⟩
    | j + 9, hj => cases hj
end Go.Own
set_option maxRecDepth 1000000
namespace Go.Own
open Go.ChangeShapes Go.WideShapes Go.Deep Go.RowKit Go.ChangeAt Go.Proofs.YtemknkncncoedaaGreatDoor
namespace FnExactMachineOk
theorem facts_of {W : World} (hL : laidMetH PP Rows.fnExactMachineOkRow.laid W) (hsh : W.ShapedOpen PP) : Facts W := by
  have hL : laidMet PP Rows.fnExactMachineOkRow.laid W := hL
  obtain ⟨ps, hv, _⟩ := hL
  have rd := fun n d hm => reads_laid hv n d hm
  refine ⟨?_, ?_, ?_, ?_⟩
  · exact Go.Proofs.cell_of_shapedOpen_int (zero := #[.int .i64 0]) (t := 3) hsh (of_decide_eq_true (by kernel_rfl)) (by kernel_rfl) rfl (by kernel_rfl) (by kernel_rfl) undI
  · exact err_cell gSyn tSyn (rd "strconv.ErrSyntax" _ (by simp [Rows.fnExactMachineOkRow, Rows.laid_strconv_ErrSyntax]; rfl))
  · exact err_cell gRng tRng (rd "strconv.ErrRange" _ (by simp [Rows.fnExactMachineOkRow, Rows.laid_strconv_ErrRange]; rfl))
  · obtain ⟨g, t, cs, fuel, p, h1, h2, h3, h4⟩ := rd "internal/strconv.uint64pow10" Rows.laid_internal_strconv_uint64pow10 (by simp [Rows.fnExactMachineOkRow])
    have ht : t = 356 := by
      have : (PP.globalNamed "internal/strconv.uint64pow10").bind (fun g => (PP.globals[g]?).map (·.type)) = some 356 := by kernel_rfl
      rw [h1] at this
      exact Option.some.inj (h2.symm.trans this)
    subst ht
    unfold Lib.TabIs
    rw [h3, ← Lib.cells_of_tab (e := 335) (n := 20) (k := .u64) (zs := Lib.pow10Tab) (by kernel_rfl) (by kernel_rfl) (by kernel_rfl) (by kernel_rfl) h4]
theorem par : Go.Proofs.Tryz.f3.params = #[27, 33] := by kernel_rfl
theorem contract (H : Type) (enc : TypeId × Value → H) (W : World) (base : Nat) (args : Array Value) (ds gs : List (DataW H)) (before : List MemPlace)
    (hval : ∀ (j : Nat) t v, Go.Proofs.Tryz.f3.params[j]? = some t → args[j]? = some v → Value.okWide PP W .any base t v)
    (hW : DataW.Whole enc PP Go.Proofs.Tryz.f3.params.toList Rows.fnExactMachineOkSpec.vars false W args.toList ds gs before) (hL : laidMetH PP Rows.fnExactMachineOkRow.laid W) (hsh : W.ShapedOpen PP) :
    Calls PP 3 args W fun e W' => ∃ v, e = .returned v ∧ Rows.fnExactMachineOkSpec.post enc PP Go.Proofs.Tryz.f3 false true false false W args v W' := by
  have hW' := hW
  obtain ⟨p, q, hA0, hV, rfl, hfz, hnd⟩ := hW
  have hA : DataW.TrodAll enc PP W 0 (fun _ => true) true Go.Proofs.Tryz.f3.params.toList args.toList ds p := hA0
  rw [par] at hA hval
  obtain ⟨v0, vs0, d0, ds0, p0, q0, hargs, rfl, rfl, h0, r0⟩ := trodAll_cons hA
  obtain ⟨v1, vs1, d1, ds1, p1, q1, rfl, rfl, rfl, h1, r1⟩ := trodAll_cons r0
  obtain ⟨rfl, rfl, rfl⟩ := trodAll_nil r1
  obtain rfl : args = #[v0, v1] := by cases args; simp_all
  obtain ⟨rfl, rfl⟩ := trodVars_none hV
  obtain ⟨n0, t0⟩ := h0
  have t0' := t0
  obtain ⟨_f0, _f1, _f2, _f3, hu0, _⟩ := und_Sys
  obtain ⟨us0, rfl, hs0, o0⟩ := struct_cells hu0 (hval 0 _ v0 rfl rfl)
  rw [cl_Sys] at hs0
  rw [o0] at t0'
  obtain ⟨x0, hx0, hf0⟩ := rd_Sys (av := fun b => (fun _ : Nat => (none : Option (Nat × Pth))) b = none) (fun _ => rfl) (by simpa using hs0) t0'
  obtain ⟨n1, t1⟩ := h1
  have t1' := t1
  obtain ⟨_f0, _f1, _f2, _f3, _f4, _f5, _f6, hu1, _⟩ := und_Machine
  obtain ⟨us1, rfl, hs1, o1⟩ := struct_cells hu1 (hval 1 _ v1 rfl rfl)
  rw [cl_Machine] at hs1
  rw [o1] at t1'
  obtain ⟨x1, hx1, hf1⟩ := rd_Machine (av := fun b => (fun _ : Nat => (none : Option (Nat × Pth))) b = none) (fun _ => rfl) (by simpa using hs1) t1'
  have hf := facts_of hL hsh
  letI := LI
  haveI : Facts.Of := ⟨fun w h => h⟩
  have hsz : 4 ≤ W.heap.size := by
    have := (hf.pow)
    unfold Lib.TabIs World.var? at this
    have hg : PP.globalNamed "internal/strconv.uint64pow10" = some 3 := by kernel_rfl
    rw [hg] at this
    simp only [Option.bind_some] at this
    split at this
    · rename_i hx; exact (Array.getElem?_eq_some_iff.1 hx).1
    · simp at this
  refine ((c_laws_FnExactMachineOk x0 x1 hx0 hx1).run (fun _ => none) W #[(.agg us0), (.agg us1)] ⟨hf, hsz, fun _ _ => rfl⟩ rfl (fun i v hi => ?_) (fun _ _ _ _ h => by simp [lo] at h) (fun _ _ _ h => by simp at h) (fun _ _ h => by simp at h)).mono ?_
  · match i, hi with
    | 0, hi => simp at hi; subst hi; exact VR.ofFR (cs := Sy.cs x0) (by rw [hs0]; rfl) hf0
    | 1, hi => simp at hi; subst hi; exact VR.ofFR (cs := Mc.cs x1) (by rw [hs1]; rfl) hf1
    | i + 2, hi => simp at hi
  rintro e W' ⟨u, res, ob', β', rfl, hp⟩
  have hb : Below W.heap.size W W' := ⟨hp.os, hp.tape, hp.output, hp.hs, fun b hb => hp.fr b hb rfl⟩
  have hu : u = .bool true := by
    have := hp.res
    rw [hp.ok] at this
    exact this.sc_inv
  subst hu
  have hlt := hW'.lt
  simp only [List.append_nil, List.append_assoc] at hlt
  refine ⟨_, rfl, post_of_below (pa := p0 ++ (p1 ++ [])) (pv := []) hW' (fun _ _ _ => trodAll_cons_mk (shut_bool undB _) trodAll_mk0) (fun sp hsp => ?_) (fun _ _ => rfl) (by simp) (hb.frame _) (fun b off hlt => hb.frozen hlt) (ok_one (by kernel_rfl) rfl (okWide_bool_mk undB _))⟩
  rw [par]
  have hsp' : ∀ x, x ∈ p0 ∨ x ∈ p1 → sp x.block = true ∧ x.block < W.heap.size := fun x hx => by
    refine ⟨hsp x ?_, hlt x ?_⟩ <;> (try simp only [List.append_nil, List.append_assoc, List.mem_append]) <;> exact hx
  refine trodAll_cons_mk (WideElems.Trod_stays laidOut (by kernel_rfl) (of_decide_eq_true (by kernel_rfl)) ⟨n0, t0⟩ (fun x hx => hb.same (hsp' x (.inl hx)).2) (fun x hx => (hsp' x (.inl hx)).1)) ?_
  exact trodAll_cons_mk (WideElems.Trod_stays laidOut (by kernel_rfl) (of_decide_eq_true (by kernel_rfl)) ⟨n1, t1⟩ (fun x hx => hb.same (hsp' x (.inr hx)).2) (fun x hx => (hsp' x (.inr hx)).1)) trodAll_mk0
theorem ownN : ownKnob PP.godebug = none := by kernel_rfl
def wargs : Array Value := #[.agg #[.slice none 0 0, .slice none 0 0, .slice none 0 0, .slice none 0 0], .agg #[.int .i64 0, .int .i64 0, .int .i64 0, .slice none 0 0, .int .i64 0, .int .i64 0, .string ⟨#[]⟩, .slice none 0 0, .int .i64 0]]
noncomputable def wW (os : Os) : World := World.laidAll PP os Rows.fnExactMachineOkRow.laid
theorem laid_met (os : Os) : laidMetH PP Rows.fnExactMachineOkRow.laid ((wW os).forCall (fun _ _ => 0) ⟨#[], wargs, []⟩).memory :=
  show laidMet PP Rows.fnExactMachineOkRow.laid _ from laidMet_laidAll wargs (by kernel_rfl) (by kernel_rfl)
theorem wreads (os : Os) {H : Type} (enc : TypeId × Value → H) : ∃ places, DataW.whole enc PP ((wW os).forCall (fun _ _ => 0) ⟨#[], wargs, []⟩).memory Go.Proofs.Tryz.f3.params.toList Rows.fnExactMachineOkSpec.vars false wargs.toList 8 = some ([.agg [.nil, .nil, .nil, .nil], .agg [.lit (.int .i64 0), .lit (.int .i64 0), .lit (.int .i64 0), .nil, .agg [.lit (.int .i64 0), .lit (.int .i64 0), .lit (.string [])], .nil, .lit (.int .i64 0)]], [], places) :=
  ⟨[], by kernel_rfl⟩
theorem lifted (os : Os) (started : os.Started) (H : Type) (enc : TypeId × Value → H) (F : Stop.Interp) :
    ReturnsInHanded {} Go.Proofs.Tryz.checked os 3 .any ((OpenSpec.ofChange Rows.fnExactMachineOkSpec).preRow enc PP Go.Proofs.Tryz.f3 Rows.fnExactMachineOkRow.domain false Rows.fnExactMachineOkRow.laid) (((OpenSpec.ofChange Rows.fnExactMachineOkSpec).at F).post enc PP Go.Proofs.Tryz.f3 false true false false) := by
  obtain ⟨places, hx⟩ := wreads os enc
  refine returnsInHanded_of_row (C := Go.Proofs.Tryz.checked) (s := OpenSpec.ofChange Rows.fnExactMachineOkSpec) ownN started (by kernel_rfl) Go.Proofs.Tryz.func3
    (witness_row_at (enc := enc) (C := Go.Proofs.Tryz.checked) false (wW os) wargs (World.laidAll_os _ _ _) (by kernel_rfl) (by kernel_rfl) (by kernel_rfl)
      (OpenSpec.preRow_of_cond 8 hx (by kernel_rfl) (fun k hk => by cases hk) (by kernel_rfl) (laid_met os))) ?_
  intro W base args ds gs before hval hW _ _ _ hL hsh _
  exact contract H enc W base args ds gs before hval hW hL hsh
theorem k1 : (Rows.fnExactMachineOkRow.inPlace == PP.inPlace 3) = true := by kernel_rfl
theorem k2 : (Rows.fnExactMachineOkRow.unfollowed == PP.unfollowed 3) = true := by kernel_rfl
theorem k3 : (Rows.fnExactMachineOkRow.recurses == PP.recurses 3) = true := by kernel_rfl
theorem k4 : (Rows.fnExactMachineOkRow.named == PP.varsNamed 3) = true := by kernel_rfl
theorem k5 : (Rows.fnExactMachineOkRow.loops == (Go.Proofs.Tryz.f3.params.toList ++ (OpenSpec.ofChange Rows.fnExactMachineOkSpec).bare.plain.varTypes PP).any (PP.loopsFrom ·)) = true := by kernel_rfl
theorem k6 : (Rows.fnExactMachineOkRow.wideKeys == (Go.Proofs.Tryz.f3.params.toList ++ (OpenSpec.ofChange Rows.fnExactMachineOkSpec).bare.plain.varTypes PP ++ Go.Proofs.Tryz.f3.resultTypes.toList).any (PP.wideKeysFrom ·)) = true := by kernel_rfl
theorem k7 : (Rows.fnExactMachineOkRow.veiled == (Go.Proofs.Tryz.f3.params.toList ++ (OpenSpec.ofChange Rows.fnExactMachineOkSpec).bare.plain.varTypes PP ++ Go.Proofs.Tryz.f3.resultTypes.toList).any (PP.veiledRec ·)) = true := by kernel_rfl
theorem closed : joinedFacts PP 3 Go.Proofs.Tryz.f3 (OpenSpec.ofChange Rows.fnExactMachineOkSpec).bare Rows.fnExactMachineOkRow = true := by
  unfold joinedFacts
  simp only [k1, k2, k3, k4, k5, k6, k7, Bool.and_true]
  kernel_rfl
theorem said : Rows.FnExactMachineOkSaid :=
  OpenClaim.holds_of_cond 3 Go.Proofs.Tryz.f3 rfl rfl rfl rfl rfl rfl rfl ⟨rfl, rfl, rfl, rfl, rfl⟩ rfl rfl rfl rfl rfl (by kernel_rfl) Go.Proofs.Tryz.func3 closed
    (of_decide_eq_true (by kernel_rfl)) (by unfold Func.isWrapper; first | (rw [if_pos (by decide +kernel)]; kernel_rfl) | (rw [if_neg (by decide +kernel)]; exact ⟨rfl, rfl⟩))
    (fun os started H enc _ F => by rw [OpenClaim.pre_eq_preRow]; exact lifted os started H enc F)
theorem plainN (f : FuncId) (fn : Func) (hf : Tryz.pinned.checked.prog.funcNamed "loop.example/g00765/laws.FnExactMachineOk" = some f) (hfn : Tryz.pinned.checked.prog.funcs[f]? = some fn) :
    true = Tryz.pinned.checked.prog.looks [] ∧ ∀ (j : Nat) t, fn.params[j]? = some t → Tryz.pinned.checked.prog.wantsStandIn t = false := by
  obtain rfl : f = 3 := Option.some.inj ((show PP.funcNamed "loop.example/g00765/laws.FnExactMachineOk" = some 3 by kernel_rfl).symm.trans hf) |>.symm
  obtain rfl : fn = Go.Proofs.Tryz.f3 := (Option.some.inj (Go.Proofs.Tryz.func3.symm.trans hfn)).symm
  refine ⟨by kernel_rfl, fun j t ht => ?_⟩
  rw [par] at ht
  match j, ht with
  | 0, ht => obtain rfl := Option.some.inj ht; exact (show PP.wantsStandIn 27 = false by kernel_rfl)
  | 1, ht => obtain rfl := Option.some.inj ht; exact (show PP.wantsStandIn 33 = false by kernel_rfl)
  | j + 2, ht => cases ht
theorem card : Rows.FnExactMachineOkCardSaid :=
  Claim7.holds_tied_plain_at .later [] _ _ _ _ said (fun _ h => by cases h) (by kernel_rfl) (fun _ h => by cases h) fnExactMachineOk_row_tie rfl ⟨rfl, rfl⟩ (by kernel_rfl) rfl plainN (by kernel_rfl)
end FnExactMachineOk
end Go.Own
namespace Go.Proofs.YtemknkncncoedaaGreatDoor
theorem fnExactMachineOk_holds : Rows.FnExactMachineOkCardSaid := Go.Own.FnExactMachineOk.card
end Go.Proofs.YtemknkncncoedaaGreatDoor
